/- Joined texts of a claim: the printed functions and what is proved of them. -/
import Derived.Test.YthiignohbooelaaYHx0
import Derived.Test.YthiignohbooelaaMa2
import Derived.Test.YthiignohbooelaaMa3
import Derived.Test.YthiignohbooelaaMa4
import Derived.Test.YthiignohbooelaaMa6
import Derived.Test.YthiignohbooelaaMa7
import Derived.Test.YthiignohbooelaaMa8
namespace Go.Proofs.Ythiignohbooelaa.H
open Go.RowKit Go.Proofs.YthiignohbooelaaW.PrintWords Go.Proofs.YthiignohbooelaaW.PrintLast Go.Proofs.YthiignohbooelaaW.PrintMore
attribute [local go_sem] max2_int min2_int max_two min_two max_three min_three max_four min_four   -- for this text's walks alone
set_option linter.unusedVariables false
set_option linter.unusedSimpArgs false
mutual
def laws_FnRootLists.j0 : Nat → List Int → Int → List Int → List Int → Int → Bool → Option (Bool)
 | 0, _, _, _, _, _, _ => none
 | k + 1, x0, x3, x4, x5, x6, x73 => if x73 = true then (some false) else ((spec_DrawRootsIn.f k x0).bind fun bt850 => ((impl_RootsIn.f k bt850.1 bt850.2).bind fun bt854 => ((spec_RootsIn.f k bt850.1 bt850.2).bind fun bt858 => (if bt854.2 = bt858.2 then ((laws_likeInts.f k bt854.1 bt858.1).bind fun t862 => (laws_FnRootLists.j1 k x0 x3 x4 x5 x6 bt850.1 bt850.2 bt854.1 bt854.2 (!t862))) else (laws_FnRootLists.j1 k x0 x3 x4 x5 x6 bt850.1 bt850.2 bt854.1 bt854.2 true)))))
def laws_FnRootLists.j1 : Nat → List Int → Int → List Int → List Int → Int → Int → List Int → List Int → Int → Bool → Option (Bool)
 | 0, _, _, _, _, _, _, _, _, _, _ => none
 | k + 1, x0, x3, x4, x5, x6, x9, x10, x11, x12, x99 => if x99 = true then (some false) else ((impl_DoesSplit.f k x9 x10).bind fun bt863 => ((spec_DoesSplit.f k x9 x10).bind fun bt865 => (if bt863.2 = bt865.2 then (laws_FnRootLists.j2 k x0 x3 x4 x5 x6 x9 x10 x11 x12 bt863.1 bt863.2 (bt863.1 != bt865.1)) else (laws_FnRootLists.j2 k x0 x3 x4 x5 x6 x9 x10 x11 x12 bt863.1 bt863.2 true))))
def laws_FnRootLists.j2 : Nat → List Int → Int → List Int → List Int → Int → Int → List Int → List Int → Int → Bool → Int → Bool → Option (Bool)
 | 0, _, _, _, _, _, _, _, _, _, _, _, _ => none
 | k + 1, x0, x3, x4, x5, x6, x9, x10, x11, x12, x15, x16, x119 => if x119 = true then (some false) else ((spec_DrawMultiplicityOf.f k x0).bind fun bt867 => ((impl_MultiplicityOf.f k bt867.1 bt867.2.1 bt867.2.2).bind fun bt872 => ((spec_MultiplicityOf.f k bt867.1 bt867.2.1 bt867.2.2).bind fun bt874 => (if bt872.2 = bt874.2 then (laws_FnRootLists.j3 k x0 x3 x4 x5 x6 x9 x10 x11 x12 x15 x16 (bt872.1 != bt874.1)) else (laws_FnRootLists.j3 k x0 x3 x4 x5 x6 x9 x10 x11 x12 x15 x16 true)))))
def laws_FnRootLists.j3 : Nat → List Int → Int → List Int → List Int → Int → Int → List Int → List Int → Int → Bool → Int → Bool → Option (Bool)
 | 0, _, _, _, _, _, _, _, _, _, _, _, _ => none
 | k + 1, x0, x3, x4, x5, x6, x9, x10, x11, x12, x15, x16, x147 => if x147 = true then (some false) else ((spec_DrawPowerSums.f k x0).bind fun bt876 => ((impl_PowerSums.f k bt876.1 bt876.2.1 bt876.2.2).bind fun bt881 => ((spec_PowerSums.f k bt876.1 bt876.2.1 bt876.2.2).bind fun bt885 => (if bt881.2 = bt885.2 then ((laws_likeInts.f k bt881.1 bt885.1).bind fun t889 => (laws_FnRootLists.j4 k x3 x4 x5 x6 x9 x10 x11 x12 x15 x16 (!t889))) else (laws_FnRootLists.j4 k x3 x4 x5 x6 x9 x10 x11 x12 x15 x16 true)))))
def laws_FnRootLists.j4 : Nat → Int → List Int → List Int → Int → Int → List Int → List Int → Int → Bool → Int → Bool → Option (Bool)
 | 0, _, _, _, _, _, _, _, _, _, _, _ => none
 | k + 1, x3, x4, x5, x6, x9, x10, x11, x12, x15, x16, x176 => if x176 = true then (some false) else (if x12 = 0 then (laws_FnRootLists.l0 k x3 x4 x5 x6 x9 x10 x11 x15 x16 0 0) else (laws_FnRootLists.j6 k x3 x4 x5 x6))
def laws_FnRootLists.j6 : Nat → Int → List Int → List Int → Int → Option (Bool)
 | 0, _, _, _, _ => none
 | k + 1, x3, x4, x5, x6 => if x6 = 0 then ((impl_DoesSplit.f k x3 x5).bind fun bt893 => (if bt893.2 = 0 then (if bt893.1 = true then (laws_FnRootLists.j7 k x3 x4 x5 ((x5.length : Int) != (wrap64 ((x4.length : Int) + 1)))) else (laws_FnRootLists.j7 k x3 x4 x5 true)) else (laws_FnRootLists.j7 k x3 x4 x5 true))) else (some ((x5.length : Int) == 0))
def laws_FnRootLists.j7 : Nat → Int → List Int → List Int → Bool → Option (Bool)
 | 0, _, _, _, _ => none
 | k + 1, x3, x4, x5, x239 => if x239 = true then (some false) else ((impl_PowerSums.f k x3 x5 4).bind fun bt895 => (if bt895.2 = 0 then (laws_FnRootLists.l1 k x3 x4 bt895.1 0) else (some false)))
def laws_FnRootLists.l1 : Nat → Int → List Int → List Int → Int → Option (Bool)
 | 0, _, _, _, _ => none
 | k + 1, x3, x4, x39, x41 => if x41 ≤ 4 then (laws_FnRootLists.l2 k x3 x4 x39 x41 0 0) else (some true)
def laws_FnRootLists.l2 : Nat → Int → List Int → List Int → Int → Int → Int → Option (Bool)
 | 0, _, _, _, _, _, _ => none
 | k + 1, x3, x4, x39, x41, x42, x43 => if x43 < (x4.length : Int) then (laws_FnRootLists.l3 k x3 x4 x39 x41 x42 x43 1 0) else (if 0 ≤ x41 then (if x41 < (x39.length : Int) then (if x42 = (rd x39 x41) then (laws_FnRootLists.l1 k x3 x4 x39 (wrap64 (x41 + 1))) else (some false)) else (none)) else (none))
def laws_FnRootLists.l3 : Nat → Int → List Int → List Int → Int → Int → Int → Int → Int → Option (Bool)
 | 0, _, _, _, _, _, _, _, _ => none
 | k + 1, x3, x4, x39, x41, x42, x43, x44, x45 => if x45 < x41 then (if 0 ≤ x43 then (if x43 < (x4.length : Int) then (if x3 = 0 then (none) else (laws_FnRootLists.l3 k x3 x4 x39 x41 x42 x43 (Int.tmod (wrap64 (x44 * (rd x4 x43))) x3) (wrap64 (x45 + 1)))) else (none)) else (none)) else (if x3 = 0 then (none) else (laws_FnRootLists.l2 k x3 x4 x39 x41 (Int.tmod (wrap64 (x42 + x44)) x3) (wrap64 (x43 + 1))))
def laws_FnRootLists.l0 : Nat → Int → List Int → List Int → Int → Int → List Int → List Int → Bool → Int → Int → Int → Option (Bool)
 | 0, _, _, _, _, _, _, _, _, _, _, _ => none
 | k + 1, x3, x4, x5, x6, x9, x10, x11, x15, x16, x33, x34 => if x34 < (x11.length : Int) then (if 0 ≤ x34 then ((impl_MultiplicityOf.f k x9 x10 (rd x11 x34)).bind fun bt891 => (if bt891.2 = 0 then (if bt891.1 < 1 then (some false) else (laws_FnRootLists.l0 k x3 x4 x5 x6 x9 x10 x11 x15 x16 (wrap64 (x33 + bt891.1)) (wrap64 (x34 + 1)))) else (some false))) else (none)) else (if x16 = 0 then (if (x15 != (x33 == (wrap64 ((x10.length : Int) - 1)))) = true then (some false) else (laws_FnRootLists.j6 k x3 x4 x5 x6)) else (some false))
end
def laws_FnRootLists.f (k : Nat) (l0 : List Int) : Option (Bool) := (laws_big.f l0).bind fun t836 => (if t836 = true then (some true) else ((spec_DrawPolynomialOfRoots.f k l0).bind fun bt837 => ((impl_PolynomialOfRoots.f k bt837.1 bt837.2).bind fun bt841 => ((spec_PolynomialOfRoots.f k bt837.1 bt837.2).bind fun bt845 => (if bt841.2 = bt845.2 then ((laws_likeInts.f k bt841.1 bt845.1).bind fun t849 => (laws_FnRootLists.j0 k l0 bt837.1 bt837.2 bt841.1 bt841.2 (!t849))) else (laws_FnRootLists.j0 k l0 bt837.1 bt837.2 bt841.1 bt841.2 true))))))
set_option maxHeartbeats 8000000 in
set_option maxRecDepth 100000 in
theorem laws_FnRootLists.calls (k : Nat) (A0 : Option Addr) (c0 : Nat) (l0 : List Int) (r : Bool) (w : World) (hr0 : Kd.C (Kd.int .u8) w A0 l0.length l0) (hc0 : l0.length ≤ c0) (h : laws_FnRootLists.f k l0 = some r) :
  Calls Try.prog 4 #[.slice A0 l0.length c0] w fun e w' => e = .returned (.bool r) ∧ Below w.heap.size w w' := by
 have HR0 := Aside0.mk hr0
 have HC0 := Aside0.mk hc0
 clear hr0 hc0
 have HB := Aside0.mk (Below.refl w.heap.size w)
 have H : ((laws_big.f l0).bind fun t836 => (if t836 = true then (some true) else ((spec_DrawPolynomialOfRoots.f k l0).bind fun bt837 => ((impl_PolynomialOfRoots.f k bt837.1 bt837.2).bind fun bt841 => ((spec_PolynomialOfRoots.f k bt837.1 bt837.2).bind fun bt845 => (if bt841.2 = bt845.2 then ((laws_likeInts.f k bt841.1 bt845.1).bind fun t849 => (laws_FnRootLists.j0 k l0 bt837.1 bt837.2 bt841.1 bt841.2 (!t849))) else (laws_FnRootLists.j0 k l0 bt837.1 bt837.2 bt841.1 bt841.2 true))))))) = some r := h
 clear h
 replace H := Option.bind_eq_some_iff.mp H
 obtain ⟨t836, A20, H⟩ := H
 have A2 := Aside0.mk A20
 clear A20
 by_cases c3 : t836 = true
 ·
  subst c3
  have H1 : (some true) = some r := by rw [if_pos rfl] at H; exact H
  clear H
  have H := H1
  clear H1
  obtain rfl := Option.some.inj H
  go_enter Try.func4, Try.ntmps4
  go_wp2_with (first | ((with_reducible refine gate_callee (f := 6) rfl ?_); refine goesM_ (some 47) rfl rfl Try.func6 #[.slice A0 l0.length c0] rfl ?_; (with_reducible refine (laws_big.calls _ _ l0 true _ ?side1 ?side2 A2.out).mono ?_); (case side1 => exact cs (HR0.out)); (case side2 => exact HC0.out); rintro e w' ⟨rfl, ⟨nd, rfl⟩⟩; refine ⟨_, rfl, ?_⟩))
  go_ret
  exact ⟨by first | rfl | (simp [errW_none, errW_some] <;> rfl) | (simp [*, errW_none, errW_some] <;> rfl), by repeat (first | (with_reducible first | exact HB.out | apply below_alloc | apply pw_below_drewN | apply below_drew1) | exact HB.out)⟩
 ·
  replace c3 := Bool.eq_false_iff.mpr c3
  subst c3
  have H1 : ((spec_DrawPolynomialOfRoots.f k l0).bind fun bt837 => ((impl_PolynomialOfRoots.f k bt837.1 bt837.2).bind fun bt841 => ((spec_PolynomialOfRoots.f k bt837.1 bt837.2).bind fun bt845 => (if bt841.2 = bt845.2 then ((laws_likeInts.f k bt841.1 bt845.1).bind fun t849 => (laws_FnRootLists.j0 k l0 bt837.1 bt837.2 bt841.1 bt841.2 (!t849))) else (laws_FnRootLists.j0 k l0 bt837.1 bt837.2 bt841.1 bt841.2 true))))) = some r := by rw [if_neg (show ¬ (false = true) by decide)] at H; exact H
  clear H
  have H := H1
  clear H1
  replace H := Option.bind_eq_some_iff.mp H
  obtain ⟨⟨t837, t838⟩, A40, H⟩ := H
  have A4 := Aside0.mk A40
  clear A40
  replace H := Option.bind_eq_some_iff.mp H
  obtain ⟨⟨t841, t842⟩, A50, H⟩ := H
  have A5 := Aside0.mk A50
  clear A50
  replace H := Option.bind_eq_some_iff.mp H
  obtain ⟨⟨t845, t846⟩, A60, H⟩ := H
  have A6 := Aside0.mk A60
  clear A60
  have HC7 := Aside0.mk H
  clear H
  go_enter Try.func4, Try.ntmps4
  go_upto_region 6 with (first | ((with_reducible refine gate_callee (f := 6) rfl ?_); refine goesM_ (some 47) rfl rfl Try.func6 #[.slice A0 l0.length c0] rfl ?_; (with_reducible refine (laws_big.calls _ _ l0 false _ ?side1 ?side2 A2.out).mono ?_); (case side1 => exact cs (HR0.out)); (case side2 => exact HC0.out); rintro e w' ⟨rfl, ⟨nd, rfl⟩⟩; refine ⟨_, rfl, ?_⟩) | ((with_reducible refine gate_callee (f := 19) rfl ?_); refine goesM_ (some 50) rfl rfl Try.func19 #[.slice A0 l0.length c0] rfl ?_; (with_reducible refine (spec_DrawPolynomialOfRoots.calls k _ _ l0 t837 t838 _ ?side1 ?side2 A4.out).mono ?_); (case side1 => exact cs (HR0.out)); (case side2 => exact HC0.out); rintro e w8 ⟨v839, rfl, ho0, hb⟩; refine ⟨_, rfl, ?_⟩; have n0_ := Aside0.mk (Kd.R_lower ho0 (below_size (bs HB))); have n1_ := Aside0.mk (below_step (bs HB) hb); clear HB; have HO840 := n0_; have HB := n1_; clear n0_ n1_; (try clear hb); (try clear hb2); (try clear hk); (try clear hi); (try clear ho0); obtain ⟨Ao9, co9, eo9⟩ := Kd.R_slice HO840.out; subst eo9) | ((with_reducible refine gate_callee (f := 20) rfl ?_); refine goesM_ (some 56) rfl rfl Try.func20 #[.int .i64 t837, .slice Ao9 t838.length co9] rfl ?_; (with_reducible refine (impl_PolynomialOfRoots.calls k t837 _ _ t838 t841 t842 _ ?side1 ?side2 A5.out).mono ?_); (case side1 => exact cs ((Kd.R_reads' HO840.out).2.2)); (case side2 => exact (Kd.R_reads' HO840.out).2.1); rintro e w10 ⟨v843, rfl, ho0, hb⟩; refine ⟨_, rfl, ?_⟩; have n0_ := Aside0.mk (Kd.R_elder' (rs HO840) (Kd.R_base ho0) hb); have n1_ := Aside0.mk (Kd.R_lower (Kd.R_new' ho0 (Kd.R_lt (rs HO840))) (below_size (bs HB))); have n2_ := Aside0.mk (below_step (bs HB) hb); clear HO840; clear HB; have HO840 := n0_; have HO844 := n1_; have HB := n2_; clear n0_ n1_ n2_; (try clear hb); (try clear hb2); (try clear hk); (try clear hi); (try clear ho0)) | ((with_reducible refine gate_callee (f := 21) rfl ?_); refine goesM_ (some 62) rfl rfl Try.func21 #[.int .i64 t837, .slice Ao9 t838.length co9] rfl ?_; (with_reducible refine (spec_PolynomialOfRoots.calls k t837 _ _ t838 t845 t846 _ ?side1 ?side2 A6.out).mono ?_); (case side1 => exact cs ((Kd.R_reads' HO840.out).2.2)); (case side2 => exact (Kd.R_reads' HO840.out).2.1); rintro e w11 ⟨v847, rfl, ho0, hb⟩; refine ⟨_, rfl, ?_⟩; have n0_ := Aside0.mk (Kd.R_elder' (rs HO840) (Kd.R_base ho0) hb); have n1_ := Aside0.mk (Kd.R_elder' (rs HO844) (Kd.R_base ho0) hb); have n2_ := Aside0.mk (Kd.R_lower (Kd.R_new' (Kd.R_new' ho0 (Kd.R_lt (rs HO840))) (Kd.R_lt (rs HO844))) (below_size (bs HB))); have n3_ := Aside0.mk (below_step (bs HB) hb); clear HO840; clear HO844; clear HB; have HO840 := n0_; have HO844 := n1_; have HO848 := n2_; have HB := n3_; clear n0_ n1_ n2_ n3_; (try clear hb); (try clear hb2); (try clear hk); (try clear hi); (try clear ho0)))
  (try simp only [Act.put, List.setIfInBounds_toArray, List.set_cons_zero, List.set_cons_succ])
  go_cut [73] from 46 to 64 (fun v73 wc => ∃ (kq : Nat) (x73_6 : Bool), v73 = .bool x73_6 ∧ Aside0 (laws_FnRootLists.j0 kq l0 t837 t838 t841 t842 x73_6 = some r) ∧ Aside0 (kq ≤ k) ∧ Aside0 (Kd.R (Kd.int .i64) 2 wc w.heap.size (fun k_ => some k_ ≠ (v843 : Value).ownBlock) (.slice Ao9 t838.length co9) t838) ∧ Aside0 (Kd.R (Kd.int .i64) 2 wc w.heap.size (fun k_ => some k_ ≠ ((.slice Ao9 t838.length co9) : Value).ownBlock) v843 t841) ∧ Aside0 (Below w.heap.size w wc))
  case first =>
   have H := HC7.out
   clear HC7
   by_cases c12 : t842 = t846
   ·
    rw [if_pos c12] at H
    have c12b0 : (t842 == t846) = true := beq_iff_eq.mpr c12
    have c12b1 : (t842 != t846) = false := bne_eq_false_iff_eq.mpr c12
    clear c12
    (first | rw [c12b0] | (simp only [i64_w, i32_w]; rw [c12b0]) | skip)
    replace H := Option.bind_eq_some_iff.mp H
    obtain ⟨t849, A130, H⟩ := H
    have A13 := Aside0.mk A130
    clear A130
    have H' := Aside0.mk H
    clear H
    obtain ⟨Ao14, co14, eo14⟩ := Kd.R_slice HO844.out
    subst eo14
    obtain ⟨Ao15, co15, eo15⟩ := Kd.R_slice HO848.out
    subst eo15
    go_wp2_with (first | (go_at_call 10; (with_reducible refine (laws_likeInts.calls k _ _ t841 _ _ t845 t849 _ ?side1 ?side2 ?side3 ?side4 A13.out).mono ?_); (case side1 => exact cs ((Kd.R_reads' HO844.out).2.2)); (case side2 => exact (Kd.R_reads' HO844.out).2.1); (case side3 => exact cs ((Kd.R_reads' HO848.out).2.2)); (case side4 => exact (Kd.R_reads' HO848.out).2.1); rintro e w' ⟨rfl, ⟨nd, rfl⟩⟩))
    go_meet
    case rel => exact ⟨_, (!t849), ea_, H', ⟨by first | omega | exact Nat.le_refl _⟩, ⟨by (with_reducible repeat (first | apply Kd.R_alloc | apply Kd.R_drewN | apply Kd.R_drew)); exact Kd.R_mono HO840.out (fun _ hk => hk.1.2)⟩, ⟨by (with_reducible repeat (first | apply Kd.R_alloc | apply Kd.R_drewN | apply Kd.R_drew)); exact Kd.R_mono HO844.out (fun _ hk => hk.1.2)⟩, ⟨by repeat (first | (with_reducible first | exact HB.out | apply below_alloc | apply pw_below_drewN | apply below_drew1) | exact HB.out)⟩⟩
   ·
    rw [if_neg c12] at H
    have c12b0 : (t842 == t846) = false := beq_eq_false_iff_ne.mpr c12
    have c12b1 : (t842 != t846) = true := bne_iff_ne.mpr c12
    (first | rw [c12b0] | (simp only [i64_w, i32_w]; rw [c12b0]) | skip)
    have H' := Aside0.mk H
    clear H
    go_wp2
    go_meet
    case rel => exact ⟨_, (true), ea_, H', ⟨by first | omega | exact Nat.le_refl _⟩, ⟨by (with_reducible repeat (first | apply Kd.R_alloc | apply Kd.R_drewN | apply Kd.R_drew)); exact Kd.R_mono HO840.out (fun _ hk => hk.1.2)⟩, ⟨by (with_reducible repeat (first | apply Kd.R_alloc | apply Kd.R_drewN | apply Kd.R_drew)); exact Kd.R_mono HO844.out (fun _ hk => hk.1.2)⟩, ⟨by repeat (first | (with_reducible first | exact HB.out | apply below_alloc | apply pw_below_drewN | apply below_drew1) | exact HB.out)⟩⟩
  case rest => as_aux_lemma =>
   clear HC7
   try clear c1
   try clear c2
   try clear p2
   try clear c3
   try clear c4
   try clear c6
   try clear c12
   try clear c12b0
   try clear c12b1
   obtain ⟨kq, x73_6, rfl, HA, HJ6, HO_4, HO_5, HB⟩ := hcut
   cases kq with
   | zero => exact absurd HA.out (by simp [laws_FnRootLists.j0])
   | succ kj6 =>
    have H := HA.out
    clear HA
    simp only [laws_FnRootLists.j0] at H
    by_cases c16 : x73_6 = true
    ·
     subst c16
     have H1 : (some false) = some r := by rw [if_pos rfl] at H; exact H
     clear H
     have H := H1
     clear H1
     obtain rfl := Option.some.inj H
     go_wp2
     go_ret
     exact ⟨by first | rfl | (simp [errW_none, errW_some] <;> rfl) | (simp [*, errW_none, errW_some] <;> rfl), by repeat (first | (with_reducible first | exact HB.out | apply below_alloc | apply pw_below_drewN | apply below_drew1) | exact HB.out)⟩
    ·
     replace c16 := Bool.eq_false_iff.mpr c16
     subst c16
     have H1 : ((spec_DrawRootsIn.f kj6 l0).bind fun bt850 => ((impl_RootsIn.f kj6 bt850.1 bt850.2).bind fun bt854 => ((spec_RootsIn.f kj6 bt850.1 bt850.2).bind fun bt858 => (if bt854.2 = bt858.2 then ((laws_likeInts.f kj6 bt854.1 bt858.1).bind fun t862 => (laws_FnRootLists.j1 kj6 l0 t837 t838 t841 t842 bt850.1 bt850.2 bt854.1 bt854.2 (!t862))) else (laws_FnRootLists.j1 kj6 l0 t837 t838 t841 t842 bt850.1 bt850.2 bt854.1 bt854.2 true))))) = some r := by rw [if_neg (show ¬ (false = true) by decide)] at H; exact H
     clear H
     have H := H1
     clear H1
     replace H := Option.bind_eq_some_iff.mp H
     obtain ⟨⟨t850, t851⟩, A170, H⟩ := H
     have A17 := Aside0.mk A170
     clear A170
     replace H := Option.bind_eq_some_iff.mp H
     obtain ⟨⟨t854, t855⟩, A180, H⟩ := H
     have A18 := Aside0.mk A180
     clear A180
     replace H := Option.bind_eq_some_iff.mp H
     obtain ⟨⟨t858, t861⟩, A190, H⟩ := H
     have A19 := Aside0.mk A190
     clear A190
     have HC20 := Aside0.mk H
     clear H
     go_upto_region 11 with (first | ((with_reducible refine gate_callee (f := 22) rfl ?_); refine goesM_ (some 76) rfl rfl Try.func22 #[.slice A0 l0.length c0] rfl ?_; (with_reducible refine (spec_DrawRootsIn.calls kj6 _ _ l0 t850 t851 _ ?side1 ?side2 A17.out).mono ?_); (case side1 => exact cs ((Kd.C_below HR0.out HB.out))); (case side2 => exact HC0.out); rintro e w21 ⟨v852, rfl, ho0, hb⟩; refine ⟨_, rfl, ?_⟩; have n0_ := Aside0.mk (Kd.R_elder' (rs HO_4) (Kd.R_base ho0) hb); have n1_ := Aside0.mk (Kd.R_elder' (rs HO_5) (Kd.R_base ho0) hb); have n2_ := Aside0.mk (Kd.R_lower (Kd.R_new' (Kd.R_new' ho0 (Kd.R_lt (rs HO_4))) (Kd.R_lt (rs HO_5))) (below_size (bs HB))); have n3_ := Aside0.mk (below_step (bs HB) hb); clear HO_4; clear HO_5; clear HB; have HO_4 := n0_; have HO_5 := n1_; have HO853 := n2_; have HB := n3_; clear n0_ n1_ n2_ n3_; (try clear hb); (try clear hb2); (try clear hk); (try clear hi); (try clear ho0); obtain ⟨Ao22, co22, eo22⟩ := Kd.R_slice HO853.out; subst eo22) | ((with_reducible refine gate_callee (f := 17) rfl ?_); refine goesM_ (some 82) rfl rfl Try.func17 #[.int .i64 t850, .slice Ao22 t851.length co22] rfl ?_; (with_reducible refine (impl_RootsIn.calls kj6 t850 _ _ t851 t854 t855 _ ?side1 ?side2 A18.out).mono ?_); (case side1 => exact cs ((Kd.R_reads' HO853.out).2.2)); (case side2 => exact (Kd.R_reads' HO853.out).2.1); rintro e w23 ⟨v856, rfl, ho0, hb⟩; refine ⟨_, rfl, ?_⟩; have n0_ := Aside0.mk (Kd.R_elder' (rs HO_4) (Kd.R_base ho0) hb); have n1_ := Aside0.mk (Kd.R_elder' (rs HO_5) (Kd.R_base ho0) hb); have n2_ := Aside0.mk (Kd.R_elder' (rs HO853) (Kd.R_base ho0) hb); have n3_ := Aside0.mk (Kd.R_lower (Kd.R_new' (Kd.R_new' (Kd.R_new' ho0 (Kd.R_lt (rs HO_4))) (Kd.R_lt (rs HO_5))) (Kd.R_lt (rs HO853))) (below_size (bs HB))); have n4_ := Aside0.mk (below_step (bs HB) hb); clear HO_4; clear HO_5; clear HO853; clear HB; have HO_4 := n0_; have HO_5 := n1_; have HO853 := n2_; have HO857 := n3_; have HB := n4_; clear n0_ n1_ n2_ n3_ n4_; (try clear hb); (try clear hb2); (try clear hk); (try clear hi); (try clear ho0)) | ((with_reducible refine gate_callee (f := 23) rfl ?_); refine goesM_ (some 88) rfl rfl Try.func23 #[.int .i64 t850, .slice Ao22 t851.length co22] rfl ?_; (with_reducible refine (spec_RootsIn.calls kj6 t850 (fun k_ => some k_ = (.slice Ao22 t851.length co22 : Value).ownBlock) _ _ t851 t858 t861 _ ?side1 A19.out).mono ?_); (case side1 => exact Kd.R_V (Kd.R_tight rfl (HO853.out))); rintro e w24 ⟨v859, rfl, ho0, hb⟩; refine ⟨_, rfl, ?_⟩; have n0_ := Aside0.mk (Kd.R_elder' (rs HO_4) (Kd.R_base ho0) hb); have n1_ := Aside0.mk (Kd.R_elder' (rs HO_5) (Kd.R_base ho0) hb); have n2_ := Aside0.mk (Kd.R_elder' (rs HO853) (Kd.R_base ho0) hb); have n3_ := Aside0.mk (Kd.R_elder' (rs HO857) (Kd.R_base ho0) hb); have n4_ := Aside0.mk (Kd.R_lower (Kd.R_new' (Kd.R_new' (Kd.R_new' (Kd.R_new' (Kd.R_mono (ok' := fun k_ => True) ho0 (fun _ hk_ => trivial)) (Kd.R_lt (rs HO_4))) (Kd.R_lt (rs HO_5))) (Kd.R_lt (rs HO853))) (Kd.R_lt (rs HO857))) (below_size (bs HB))); have n5_ := Aside0.mk (below_step (bs HB) hb); clear HO_4; clear HO_5; clear HO853; clear HO857; clear HB; have HO_4 := n0_; have HO_5 := n1_; have HO853 := n2_; have HO857 := n3_; have HO860 := n4_; have HB := n5_; clear n0_ n1_ n2_ n3_ n4_ n5_; (try clear hb); (try clear hb2); (try clear hk); (try clear hi); (try clear ho0)))
     (try simp only [Act.put, List.setIfInBounds_toArray, List.set_cons_zero, List.set_cons_succ])
     go_cut [99] from 74 to 90 (fun v99 wc => ∃ (kq : Nat) (x99_19 : Bool), v99 = .bool x99_19 ∧ Aside0 (laws_FnRootLists.j1 kq l0 t837 t838 t841 t842 t850 t851 t854 t855 x99_19 = some r) ∧ Aside0 (kq ≤ kj6) ∧ Aside0 (Kd.R (Kd.int .i64) 2 wc w.heap.size (fun k_ => some k_ ≠ (v843 : Value).ownBlock ∧ some k_ ≠ ((.slice Ao22 t851.length co22) : Value).ownBlock ∧ some k_ ≠ (v856 : Value).ownBlock) (.slice Ao9 t838.length co9) t838) ∧ Aside0 (Kd.R (Kd.int .i64) 2 wc w.heap.size (fun k_ => some k_ ≠ ((.slice Ao9 t838.length co9) : Value).ownBlock ∧ some k_ ≠ ((.slice Ao22 t851.length co22) : Value).ownBlock ∧ some k_ ≠ (v856 : Value).ownBlock) v843 t841) ∧ Aside0 (Kd.R (Kd.int .i64) 2 wc w.heap.size (fun k_ => some k_ ≠ ((.slice Ao9 t838.length co9) : Value).ownBlock ∧ some k_ ≠ (v843 : Value).ownBlock ∧ some k_ ≠ (v856 : Value).ownBlock) (.slice Ao22 t851.length co22) t851) ∧ Aside0 (Kd.R (Kd.int .i64) 2 wc w.heap.size (fun k_ => some k_ ≠ ((.slice Ao9 t838.length co9) : Value).ownBlock ∧ some k_ ≠ (v843 : Value).ownBlock ∧ some k_ ≠ ((.slice Ao22 t851.length co22) : Value).ownBlock) v856 t854) ∧ Aside0 (Below w.heap.size w wc))
     case first =>
      have H := HC20.out
      clear HC20
      by_cases c25 : t855 = t861
      ·
       rw [if_pos c25] at H
       have c25b0 : (t855 == t861) = true := beq_iff_eq.mpr c25
       have c25b1 : (t855 != t861) = false := bne_eq_false_iff_eq.mpr c25
       clear c25
       (first | rw [c25b0] | (simp only [i64_w, i32_w]; rw [c25b0]) | skip)
       replace H := Option.bind_eq_some_iff.mp H
       obtain ⟨t862, A260, H⟩ := H
       have A26 := Aside0.mk A260
       clear A260
       have H' := Aside0.mk H
       clear H
       obtain ⟨Ao27, co27, eo27⟩ := Kd.R_slice HO857.out
       subst eo27
       obtain ⟨Ao28, co28, eo28⟩ := Kd.R_slice HO860.out
       subst eo28
       go_wp2_with (first | (go_at_call 10; (with_reducible refine (laws_likeInts.calls kj6 _ _ t854 _ _ t858 t862 _ ?side1 ?side2 ?side3 ?side4 A26.out).mono ?_); (case side1 => exact cs ((Kd.R_reads' HO857.out).2.2)); (case side2 => exact (Kd.R_reads' HO857.out).2.1); (case side3 => exact cs ((Kd.R_reads' HO860.out).2.2)); (case side4 => exact (Kd.R_reads' HO860.out).2.1); rintro e w' ⟨rfl, ⟨nd, rfl⟩⟩))
       go_meet
       case rel => exact ⟨_, (!t862), ea_, H', ⟨by have := HJ6.out; first | omega | exact Nat.le_refl _⟩, ⟨by (with_reducible repeat (first | apply Kd.R_alloc | apply Kd.R_drewN | apply Kd.R_drew)); exact Kd.R_mono HO_4.out (fun _ hk => ⟨hk.1.1.1, ⟨hk.1.1.2, hk.1.2⟩⟩)⟩, ⟨by (with_reducible repeat (first | apply Kd.R_alloc | apply Kd.R_drewN | apply Kd.R_drew)); exact Kd.R_mono HO_5.out (fun _ hk => ⟨hk.1.1.1, ⟨hk.1.1.2, hk.1.2⟩⟩)⟩, ⟨by (with_reducible repeat (first | apply Kd.R_alloc | apply Kd.R_drewN | apply Kd.R_drew)); exact Kd.R_mono HO853.out (fun _ hk => ⟨hk.1.1.1.2, ⟨hk.1.1.2, hk.1.2⟩⟩)⟩, ⟨by (with_reducible repeat (first | apply Kd.R_alloc | apply Kd.R_drewN | apply Kd.R_drew)); exact Kd.R_mono HO857.out (fun _ hk => ⟨hk.1.1.1.2, ⟨hk.1.1.2, hk.1.2⟩⟩)⟩, ⟨by repeat (first | (with_reducible first | exact HB.out | apply below_alloc | apply pw_below_drewN | apply below_drew1) | exact HB.out)⟩⟩
      ·
       rw [if_neg c25] at H
       have c25b0 : (t855 == t861) = false := beq_eq_false_iff_ne.mpr c25
       have c25b1 : (t855 != t861) = true := bne_iff_ne.mpr c25
       (first | rw [c25b0] | (simp only [i64_w, i32_w]; rw [c25b0]) | skip)
       have H' := Aside0.mk H
       clear H
       go_wp2
       go_meet
       case rel => exact ⟨_, (true), ea_, H', ⟨by have := HJ6.out; first | omega | exact Nat.le_refl _⟩, ⟨by (with_reducible repeat (first | apply Kd.R_alloc | apply Kd.R_drewN | apply Kd.R_drew)); exact Kd.R_mono HO_4.out (fun _ hk => ⟨hk.1.1.1, ⟨hk.1.1.2, hk.1.2⟩⟩)⟩, ⟨by (with_reducible repeat (first | apply Kd.R_alloc | apply Kd.R_drewN | apply Kd.R_drew)); exact Kd.R_mono HO_5.out (fun _ hk => ⟨hk.1.1.1, ⟨hk.1.1.2, hk.1.2⟩⟩)⟩, ⟨by (with_reducible repeat (first | apply Kd.R_alloc | apply Kd.R_drewN | apply Kd.R_drew)); exact Kd.R_mono HO853.out (fun _ hk => ⟨hk.1.1.1.2, ⟨hk.1.1.2, hk.1.2⟩⟩)⟩, ⟨by (with_reducible repeat (first | apply Kd.R_alloc | apply Kd.R_drewN | apply Kd.R_drew)); exact Kd.R_mono HO857.out (fun _ hk => ⟨hk.1.1.1.2, ⟨hk.1.1.2, hk.1.2⟩⟩)⟩, ⟨by repeat (first | (with_reducible first | exact HB.out | apply below_alloc | apply pw_below_drewN | apply below_drew1) | exact HB.out)⟩⟩
     case rest => as_aux_lemma =>
      clear HC20
      try clear c1
      try clear c2
      try clear p2
      try clear c3
      try clear c4
      try clear c6
      try clear c12
      try clear c12b0
      try clear c12b1
      try clear c16
      try clear c17
      try clear c19
      try clear c20
      try clear c21
      try clear c22
      try clear c23
      try clear c25
      try clear c25b0
      try clear c25b1
      try clear p2
      obtain ⟨kq, x99_19, rfl, HA, HJ19, HO_4, HO_5, HO_10, HO_11, HB⟩ := hcut
      cases kq with
      | zero => exact absurd HA.out (by simp [laws_FnRootLists.j1])
      | succ kj19 =>
       have H := HA.out
       clear HA
       simp only [laws_FnRootLists.j1] at H
       by_cases c29 : x99_19 = true
       ·
        subst c29
        have H1 : (some false) = some r := by rw [if_pos rfl] at H; exact H
        clear H
        have H := H1
        clear H1
        obtain rfl := Option.some.inj H
        go_wp2
        go_ret
        exact ⟨by first | rfl | (simp [errW_none, errW_some] <;> rfl) | (simp [*, errW_none, errW_some] <;> rfl), by repeat (first | (with_reducible first | exact HB.out | apply below_alloc | apply pw_below_drewN | apply below_drew1) | exact HB.out)⟩
       ·
        replace c29 := Bool.eq_false_iff.mpr c29
        subst c29
        have H1 : ((impl_DoesSplit.f kj19 t850 t851).bind fun bt863 => ((spec_DoesSplit.f kj19 t850 t851).bind fun bt865 => (if bt863.2 = bt865.2 then (laws_FnRootLists.j2 kj19 l0 t837 t838 t841 t842 t850 t851 t854 t855 bt863.1 bt863.2 (bt863.1 != bt865.1)) else (laws_FnRootLists.j2 kj19 l0 t837 t838 t841 t842 t850 t851 t854 t855 bt863.1 bt863.2 true)))) = some r := by rw [if_neg (show ¬ (false = true) by decide)] at H; exact H
        clear H
        have H := H1
        clear H1
        replace H := Option.bind_eq_some_iff.mp H
        obtain ⟨⟨t863, t864⟩, A300, H⟩ := H
        have A30 := Aside0.mk A300
        clear A300
        replace H := Option.bind_eq_some_iff.mp H
        obtain ⟨⟨t865, t866⟩, A310, H⟩ := H
        have A31 := Aside0.mk A310
        clear A310
        have HC32 := Aside0.mk H
        clear H
        go_upto_region 15 with (first | ((with_reducible refine gate_callee (f := 24) rfl ?_); refine goesM_ (some 103) rfl rfl Try.func24 #[.int .i64 t850, .slice Ao22 t851.length co22] rfl ?_; (with_reducible refine (impl_DoesSplit.calls kj19 t850 _ _ t851 t863 t864 _ ?side1 ?side2 A30.out).mono ?_); (case side1 => exact cs ((Kd.R_reads' HO_10.out).2.2)); (case side2 => exact (Kd.R_reads' HO_10.out).2.1); rintro e w33 ⟨rfl, hb⟩; refine ⟨_, rfl, ?_⟩; have n0_ := Aside0.mk (Kd.R_below (rs HO_4) hb); have n1_ := Aside0.mk (Kd.R_below (rs HO_5) hb); have n2_ := Aside0.mk (Kd.R_below (rs HO_10) hb); have n3_ := Aside0.mk (Kd.R_below (rs HO_11) hb); have n4_ := Aside0.mk (below_step (bs HB) hb); clear HO_4; clear HO_5; clear HO_10; clear HO_11; clear HB; have HO_4 := n0_; have HO_5 := n1_; have HO_10 := n2_; have HO_11 := n3_; have HB := n4_; clear n0_ n1_ n2_ n3_ n4_; (try clear hb); (try clear hb2); (try clear hk); (try clear hi)) | ((with_reducible refine gate_callee (f := 25) rfl ?_); refine goesM_ (some 109) rfl rfl Try.func25 #[.int .i64 t850, .slice Ao22 t851.length co22] rfl ?_; (with_reducible refine (spec_DoesSplit.calls kj19 t850 (fun k_ => some k_ = (.slice Ao22 t851.length co22 : Value).ownBlock) _ _ t851 t865 t866 _ ?side1 A31.out).mono ?_); (case side1 => exact Kd.R_V (Kd.R_tight rfl (HO_10.out))); rintro e w34 ⟨rfl, hb⟩; refine ⟨_, rfl, ?_⟩; have n0_ := Aside0.mk (Kd.R_below (rs HO_4) hb); have n1_ := Aside0.mk (Kd.R_below (rs HO_5) hb); have n2_ := Aside0.mk (Kd.R_below (rs HO_10) hb); have n3_ := Aside0.mk (Kd.R_below (rs HO_11) hb); have n4_ := Aside0.mk (below_step (bs HB) hb); clear HO_4; clear HO_5; clear HO_10; clear HO_11; clear HB; have HO_4 := n0_; have HO_5 := n1_; have HO_10 := n2_; have HO_11 := n3_; have HB := n4_; clear n0_ n1_ n2_ n3_ n4_; (try clear hb); (try clear hb2); (try clear hk); (try clear hi)))
        (try simp only [Act.put, List.setIfInBounds_toArray, List.set_cons_zero, List.set_cons_succ])
        go_cut [119] from 100 to 111 (fun v119 wc => ∃ (kq : Nat) (x119_31 : Bool), v119 = .bool x119_31 ∧ Aside0 (laws_FnRootLists.j2 kq l0 t837 t838 t841 t842 t850 t851 t854 t855 t863 t864 x119_31 = some r) ∧ Aside0 (kq ≤ kj19) ∧ Aside0 (Kd.R (Kd.int .i64) 2 wc w.heap.size (fun k_ => some k_ ≠ (v843 : Value).ownBlock ∧ some k_ ≠ ((.slice Ao22 t851.length co22) : Value).ownBlock ∧ some k_ ≠ (v856 : Value).ownBlock) (.slice Ao9 t838.length co9) t838) ∧ Aside0 (Kd.R (Kd.int .i64) 2 wc w.heap.size (fun k_ => some k_ ≠ ((.slice Ao9 t838.length co9) : Value).ownBlock ∧ some k_ ≠ ((.slice Ao22 t851.length co22) : Value).ownBlock ∧ some k_ ≠ (v856 : Value).ownBlock) v843 t841) ∧ Aside0 (Kd.R (Kd.int .i64) 2 wc w.heap.size (fun k_ => some k_ ≠ ((.slice Ao9 t838.length co9) : Value).ownBlock ∧ some k_ ≠ (v843 : Value).ownBlock ∧ some k_ ≠ (v856 : Value).ownBlock) (.slice Ao22 t851.length co22) t851) ∧ Aside0 (Kd.R (Kd.int .i64) 2 wc w.heap.size (fun k_ => some k_ ≠ ((.slice Ao9 t838.length co9) : Value).ownBlock ∧ some k_ ≠ (v843 : Value).ownBlock ∧ some k_ ≠ ((.slice Ao22 t851.length co22) : Value).ownBlock) v856 t854) ∧ Aside0 (Below w.heap.size w wc))
        case first =>
         have H := HC32.out
         clear HC32
         by_cases c35 : t864 = t866
         ·
          rw [if_pos c35] at H
          have c35b0 : (t864 == t866) = true := beq_iff_eq.mpr c35
          have c35b1 : (t864 != t866) = false := bne_eq_false_iff_eq.mpr c35
          clear c35
          (first | rw [c35b0] | (simp only [i64_w, i32_w]; rw [c35b0]) | skip)
          have H' := Aside0.mk H
          clear H
          go_wp2
          go_meet
          case rel => exact ⟨_, ((t863 != t865)), ea_, H', ⟨by have := HJ6.out; have := HJ19.out; first | omega | exact Nat.le_refl _⟩, ⟨by (with_reducible repeat (first | apply Kd.R_alloc | apply Kd.R_drewN | apply Kd.R_drew)); exact HO_4.out⟩, ⟨by (with_reducible repeat (first | apply Kd.R_alloc | apply Kd.R_drewN | apply Kd.R_drew)); exact HO_5.out⟩, ⟨by (with_reducible repeat (first | apply Kd.R_alloc | apply Kd.R_drewN | apply Kd.R_drew)); exact HO_10.out⟩, ⟨by (with_reducible repeat (first | apply Kd.R_alloc | apply Kd.R_drewN | apply Kd.R_drew)); exact HO_11.out⟩, ⟨by repeat (first | (with_reducible first | exact HB.out | apply below_alloc | apply pw_below_drewN | apply below_drew1) | exact HB.out)⟩⟩
         ·
          rw [if_neg c35] at H
          have c35b0 : (t864 == t866) = false := beq_eq_false_iff_ne.mpr c35
          have c35b1 : (t864 != t866) = true := bne_iff_ne.mpr c35
          (first | rw [c35b0] | (simp only [i64_w, i32_w]; rw [c35b0]) | skip)
          have H' := Aside0.mk H
          clear H
          go_wp2
          go_meet
          case rel => exact ⟨_, (true), ea_, H', ⟨by have := HJ6.out; have := HJ19.out; first | omega | exact Nat.le_refl _⟩, ⟨by (with_reducible repeat (first | apply Kd.R_alloc | apply Kd.R_drewN | apply Kd.R_drew)); exact HO_4.out⟩, ⟨by (with_reducible repeat (first | apply Kd.R_alloc | apply Kd.R_drewN | apply Kd.R_drew)); exact HO_5.out⟩, ⟨by (with_reducible repeat (first | apply Kd.R_alloc | apply Kd.R_drewN | apply Kd.R_drew)); exact HO_10.out⟩, ⟨by (with_reducible repeat (first | apply Kd.R_alloc | apply Kd.R_drewN | apply Kd.R_drew)); exact HO_11.out⟩, ⟨by repeat (first | (with_reducible first | exact HB.out | apply below_alloc | apply pw_below_drewN | apply below_drew1) | exact HB.out)⟩⟩
        case rest => as_aux_lemma =>
         clear HC32
         try clear c1
         try clear c2
         try clear p2
         try clear c3
         try clear c4
         try clear c6
         try clear c12
         try clear c12b0
         try clear c12b1
         try clear c16
         try clear c17
         try clear c19
         try clear c20
         try clear c21
         try clear c22
         try clear c23
         try clear c24
         try clear c25
         try clear c25b0
         try clear c25b1
         try clear c29
         try clear c35
         try clear c35b0
         try clear c35b1
         try clear p2
         obtain ⟨kq, x119_31, rfl, HA, HJ31, HO_4, HO_5, HO_10, HO_11, HB⟩ := hcut
         cases kq with
         | zero => exact absurd HA.out (by simp [laws_FnRootLists.j2])
         | succ kj31 =>
          have H := HA.out
          clear HA
          simp only [laws_FnRootLists.j2] at H
          by_cases c36 : x119_31 = true
          ·
           subst c36
           have H1 : (some false) = some r := by rw [if_pos rfl] at H; exact H
           clear H
           have H := H1
           clear H1
           obtain rfl := Option.some.inj H
           go_wp2
           go_ret
           exact ⟨by first | rfl | (simp [errW_none, errW_some] <;> rfl) | (simp [*, errW_none, errW_some] <;> rfl), by repeat (first | (with_reducible first | exact HB.out | apply below_alloc | apply pw_below_drewN | apply below_drew1) | exact HB.out)⟩
          ·
           replace c36 := Bool.eq_false_iff.mpr c36
           subst c36
           have H1 : ((spec_DrawMultiplicityOf.f kj31 l0).bind fun bt867 => ((impl_MultiplicityOf.f kj31 bt867.1 bt867.2.1 bt867.2.2).bind fun bt872 => ((spec_MultiplicityOf.f kj31 bt867.1 bt867.2.1 bt867.2.2).bind fun bt874 => (if bt872.2 = bt874.2 then (laws_FnRootLists.j3 kj31 l0 t837 t838 t841 t842 t850 t851 t854 t855 t863 t864 (bt872.1 != bt874.1)) else (laws_FnRootLists.j3 kj31 l0 t837 t838 t841 t842 t850 t851 t854 t855 t863 t864 true))))) = some r := by rw [if_neg (show ¬ (false = true) by decide)] at H; exact H
           clear H
           have H := H1
           clear H1
           replace H := Option.bind_eq_some_iff.mp H
           obtain ⟨⟨t867, t868, t869⟩, A370, H⟩ := H
           have A37 := Aside0.mk A370
           clear A370
           replace H := Option.bind_eq_some_iff.mp H
           obtain ⟨⟨t872, t873⟩, A380, H⟩ := H
           have A38 := Aside0.mk A380
           clear A380
           replace H := Option.bind_eq_some_iff.mp H
           obtain ⟨⟨t874, t875⟩, A390, H⟩ := H
           have A39 := Aside0.mk A390
           clear A390
           have HC40 := Aside0.mk H
           clear H
           go_upto_region 20 with (first | ((with_reducible refine gate_callee (f := 26) rfl ?_); refine goesM_ (some 122) rfl rfl Try.func26 #[.slice A0 l0.length c0] rfl ?_; (with_reducible refine (spec_DrawMultiplicityOf.calls kj31 _ _ l0 t867 t868 t869 _ ?side1 ?side2 A37.out).mono ?_); (case side1 => exact cs ((Kd.C_below HR0.out HB.out))); (case side2 => exact HC0.out); rintro e w41 ⟨v870, rfl, ho0, hb⟩; refine ⟨_, rfl, ?_⟩; have n0_ := Aside0.mk (Kd.R_elder' (rs HO_4) (Kd.R_base ho0) hb); have n1_ := Aside0.mk (Kd.R_elder' (rs HO_5) (Kd.R_base ho0) hb); have n2_ := Aside0.mk (Kd.R_elder' (rs HO_10) (Kd.R_base ho0) hb); have n3_ := Aside0.mk (Kd.R_elder' (rs HO_11) (Kd.R_base ho0) hb); have n4_ := Aside0.mk (Kd.R_lower (Kd.R_new' (Kd.R_new' (Kd.R_new' (Kd.R_new' ho0 (Kd.R_lt (rs HO_4))) (Kd.R_lt (rs HO_5))) (Kd.R_lt (rs HO_10))) (Kd.R_lt (rs HO_11))) (below_size (bs HB))); have n5_ := Aside0.mk (below_step (bs HB) hb); clear HO_4; clear HO_5; clear HO_10; clear HO_11; clear HB; have HO_4 := n0_; have HO_5 := n1_; have HO_10 := n2_; have HO_11 := n3_; have HO871 := n4_; have HB := n5_; clear n0_ n1_ n2_ n3_ n4_ n5_; (try clear hb); (try clear hb2); (try clear hk); (try clear hi); (try clear ho0); obtain ⟨Ao42, co42, eo42⟩ := Kd.R_slice HO871.out; subst eo42) | ((with_reducible refine gate_callee (f := 27) rfl ?_); refine goesM_ (some 130) rfl rfl Try.func27 #[.int .i64 t867, .slice Ao42 t868.length co42, .int .i64 t869] rfl ?_; (with_reducible refine (impl_MultiplicityOf.calls kj31 t867 _ _ t868 t869 t872 t873 _ ?side1 ?side2 A38.out).mono ?_); (case side1 => exact cs ((Kd.R_reads' HO871.out).2.2)); (case side2 => exact (Kd.R_reads' HO871.out).2.1); rintro e w43 ⟨rfl, hb⟩; refine ⟨_, rfl, ?_⟩; have n0_ := Aside0.mk (Kd.R_below (rs HO_4) hb); have n1_ := Aside0.mk (Kd.R_below (rs HO_5) hb); have n2_ := Aside0.mk (Kd.R_below (rs HO_10) hb); have n3_ := Aside0.mk (Kd.R_below (rs HO_11) hb); have n4_ := Aside0.mk (Kd.R_below (rs HO871) hb); have n5_ := Aside0.mk (below_step (bs HB) hb); clear HO_4; clear HO_5; clear HO_10; clear HO_11; clear HO871; clear HB; have HO_4 := n0_; have HO_5 := n1_; have HO_10 := n2_; have HO_11 := n3_; have HO871 := n4_; have HB := n5_; clear n0_ n1_ n2_ n3_ n4_ n5_; (try clear hb); (try clear hb2); (try clear hk); (try clear hi)) | ((with_reducible refine gate_callee (f := 28) rfl ?_); refine goesM_ (some 137) rfl rfl Try.func28 #[.int .i64 t867, .slice Ao42 t868.length co42, .int .i64 t869] rfl ?_; (with_reducible refine (spec_MultiplicityOf.calls kj31 t867 (fun k_ => some k_ = (.slice Ao42 t868.length co42 : Value).ownBlock) _ _ t868 t869 t874 t875 _ ?side1 A39.out).mono ?_); (case side1 => exact Kd.R_V (Kd.R_tight rfl (HO871.out))); rintro e w44 ⟨rfl, hb⟩; refine ⟨_, rfl, ?_⟩; have n0_ := Aside0.mk (Kd.R_below (rs HO_4) hb); have n1_ := Aside0.mk (Kd.R_below (rs HO_5) hb); have n2_ := Aside0.mk (Kd.R_below (rs HO_10) hb); have n3_ := Aside0.mk (Kd.R_below (rs HO_11) hb); have n4_ := Aside0.mk (Kd.R_below (rs HO871) hb); have n5_ := Aside0.mk (below_step (bs HB) hb); clear HO_4; clear HO_5; clear HO_10; clear HO_11; clear HO871; clear HB; have HO_4 := n0_; have HO_5 := n1_; have HO_10 := n2_; have HO_11 := n3_; have HO871 := n4_; have HB := n5_; clear n0_ n1_ n2_ n3_ n4_ n5_; (try clear hb); (try clear hb2); (try clear hk); (try clear hi)))
           (try simp only [Act.put, List.setIfInBounds_toArray, List.set_cons_zero, List.set_cons_succ])
           go_cut [147] from 120 to 139 (fun v147 wc => ∃ (kq : Nat) (x147_39 : Bool), v147 = .bool x147_39 ∧ Aside0 (laws_FnRootLists.j3 kq l0 t837 t838 t841 t842 t850 t851 t854 t855 t863 t864 x147_39 = some r) ∧ Aside0 (kq ≤ kj31) ∧ Aside0 (Kd.R (Kd.int .i64) 2 wc w.heap.size (fun k_ => some k_ ≠ (v843 : Value).ownBlock ∧ some k_ ≠ ((.slice Ao22 t851.length co22) : Value).ownBlock ∧ some k_ ≠ (v856 : Value).ownBlock) (.slice Ao9 t838.length co9) t838) ∧ Aside0 (Kd.R (Kd.int .i64) 2 wc w.heap.size (fun k_ => some k_ ≠ ((.slice Ao9 t838.length co9) : Value).ownBlock ∧ some k_ ≠ ((.slice Ao22 t851.length co22) : Value).ownBlock ∧ some k_ ≠ (v856 : Value).ownBlock) v843 t841) ∧ Aside0 (Kd.R (Kd.int .i64) 2 wc w.heap.size (fun k_ => some k_ ≠ ((.slice Ao9 t838.length co9) : Value).ownBlock ∧ some k_ ≠ (v843 : Value).ownBlock ∧ some k_ ≠ (v856 : Value).ownBlock) (.slice Ao22 t851.length co22) t851) ∧ Aside0 (Kd.R (Kd.int .i64) 2 wc w.heap.size (fun k_ => some k_ ≠ ((.slice Ao9 t838.length co9) : Value).ownBlock ∧ some k_ ≠ (v843 : Value).ownBlock ∧ some k_ ≠ ((.slice Ao22 t851.length co22) : Value).ownBlock) v856 t854) ∧ Aside0 (Below w.heap.size w wc))
           case first =>
            have H := HC40.out
            clear HC40
            by_cases c45 : t873 = t875
            ·
             rw [if_pos c45] at H
             have c45b0 : (t873 == t875) = true := beq_iff_eq.mpr c45
             have c45b1 : (t873 != t875) = false := bne_eq_false_iff_eq.mpr c45
             clear c45
             (first | rw [c45b0] | (simp only [i64_w, i32_w]; rw [c45b0]) | skip)
             have H' := Aside0.mk H
             clear H
             go_wp2
             go_meet
             case rel => exact ⟨_, ((t872 != t874)), ea_, H', ⟨by have := HJ6.out; have := HJ19.out; have := HJ31.out; first | omega | exact Nat.le_refl _⟩, ⟨by (with_reducible repeat (first | apply Kd.R_alloc | apply Kd.R_drewN | apply Kd.R_drew)); exact Kd.R_mono HO_4.out (fun _ hk => ⟨hk.1.1, ⟨hk.1.2.1, hk.1.2.2⟩⟩)⟩, ⟨by (with_reducible repeat (first | apply Kd.R_alloc | apply Kd.R_drewN | apply Kd.R_drew)); exact Kd.R_mono HO_5.out (fun _ hk => ⟨hk.1.1, ⟨hk.1.2.1, hk.1.2.2⟩⟩)⟩, ⟨by (with_reducible repeat (first | apply Kd.R_alloc | apply Kd.R_drewN | apply Kd.R_drew)); exact Kd.R_mono HO_10.out (fun _ hk => ⟨hk.1.1, ⟨hk.1.2.1, hk.1.2.2⟩⟩)⟩, ⟨by (with_reducible repeat (first | apply Kd.R_alloc | apply Kd.R_drewN | apply Kd.R_drew)); exact Kd.R_mono HO_11.out (fun _ hk => ⟨hk.1.1, ⟨hk.1.2.1, hk.1.2.2⟩⟩)⟩, ⟨by repeat (first | (with_reducible first | exact HB.out | apply below_alloc | apply pw_below_drewN | apply below_drew1) | exact HB.out)⟩⟩
            ·
             rw [if_neg c45] at H
             have c45b0 : (t873 == t875) = false := beq_eq_false_iff_ne.mpr c45
             have c45b1 : (t873 != t875) = true := bne_iff_ne.mpr c45
             (first | rw [c45b0] | (simp only [i64_w, i32_w]; rw [c45b0]) | skip)
             have H' := Aside0.mk H
             clear H
             go_wp2
             go_meet
             case rel => exact ⟨_, (true), ea_, H', ⟨by have := HJ6.out; have := HJ19.out; have := HJ31.out; first | omega | exact Nat.le_refl _⟩, ⟨by (with_reducible repeat (first | apply Kd.R_alloc | apply Kd.R_drewN | apply Kd.R_drew)); exact Kd.R_mono HO_4.out (fun _ hk => ⟨hk.1.1, ⟨hk.1.2.1, hk.1.2.2⟩⟩)⟩, ⟨by (with_reducible repeat (first | apply Kd.R_alloc | apply Kd.R_drewN | apply Kd.R_drew)); exact Kd.R_mono HO_5.out (fun _ hk => ⟨hk.1.1, ⟨hk.1.2.1, hk.1.2.2⟩⟩)⟩, ⟨by (with_reducible repeat (first | apply Kd.R_alloc | apply Kd.R_drewN | apply Kd.R_drew)); exact Kd.R_mono HO_10.out (fun _ hk => ⟨hk.1.1, ⟨hk.1.2.1, hk.1.2.2⟩⟩)⟩, ⟨by (with_reducible repeat (first | apply Kd.R_alloc | apply Kd.R_drewN | apply Kd.R_drew)); exact Kd.R_mono HO_11.out (fun _ hk => ⟨hk.1.1, ⟨hk.1.2.1, hk.1.2.2⟩⟩)⟩, ⟨by repeat (first | (with_reducible first | exact HB.out | apply below_alloc | apply pw_below_drewN | apply below_drew1) | exact HB.out)⟩⟩
           case rest => as_aux_lemma =>
            clear HC40
            try clear c1
            try clear c2
            try clear p2
            try clear c3
            try clear c4
            try clear c6
            try clear c12
            try clear c12b0
            try clear c12b1
            try clear c16
            try clear c17
            try clear c19
            try clear c20
            try clear c21
            try clear c22
            try clear c23
            try clear c24
            try clear c25
            try clear c25b0
            try clear c25b1
            try clear c26
            try clear c27
            try clear c28
            try clear c29
            try clear c35
            try clear c35b0
            try clear c35b1
            try clear c36
            try clear c45
            try clear c45b0
            try clear c45b1
            try clear p2
            obtain ⟨kq, x147_39, rfl, HA, HJ39, HO_4, HO_5, HO_10, HO_11, HB⟩ := hcut
            cases kq with
            | zero => exact absurd HA.out (by simp [laws_FnRootLists.j3])
            | succ kj39 =>
             have H := HA.out
             clear HA
             simp only [laws_FnRootLists.j3] at H
             by_cases c46 : x147_39 = true
             ·
              subst c46
              have H1 : (some false) = some r := by rw [if_pos rfl] at H; exact H
              clear H
              have H := H1
              clear H1
              obtain rfl := Option.some.inj H
              go_wp2
              go_ret
              exact ⟨by first | rfl | (simp [errW_none, errW_some] <;> rfl) | (simp [*, errW_none, errW_some] <;> rfl), by repeat (first | (with_reducible first | exact HB.out | apply below_alloc | apply pw_below_drewN | apply below_drew1) | exact HB.out)⟩
             ·
              replace c46 := Bool.eq_false_iff.mpr c46
              subst c46
              have H1 : ((spec_DrawPowerSums.f kj39 l0).bind fun bt876 => ((impl_PowerSums.f kj39 bt876.1 bt876.2.1 bt876.2.2).bind fun bt881 => ((spec_PowerSums.f kj39 bt876.1 bt876.2.1 bt876.2.2).bind fun bt885 => (if bt881.2 = bt885.2 then ((laws_likeInts.f kj39 bt881.1 bt885.1).bind fun t889 => (laws_FnRootLists.j4 kj39 t837 t838 t841 t842 t850 t851 t854 t855 t863 t864 (!t889))) else (laws_FnRootLists.j4 kj39 t837 t838 t841 t842 t850 t851 t854 t855 t863 t864 true))))) = some r := by rw [if_neg (show ¬ (false = true) by decide)] at H; exact H
              clear H
              have H := H1
              clear H1
              replace H := Option.bind_eq_some_iff.mp H
              obtain ⟨⟨t876, t877, t878⟩, A470, H⟩ := H
              have A47 := Aside0.mk A470
              clear A470
              replace H := Option.bind_eq_some_iff.mp H
              obtain ⟨⟨t881, t882⟩, A480, H⟩ := H
              have A48 := Aside0.mk A480
              clear A480
              replace H := Option.bind_eq_some_iff.mp H
              obtain ⟨⟨t885, t888⟩, A490, H⟩ := H
              have A49 := Aside0.mk A490
              clear A490
              have HC50 := Aside0.mk H
              clear H
              go_upto_region 25 with (first | ((with_reducible refine gate_callee (f := 29) rfl ?_); refine goesM_ (some 150) rfl rfl Try.func29 #[.slice A0 l0.length c0] rfl ?_; (with_reducible refine (spec_DrawPowerSums.calls kj39 _ _ l0 t876 t877 t878 _ ?side1 ?side2 A47.out).mono ?_); (case side1 => exact cs ((Kd.C_below HR0.out HB.out))); (case side2 => exact HC0.out); rintro e w51 ⟨v879, rfl, ho0, hb⟩; refine ⟨_, rfl, ?_⟩; have n0_ := Aside0.mk (Kd.R_elder' (rs HO_4) (Kd.R_base ho0) hb); have n1_ := Aside0.mk (Kd.R_elder' (rs HO_5) (Kd.R_base ho0) hb); have n2_ := Aside0.mk (Kd.R_elder' (rs HO_10) (Kd.R_base ho0) hb); have n3_ := Aside0.mk (Kd.R_elder' (rs HO_11) (Kd.R_base ho0) hb); have n4_ := Aside0.mk (Kd.R_lower (Kd.R_new' (Kd.R_new' (Kd.R_new' (Kd.R_new' ho0 (Kd.R_lt (rs HO_4))) (Kd.R_lt (rs HO_5))) (Kd.R_lt (rs HO_10))) (Kd.R_lt (rs HO_11))) (below_size (bs HB))); have n5_ := Aside0.mk (below_step (bs HB) hb); clear HO_4; clear HO_5; clear HO_10; clear HO_11; clear HB; have HO_4 := n0_; have HO_5 := n1_; have HO_10 := n2_; have HO_11 := n3_; have HO880 := n4_; have HB := n5_; clear n0_ n1_ n2_ n3_ n4_ n5_; (try clear hb); (try clear hb2); (try clear hk); (try clear hi); (try clear ho0); obtain ⟨Ao52, co52, eo52⟩ := Kd.R_slice HO880.out; subst eo52) | ((with_reducible refine gate_callee (f := 30) rfl ?_); refine goesM_ (some 158) rfl rfl Try.func30 #[.int .i64 t876, .slice Ao52 t877.length co52, .int .i64 t878] rfl ?_; (with_reducible refine (impl_PowerSums.calls kj39 t876 _ _ t877 t878 t881 t882 _ ?side1 ?side2 A48.out).mono ?_); (case side1 => exact cs ((Kd.R_reads' HO880.out).2.2)); (case side2 => exact (Kd.R_reads' HO880.out).2.1); rintro e w53 ⟨v883, rfl, ho0, hb⟩; refine ⟨_, rfl, ?_⟩; have n0_ := Aside0.mk (Kd.R_elder' (rs HO_4) (Kd.R_base ho0) hb); have n1_ := Aside0.mk (Kd.R_elder' (rs HO_5) (Kd.R_base ho0) hb); have n2_ := Aside0.mk (Kd.R_elder' (rs HO_10) (Kd.R_base ho0) hb); have n3_ := Aside0.mk (Kd.R_elder' (rs HO_11) (Kd.R_base ho0) hb); have n4_ := Aside0.mk (Kd.R_elder' (rs HO880) (Kd.R_base ho0) hb); have n5_ := Aside0.mk (Kd.R_lower (Kd.R_new' (Kd.R_new' (Kd.R_new' (Kd.R_new' (Kd.R_new' ho0 (Kd.R_lt (rs HO_4))) (Kd.R_lt (rs HO_5))) (Kd.R_lt (rs HO_10))) (Kd.R_lt (rs HO_11))) (Kd.R_lt (rs HO880))) (below_size (bs HB))); have n6_ := Aside0.mk (below_step (bs HB) hb); clear HO_4; clear HO_5; clear HO_10; clear HO_11; clear HO880; clear HB; have HO_4 := n0_; have HO_5 := n1_; have HO_10 := n2_; have HO_11 := n3_; have HO880 := n4_; have HO884 := n5_; have HB := n6_; clear n0_ n1_ n2_ n3_ n4_ n5_ n6_; (try clear hb); (try clear hb2); (try clear hk); (try clear hi); (try clear ho0)) | ((with_reducible refine gate_callee (f := 31) rfl ?_); refine goesM_ (some 165) rfl rfl Try.func31 #[.int .i64 t876, .slice Ao52 t877.length co52, .int .i64 t878] rfl ?_; (with_reducible refine (spec_PowerSums.calls kj39 t876 (fun k_ => some k_ = (.slice Ao52 t877.length co52 : Value).ownBlock) _ _ t877 t878 t885 t888 _ ?side1 A49.out).mono ?_); (case side1 => exact Kd.R_V (Kd.R_tight rfl (HO880.out))); rintro e w54 ⟨v886, rfl, ho0, hb⟩; refine ⟨_, rfl, ?_⟩; have n0_ := Aside0.mk (Kd.R_elder' (rs HO_4) (Kd.R_base ho0) hb); have n1_ := Aside0.mk (Kd.R_elder' (rs HO_5) (Kd.R_base ho0) hb); have n2_ := Aside0.mk (Kd.R_elder' (rs HO_10) (Kd.R_base ho0) hb); have n3_ := Aside0.mk (Kd.R_elder' (rs HO_11) (Kd.R_base ho0) hb); have n4_ := Aside0.mk (Kd.R_elder' (rs HO880) (Kd.R_base ho0) hb); have n5_ := Aside0.mk (Kd.R_elder' (rs HO884) (Kd.R_base ho0) hb); have n6_ := Aside0.mk (Kd.R_lower (Kd.R_new' (Kd.R_new' (Kd.R_new' (Kd.R_new' (Kd.R_new' (Kd.R_new' (Kd.R_mono (ok' := fun k_ => True) ho0 (fun _ hk_ => trivial)) (Kd.R_lt (rs HO_4))) (Kd.R_lt (rs HO_5))) (Kd.R_lt (rs HO_10))) (Kd.R_lt (rs HO_11))) (Kd.R_lt (rs HO880))) (Kd.R_lt (rs HO884))) (below_size (bs HB))); have n7_ := Aside0.mk (below_step (bs HB) hb); clear HO_4; clear HO_5; clear HO_10; clear HO_11; clear HO880; clear HO884; clear HB; have HO_4 := n0_; have HO_5 := n1_; have HO_10 := n2_; have HO_11 := n3_; have HO880 := n4_; have HO884 := n5_; have HO887 := n6_; have HB := n7_; clear n0_ n1_ n2_ n3_ n4_ n5_ n6_ n7_; (try clear hb); (try clear hb2); (try clear hk); (try clear hi); (try clear ho0)))
              (try simp only [Act.put, List.setIfInBounds_toArray, List.set_cons_zero, List.set_cons_succ])
              go_cut [176] from 148 to 167 (fun v176 wc => ∃ (kq : Nat) (x176_49 : Bool), v176 = .bool x176_49 ∧ Aside0 (laws_FnRootLists.j4 kq t837 t838 t841 t842 t850 t851 t854 t855 t863 t864 x176_49 = some r) ∧ Aside0 (kq ≤ kj39) ∧ Aside0 (Kd.R (Kd.int .i64) 2 wc w.heap.size (fun k_ => some k_ ≠ (v843 : Value).ownBlock ∧ some k_ ≠ ((.slice Ao22 t851.length co22) : Value).ownBlock ∧ some k_ ≠ (v856 : Value).ownBlock) (.slice Ao9 t838.length co9) t838) ∧ Aside0 (Kd.R (Kd.int .i64) 2 wc w.heap.size (fun k_ => some k_ ≠ ((.slice Ao9 t838.length co9) : Value).ownBlock ∧ some k_ ≠ ((.slice Ao22 t851.length co22) : Value).ownBlock ∧ some k_ ≠ (v856 : Value).ownBlock) v843 t841) ∧ Aside0 (Kd.R (Kd.int .i64) 2 wc w.heap.size (fun k_ => some k_ ≠ ((.slice Ao9 t838.length co9) : Value).ownBlock ∧ some k_ ≠ (v843 : Value).ownBlock ∧ some k_ ≠ (v856 : Value).ownBlock) (.slice Ao22 t851.length co22) t851) ∧ Aside0 (Kd.R (Kd.int .i64) 2 wc w.heap.size (fun k_ => some k_ ≠ ((.slice Ao9 t838.length co9) : Value).ownBlock ∧ some k_ ≠ (v843 : Value).ownBlock ∧ some k_ ≠ ((.slice Ao22 t851.length co22) : Value).ownBlock) v856 t854) ∧ Aside0 (Below w.heap.size w wc))
              case first =>
               have H := HC50.out
               clear HC50
               by_cases c55 : t882 = t888
               ·
                rw [if_pos c55] at H
                have c55b0 : (t882 == t888) = true := beq_iff_eq.mpr c55
                have c55b1 : (t882 != t888) = false := bne_eq_false_iff_eq.mpr c55
                clear c55
                (first | rw [c55b0] | (simp only [i64_w, i32_w]; rw [c55b0]) | skip)
                replace H := Option.bind_eq_some_iff.mp H
                obtain ⟨t889, A560, H⟩ := H
                have A56 := Aside0.mk A560
                clear A560
                have H' := Aside0.mk H
                clear H
                obtain ⟨Ao57, co57, eo57⟩ := Kd.R_slice HO884.out
                subst eo57
                obtain ⟨Ao58, co58, eo58⟩ := Kd.R_slice HO887.out
                subst eo58
                go_wp2_with (first | (go_at_call 10; (with_reducible refine (laws_likeInts.calls kj39 _ _ t881 _ _ t885 t889 _ ?side1 ?side2 ?side3 ?side4 A56.out).mono ?_); (case side1 => exact cs ((Kd.R_reads' HO884.out).2.2)); (case side2 => exact (Kd.R_reads' HO884.out).2.1); (case side3 => exact cs ((Kd.R_reads' HO887.out).2.2)); (case side4 => exact (Kd.R_reads' HO887.out).2.1); rintro e w' ⟨rfl, ⟨nd, rfl⟩⟩))
                go_meet
                case rel => exact ⟨_, (!t889), ea_, H', ⟨by have := HJ6.out; have := HJ19.out; have := HJ31.out; have := HJ39.out; first | omega | exact Nat.le_refl _⟩, ⟨by (with_reducible repeat (first | apply Kd.R_alloc | apply Kd.R_drewN | apply Kd.R_drew)); exact Kd.R_mono HO_4.out (fun _ hk => ⟨hk.1.1.1.1, ⟨hk.1.1.1.2.1, hk.1.1.1.2.2⟩⟩)⟩, ⟨by (with_reducible repeat (first | apply Kd.R_alloc | apply Kd.R_drewN | apply Kd.R_drew)); exact Kd.R_mono HO_5.out (fun _ hk => ⟨hk.1.1.1.1, ⟨hk.1.1.1.2.1, hk.1.1.1.2.2⟩⟩)⟩, ⟨by (with_reducible repeat (first | apply Kd.R_alloc | apply Kd.R_drewN | apply Kd.R_drew)); exact Kd.R_mono HO_10.out (fun _ hk => ⟨hk.1.1.1.1, ⟨hk.1.1.1.2.1, hk.1.1.1.2.2⟩⟩)⟩, ⟨by (with_reducible repeat (first | apply Kd.R_alloc | apply Kd.R_drewN | apply Kd.R_drew)); exact Kd.R_mono HO_11.out (fun _ hk => ⟨hk.1.1.1.1, ⟨hk.1.1.1.2.1, hk.1.1.1.2.2⟩⟩)⟩, ⟨by repeat (first | (with_reducible first | exact HB.out | apply below_alloc | apply pw_below_drewN | apply below_drew1) | exact HB.out)⟩⟩
               ·
                rw [if_neg c55] at H
                have c55b0 : (t882 == t888) = false := beq_eq_false_iff_ne.mpr c55
                have c55b1 : (t882 != t888) = true := bne_iff_ne.mpr c55
                (first | rw [c55b0] | (simp only [i64_w, i32_w]; rw [c55b0]) | skip)
                have H' := Aside0.mk H
                clear H
                go_wp2
                go_meet
                case rel => exact ⟨_, (true), ea_, H', ⟨by have := HJ6.out; have := HJ19.out; have := HJ31.out; have := HJ39.out; first | omega | exact Nat.le_refl _⟩, ⟨by (with_reducible repeat (first | apply Kd.R_alloc | apply Kd.R_drewN | apply Kd.R_drew)); exact Kd.R_mono HO_4.out (fun _ hk => ⟨hk.1.1.1.1, ⟨hk.1.1.1.2.1, hk.1.1.1.2.2⟩⟩)⟩, ⟨by (with_reducible repeat (first | apply Kd.R_alloc | apply Kd.R_drewN | apply Kd.R_drew)); exact Kd.R_mono HO_5.out (fun _ hk => ⟨hk.1.1.1.1, ⟨hk.1.1.1.2.1, hk.1.1.1.2.2⟩⟩)⟩, ⟨by (with_reducible repeat (first | apply Kd.R_alloc | apply Kd.R_drewN | apply Kd.R_drew)); exact Kd.R_mono HO_10.out (fun _ hk => ⟨hk.1.1.1.1, ⟨hk.1.1.1.2.1, hk.1.1.1.2.2⟩⟩)⟩, ⟨by (with_reducible repeat (first | apply Kd.R_alloc | apply Kd.R_drewN | apply Kd.R_drew)); exact Kd.R_mono HO_11.out (fun _ hk => ⟨hk.1.1.1.1, ⟨hk.1.1.1.2.1, hk.1.1.1.2.2⟩⟩)⟩, ⟨by repeat (first | (with_reducible first | exact HB.out | apply below_alloc | apply pw_below_drewN | apply below_drew1) | exact HB.out)⟩⟩
              case rest => as_aux_lemma =>
               clear HC50
               try clear c1
               try clear c2
               try clear p2
               try clear c3
               try clear c4
               try clear c5
               try clear c6
               try clear c12
               try clear c12b0
               try clear c12b1
               try clear c16
               try clear c17
               try clear c19
               try clear c20
               try clear c21
               try clear c22
               try clear c23
               try clear c24
               try clear c25
               try clear c25b0
               try clear c25b1
               try clear c26
               try clear c27
               try clear c28
               try clear c29
               try clear c30
               try clear c31
               try clear c35
               try clear c35b0
               try clear c35b1
               try clear c36
               try clear c45
               try clear c45b0
               try clear c45b1
               try clear c46
               try clear c55
               try clear c55b0
               try clear c55b1
               try clear p2
               obtain ⟨kq, x176_49, rfl, HA, HJ49, HO_4, HO_5, HO_10, HO_11, HB⟩ := hcut
               cases kq with
               | zero => exact absurd HA.out (by simp [laws_FnRootLists.j4])
               | succ kj49 =>
                have H := HA.out
                clear HA
                simp only [laws_FnRootLists.j4] at H
                by_cases c59 : x176_49 = true
                ·
                 subst c59
                 have H1 : (some false) = some r := by rw [if_pos rfl] at H; exact H
                 clear H
                 have H := H1
                 clear H1
                 obtain rfl := Option.some.inj H
                 go_wp2
                 go_ret
                 exact ⟨by first | rfl | (simp [errW_none, errW_some] <;> rfl) | (simp [*, errW_none, errW_some] <;> rfl), by repeat (first | (with_reducible first | exact HB.out | apply below_alloc | apply pw_below_drewN | apply below_drew1) | exact HB.out)⟩
                ·
                 replace c59 := Bool.eq_false_iff.mpr c59
                 subst c59
                 have H1 : (if t855 = 0 then (laws_FnRootLists.l0 kj49 t837 t838 t841 t842 t850 t851 t854 t863 t864 0 0) else (laws_FnRootLists.j6 kj49 t837 t838 t841 t842)) = some r := by rw [if_neg (show ¬ (false = true) by decide)] at H; exact H
                 clear H
                 have H := H1
                 clear H1
                 have HC60 := Aside0.mk H
                 clear H
                 go_upto_if 178 with (fail)
                 go_cut [] from 177 to 178 (fun wc => ∃ (kq : Nat), Aside0 (laws_FnRootLists.j6 kq t837 t838 t841 t842 = some r) ∧ Aside0 (kq ≤ kj49) ∧ Aside0 (Kd.R (Kd.int .i64) 2 wc w.heap.size (fun k_ => some k_ ≠ (v843 : Value).ownBlock) (.slice Ao9 t838.length co9) t838) ∧ Aside0 (Kd.R (Kd.int .i64) 2 wc w.heap.size (fun k_ => some k_ ≠ ((.slice Ao9 t838.length co9) : Value).ownBlock) v843 t841) ∧ Aside0 (Below w.heap.size w wc))
                 case first =>
                  have H := HC60.out
                  clear HC60
                  by_cases c61 : t855 = 0
                  ·
                   rw [if_pos c61] at H
                   have c61b0 : (t855 == 0) = true := beq_iff_eq.mpr c61
                   have c61b1 : (t855 != 0) = false := bne_eq_false_iff_eq.mpr c61
                   clear c61
                   (first | rw [c61b0] | (simp only [i64_w, i32_w]; rw [c61b0]) | skip)
                   have H' := Aside0.mk H
                   clear H
                   go_wp2
                   go_loopg [33, 34] kj49 (fun kq v33 v34 w' => ∃ (x33_6 : Int) (x34_6 : Int), v33 = .int .i64 x33_6 ∧ v34 = .int .i64 x34_6 ∧ Aside0 (laws_FnRootLists.l0 kq t837 t838 t841 t842 t850 t851 t854 t863 t864 x33_6 x34_6 = some r) ∧ Aside0 (kq ≤ kj49) ∧ Aside0 (Kd.R (Kd.int .i64) 2 w' w.heap.size (fun k_ => some k_ ≠ (v843 : Value).ownBlock ∧ some k_ ≠ ((.slice Ao22 t851.length co22) : Value).ownBlock ∧ some k_ ≠ (v856 : Value).ownBlock) (.slice Ao9 t838.length co9) t838) ∧ Aside0 (Kd.R (Kd.int .i64) 2 w' w.heap.size (fun k_ => some k_ ≠ ((.slice Ao9 t838.length co9) : Value).ownBlock ∧ some k_ ≠ ((.slice Ao22 t851.length co22) : Value).ownBlock ∧ some k_ ≠ (v856 : Value).ownBlock) v843 t841) ∧ Aside0 (Kd.R (Kd.int .i64) 2 w' w.heap.size (fun k_ => some k_ ≠ ((.slice Ao9 t838.length co9) : Value).ownBlock ∧ some k_ ≠ (v843 : Value).ownBlock ∧ some k_ ≠ (v856 : Value).ownBlock) (.slice Ao22 t851.length co22) t851) ∧ Aside0 (Kd.R (Kd.int .i64) 2 w' w.heap.size (fun k_ => some k_ ≠ ((.slice Ao9 t838.length co9) : Value).ownBlock ∧ some k_ ≠ (v843 : Value).ownBlock ∧ some k_ ≠ ((.slice Ao22 t851.length co22) : Value).ownBlock) v856 t854) ∧ Aside0 (Below w.heap.size w w'))
                   case atStart => exact ⟨(0), (0), ea_, ea_, H', ⟨Nat.le_refl _⟩, ⟨by (with_reducible repeat (first | apply Kd.R_alloc | apply Kd.R_drewN | apply Kd.R_drew)); exact HO_4.out⟩, ⟨by (with_reducible repeat (first | apply Kd.R_alloc | apply Kd.R_drewN | apply Kd.R_drew)); exact HO_5.out⟩, ⟨by (with_reducible repeat (first | apply Kd.R_alloc | apply Kd.R_drewN | apply Kd.R_drew)); exact HO_10.out⟩, ⟨by (with_reducible repeat (first | apply Kd.R_alloc | apply Kd.R_drewN | apply Kd.R_drew)); exact HO_11.out⟩, ⟨by repeat (first | (with_reducible first | exact HB.out | apply below_alloc | apply pw_below_drewN | apply below_drew1) | exact HB.out)⟩⟩
                   case round =>
                    clear H'
                    try clear c1
                    try clear c2
                    try clear p2
                    try clear c3
                    try clear c4
                    try clear c5
                    try clear c6
                    try clear c12
                    try clear c12b0
                    try clear c12b1
                    try clear c16
                    try clear c17
                    try clear c19
                    try clear c20
                    try clear c21
                    try clear c22
                    try clear c23
                    try clear c24
                    try clear c25
                    try clear c25b0
                    try clear c25b1
                    try clear c26
                    try clear c27
                    try clear c28
                    try clear c29
                    try clear c30
                    try clear c31
                    try clear c35
                    try clear c35b0
                    try clear c35b1
                    try clear c36
                    try clear c45
                    try clear c45b0
                    try clear c45b1
                    try clear c46
                    try clear c55
                    try clear c55b0
                    try clear c55b1
                    try clear c59
                    try clear c61
                    try clear c61b0
                    try clear c61b1
                    try clear p2
                    obtain ⟨x33_6, x34_6, rfl, rfl, HA, HK6, HO_4, HO_5, HO_10, HO_11, HB⟩ := hrel
                    cases gk with
                    | zero => exact absurd HA.out (by simp [laws_FnRootLists.l0])
                    | succ k6 =>
                     have H := HA.out
                     clear HA
                     simp only [laws_FnRootLists.l0] at H
                     by_cases c62 : x34_6 < (t854.length : Int)
                     ·
                      rw [if_pos c62] at H
                      have c62b0 : decide (x34_6 < (t854.length : Int)) = true := decide_eq_true c62
                      clear c62
                      by_cases c63 : 0 ≤ x34_6
                      ·
                       rw [if_pos c63] at H
                       have c63b0 : decide (0 ≤ x34_6) = true := decide_eq_true c63
                       clear c63
                       replace H := Option.bind_eq_some_iff.mp H
                       obtain ⟨⟨t891, t892⟩, A640, H⟩ := H
                       have A64 := Aside0.mk A640
                       clear A640
                       by_cases c65 : t892 = 0
                       ·
                        rw [if_pos c65] at H
                        have c65b0 : (t892 == 0) = true := beq_iff_eq.mpr c65
                        have c65b1 : (t892 != 0) = false := bne_eq_false_iff_eq.mpr c65
                        clear c65
                        by_cases c66 : t891 < 1
                        ·
                         rw [if_pos c66] at H
                         have c66b0 : decide (t891 < 1) = true := decide_eq_true c66
                         clear c66
                         obtain rfl := Option.some.inj H
                         obtain ⟨Ao67, co67, eo67⟩ := Kd.R_slice HO_11.out
                         subst eo67
                         have p890 : 0 ≤ (x34_6 : Int) := of_decide_eq_true (by first | (with_reducible assumption) | assumption)
                         have q890 : x34_6 < (t854.length : Int) := of_decide_eq_true (by first | (with_reducible assumption) | assumption)
                         obtain ⟨ad890, e890, hx890_0⟩ := Kd.at_int (Kd.R_reads' HO_11.out).2.2 x34_6 p890 q890
                         cases e890
                         replace p890 := eq_true p890
                         replace q890 := eq_true q890
                         go_wp2_with (first | ((with_reducible refine gate_callee (f := 27) rfl ?_); refine goesM_ (some 192) rfl rfl Try.func27 #[.int .i64 t850, .slice Ao22 t851.length co22, .int .i64 (rd t854 x34_6)] rfl ?_; (with_reducible refine (impl_MultiplicityOf.calls k6 t850 _ _ t851 (rd t854 x34_6) t891 t892 _ ?side1 ?side2 A64.out).mono ?_); (case side1 => exact cs ((Kd.R_reads' HO_10.out).2.2)); (case side2 => exact (Kd.R_reads' HO_10.out).2.1); rintro e w68 ⟨rfl, hb⟩; refine ⟨_, rfl, ?_⟩; have n0_ := Aside0.mk (Kd.R_below (rs HO_4) hb); have n1_ := Aside0.mk (Kd.R_below (rs HO_5) hb); have n2_ := Aside0.mk (Kd.R_below (rs HO_10) hb); have n3_ := Aside0.mk (Kd.R_below (rs HO_11) hb); have n4_ := Aside0.mk (below_step (bs HB) hb); clear HO_4; clear HO_5; clear HO_10; clear HO_11; clear HB; have HO_4 := n0_; have HO_5 := n1_; have HO_10 := n2_; have HO_11 := n3_; have HB := n4_; clear n0_ n1_ n2_ n3_ n4_; (try clear hb); (try clear hb2); (try clear hk); (try clear hi)))
                         go_ret
                         exact ⟨by first | rfl | (simp [errW_none, errW_some] <;> rfl) | (simp [*, errW_none, errW_some] <;> rfl), by repeat (first | (with_reducible first | exact HB.out | apply below_alloc | apply pw_below_drewN | apply below_drew1) | exact HB.out)⟩
                        ·
                         rw [if_neg c66] at H
                         have c66b0 : decide (t891 < 1) = false := decide_eq_false c66
                         clear c66
                         have H' := Aside0.mk H
                         clear H
                         obtain ⟨Ao69, co69, eo69⟩ := Kd.R_slice HO_11.out
                         subst eo69
                         have p890 : 0 ≤ (x34_6 : Int) := of_decide_eq_true (by first | (with_reducible assumption) | assumption)
                         have q890 : x34_6 < (t854.length : Int) := of_decide_eq_true (by first | (with_reducible assumption) | assumption)
                         obtain ⟨ad890, e890, hx890_0⟩ := Kd.at_int (Kd.R_reads' HO_11.out).2.2 x34_6 p890 q890
                         cases e890
                         replace p890 := eq_true p890
                         replace q890 := eq_true q890
                         go_wp2_with (first | ((with_reducible refine gate_callee (f := 27) rfl ?_); refine goesM_ (some 192) rfl rfl Try.func27 #[.int .i64 t850, .slice Ao22 t851.length co22, .int .i64 (rd t854 x34_6)] rfl ?_; (with_reducible refine (impl_MultiplicityOf.calls k6 t850 _ _ t851 (rd t854 x34_6) t891 t892 _ ?side1 ?side2 A64.out).mono ?_); (case side1 => exact cs ((Kd.R_reads' HO_10.out).2.2)); (case side2 => exact (Kd.R_reads' HO_10.out).2.1); rintro e w70 ⟨rfl, hb⟩; refine ⟨_, rfl, ?_⟩; have n0_ := Aside0.mk (Kd.R_below (rs HO_4) hb); have n1_ := Aside0.mk (Kd.R_below (rs HO_5) hb); have n2_ := Aside0.mk (Kd.R_below (rs HO_10) hb); have n3_ := Aside0.mk (Kd.R_below (rs HO_11) hb); have n4_ := Aside0.mk (below_step (bs HB) hb); clear HO_4; clear HO_5; clear HO_10; clear HO_11; clear HB; have HO_4 := n0_; have HO_5 := n1_; have HO_10 := n2_; have HO_11 := n3_; have HB := n4_; clear n0_ n1_ n2_ n3_ n4_; (try clear hb); (try clear hb2); (try clear hk); (try clear hi)))
                         go_roundg k6
                         case measure => have := HJ6.out; have := HJ19.out; have := HJ31.out; have := HJ39.out; have := HJ49.out; have := HK6.out; omega
                         case rel => exact ⟨(wrap64 (x33_6 + t891)), (wrap64 (x34_6 + 1)), ea_, ea_, H', ⟨by have := HJ6.out; have := HJ19.out; have := HJ31.out; have := HJ39.out; have := HJ49.out; have := HK6.out; omega⟩, ⟨by (with_reducible repeat (first | apply Kd.R_alloc | apply Kd.R_drewN | apply Kd.R_drew)); exact HO_4.out⟩, ⟨by (with_reducible repeat (first | apply Kd.R_alloc | apply Kd.R_drewN | apply Kd.R_drew)); exact HO_5.out⟩, ⟨by (with_reducible repeat (first | apply Kd.R_alloc | apply Kd.R_drewN | apply Kd.R_drew)); exact HO_10.out⟩, ⟨by (with_reducible repeat (first | apply Kd.R_alloc | apply Kd.R_drewN | apply Kd.R_drew)); exact HO_11.out⟩, ⟨by repeat (first | (with_reducible first | exact HB.out | apply below_alloc | apply pw_below_drewN | apply below_drew1) | exact HB.out)⟩⟩
                       ·
                        rw [if_neg c65] at H
                        have c65b0 : (t892 == 0) = false := beq_eq_false_iff_ne.mpr c65
                        have c65b1 : (t892 != 0) = true := bne_iff_ne.mpr c65
                        obtain rfl := Option.some.inj H
                        obtain ⟨Ao71, co71, eo71⟩ := Kd.R_slice HO_11.out
                        subst eo71
                        have p890 : 0 ≤ (x34_6 : Int) := of_decide_eq_true (by first | (with_reducible assumption) | assumption)
                        have q890 : x34_6 < (t854.length : Int) := of_decide_eq_true (by first | (with_reducible assumption) | assumption)
                        obtain ⟨ad890, e890, hx890_0⟩ := Kd.at_int (Kd.R_reads' HO_11.out).2.2 x34_6 p890 q890
                        cases e890
                        replace p890 := eq_true p890
                        replace q890 := eq_true q890
                        go_wp2_with (first | ((with_reducible refine gate_callee (f := 27) rfl ?_); refine goesM_ (some 192) rfl rfl Try.func27 #[.int .i64 t850, .slice Ao22 t851.length co22, .int .i64 (rd t854 x34_6)] rfl ?_; (with_reducible refine (impl_MultiplicityOf.calls k6 t850 _ _ t851 (rd t854 x34_6) t891 t892 _ ?side1 ?side2 A64.out).mono ?_); (case side1 => exact cs ((Kd.R_reads' HO_10.out).2.2)); (case side2 => exact (Kd.R_reads' HO_10.out).2.1); rintro e w72 ⟨rfl, hb⟩; refine ⟨_, rfl, ?_⟩; have n0_ := Aside0.mk (Kd.R_below (rs HO_4) hb); have n1_ := Aside0.mk (Kd.R_below (rs HO_5) hb); have n2_ := Aside0.mk (Kd.R_below (rs HO_10) hb); have n3_ := Aside0.mk (Kd.R_below (rs HO_11) hb); have n4_ := Aside0.mk (below_step (bs HB) hb); clear HO_4; clear HO_5; clear HO_10; clear HO_11; clear HB; have HO_4 := n0_; have HO_5 := n1_; have HO_10 := n2_; have HO_11 := n3_; have HB := n4_; clear n0_ n1_ n2_ n3_ n4_; (try clear hb); (try clear hb2); (try clear hk); (try clear hi)))
                        go_ret
                        exact ⟨by first | rfl | (simp [errW_none, errW_some] <;> rfl) | (simp [*, errW_none, errW_some] <;> rfl), by repeat (first | (with_reducible first | exact HB.out | apply below_alloc | apply pw_below_drewN | apply below_drew1) | exact HB.out)⟩
                      ·
                       rw [if_neg c63] at H
                       exact absurd H (by simp)
                     ·
                      rw [if_neg c62] at H
                      have c62b0 : decide (x34_6 < (t854.length : Int)) = false := decide_eq_false c62
                      clear c62
                      by_cases c73 : t864 = 0
                      ·
                       rw [if_pos c73] at H
                       have c73b0 : (t864 == 0) = true := beq_iff_eq.mpr c73
                       have c73b1 : (t864 != 0) = false := bne_eq_false_iff_eq.mpr c73
                       clear c73
                       by_cases c74 : (t863 != (x33_6 == (wrap64 ((t851.length : Int) - 1)))) = true
                       ·
                        rw [if_pos c74] at H
                        have c74b0 : (t863 != (x33_6 == (wrap64 ((t851.length : Int) - 1)))) = true := c74
                        (try (have c74b1 : decide (t863 = (x33_6 == (wrap64 ((t851.length : Int) - 1)))) = false := by simpa using c74))
                        (try (have c74b2 : (t863 == (x33_6 == (wrap64 ((t851.length : Int) - 1)))) = false := by simpa using c74))
                        (try (have c74b3 : ¬ (t863 = (x33_6 == (wrap64 ((t851.length : Int) - 1)))) := by simpa using c74))
                        clear c74
                        obtain rfl := Option.some.inj H
                        obtain ⟨Ao75, co75, eo75⟩ := Kd.R_slice HO_11.out
                        subst eo75
                        go_wp2
                        go_ret
                        exact ⟨by first | rfl | (simp [errW_none, errW_some] <;> rfl) | (simp [*, errW_none, errW_some] <;> rfl), by repeat (first | (with_reducible first | exact HB.out | apply below_alloc | apply pw_below_drewN | apply below_drew1) | exact HB.out)⟩
                       ·
                        rw [if_neg c74] at H
                        have c74b0 : (t863 != (x33_6 == (wrap64 ((t851.length : Int) - 1)))) = false := by simpa using c74
                        (try (have c74b1 : decide (t863 = (x33_6 == (wrap64 ((t851.length : Int) - 1)))) = true := by simpa using c74))
                        (try (have c74b2 : (t863 == (x33_6 == (wrap64 ((t851.length : Int) - 1)))) = true := by simpa using c74))
                        clear c74
                        have H' := Aside0.mk H
                        clear H
                        obtain ⟨Ao76, co76, eo76⟩ := Kd.R_slice HO_11.out
                        subst eo76
                        go_wp2
                        go_meet
                        case rel => exact ⟨_, H', ⟨by have := HJ6.out; have := HJ19.out; have := HJ31.out; have := HJ39.out; have := HJ49.out; have := HK6.out; first | omega | exact Nat.le_refl _⟩, ⟨by (with_reducible repeat (first | apply Kd.R_alloc | apply Kd.R_drewN | apply Kd.R_drew)); exact Kd.R_mono HO_4.out (fun _ hk => hk.1)⟩, ⟨by (with_reducible repeat (first | apply Kd.R_alloc | apply Kd.R_drewN | apply Kd.R_drew)); exact Kd.R_mono HO_5.out (fun _ hk => hk.1)⟩, ⟨by repeat (first | (with_reducible first | exact HB.out | apply below_alloc | apply pw_below_drewN | apply below_drew1) | exact HB.out)⟩⟩
                      ·
                       rw [if_neg c73] at H
                       have c73b0 : (t864 == 0) = false := beq_eq_false_iff_ne.mpr c73
                       have c73b1 : (t864 != 0) = true := bne_iff_ne.mpr c73
                       obtain rfl := Option.some.inj H
                       obtain ⟨Ao77, co77, eo77⟩ := Kd.R_slice HO_11.out
                       subst eo77
                       go_wp2
                       go_ret
                       exact ⟨by first | rfl | (simp [errW_none, errW_some] <;> rfl) | (simp [*, errW_none, errW_some] <;> rfl), by repeat (first | (with_reducible first | exact HB.out | apply below_alloc | apply pw_below_drewN | apply below_drew1) | exact HB.out)⟩
                  ·
                   rw [if_neg c61] at H
                   have c61b0 : (t855 == 0) = false := beq_eq_false_iff_ne.mpr c61
                   have c61b1 : (t855 != 0) = true := bne_iff_ne.mpr c61
                   (first | rw [c61b0] | (simp only [i64_w, i32_w]; rw [c61b0]) | skip)
                   have H' := Aside0.mk H
                   clear H
                   go_wp2
                   go_meet
                   case rel => exact ⟨_, H', ⟨by have := HJ6.out; have := HJ19.out; have := HJ31.out; have := HJ39.out; have := HJ49.out; first | omega | exact Nat.le_refl _⟩, ⟨by (with_reducible repeat (first | apply Kd.R_alloc | apply Kd.R_drewN | apply Kd.R_drew)); exact Kd.R_mono HO_4.out (fun _ hk => hk.1)⟩, ⟨by (with_reducible repeat (first | apply Kd.R_alloc | apply Kd.R_drewN | apply Kd.R_drew)); exact Kd.R_mono HO_5.out (fun _ hk => hk.1)⟩, ⟨by repeat (first | (with_reducible first | exact HB.out | apply below_alloc | apply pw_below_drewN | apply below_drew1) | exact HB.out)⟩⟩
                 case rest => as_aux_lemma =>
                  clear HC60
                  try clear c1
                  try clear c2
                  try clear p2
                  try clear c3
                  try clear c4
                  try clear c5
                  try clear c6
                  try clear p6
                  try clear c7
                  try clear p8
                  try clear q8
                  try clear hx8
                  try clear c12
                  try clear c12b0
                  try clear c12b1
                  try clear c16
                  try clear c17
                  try clear c19
                  try clear c20
                  try clear c21
                  try clear c22
                  try clear c23
                  try clear c24
                  try clear c25
                  try clear c25b0
                  try clear c25b1
                  try clear c26
                  try clear c27
                  try clear c28
                  try clear c29
                  try clear c30
                  try clear c31
                  try clear c35
                  try clear c35b0
                  try clear c35b1
                  try clear c36
                  try clear c45
                  try clear c45b0
                  try clear c45b1
                  try clear c46
                  try clear c55
                  try clear c55b0
                  try clear c55b1
                  try clear c59
                  try clear c61
                  try clear c61b0
                  try clear c61b1
                  try clear c62
                  try clear c62b0
                  try clear c63
                  try clear c63b0
                  try clear p64
                  try clear c65
                  try clear c65b0
                  try clear c65b1
                  try clear c66
                  try clear c66b0
                  try clear c73
                  try clear c73b0
                  try clear c73b1
                  try clear c74
                  try clear c74b0
                  try clear c74b1
                  try clear c74b2
                  try clear hx890_0
                  try clear p2
                  try clear p890
                  try clear q890
                  obtain ⟨kq, HA, HJ59, HO_4, HO_5, HB⟩ := hcut
                  cases kq with
                  | zero => exact absurd HA.out (by simp [laws_FnRootLists.j6])
                  | succ kj59 =>
                   have H := HA.out
                   clear HA
                   simp only [laws_FnRootLists.j6] at H
                   by_cases c78 : t842 = 0
                   ·
                    rw [if_pos c78] at H
                    have c78b0 : (t842 == 0) = true := beq_iff_eq.mpr c78
                    have c78b1 : (t842 != 0) = false := bne_eq_false_iff_eq.mpr c78
                    clear c78
                    replace H := Option.bind_eq_some_iff.mp H
                    obtain ⟨⟨t893, t894⟩, A790, H⟩ := H
                    have A79 := Aside0.mk A790
                    clear A790
                    have HC80 := Aside0.mk H
                    clear H
                    obtain ⟨Ao81, co81, eo81⟩ := Kd.R_slice HO_5.out
                    subst eo81
                    go_upto_region 41 with (first | ((with_reducible refine gate_callee (f := 24) rfl ?_); refine goesM_ (some 223) rfl rfl Try.func24 #[.int .i64 t837, .slice Ao81 t841.length co81] rfl ?_; (with_reducible refine (impl_DoesSplit.calls kj59 t837 _ _ t841 t893 t894 _ ?side1 ?side2 A79.out).mono ?_); (case side1 => exact cs ((Kd.R_reads' HO_5.out).2.2)); (case side2 => exact (Kd.R_reads' HO_5.out).2.1); rintro e w82 ⟨rfl, hb⟩; refine ⟨_, rfl, ?_⟩; have n0_ := Aside0.mk (Kd.R_below (rs HO_4) hb); have n1_ := Aside0.mk (Kd.R_below (rs HO_5) hb); have n2_ := Aside0.mk (below_step (bs HB) hb); clear HO_4; clear HO_5; clear HB; have HO_4 := n0_; have HO_5 := n1_; have HB := n2_; clear n0_ n1_ n2_; (try clear hb); (try clear hb2); (try clear hk); (try clear hi)))
                    (try simp only [Act.put, List.setIfInBounds_toArray, List.set_cons_zero, List.set_cons_succ])
                    go_cut [239] from 215 to 225 (fun v239 wc => ∃ (kq : Nat) (x239_79 : Bool), v239 = .bool x239_79 ∧ Aside0 (laws_FnRootLists.j7 kq t837 t838 t841 x239_79 = some r) ∧ Aside0 (kq ≤ kj59) ∧ Aside0 (Kd.R (Kd.int .i64) 2 wc w.heap.size (fun k_ => some k_ ≠ ((.slice Ao81 t841.length co81) : Value).ownBlock) (.slice Ao9 t838.length co9) t838) ∧ Aside0 (Kd.R (Kd.int .i64) 2 wc w.heap.size (fun k_ => some k_ ≠ ((.slice Ao9 t838.length co9) : Value).ownBlock) (.slice Ao81 t841.length co81) t841) ∧ Aside0 (Below w.heap.size w wc))
                    case first =>
                     have H := HC80.out
                     clear HC80
                     by_cases c83 : t894 = 0
                     ·
                      rw [if_pos c83] at H
                      have c83b0 : (t894 == 0) = true := beq_iff_eq.mpr c83
                      have c83b1 : (t894 != 0) = false := bne_eq_false_iff_eq.mpr c83
                      clear c83
                      (first | rw [c83b0] | (simp only [i64_w, i32_w]; rw [c83b0]) | skip)
                      by_cases c84 : t893 = true
                      ·
                       subst c84
                       have H1 : (laws_FnRootLists.j7 kj59 t837 t838 t841 ((t841.length : Int) != (wrap64 ((t838.length : Int) + 1)))) = some r := by rw [if_pos rfl] at H; exact H
                       clear H
                       have H := H1
                       clear H1
                       have H' := Aside0.mk H
                       clear H
                       go_wp2
                       go_meet
                       case rel => exact ⟨_, (((t841.length : Int) != (wrap64 ((t838.length : Int) + 1)))), ea_, H', ⟨by have := HJ6.out; have := HJ19.out; have := HJ31.out; have := HJ39.out; have := HJ49.out; have := HJ59.out; first | omega | exact Nat.le_refl _⟩, ⟨by (with_reducible repeat (first | apply Kd.R_alloc | apply Kd.R_drewN | apply Kd.R_drew)); exact HO_4.out⟩, ⟨by (with_reducible repeat (first | apply Kd.R_alloc | apply Kd.R_drewN | apply Kd.R_drew)); exact HO_5.out⟩, ⟨by repeat (first | (with_reducible first | exact HB.out | apply below_alloc | apply pw_below_drewN | apply below_drew1) | exact HB.out)⟩⟩
                      ·
                       replace c84 := Bool.eq_false_iff.mpr c84
                       subst c84
                       have H1 : (laws_FnRootLists.j7 kj59 t837 t838 t841 true) = some r := by rw [if_neg (show ¬ (false = true) by decide)] at H; exact H
                       clear H
                       have H := H1
                       clear H1
                       have H' := Aside0.mk H
                       clear H
                       go_wp2
                       go_meet
                       case rel => exact ⟨_, (true), ea_, H', ⟨by have := HJ6.out; have := HJ19.out; have := HJ31.out; have := HJ39.out; have := HJ49.out; have := HJ59.out; first | omega | exact Nat.le_refl _⟩, ⟨by (with_reducible repeat (first | apply Kd.R_alloc | apply Kd.R_drewN | apply Kd.R_drew)); exact HO_4.out⟩, ⟨by (with_reducible repeat (first | apply Kd.R_alloc | apply Kd.R_drewN | apply Kd.R_drew)); exact HO_5.out⟩, ⟨by repeat (first | (with_reducible first | exact HB.out | apply below_alloc | apply pw_below_drewN | apply below_drew1) | exact HB.out)⟩⟩
                     ·
                      rw [if_neg c83] at H
                      have c83b0 : (t894 == 0) = false := beq_eq_false_iff_ne.mpr c83
                      have c83b1 : (t894 != 0) = true := bne_iff_ne.mpr c83
                      (first | rw [c83b0] | (simp only [i64_w, i32_w]; rw [c83b0]) | skip)
                      have H' := Aside0.mk H
                      clear H
                      go_wp2
                      go_meet
                      case rel => exact ⟨_, (true), ea_, H', ⟨by have := HJ6.out; have := HJ19.out; have := HJ31.out; have := HJ39.out; have := HJ49.out; have := HJ59.out; first | omega | exact Nat.le_refl _⟩, ⟨by (with_reducible repeat (first | apply Kd.R_alloc | apply Kd.R_drewN | apply Kd.R_drew)); exact HO_4.out⟩, ⟨by (with_reducible repeat (first | apply Kd.R_alloc | apply Kd.R_drewN | apply Kd.R_drew)); exact HO_5.out⟩, ⟨by repeat (first | (with_reducible first | exact HB.out | apply below_alloc | apply pw_below_drewN | apply below_drew1) | exact HB.out)⟩⟩
                    case rest => as_aux_lemma =>
                     clear HC80
                     try clear c1
                     try clear c2
                     try clear p2
                     try clear c3
                     try clear c4
                     try clear c5
                     try clear c6
                     try clear p6
                     try clear c7
                     try clear c8
                     try clear p8
                     try clear q8
                     try clear hx8
                     try clear c12
                     try clear c12b0
                     try clear c12b1
                     try clear c16
                     try clear c17
                     try clear c19
                     try clear c20
                     try clear c21
                     try clear c22
                     try clear c23
                     try clear c24
                     try clear c25
                     try clear c25b0
                     try clear c25b1
                     try clear c26
                     try clear c27
                     try clear c28
                     try clear c29
                     try clear c30
                     try clear c31
                     try clear c35
                     try clear c35b0
                     try clear c35b1
                     try clear c36
                     try clear c45
                     try clear c45b0
                     try clear c45b1
                     try clear c46
                     try clear c55
                     try clear c55b0
                     try clear c55b1
                     try clear c59
                     try clear c61
                     try clear c61b0
                     try clear c61b1
                     try clear c62
                     try clear c62b0
                     try clear c63
                     try clear c63b0
                     try clear p64
                     try clear c65
                     try clear c65b0
                     try clear c65b1
                     try clear c66
                     try clear c66b0
                     try clear c73
                     try clear c73b0
                     try clear c73b1
                     try clear c74
                     try clear c74b0
                     try clear c74b1
                     try clear c74b2
                     try clear c78
                     try clear c78b0
                     try clear c78b1
                     try clear c83
                     try clear c83b0
                     try clear c83b1
                     try clear c84
                     try clear hx890_0
                     try clear p2
                     try clear p6
                     try clear p64
                     try clear p8
                     try clear p890
                     try clear q8
                     try clear q890
                     obtain ⟨kq, x239_79, rfl, HA, HJ79, HO_4, HO_5, HB⟩ := hcut
                     cases kq with
                     | zero => exact absurd HA.out (by simp [laws_FnRootLists.j7])
                     | succ kj79 =>
                      have H := HA.out
                      clear HA
                      simp only [laws_FnRootLists.j7] at H
                      by_cases c85 : x239_79 = true
                      ·
                       subst c85
                       have H1 : (some false) = some r := by rw [if_pos rfl] at H; exact H
                       clear H
                       have H := H1
                       clear H1
                       obtain rfl := Option.some.inj H
                       go_wp2
                       go_ret
                       exact ⟨by first | rfl | (simp [errW_none, errW_some] <;> rfl) | (simp [*, errW_none, errW_some] <;> rfl), by repeat (first | (with_reducible first | exact HB.out | apply below_alloc | apply pw_below_drewN | apply below_drew1) | exact HB.out)⟩
                      ·
                       replace c85 := Bool.eq_false_iff.mpr c85
                       subst c85
                       have H1 : ((impl_PowerSums.f kj79 t837 t841 4).bind fun bt895 => (if bt895.2 = 0 then (laws_FnRootLists.l1 kj79 t837 t838 bt895.1 0) else (some false))) = some r := by rw [if_neg (show ¬ (false = true) by decide)] at H; exact H
                       clear H
                       have H := H1
                       clear H1
                       replace H := Option.bind_eq_some_iff.mp H
                       obtain ⟨⟨t895, t896⟩, A860, H⟩ := H
                       have A86 := Aside0.mk A860
                       clear A860
                       by_cases c87 : t896 = 0
                       ·
                        rw [if_pos c87] at H
                        have c87b0 : (t896 == 0) = true := beq_iff_eq.mpr c87
                        have c87b1 : (t896 != 0) = false := bne_eq_false_iff_eq.mpr c87
                        clear c87
                        have H' := Aside0.mk H
                        clear H
                        go_wp2_with (first | ((with_reducible refine gate_callee (f := 30) rfl ?_); refine goesM_ (some 243) rfl rfl Try.func30 #[.int .i64 t837, .slice Ao81 t841.length co81, .int .i64 4] rfl ?_; (with_reducible refine (impl_PowerSums.calls kj79 t837 _ _ t841 4 t895 t896 _ ?side1 ?side2 A86.out).mono ?_); (case side1 => exact cs ((Kd.R_reads' HO_5.out).2.2)); (case side2 => exact (Kd.R_reads' HO_5.out).2.1); rintro e w88 ⟨v897, rfl, ho0, hb⟩; refine ⟨_, rfl, ?_⟩; have n0_ := Aside0.mk (Kd.R_elder' (rs HO_4) (Kd.R_base ho0) hb); have n1_ := Aside0.mk (Kd.R_elder' (rs HO_5) (Kd.R_base ho0) hb); have n2_ := Aside0.mk (Kd.R_lower (Kd.R_new' (Kd.R_new' ho0 (Kd.R_lt (rs HO_4))) (Kd.R_lt (rs HO_5))) (below_size (bs HB))); have n3_ := Aside0.mk (below_step (bs HB) hb); clear HO_4; clear HO_5; clear HB; have HO_4 := n0_; have HO_5 := n1_; have HO898 := n2_; have HB := n3_; clear n0_ n1_ n2_ n3_; (try clear hb); (try clear hb2); (try clear hk); (try clear hi); (try clear ho0)))
                        go_loopg [41] kj79 (fun kq v41 w' => ∃ (x41_8 : Int), v41 = .int .i64 x41_8 ∧ Aside0 (laws_FnRootLists.l1 kq t837 t838 t895 x41_8 = some r) ∧ Aside0 (kq ≤ kj79) ∧ Aside0 (Kd.R (Kd.int .i64) 2 w' w.heap.size (fun k_ => some k_ ≠ (v897 : Value).ownBlock) (.slice Ao9 t838.length co9) t838) ∧ Aside0 (Kd.R (Kd.int .i64) 2 w' w.heap.size (fun k_ => some k_ ≠ ((.slice Ao9 t838.length co9) : Value).ownBlock) v897 t895) ∧ Aside0 (Below w.heap.size w w'))
                        case atStart => exact ⟨(0), ea_, H', ⟨Nat.le_refl _⟩, ⟨by (with_reducible repeat (first | apply Kd.R_alloc | apply Kd.R_drewN | apply Kd.R_drew)); exact Kd.R_mono HO_4.out (fun _ hk => hk.2)⟩, ⟨by (with_reducible repeat (first | apply Kd.R_alloc | apply Kd.R_drewN | apply Kd.R_drew)); exact Kd.R_mono HO898.out (fun _ hk => hk.1.2)⟩, ⟨by repeat (first | (with_reducible first | exact HB.out | apply below_alloc | apply pw_below_drewN | apply below_drew1) | exact HB.out)⟩⟩
                        case round =>
                         clear H'
                         try clear c1
                         try clear c2
                         try clear p2
                         try clear c3
                         try clear c4
                         try clear c5
                         try clear c6
                         try clear p6
                         try clear c7
                         try clear c8
                         try clear p8
                         try clear q8
                         try clear hx8
                         try clear c12
                         try clear c12b0
                         try clear c12b1
                         try clear c16
                         try clear c17
                         try clear c19
                         try clear c20
                         try clear c21
                         try clear c22
                         try clear c23
                         try clear c24
                         try clear c25
                         try clear c25b0
                         try clear c25b1
                         try clear c26
                         try clear c27
                         try clear c28
                         try clear c29
                         try clear c30
                         try clear c31
                         try clear c35
                         try clear c35b0
                         try clear c35b1
                         try clear c36
                         try clear c45
                         try clear c45b0
                         try clear c45b1
                         try clear c46
                         try clear c55
                         try clear c55b0
                         try clear c55b1
                         try clear c59
                         try clear c61
                         try clear c61b0
                         try clear c61b1
                         try clear c62
                         try clear c62b0
                         try clear c63
                         try clear c63b0
                         try clear p64
                         try clear c65
                         try clear c65b0
                         try clear c65b1
                         try clear c66
                         try clear c66b0
                         try clear c73
                         try clear c73b0
                         try clear c73b1
                         try clear c74
                         try clear c74b0
                         try clear c74b1
                         try clear c74b2
                         try clear c78
                         try clear c78b0
                         try clear c78b1
                         try clear c83
                         try clear c83b0
                         try clear c83b1
                         try clear c84
                         try clear c85
                         try clear c87
                         try clear c87b0
                         try clear c87b1
                         try clear hx890_0
                         try clear p2
                         try clear p6
                         try clear p64
                         try clear p8
                         try clear p890
                         try clear q8
                         try clear q890
                         obtain ⟨x41_8, rfl, HA, HK8, HO_4, HO_39, HB⟩ := hrel
                         cases gk with
                         | zero => exact absurd HA.out (by simp [laws_FnRootLists.l1])
                         | succ k8 =>
                          have H := HA.out
                          clear HA
                          simp only [laws_FnRootLists.l1] at H
                          by_cases c89 : x41_8 ≤ 4
                          ·
                           rw [if_pos c89] at H
                           have c89b0 : decide (x41_8 ≤ 4) = true := decide_eq_true c89
                           clear c89
                           have H' := Aside0.mk H
                           clear H
                           go_wp2
                           go_loopg [42, 43] k8 (fun kq v42 v43 w' => ∃ (x42_9 : Int) (x43_9 : Int), v42 = .int .i64 x42_9 ∧ v43 = .int .i64 x43_9 ∧ Aside0 (laws_FnRootLists.l2 kq t837 t838 t895 x41_8 x42_9 x43_9 = some r) ∧ Aside0 (kq ≤ k8) ∧ Aside0 (Kd.R (Kd.int .i64) 2 w' w.heap.size (fun k_ => some k_ ≠ (v897 : Value).ownBlock) (.slice Ao9 t838.length co9) t838) ∧ Aside0 (Kd.R (Kd.int .i64) 2 w' w.heap.size (fun k_ => some k_ ≠ ((.slice Ao9 t838.length co9) : Value).ownBlock) v897 t895) ∧ Aside0 (Below w.heap.size w w'))
                           case atStart => exact ⟨(0), (0), ea_, ea_, H', ⟨Nat.le_refl _⟩, ⟨by (with_reducible repeat (first | apply Kd.R_alloc | apply Kd.R_drewN | apply Kd.R_drew)); exact HO_4.out⟩, ⟨by (with_reducible repeat (first | apply Kd.R_alloc | apply Kd.R_drewN | apply Kd.R_drew)); exact HO_39.out⟩, ⟨by repeat (first | (with_reducible first | exact HB.out | apply below_alloc | apply pw_below_drewN | apply below_drew1) | exact HB.out)⟩⟩
                           case round =>
                            clear H'
                            try clear c1
                            try clear c2
                            try clear p2
                            try clear c3
                            try clear c4
                            try clear c5
                            try clear c6
                            try clear p6
                            try clear c7
                            try clear c8
                            try clear p8
                            try clear q8
                            try clear hx8
                            try clear c12
                            try clear c12b0
                            try clear c12b1
                            try clear c16
                            try clear c17
                            try clear c19
                            try clear c20
                            try clear c21
                            try clear c22
                            try clear c23
                            try clear c24
                            try clear c25
                            try clear c25b0
                            try clear c25b1
                            try clear c26
                            try clear c27
                            try clear c28
                            try clear c29
                            try clear c30
                            try clear c31
                            try clear c35
                            try clear c35b0
                            try clear c35b1
                            try clear c36
                            try clear c45
                            try clear c45b0
                            try clear c45b1
                            try clear c46
                            try clear c55
                            try clear c55b0
                            try clear c55b1
                            try clear c59
                            try clear c61
                            try clear c61b0
                            try clear c61b1
                            try clear c62
                            try clear c62b0
                            try clear c63
                            try clear c63b0
                            try clear p64
                            try clear c65
                            try clear c65b0
                            try clear c65b1
                            try clear c66
                            try clear c66b0
                            try clear c73
                            try clear c73b0
                            try clear c73b1
                            try clear c74
                            try clear c74b0
                            try clear c74b1
                            try clear c74b2
                            try clear c78
                            try clear c78b0
                            try clear c78b1
                            try clear c83
                            try clear c83b0
                            try clear c83b1
                            try clear c84
                            try clear c85
                            try clear c87
                            try clear c87b0
                            try clear c87b1
                            try clear c89
                            try clear c89b0
                            try clear p89
                            try clear q89
                            try clear hx89
                            try clear hx890_0
                            try clear p2
                            try clear p6
                            try clear p64
                            try clear p8
                            try clear p890
                            try clear q8
                            try clear q890
                            obtain ⟨x42_9, x43_9, rfl, rfl, HA, HK9, HO_4, HO_39, HB⟩ := hrel
                            cases gk with
                            | zero => exact absurd HA.out (by simp [laws_FnRootLists.l2])
                            | succ k9 =>
                             have H := HA.out
                             clear HA
                             simp only [laws_FnRootLists.l2] at H
                             by_cases c90 : x43_9 < (t838.length : Int)
                             ·
                              rw [if_pos c90] at H
                              have c90b0 : decide (x43_9 < (t838.length : Int)) = true := decide_eq_true c90
                              clear c90
                              have H' := Aside0.mk H
                              clear H
                              go_wp2
                              go_loopg [44, 45] k9 (fun kq v44 v45 w' => ∃ (x44_10 : Int) (x45_10 : Int), v44 = .int .i64 x44_10 ∧ v45 = .int .i64 x45_10 ∧ Aside0 (laws_FnRootLists.l3 kq t837 t838 t895 x41_8 x42_9 x43_9 x44_10 x45_10 = some r) ∧ Aside0 (kq ≤ k9) ∧ Aside0 (Kd.R (Kd.int .i64) 2 w' w.heap.size (fun k_ => some k_ ≠ (v897 : Value).ownBlock) (.slice Ao9 t838.length co9) t838) ∧ Aside0 (Kd.R (Kd.int .i64) 2 w' w.heap.size (fun k_ => some k_ ≠ ((.slice Ao9 t838.length co9) : Value).ownBlock) v897 t895) ∧ Aside0 (Below w.heap.size w w'))
                              case atStart => exact ⟨(1), (0), ea_, ea_, H', ⟨Nat.le_refl _⟩, ⟨by (with_reducible repeat (first | apply Kd.R_alloc | apply Kd.R_drewN | apply Kd.R_drew)); exact HO_4.out⟩, ⟨by (with_reducible repeat (first | apply Kd.R_alloc | apply Kd.R_drewN | apply Kd.R_drew)); exact HO_39.out⟩, ⟨by repeat (first | (with_reducible first | exact HB.out | apply below_alloc | apply pw_below_drewN | apply below_drew1) | exact HB.out)⟩⟩
                              case round =>
                               clear H'
                               try clear c1
                               try clear c2
                               try clear p2
                               try clear c3
                               try clear c4
                               try clear c5
                               try clear c6
                               try clear p6
                               try clear c7
                               try clear c8
                               try clear p8
                               try clear q8
                               try clear hx8
                               try clear c9
                               try clear c12
                               try clear c12b0
                               try clear c12b1
                               try clear c16
                               try clear c17
                               try clear c19
                               try clear c20
                               try clear c21
                               try clear c22
                               try clear c23
                               try clear c24
                               try clear c25
                               try clear c25b0
                               try clear c25b1
                               try clear c26
                               try clear c27
                               try clear c28
                               try clear c29
                               try clear c30
                               try clear c31
                               try clear c35
                               try clear c35b0
                               try clear c35b1
                               try clear c36
                               try clear c45
                               try clear c45b0
                               try clear c45b1
                               try clear c46
                               try clear c55
                               try clear c55b0
                               try clear c55b1
                               try clear c59
                               try clear c61
                               try clear c61b0
                               try clear c61b1
                               try clear c62
                               try clear c62b0
                               try clear c63
                               try clear c63b0
                               try clear p64
                               try clear c65
                               try clear c65b0
                               try clear c65b1
                               try clear c66
                               try clear c66b0
                               try clear c73
                               try clear c73b0
                               try clear c73b1
                               try clear c74
                               try clear c74b0
                               try clear c74b1
                               try clear c74b2
                               try clear c78
                               try clear c78b0
                               try clear c78b1
                               try clear c83
                               try clear c83b0
                               try clear c83b1
                               try clear c84
                               try clear c85
                               try clear c87
                               try clear c87b0
                               try clear c87b1
                               try clear c89
                               try clear c89b0
                               try clear p89
                               try clear q89
                               try clear hx89
                               try clear c90
                               try clear c90b0
                               try clear hx890_0
                               try clear p2
                               try clear p6
                               try clear p64
                               try clear p8
                               try clear p89
                               try clear p890
                               try clear q8
                               try clear q89
                               try clear q890
                               obtain ⟨x44_10, x45_10, rfl, rfl, HA, HK10, HO_4, HO_39, HB⟩ := hrel
                               cases gk with
                               | zero => exact absurd HA.out (by simp [laws_FnRootLists.l3])
                               | succ k10 =>
                                have H := HA.out
                                clear HA
                                simp only [laws_FnRootLists.l3] at H
                                by_cases c91 : x45_10 < x41_8
                                ·
                                 rw [if_pos c91] at H
                                 have c91b0 : decide (x45_10 < x41_8) = true := decide_eq_true c91
                                 clear c91
                                 by_cases c92 : 0 ≤ x43_9
                                 ·
                                  rw [if_pos c92] at H
                                  have c92b0 : decide (0 ≤ x43_9) = true := decide_eq_true c92
                                  clear c92
                                  by_cases c93 : x43_9 < (t838.length : Int)
                                  ·
                                   rw [if_pos c93] at H
                                   have c93b0 : decide (x43_9 < (t838.length : Int)) = true := decide_eq_true c93
                                   clear c93
                                   by_cases c94 : t837 = 0
                                   ·
                                    rw [if_pos c94] at H
                                    exact absurd H (by simp)
                                   ·
                                    rw [if_neg c94] at H
                                    have c94b0 : (t837 == 0) = false := beq_eq_false_iff_ne.mpr c94
                                    have c94b1 : (t837 != 0) = true := bne_iff_ne.mpr c94
                                    have H' := Aside0.mk H
                                    clear H
                                    have p900 : 0 ≤ (x43_9 : Int) := of_decide_eq_true (by first | (with_reducible assumption) | assumption)
                                    have q900 : x43_9 < (t838.length : Int) := of_decide_eq_true (by first | (with_reducible assumption) | assumption)
                                    obtain ⟨ad900, e900, hx900_0⟩ := Kd.at_int (Kd.R_reads' HO_4.out).2.2 x43_9 p900 q900
                                    cases e900
                                    replace p900 := eq_true p900
                                    replace q900 := eq_true q900
                                    go_wp2
                                    go_roundg k10
                                    case measure => have := HJ6.out; have := HJ19.out; have := HJ31.out; have := HJ39.out; have := HJ49.out; have := HJ59.out; have := HJ79.out; have := HK8.out; have := HK9.out; have := HK10.out; omega
                                    case rel => exact ⟨(Int.tmod (wrap64 (x44_10 * (rd t838 x43_9))) t837), (wrap64 (x45_10 + 1)), ea_, ea_, H', ⟨by have := HJ6.out; have := HJ19.out; have := HJ31.out; have := HJ39.out; have := HJ49.out; have := HJ59.out; have := HJ79.out; have := HK8.out; have := HK9.out; have := HK10.out; omega⟩, ⟨by (with_reducible repeat (first | apply Kd.R_alloc | apply Kd.R_drewN | apply Kd.R_drew)); exact HO_4.out⟩, ⟨by (with_reducible repeat (first | apply Kd.R_alloc | apply Kd.R_drewN | apply Kd.R_drew)); exact HO_39.out⟩, ⟨by repeat (first | (with_reducible first | exact HB.out | apply below_alloc | apply pw_below_drewN | apply below_drew1) | exact HB.out)⟩⟩
                                  ·
                                   rw [if_neg c93] at H
                                   exact absurd H (by simp)
                                 ·
                                  rw [if_neg c92] at H
                                  exact absurd H (by simp)
                                ·
                                 rw [if_neg c91] at H
                                 have c91b0 : decide (x45_10 < x41_8) = false := decide_eq_false c91
                                 clear c91
                                 by_cases c95 : t837 = 0
                                 ·
                                  rw [if_pos c95] at H
                                  exact absurd H (by simp)
                                 ·
                                  rw [if_neg c95] at H
                                  have c95b0 : (t837 == 0) = false := beq_eq_false_iff_ne.mpr c95
                                  have c95b1 : (t837 != 0) = true := bne_iff_ne.mpr c95
                                  have H' := Aside0.mk H
                                  clear H
                                  go_wp2
                                  go_roundg k10
                                  case measure => have := HJ6.out; have := HJ19.out; have := HJ31.out; have := HJ39.out; have := HJ49.out; have := HJ59.out; have := HJ79.out; have := HK8.out; have := HK9.out; have := HK10.out; omega
                                  case rel => exact ⟨(Int.tmod (wrap64 (x42_9 + x44_10)) t837), (wrap64 (x43_9 + 1)), ea_, ea_, H', ⟨by have := HJ6.out; have := HJ19.out; have := HJ31.out; have := HJ39.out; have := HJ49.out; have := HJ59.out; have := HJ79.out; have := HK8.out; have := HK9.out; have := HK10.out; omega⟩, ⟨by (with_reducible repeat (first | apply Kd.R_alloc | apply Kd.R_drewN | apply Kd.R_drew)); exact HO_4.out⟩, ⟨by (with_reducible repeat (first | apply Kd.R_alloc | apply Kd.R_drewN | apply Kd.R_drew)); exact HO_39.out⟩, ⟨by repeat (first | (with_reducible first | exact HB.out | apply below_alloc | apply pw_below_drewN | apply below_drew1) | exact HB.out)⟩⟩
                             ·
                              rw [if_neg c90] at H
                              have c90b0 : decide (x43_9 < (t838.length : Int)) = false := decide_eq_false c90
                              clear c90
                              by_cases c96 : 0 ≤ x41_8
                              ·
                               rw [if_pos c96] at H
                               have c96b0 : decide (0 ≤ x41_8) = true := decide_eq_true c96
                               clear c96
                               by_cases c97 : x41_8 < (t895.length : Int)
                               ·
                                rw [if_pos c97] at H
                                have c97b0 : decide (x41_8 < (t895.length : Int)) = true := decide_eq_true c97
                                clear c97
                                by_cases c98 : x42_9 = (rd t895 x41_8)
                                ·
                                 rw [if_pos c98] at H
                                 have c98b0 : (x42_9 == (rd t895 x41_8)) = true := beq_iff_eq.mpr c98
                                 have c98b1 : (x42_9 != (rd t895 x41_8)) = false := bne_eq_false_iff_eq.mpr c98
                                 clear c98
                                 have H' := Aside0.mk H
                                 clear H
                                 obtain ⟨Ao99, co99, eo99⟩ := Kd.R_slice HO_39.out
                                 subst eo99
                                 have p899 : 0 ≤ (x41_8 : Int) := of_decide_eq_true (by first | (with_reducible assumption) | assumption)
                                 have q899 : x41_8 < (t895.length : Int) := of_decide_eq_true (by first | (with_reducible assumption) | assumption)
                                 obtain ⟨ad899, e899, hx899_0⟩ := Kd.at_int (Kd.R_reads' HO_39.out).2.2 x41_8 p899 q899
                                 cases e899
                                 replace p899 := eq_true p899
                                 replace q899 := eq_true q899
                                 go_wp2
                                 go_roundg k9
                                 case measure => have := HJ6.out; have := HJ19.out; have := HJ31.out; have := HJ39.out; have := HJ49.out; have := HJ59.out; have := HJ79.out; have := HK8.out; have := HK9.out; omega
                                 case rel => exact ⟨(wrap64 (x41_8 + 1)), ea_, H', ⟨by have := HJ6.out; have := HJ19.out; have := HJ31.out; have := HJ39.out; have := HJ49.out; have := HJ59.out; have := HJ79.out; have := HK8.out; have := HK9.out; omega⟩, ⟨by (with_reducible repeat (first | apply Kd.R_alloc | apply Kd.R_drewN | apply Kd.R_drew)); exact HO_4.out⟩, ⟨by (with_reducible repeat (first | apply Kd.R_alloc | apply Kd.R_drewN | apply Kd.R_drew)); exact HO_39.out⟩, ⟨by repeat (first | (with_reducible first | exact HB.out | apply below_alloc | apply pw_below_drewN | apply below_drew1) | exact HB.out)⟩⟩
                                ·
                                 rw [if_neg c98] at H
                                 have c98b0 : (x42_9 == (rd t895 x41_8)) = false := beq_eq_false_iff_ne.mpr c98
                                 have c98b1 : (x42_9 != (rd t895 x41_8)) = true := bne_iff_ne.mpr c98
                                 obtain rfl := Option.some.inj H
                                 obtain ⟨Ao100, co100, eo100⟩ := Kd.R_slice HO_39.out
                                 subst eo100
                                 have p899 : 0 ≤ (x41_8 : Int) := of_decide_eq_true (by first | (with_reducible assumption) | assumption)
                                 have q899 : x41_8 < (t895.length : Int) := of_decide_eq_true (by first | (with_reducible assumption) | assumption)
                                 obtain ⟨ad899, e899, hx899_0⟩ := Kd.at_int (Kd.R_reads' HO_39.out).2.2 x41_8 p899 q899
                                 cases e899
                                 replace p899 := eq_true p899
                                 replace q899 := eq_true q899
                                 go_wp2
                                 go_ret
                                 exact ⟨by first | rfl | (simp [errW_none, errW_some] <;> rfl) | (simp [*, errW_none, errW_some] <;> rfl), by repeat (first | (with_reducible first | exact HB.out | apply below_alloc | apply pw_below_drewN | apply below_drew1) | exact HB.out)⟩
                               ·
                                rw [if_neg c97] at H
                                exact absurd H (by simp)
                              ·
                               rw [if_neg c96] at H
                               exact absurd H (by simp)
                          ·
                           rw [if_neg c89] at H
                           have c89b0 : decide (x41_8 ≤ 4) = false := decide_eq_false c89
                           clear c89
                           obtain rfl := Option.some.inj H
                           go_wp2
                           go_ret
                           exact ⟨by first | rfl | (simp [errW_none, errW_some] <;> rfl) | (simp [*, errW_none, errW_some] <;> rfl), by repeat (first | (with_reducible first | exact HB.out | apply below_alloc | apply pw_below_drewN | apply below_drew1) | exact HB.out)⟩
                       ·
                        rw [if_neg c87] at H
                        have c87b0 : (t896 == 0) = false := beq_eq_false_iff_ne.mpr c87
                        have c87b1 : (t896 != 0) = true := bne_iff_ne.mpr c87
                        obtain rfl := Option.some.inj H
                        go_wp2_with (first | ((with_reducible refine gate_callee (f := 30) rfl ?_); refine goesM_ (some 243) rfl rfl Try.func30 #[.int .i64 t837, .slice Ao81 t841.length co81, .int .i64 4] rfl ?_; (with_reducible refine (impl_PowerSums.calls kj79 t837 _ _ t841 4 t895 t896 _ ?side1 ?side2 A86.out).mono ?_); (case side1 => exact cs ((Kd.R_reads' HO_5.out).2.2)); (case side2 => exact (Kd.R_reads' HO_5.out).2.1); rintro e w101 ⟨v897, rfl, ho0, hb⟩; refine ⟨_, rfl, ?_⟩; have n0_ := Aside0.mk (Kd.R_elder' (rs HO_4) (Kd.R_base ho0) hb); have n1_ := Aside0.mk (Kd.R_elder' (rs HO_5) (Kd.R_base ho0) hb); have n2_ := Aside0.mk (Kd.R_lower (Kd.R_new' (Kd.R_new' ho0 (Kd.R_lt (rs HO_4))) (Kd.R_lt (rs HO_5))) (below_size (bs HB))); have n3_ := Aside0.mk (below_step (bs HB) hb); clear HO_4; clear HO_5; clear HB; have HO_4 := n0_; have HO_5 := n1_; have HO898 := n2_; have HB := n3_; clear n0_ n1_ n2_ n3_; (try clear hb); (try clear hb2); (try clear hk); (try clear hi); (try clear ho0)))
                        go_ret
                        exact ⟨by first | rfl | (simp [errW_none, errW_some] <;> rfl) | (simp [*, errW_none, errW_some] <;> rfl), by repeat (first | (with_reducible first | exact HB.out | apply below_alloc | apply pw_below_drewN | apply below_drew1) | exact HB.out)⟩
                   ·
                    rw [if_neg c78] at H
                    have c78b0 : (t842 == 0) = false := beq_eq_false_iff_ne.mpr c78
                    have c78b1 : (t842 != 0) = true := bne_iff_ne.mpr c78
                    obtain rfl := Option.some.inj H
                    obtain ⟨Ao102, co102, eo102⟩ := Kd.R_slice HO_5.out
                    subst eo102
                    go_wp2
                    go_ret
                    exact ⟨by first | rfl | (simp [errW_none, errW_some] <;> rfl) | (simp [*, errW_none, errW_some] <;> rfl), by repeat (first | (with_reducible first | exact HB.out | apply below_alloc | apply pw_below_drewN | apply below_drew1) | exact HB.out)⟩
def laws_FnRootLists.Pure : Prop := ∀ (l0 : List Int), l0.length ≤ maxLen → l0.length * 1 ≤ 140737488351232 → (∀ x ∈ l0, (Lit.int .u8 x).wf = true) → ∃ k, laws_FnRootLists.f k l0 = some true
theorem laws_FnRootLists.walk (P : laws_FnRootLists.Pure) (a0 : Option Addr) (len0 cap0 : Nat) (z0 : List Int) (w : World) (w0 : (a0 = none ∧ len0 = 0 ∧ cap0 = 0 ∧ z0 = []) ∨ ∃ x, a0 = some x ∧ len0 ≤ cap0 ∧ cap0 ≤ maxLen ∧ z0.length = cap0 ∧ (∀ i, i < z0.length → w.cell? (x.add i) = some (.int .u8 (z0.getD i 0))) ∧ ∀ n ∈ z0, (Lit.int .u8 n).wf = true) (y0 : len0 * 1 ≤ 140737488351232) :
  Calls Try.prog 4 #[.slice a0 len0 cap0] w fun e w' => e = .returned (.bool true) ∧ Below w.heap.size w w' := by
 obtain ⟨l0, rfl, hr0, hm0, hw0, hc0⟩ := ReadsInt.ofRowC w0
 obtain ⟨k, h⟩ := P l0 hm0 y0 hw0
 refine (laws_FnRootLists.calls k _ _ l0 true w (Kd.C_of_reads (d := (0 : Int)) (h1 := fun _ => rfl) hr0) hc0 h).mono ?_
 rintro e w' ⟨rfl, hd⟩
 exact ⟨rfl, hd⟩
end Go.Proofs.Ythiignohbooelaa.H
