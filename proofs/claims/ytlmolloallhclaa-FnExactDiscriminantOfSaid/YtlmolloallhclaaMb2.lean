/- Joined texts of a claim: the printed functions and what is proved of them. -/
import Derived.Test.YtlmolloallhclaaYHx0
import Derived.Test.YtlmolloallhclaaMb1
import Derived.Test.YtlmolloallhclaaMab3
import Derived.Test.YtlmolloallhclaaMab5
import Derived.Test.YtlmolloallhclaaMab1
import Derived.Test.YtlmolloallhclaaMab9
import Derived.Test.YtlmolloallhclaaMab2
import Derived.Test.YtlmolloallhclaaMab10
namespace Go.Proofs.Ytlmolloallhclaa.H
open Go.RowKit Go.Proofs.YtlmolloallhclaaW.PrintWords Go.Proofs.YtlmolloallhclaaW.PrintLast Go.Proofs.YtlmolloallhclaaW.PrintMore
attribute [local go_sem] max2_int min2_int max_two min_two max_three min_three max_four min_four   -- for this text's walks alone
set_option linter.unusedVariables false
set_option linter.unusedSimpArgs false
noncomputable section
noncomputable def impl_DiscriminantOf.f (k : Nat) (a0 : Int) (l1 : List Int) : Option (Int × Int) := (impl_filledCode_1.f k a0 true l1).bind fun t440 => (if t440 = 0 then ((impl_degree.f l1).bind fun t441 => (if t441 = 0 then (some (0, 5)) else (if 0 ≤ t441 then (if (t441 : Int).toNat ≤ 35184372088832 then ((impl_field_derivative.f k a0 l1).bind fun t445 => (if t445.length ≤ (t441 : Int).toNat then ((impl_reversed.f k l1).bind fun t448 => ((impl_reversed.f k (cpInto (List.replicate (t441 : Int).toNat 0) t445)).bind fun t451 => ((impl_field_sylvester.f a0 t448 t451).bind fun t454 => (if t441 < (l1.length : Int) then ((impl_field_div.f k a0 t454 (rd l1 t441)).bind fun t456 => (if (Int.tmod (wrap64 (Int.tdiv (wrap64 (t441 * (wrap64 (t441 - 1)))) 2)) 2) = 1 then ((impl_field_mod.f a0 (wrap64 (-t456))).bind fun t457 => (some (t457, 0))) else (some (t456, 0)))) else (none))))) else (none))) else (none)) else (none)))) else (some (0, t440)))
def impl_DiscriminantOf.T10 : Bool × List (List Nat × List Nat) := (true, [([], []), ([], []), ([], []), ([2], [2]), ([], []), ([4, 3], [4]), ([1, 3, 5, 5], [1, 3, 5]), ([], []), ([], []), ([7, 8], [7, 8]), ([9], [9]), ([0, 6, 10, 6], [0, 6, 10]), ([11, 11, 0, 1, 2, 3, 4, 5, 6, 7, 8, 9, 10, 11], [11])])
def impl_DiscriminantOf.B10 : List Nat := [0, 0, 0, 4, 0, 28, 62, 0, 0, 384, 896, 2047, 4095]
theorem impl_DiscriminantOf.tab10 : rtab .any (opsOf Try.f24 10) = impl_DiscriminantOf.T10 := by kernel_rfl
theorem impl_DiscriminantOf.bits10 : waitsOk impl_DiscriminantOf.T10.2 impl_DiscriminantOf.B10 = true := by kernel_rfl
set_option maxHeartbeats 8000000 in
set_option maxRecDepth 100000 in
theorem impl_DiscriminantOf.calls (k : Nat) (a0 : Int) (A1 : Option Addr) (c1 : Nat) (l1 : List Int) (r1 : Int) (r2 : Int) (w : World) (hr1 : Kd.C (Kd.int .i64) w A1 l1.length l1) (hc1 : l1.length ≤ c1) (h : impl_DiscriminantOf.f k a0 l1 = some (r1, r2)) :
  Calls Try.prog 24 #[.int .i64 a0, .slice A1 l1.length c1] w fun e w' => e = .returned (.tuple #[.int .i64 r1, .int .i64 r2]) ∧ Below w.heap.size w w' := by
 have HR1 := Aside0.mk hr1
 have HC1 := Aside0.mk hc1
 clear hr1 hc1
 have HB := Aside0.mk (Below.refl w.heap.size w)
 have H : ((impl_filledCode_1.f k a0 true l1).bind fun t440 => (if t440 = 0 then ((impl_degree.f l1).bind fun t441 => (if t441 = 0 then (some (0, 5)) else (if 0 ≤ t441 then (if (t441 : Int).toNat ≤ 35184372088832 then ((impl_field_derivative.f k a0 l1).bind fun t445 => (if t445.length ≤ (t441 : Int).toNat then ((impl_reversed.f k l1).bind fun t448 => ((impl_reversed.f k (cpInto (List.replicate (t441 : Int).toNat 0) t445)).bind fun t451 => ((impl_field_sylvester.f a0 t448 t451).bind fun t454 => (if t441 < (l1.length : Int) then ((impl_field_div.f k a0 t454 (rd l1 t441)).bind fun t456 => (if (Int.tmod (wrap64 (Int.tdiv (wrap64 (t441 * (wrap64 (t441 - 1)))) 2)) 2) = 1 then ((impl_field_mod.f a0 (wrap64 (-t456))).bind fun t457 => (some (t457, 0))) else (some (t456, 0)))) else (none))))) else (none))) else (none)) else (none)))) else (some (0, t440)))) = some (r1, r2) := h
 clear h
 replace H := Option.bind_eq_some_iff.mp H
 obtain ⟨t440, A30, H⟩ := H
 have A3 := Aside0.mk A30
 clear A30
 by_cases c4 : t440 = 0
 ·
  rw [if_pos c4] at H
  have c4b0 : (t440 == 0) = true := beq_iff_eq.mpr c4
  have c4b1 : (t440 != 0) = false := bne_eq_false_iff_eq.mpr c4
  clear c4
  replace H := Option.bind_eq_some_iff.mp H
  obtain ⟨t441, A50, H⟩ := H
  have A5 := Aside0.mk A50
  clear A50
  by_cases c6 : t441 = 0
  ·
   rw [if_pos c6] at H
   have c6b0 : (t441 == 0) = true := beq_iff_eq.mpr c6
   have c6b1 : (t441 != 0) = false := bne_eq_false_iff_eq.mpr c6
   clear c6
   simp only [Option.some.injEq, Prod.mk.injEq] at H
   obtain ⟨rfl, rfl⟩ := H
   go_enter Try.func24, Try.ntmps24
   go_wp2_with (first | (go_at_call 56; (with_reducible refine (impl_filledCode_1.calls k a0 true A1 c1 l1 t440 _ ?side1 ?side2 A3.out ?sideE ?sideG ?sideP).mono ?_); (case side1 => exact cs (HR1.out)); (case side2 => exact HC1.out); (case sideE => (first | exact enters_of Try.func44 (by kernel_rfl) rfl)); (case sideG => (first | exact always_gives _)); (case sideP => (first | (simp; done) | (simp [*]; done))); rintro e w7 ⟨rfl, hb⟩; have n0_ := Aside0.mk (below_step (bs HB) hb); clear HB; have HB := n0_; clear n0_; (try clear hb); (try clear hb2); (try clear hk); (try clear hi)) | ((with_reducible refine gate_callee (f := 52) rfl ?_); refine goesM_ (some 19) rfl rfl Try.func52 #[.slice A1 l1.length c1] rfl ?_; (with_reducible refine (impl_degree.calls _ _ l1 t441 _ ?side1 ?side2 A5.out).mono ?_); (case side1 => exact cs ((Kd.C_below HR1.out HB.out))); (case side2 => exact HC1.out); rintro e w' ⟨rfl, ⟨nd, rfl⟩⟩; refine ⟨_, rfl, ?_⟩))
   go_ret2
   exact ⟨by first | rfl | (simp [errW_none, errW_some] <;> rfl) | (simp [*, errW_none, errW_some] <;> rfl), by repeat (first | (with_reducible first | exact HB.out | apply below_alloc | apply pw_below_drewN | apply below_drew1) | exact HB.out)⟩
  ·
   rw [if_neg c6] at H
   have c6b0 : (t441 == 0) = false := beq_eq_false_iff_ne.mpr c6
   have c6b1 : (t441 != 0) = true := bne_iff_ne.mpr c6
   by_cases c8 : 0 ≤ t441
   ·
    rw [if_pos c8] at H
    have c8b0 := eq_true c8
    have c8b1 : decide (0 ≤ t441) = true := decide_eq_true c8
    clear c8
    by_cases c9 : (t441 : Int).toNat ≤ 35184372088832
    ·
     rw [if_pos c9] at H
     have c9b0 := eq_true c9
     have c9b1 : decide ((t441 : Int).toNat ≤ 35184372088832) = true := decide_eq_true c9
     clear c9
     replace H := Option.bind_eq_some_iff.mp H
     obtain ⟨t445, A100, H⟩ := H
     have A10 := Aside0.mk A100
     clear A100
     by_cases cLen : t445.length ≤ (t441 : Int).toNat
     rotate_left
     ·
      rw [if_neg cLen] at H
      exact absurd H (by simp)
     rw [if_pos cLen] at H
     have CLEN := Aside0.mk cLen
     clear cLen
     obtain ⟨y442, hy442⟩ : ∃ y_ : List Int, y_ = (cpInto (List.replicate (t441 : Int).toNat 0) t445) := ⟨_, rfl⟩
     replace H : ((impl_reversed.f k l1).bind fun t448 => ((impl_reversed.f k y442).bind fun t451 => ((impl_field_sylvester.f a0 t448 t451).bind fun t454 => (if t441 < (l1.length : Int) then ((impl_field_div.f k a0 t454 (rd l1 t441)).bind fun t456 => (if (Int.tmod (wrap64 (Int.tdiv (wrap64 (t441 * (wrap64 (t441 - 1)))) 2)) 2) = 1 then ((impl_field_mod.f a0 (wrap64 (-t456))).bind fun t457 => (some (t457, 0))) else (some (t456, 0)))) else (none))))) = some (r1, r2) := by first | (rw [hy442]; with_reducible exact H) | (have H2_ := (Option.bind_some _ _).symm.trans H; rw [hy442]; with_reducible exact H2_) | (have H2_ := (Option.bind_some _ _).symm.trans H; with_reducible exact H2_) | with_reducible exact H | (rw [hy442]; exact H) | exact H
     have Ny442 := Aside0.mk hy442
     clear hy442
     replace H := Option.bind_eq_some_iff.mp H
     obtain ⟨t448, A110, H⟩ := H
     have A11 := Aside0.mk A110
     clear A110
     replace H := Option.bind_eq_some_iff.mp H
     obtain ⟨t451, A120, H⟩ := H
     have A12 := Aside0.mk A120
     clear A120
     replace H := Option.bind_eq_some_iff.mp H
     obtain ⟨t454, A130, H⟩ := H
     have A13 := Aside0.mk A130
     clear A130
     by_cases c14 : t441 < (l1.length : Int)
     ·
      rw [if_pos c14] at H
      have c14b0 : decide (t441 < (l1.length : Int)) = true := decide_eq_true c14
      clear c14
      replace H := Option.bind_eq_some_iff.mp H
      obtain ⟨t456, A150, H⟩ := H
      have A15 := Aside0.mk A150
      clear A150
      by_cases c16 : (Int.tmod (wrap64 (Int.tdiv (wrap64 (t441 * (wrap64 (t441 - 1)))) 2)) 2) = 1
      ·
       rw [if_pos c16] at H
       have c16b0 : ((Int.tmod (wrap64 (Int.tdiv (wrap64 (t441 * (wrap64 (t441 - 1)))) 2)) 2) == 1) = true := beq_iff_eq.mpr c16
       have c16b1 : ((Int.tmod (wrap64 (Int.tdiv (wrap64 (t441 * (wrap64 (t441 - 1)))) 2)) 2) != 1) = false := bne_eq_false_iff_eq.mpr c16
       clear c16
       replace H := Option.bind_eq_some_iff.mp H
       obtain ⟨t457, A170, H⟩ := H
       have A17 := Aside0.mk A170
       clear A170
       simp only [Option.some.injEq, Prod.mk.injEq] at H
       obtain ⟨rfl, rfl⟩ := H
       go_enter Try.func24, Try.ntmps24
       try go_wp2_with (first | (go_at_call 56; (with_reducible refine (impl_filledCode_1.calls k a0 true A1 c1 l1 t440 _ ?side1 ?side2 A3.out ?sideE ?sideG ?sideP).mono ?_); (case side1 => exact cs (HR1.out)); (case side2 => exact HC1.out); (case sideE => (first | exact enters_of Try.func44 (by kernel_rfl) rfl)); (case sideG => (first | exact always_gives _)); (case sideP => (first | (simp; done) | (simp [*]; done))); rintro e w18 ⟨rfl, hb⟩; have n0_ := Aside0.mk (below_step (bs HB) hb); clear HB; have HB := n0_; clear n0_; (try clear hb); (try clear hb2); (try clear hk); (try clear hi)) | ((with_reducible refine gate_callee (f := 52) rfl ?_); refine goesM_ (some 19) rfl rfl Try.func52 #[.slice A1 l1.length c1] rfl ?_; (with_reducible refine (impl_degree.calls _ _ l1 t441 _ ?side1 ?side2 A5.out).mono ?_); (case side1 => exact cs ((Kd.C_below HR1.out HB.out))); (case side2 => exact HC1.out); rintro e w' ⟨rfl, ⟨nd, rfl⟩⟩; refine ⟨_, rfl, ?_⟩) | ((with_reducible refine gate_dst (N := 24) rfl ?_); refine Kd.R_make (Kd.int .i64) _ 2 rfl (N := 24) rfl 22 _ _ rfl t441 rfl rfl Try.underlying22 (.int .i64 0) 8 info2 rfl (by decide) (by omega) 0 (ok := fun _ => True) (okp := fun _ => True) rfl (fun _ hk => hk) trivial (of_decide_eq_true (by first | (with_reducible assumption) | assumption)) (Nat.le_trans (Nat.mul_le_mul_right _ (of_decide_eq_true (by first | (with_reducible assumption) | assumption) : t441.toNat ≤ 35184372088832)) (by omega)) (Below.refl _ _) (Nat.le_refl _) ?_; intro v443 w19 ho20 hb hg_ hnew_; clear hg_ hnew_; have n0_ := Aside0.mk (Kd.R_lower ho20 (below_size (bs HB))); have n1_ := Aside0.mk (below_step (bs HB) hb); clear HB; have HPy442 := n0_; have HB := n1_; clear n0_ n1_; clear hb ho20) | ((with_reducible refine gate_builtin (b := .copy) rfl ?_); refine copy_into rfl _ _ _ rfl Try.underlying22 (by kernel_rfl) t445 rfl rfl HPy442.out ?cpR ?cpM HB.out ?_; (case cpR => exact (Kd.R_reads' HO447.out).2.2); (case cpM => (rw [List.length_replicate]; exact CLEN.out)); intro wcp hcp hbb; have HO444 := Aside0.mk hcp; (rw [← Ny442.out] at HO444); clear HB; have HB := Aside0.mk hbb; clear hcp hbb HPy442 HO447; have HO447 := Aside0.mk (Kd.R_nil (Kd.int .i64) 2 wcp w.heap.size (fun _ => True))) | ((with_reducible refine gate_callee (f := 62) rfl ?_); refine goesM_ (some 28) rfl rfl Try.func62 #[.int .i64 a0, .slice A1 l1.length c1] rfl ?_; (with_reducible refine (impl_field_derivative.calls k a0 _ _ l1 t445 _ ?side1 ?side2 A10.out).mono ?_); (case side1 => exact cs ((Kd.C_below HR1.out HB.out))); (case side2 => exact HC1.out); rintro e w21 ⟨v446, rfl, ho0, hb⟩; refine ⟨_, rfl, ?_⟩; have n0_ := Aside0.mk (Kd.R_elder' (rs HPy442) (Kd.R_base ho0) hb); have n1_ := Aside0.mk (Kd.R_lower (Kd.R_new' ho0 (Kd.R_lt (rs HPy442))) (below_size (bs HB))); have n2_ := Aside0.mk (below_step (bs HB) hb); clear HPy442; clear HB; have HPy442 := n0_; have HO447 := n1_; have HB := n2_; clear n0_ n1_ n2_; (try clear hb); (try clear hb2); (try clear hk); (try clear hi); (try clear ho0); obtain ⟨Ao447, co447, eo447⟩ := Kd.R_slice HO447.out; subst eo447))
       have n0_ := Aside0.mk (Kd.R_drew HO444.out)
       have n1_ := Aside0.mk (Kd.R_drew HO447.out)
       have n2_ := Aside0.mk (below_drew1 HB.out)
       clear HO444
       clear HO447
       clear HB
       have HO444 := n0_
       have HO447 := n1_
       have HB := n2_
       clear n0_ n1_ n2_
       have p455 : 0 ≤ (t441 : Int) := of_decide_eq_true (by first | (with_reducible assumption) | assumption)
       have q455 : t441 < (l1.length : Int) := of_decide_eq_true (by first | (with_reducible assumption) | assumption)
       obtain ⟨ad455, e455, hx455_0⟩ := Kd.at_int HR1.out t441 p455 q455
       have hw455_0 := hx455_0
       cases e455
       replace hx455_0 := (HB.out.cell (World.block_lt_of_cell? w _ hx455_0)).trans hx455_0
       replace p455 := eq_true p455
       replace q455 := eq_true q455
       refine start_ (n := 13) (S := fun w' => w'.cell? (ad455.add (t441).toNat) = some (.int .i64 (rd l1 t441))) (ds := []) #[false, false, false, false, false, false, false, false, false, false, false, false, false] (by kernel_rfl) rfl rfl (((HB.out.cell (World.block_lt_of_cell? w _ hw455_0)).trans hw455_0)) (fun hHeld => ?_); refine with_tabW impl_DiscriminantOf.tab10 impl_DiscriminantOf.bits10 (fun HT_ HW_ => ?_)
       generalize w21.drew = w22 at HO444 HO447 HB hx455_0 hHeld ⊢
       refine pure_ (i := 0) (N := some 30) (v := ?_) (a' := ?_) #[true, false, false, false, false, false, false, false, false, false, false, false, false] rfl rfl (any_of HT_.out (by kernel_rfl)) (fun _ _ _ h => h) (Or.inl ⟨by rfl, ?_⟩) ?_ ?_
       rotate_left
       ·
        intro w'
        go_simp
        with_reducible rfl
       rotate_left
       ·
        simp only [Act.put, List.setIfInBounds_toArray, List.set_cons_zero, List.set_cons_succ, i64_w, i32_w]
        rfl
       refine pure_ (i := 1) (N := some 31) (v := ?_) (a' := ?_) #[true, true, false, false, false, false, false, false, false, false, false, false, false] rfl rfl (any_of HT_.out (by kernel_rfl)) (fun _ _ _ h => h) (Or.inl ⟨by rfl, ?_⟩) ?_ ?_
       rotate_left
       ·
        intro w'
        go_simp
        with_reducible rfl
       rotate_left
       ·
        simp only [Act.put, List.setIfInBounds_toArray, List.set_cons_zero, List.set_cons_succ, i64_w, i32_w]
        rfl
       refine pure_ (i := 2) (N := some 32) (v := ?_) (a' := ?_) #[true, true, true, false, false, false, false, false, false, false, false, false, false] rfl rfl (any_of HT_.out (by kernel_rfl)) (fun _ _ _ h => h) (Or.inl ⟨by rfl, ?_⟩) ?_ ?_
       rotate_left
       ·
        intro w'
        go_simp
        with_reducible rfl
       rotate_left
       ·
        simp only [Act.put, List.setIfInBounds_toArray, List.set_cons_zero, List.set_cons_succ, i64_w, i32_w]
        rfl
       refine pure_ (i := 4) (N := some 34) (v := ?_) (a' := ?_) #[true, true, true, false, true, false, false, false, false, false, false, false, false] rfl rfl (any_of HT_.out (by kernel_rfl)) (fun _ _ _ h => h) (Or.inl ⟨by rfl, ?_⟩) ?_ ?_
       rotate_left
       ·
        intro w'
        go_simp
        with_reducible rfl
       rotate_left
       ·
        simp only [Act.put, List.setIfInBounds_toArray, List.set_cons_zero, List.set_cons_succ, i64_w, i32_w]
        rfl
       refine pure_ (i := 7) (N := some 37) (v := ?_) (a' := ?_) #[true, true, true, false, true, false, false, true, false, false, false, false, false] rfl rfl (any_of HT_.out (by kernel_rfl)) (fun _ _ _ h => h) (Or.inl ⟨by rfl, ?_⟩) ?_ ?_
       rotate_left
       ·
        intro w'
        go_simp
        with_reducible rfl
       rotate_left
       ·
        simp only [Act.put, List.setIfInBounds_toArray, List.set_cons_zero, List.set_cons_succ, i64_w, i32_w]
        rfl
       refine pure_ (i := 8) (N := some 38) (v := ?_) (a' := ?_) #[true, true, true, false, true, false, false, true, true, false, false, false, false] rfl rfl (any_of HT_.out (by kernel_rfl)) (fun _ _ _ h => h) (Or.inl ⟨by rfl, ?_⟩) ?_ ?_
       rotate_left
       ·
        intro w'
        go_simp
        with_reducible rfl
       rotate_left
       ·
        simp only [Act.put, List.setIfInBounds_toArray, List.set_cons_zero, List.set_cons_succ, i64_w, i32_w]
        rfl
       refine pure_ (i := 9) (N := some 39) (v := ?_) (a' := ?_) #[true, true, true, false, true, false, false, true, true, true, false, false, false] rfl rfl (any_of HT_.out (by kernel_rfl)) (fun _ _ _ h => h) (Or.inl ⟨by rfl, ?_⟩) ?_ ?_
       rotate_left
       ·
        intro w'
        go_simp
        with_reducible rfl
       rotate_left
       ·
        simp only [Act.put, List.setIfInBounds_toArray, List.set_cons_zero, List.set_cons_succ, i64_w, i32_w]
        rfl
       refine take_ (i := 10) (N := some 40) (v := ?_) (a' := ?_) #[true, true, true, false, true, false, false, true, true, true, true, false, false] rfl rfl (take_ofW HT_.out HW_.out (by kernel_rfl)) (fun _ _ _ h => h) (Or.inl ⟨by rfl, ?_⟩) hHeld ?_ ?_
       rotate_left
       ·
        intro w' s0
        go_simp
        with_reducible rfl
       rotate_left
       ·
        simp only [Act.put, List.setIfInBounds_toArray, List.set_cons_zero, List.set_cons_succ, i64_w, i32_w]
        rfl
       refine one_ (i := 3) (N := some 33) #[true, true, true, true, true, false, false, true, true, true, true, false, false] rfl rfl (one_of HT_.out (by kernel_rfl)) (by decide) (fun K hK => ?_)
       refine goes_ Try.func58 (by kernel_rfl) rfl #[.slice (some ad455) l1.length c1] (by rfl) rfl rfl (by (try simp only [List.map_toArray, List.map_cons, List.map_nil]); first | done | rfl | (simp only [List.length_drop, List.length_take]; rfl)) ?_
       with_reducible refine (impl_reversed.calls k _ _ l1 t448 _ ?side1 ?side2 A11.out).mono ?_
       (case side1 => exact cs ((Kd.C_below HR1.out HB.out)))
       (case side2 => exact HC1.out)
       rintro e w23 ⟨v449, rfl, ho0, hb⟩
       refine ⟨_, rfl, ?_⟩
       have n0_ := Aside0.mk (Kd.R_elder' (rs HO444) (Kd.R_base ho0) hb)
       have n1_ := Aside0.mk (Kd.R_elder' (rs HO447) (Kd.R_base ho0) hb)
       have n2_ := Aside0.mk (Kd.R_lower (Kd.R_new' (Kd.R_new' ho0 (Kd.R_lt (rs HO444))) (Kd.R_lt (rs HO447))) (below_size (bs HB)))
       have n3_ := Aside0.mk (below_step (bs HB) hb)
       clear HO444
       clear HO447
       clear HB
       have HO444 := n0_
       have HO447 := n1_
       have HO450 := n2_
       have HB := n3_
       clear n0_ n1_ n2_ n3_
       (try clear hb)
       (try clear hb2)
       (try clear hk)
       (try clear hi)
       (try clear ho0)
       obtain ⟨Ao24, co24, eo24⟩ := Kd.R_slice HO444.out
       (first | subst eo24 | (injection eo24 with f1_ f2_ f3_; have f4_ := f1_.symm; have f5_ := f3_.symm; clear f1_ f2_ f3_; subst f4_; subst f5_))
       refine hK.out _ _ (((HB.out.cell (World.block_lt_of_cell? w _ hw455_0)).trans hw455_0)) (fun hHeld => ?_)
       clear hK K
       refine norm_ (a' := ?_) ?_ ?_
       rotate_left
       ·
        show Act.put _ (some 33) _ = _
        simp only [Act.put, List.setIfInBounds_toArray, List.set_cons_zero, List.set_cons_succ, i64_w, i32_w]
        rfl
       refine one_ (i := 5) (N := some 35) #[true, true, true, true, true, true, false, true, true, true, true, false, false] rfl rfl (one_of HT_.out (by kernel_rfl)) (by decide) (fun K hK => ?_)
       refine goes_ Try.func58 (by kernel_rfl) rfl #[.slice Ao24 y442.length co24] (by rfl) rfl rfl (by (try simp only [List.map_toArray, List.map_cons, List.map_nil]); first | done | rfl | (simp only [List.length_drop, List.length_take]; rfl)) ?_
       with_reducible refine (impl_reversed.calls k _ _ y442 t451 _ ?side1 ?side2 A12.out).mono ?_
       (case side1 => exact cs ((Kd.R_reads' HO444.out).2.2))
       (case side2 => exact (Kd.R_reads' HO444.out).2.1)
       rintro e w25 ⟨v452, rfl, ho0, hb⟩
       refine ⟨_, rfl, ?_⟩
       have n0_ := Aside0.mk (Kd.R_elder' (rs HO444) (Kd.R_base ho0) hb)
       have n1_ := Aside0.mk (Kd.R_elder' (rs HO447) (Kd.R_base ho0) hb)
       have n2_ := Aside0.mk (Kd.R_elder' (rs HO450) (Kd.R_base ho0) hb)
       have n3_ := Aside0.mk (Kd.R_lower (Kd.R_new' (Kd.R_new' (Kd.R_new' ho0 (Kd.R_lt (rs HO444))) (Kd.R_lt (rs HO447))) (Kd.R_lt (rs HO450))) (below_size (bs HB)))
       have n4_ := Aside0.mk (below_step (bs HB) hb)
       clear HO444
       clear HO447
       clear HO450
       clear HB
       have HO444 := n0_
       have HO447 := n1_
       have HO450 := n2_
       have HO453 := n3_
       have HB := n4_
       clear n0_ n1_ n2_ n3_ n4_
       (try clear hb)
       (try clear hb2)
       (try clear hk)
       (try clear hi)
       (try clear ho0)
       obtain ⟨Ao26, co26, eo26⟩ := Kd.R_slice HO450.out
       (first | subst eo26 | (injection eo26 with f1_ f2_ f3_; have f4_ := f1_.symm; have f5_ := f3_.symm; clear f1_ f2_ f3_; subst f4_; subst f5_))
       obtain ⟨Ao27, co27, eo27⟩ := Kd.R_slice HO453.out
       (first | subst eo27 | (injection eo27 with f1_ f2_ f3_; have f4_ := f1_.symm; have f5_ := f3_.symm; clear f1_ f2_ f3_; subst f4_; subst f5_))
       refine hK.out _ _ (((HB.out.cell (World.block_lt_of_cell? w _ hw455_0)).trans hw455_0)) (fun hHeld => ?_)
       clear hK K
       refine norm_ (a' := ?_) ?_ ?_
       rotate_left
       ·
        show Act.put _ (some 35) _ = _
        simp only [Act.put, List.setIfInBounds_toArray, List.set_cons_zero, List.set_cons_succ, i64_w, i32_w]
        rfl
       refine one_ (i := 6) (N := some 36) #[true, true, true, true, true, true, true, true, true, true, true, false, false] rfl rfl (one_of HT_.out (by kernel_rfl)) (by decide) (fun K hK => ?_)
       refine goes_ Try.func57 (by kernel_rfl) rfl #[.int .i64 a0, .slice Ao26 t448.length co26, .slice Ao27 t451.length co27] (by rfl) rfl rfl (by (try simp only [List.map_toArray, List.map_cons, List.map_nil]); first | done | rfl | (simp only [List.length_drop, List.length_take]; rfl)) ?_
       with_reducible refine (impl_field_sylvester.calls a0 _ _ t448 _ _ t451 t454 _ ?side1 ?side2 ?side3 ?side4 A13.out).mono ?_
       (case side1 => exact cs ((Kd.R_reads' HO450.out).2.2))
       (case side2 => exact (Kd.R_reads' HO450.out).2.1)
       (case side3 => exact cs ((Kd.R_reads' HO453.out).2.2))
       (case side4 => exact (Kd.R_reads' HO453.out).2.1)
       rintro e w28 ⟨rfl, hb⟩
       refine ⟨_, rfl, ?_⟩
       have n0_ := Aside0.mk (Kd.R_below (rs HO444) hb)
       have n1_ := Aside0.mk (Kd.R_below (rs HO447) hb)
       have n2_ := Aside0.mk (Kd.R_below (rs HO450) hb)
       have n3_ := Aside0.mk (Kd.R_below (rs HO453) hb)
       have n4_ := Aside0.mk (below_step (bs HB) hb)
       clear HO444
       clear HO447
       clear HO450
       clear HO453
       clear HB
       have HO444 := n0_
       have HO447 := n1_
       have HO450 := n2_
       have HO453 := n3_
       have HB := n4_
       clear n0_ n1_ n2_ n3_ n4_
       (try clear hb)
       (try clear hb2)
       (try clear hk)
       (try clear hi)
       refine hK.out _ _ (((HB.out.cell (World.block_lt_of_cell? w _ hw455_0)).trans hw455_0)) (fun hHeld => ?_)
       clear hK K
       refine norm_ (a' := ?_) ?_ ?_
       rotate_left
       ·
        show Act.put _ (some 36) _ = _
        simp only [Act.put, List.setIfInBounds_toArray, List.set_cons_zero, List.set_cons_succ, i64_w, i32_w]
        rfl
       refine one_ (i := 11) (N := some 41) #[true, true, true, true, true, true, true, true, true, true, true, true, false] rfl rfl (one_of HT_.out (by kernel_rfl)) (by decide) (fun K hK => ?_)
       refine goes_ Try.func63 (by kernel_rfl) rfl #[.int .i64 a0, .int .i64 t454, .int .i64 (rd l1 t441)] (by rfl) rfl rfl (by (try simp only [List.map_toArray, List.map_cons, List.map_nil]); first | done | rfl | (simp only [List.length_drop, List.length_take]; rfl)) ?_
       with_reducible refine (impl_field_div.calls k a0 t454 (rd l1 t441) t456 _ A15.out).mono ?_
       rintro e w' ⟨rfl, ⟨nd, rfl⟩⟩
       refine ⟨_, rfl, ?_⟩
       refine hK.out _ _ (((HB.out.cell (World.block_lt_of_cell? w _ hw455_0)).trans hw455_0)) (fun hHeld => ?_)
       clear hK K
       refine norm_ (a' := ?_) ?_ ?_
       rotate_left
       ·
        show Act.put _ (some 41) _ = _
        simp only [Act.put, List.setIfInBounds_toArray, List.set_cons_zero, List.set_cons_succ, i64_w, i32_w]
        rfl
       refine pure_ (i := 12) (N := some 10) (v := ?_) (a' := ?_) #[true, true, true, true, true, true, true, true, true, true, true, true, true] rfl rfl (any_of HT_.out (by kernel_rfl)) (fun _ _ _ h => h) (Or.inl ⟨by rfl, ?_⟩) ?_ ?_
       rotate_left
       ·
        intro w'
        go_simp
        with_reducible rfl
       rotate_left
       ·
        simp only [Act.put, List.setIfInBounds_toArray, List.set_cons_zero, List.set_cons_succ, i64_w, i32_w]
        rfl
       refine done_ (done_of HT_.out (by kernel_rfl)) ?_
       try go_wp2_with (first | ((with_reducible refine gate_callee (f := 64) rfl ?_); refine goesM_ (some 52) rfl rfl Try.func64 #[.int .i64 a0, .int .i64 (wrap64 (-t456))] rfl ?_; (with_reducible refine (impl_field_mod.calls a0 (wrap64 (-t456)) t457 _ A17.out).mono ?_); rintro e w' ⟨rfl, ⟨nd, rfl⟩⟩; refine ⟨_, rfl, ?_⟩))
       go_ret2
       exact ⟨by first | rfl | (simp [errW_none, errW_some] <;> rfl) | (simp [*, errW_none, errW_some] <;> rfl), by repeat (first | (with_reducible first | exact HB.out | apply below_alloc | apply pw_below_drewN | apply below_drew1) | exact HB.out)⟩
      ·
       rw [if_neg c16] at H
       have c16b0 : ((Int.tmod (wrap64 (Int.tdiv (wrap64 (t441 * (wrap64 (t441 - 1)))) 2)) 2) == 1) = false := beq_eq_false_iff_ne.mpr c16
       have c16b1 : ((Int.tmod (wrap64 (Int.tdiv (wrap64 (t441 * (wrap64 (t441 - 1)))) 2)) 2) != 1) = true := bne_iff_ne.mpr c16
       simp only [Option.some.injEq, Prod.mk.injEq] at H
       obtain ⟨rfl, rfl⟩ := H
       go_enter Try.func24, Try.ntmps24
       try go_wp2_with (first | (go_at_call 56; (with_reducible refine (impl_filledCode_1.calls k a0 true A1 c1 l1 t440 _ ?side1 ?side2 A3.out ?sideE ?sideG ?sideP).mono ?_); (case side1 => exact cs (HR1.out)); (case side2 => exact HC1.out); (case sideE => (first | exact enters_of Try.func44 (by kernel_rfl) rfl)); (case sideG => (first | exact always_gives _)); (case sideP => (first | (simp; done) | (simp [*]; done))); rintro e w29 ⟨rfl, hb⟩; have n0_ := Aside0.mk (below_step (bs HB) hb); clear HB; have HB := n0_; clear n0_; (try clear hb); (try clear hb2); (try clear hk); (try clear hi)) | ((with_reducible refine gate_callee (f := 52) rfl ?_); refine goesM_ (some 19) rfl rfl Try.func52 #[.slice A1 l1.length c1] rfl ?_; (with_reducible refine (impl_degree.calls _ _ l1 t441 _ ?side1 ?side2 A5.out).mono ?_); (case side1 => exact cs ((Kd.C_below HR1.out HB.out))); (case side2 => exact HC1.out); rintro e w' ⟨rfl, ⟨nd, rfl⟩⟩; refine ⟨_, rfl, ?_⟩) | ((with_reducible refine gate_dst (N := 24) rfl ?_); refine Kd.R_make (Kd.int .i64) _ 2 rfl (N := 24) rfl 22 _ _ rfl t441 rfl rfl Try.underlying22 (.int .i64 0) 8 info2 rfl (by decide) (by omega) 0 (ok := fun _ => True) (okp := fun _ => True) rfl (fun _ hk => hk) trivial (of_decide_eq_true (by first | (with_reducible assumption) | assumption)) (Nat.le_trans (Nat.mul_le_mul_right _ (of_decide_eq_true (by first | (with_reducible assumption) | assumption) : t441.toNat ≤ 35184372088832)) (by omega)) (Below.refl _ _) (Nat.le_refl _) ?_; intro v443 w30 ho31 hb hg_ hnew_; clear hg_ hnew_; have n0_ := Aside0.mk (Kd.R_lower ho31 (below_size (bs HB))); have n1_ := Aside0.mk (below_step (bs HB) hb); clear HB; have HPy442 := n0_; have HB := n1_; clear n0_ n1_; clear hb ho31) | ((with_reducible refine gate_builtin (b := .copy) rfl ?_); refine copy_into rfl _ _ _ rfl Try.underlying22 (by kernel_rfl) t445 rfl rfl HPy442.out ?cpR ?cpM HB.out ?_; (case cpR => exact (Kd.R_reads' HO447.out).2.2); (case cpM => (rw [List.length_replicate]; exact CLEN.out)); intro wcp hcp hbb; have HO444 := Aside0.mk hcp; (rw [← Ny442.out] at HO444); clear HB; have HB := Aside0.mk hbb; clear hcp hbb HPy442 HO447; have HO447 := Aside0.mk (Kd.R_nil (Kd.int .i64) 2 wcp w.heap.size (fun _ => True))) | ((with_reducible refine gate_callee (f := 62) rfl ?_); refine goesM_ (some 28) rfl rfl Try.func62 #[.int .i64 a0, .slice A1 l1.length c1] rfl ?_; (with_reducible refine (impl_field_derivative.calls k a0 _ _ l1 t445 _ ?side1 ?side2 A10.out).mono ?_); (case side1 => exact cs ((Kd.C_below HR1.out HB.out))); (case side2 => exact HC1.out); rintro e w32 ⟨v446, rfl, ho0, hb⟩; refine ⟨_, rfl, ?_⟩; have n0_ := Aside0.mk (Kd.R_elder' (rs HPy442) (Kd.R_base ho0) hb); have n1_ := Aside0.mk (Kd.R_lower (Kd.R_new' ho0 (Kd.R_lt (rs HPy442))) (below_size (bs HB))); have n2_ := Aside0.mk (below_step (bs HB) hb); clear HPy442; clear HB; have HPy442 := n0_; have HO447 := n1_; have HB := n2_; clear n0_ n1_ n2_; (try clear hb); (try clear hb2); (try clear hk); (try clear hi); (try clear ho0); obtain ⟨Ao447, co447, eo447⟩ := Kd.R_slice HO447.out; subst eo447))
       have n0_ := Aside0.mk (Kd.R_drew HO444.out)
       have n1_ := Aside0.mk (Kd.R_drew HO447.out)
       have n2_ := Aside0.mk (below_drew1 HB.out)
       clear HO444
       clear HO447
       clear HB
       have HO444 := n0_
       have HO447 := n1_
       have HB := n2_
       clear n0_ n1_ n2_
       have p455 : 0 ≤ (t441 : Int) := of_decide_eq_true (by first | (with_reducible assumption) | assumption)
       have q455 : t441 < (l1.length : Int) := of_decide_eq_true (by first | (with_reducible assumption) | assumption)
       obtain ⟨ad455, e455, hx455_0⟩ := Kd.at_int HR1.out t441 p455 q455
       have hw455_0 := hx455_0
       cases e455
       replace hx455_0 := (HB.out.cell (World.block_lt_of_cell? w _ hx455_0)).trans hx455_0
       replace p455 := eq_true p455
       replace q455 := eq_true q455
       refine start_ (n := 13) (S := fun w' => w'.cell? (ad455.add (t441).toNat) = some (.int .i64 (rd l1 t441))) (ds := []) #[false, false, false, false, false, false, false, false, false, false, false, false, false] (by kernel_rfl) rfl rfl (((HB.out.cell (World.block_lt_of_cell? w _ hw455_0)).trans hw455_0)) (fun hHeld => ?_); refine with_tabW impl_DiscriminantOf.tab10 impl_DiscriminantOf.bits10 (fun HT_ HW_ => ?_)
       generalize w32.drew = w33 at HO444 HO447 HB hx455_0 hHeld ⊢
       refine pure_ (i := 0) (N := some 30) (v := ?_) (a' := ?_) #[true, false, false, false, false, false, false, false, false, false, false, false, false] rfl rfl (any_of HT_.out (by kernel_rfl)) (fun _ _ _ h => h) (Or.inl ⟨by rfl, ?_⟩) ?_ ?_
       rotate_left
       ·
        intro w'
        go_simp
        with_reducible rfl
       rotate_left
       ·
        simp only [Act.put, List.setIfInBounds_toArray, List.set_cons_zero, List.set_cons_succ, i64_w, i32_w]
        rfl
       refine pure_ (i := 1) (N := some 31) (v := ?_) (a' := ?_) #[true, true, false, false, false, false, false, false, false, false, false, false, false] rfl rfl (any_of HT_.out (by kernel_rfl)) (fun _ _ _ h => h) (Or.inl ⟨by rfl, ?_⟩) ?_ ?_
       rotate_left
       ·
        intro w'
        go_simp
        with_reducible rfl
       rotate_left
       ·
        simp only [Act.put, List.setIfInBounds_toArray, List.set_cons_zero, List.set_cons_succ, i64_w, i32_w]
        rfl
       refine pure_ (i := 2) (N := some 32) (v := ?_) (a' := ?_) #[true, true, true, false, false, false, false, false, false, false, false, false, false] rfl rfl (any_of HT_.out (by kernel_rfl)) (fun _ _ _ h => h) (Or.inl ⟨by rfl, ?_⟩) ?_ ?_
       rotate_left
       ·
        intro w'
        go_simp
        with_reducible rfl
       rotate_left
       ·
        simp only [Act.put, List.setIfInBounds_toArray, List.set_cons_zero, List.set_cons_succ, i64_w, i32_w]
        rfl
       refine pure_ (i := 4) (N := some 34) (v := ?_) (a' := ?_) #[true, true, true, false, true, false, false, false, false, false, false, false, false] rfl rfl (any_of HT_.out (by kernel_rfl)) (fun _ _ _ h => h) (Or.inl ⟨by rfl, ?_⟩) ?_ ?_
       rotate_left
       ·
        intro w'
        go_simp
        with_reducible rfl
       rotate_left
       ·
        simp only [Act.put, List.setIfInBounds_toArray, List.set_cons_zero, List.set_cons_succ, i64_w, i32_w]
        rfl
       refine pure_ (i := 7) (N := some 37) (v := ?_) (a' := ?_) #[true, true, true, false, true, false, false, true, false, false, false, false, false] rfl rfl (any_of HT_.out (by kernel_rfl)) (fun _ _ _ h => h) (Or.inl ⟨by rfl, ?_⟩) ?_ ?_
       rotate_left
       ·
        intro w'
        go_simp
        with_reducible rfl
       rotate_left
       ·
        simp only [Act.put, List.setIfInBounds_toArray, List.set_cons_zero, List.set_cons_succ, i64_w, i32_w]
        rfl
       refine pure_ (i := 8) (N := some 38) (v := ?_) (a' := ?_) #[true, true, true, false, true, false, false, true, true, false, false, false, false] rfl rfl (any_of HT_.out (by kernel_rfl)) (fun _ _ _ h => h) (Or.inl ⟨by rfl, ?_⟩) ?_ ?_
       rotate_left
       ·
        intro w'
        go_simp
        with_reducible rfl
       rotate_left
       ·
        simp only [Act.put, List.setIfInBounds_toArray, List.set_cons_zero, List.set_cons_succ, i64_w, i32_w]
        rfl
       refine pure_ (i := 9) (N := some 39) (v := ?_) (a' := ?_) #[true, true, true, false, true, false, false, true, true, true, false, false, false] rfl rfl (any_of HT_.out (by kernel_rfl)) (fun _ _ _ h => h) (Or.inl ⟨by rfl, ?_⟩) ?_ ?_
       rotate_left
       ·
        intro w'
        go_simp
        with_reducible rfl
       rotate_left
       ·
        simp only [Act.put, List.setIfInBounds_toArray, List.set_cons_zero, List.set_cons_succ, i64_w, i32_w]
        rfl
       refine take_ (i := 10) (N := some 40) (v := ?_) (a' := ?_) #[true, true, true, false, true, false, false, true, true, true, true, false, false] rfl rfl (take_ofW HT_.out HW_.out (by kernel_rfl)) (fun _ _ _ h => h) (Or.inl ⟨by rfl, ?_⟩) hHeld ?_ ?_
       rotate_left
       ·
        intro w' s0
        go_simp
        with_reducible rfl
       rotate_left
       ·
        simp only [Act.put, List.setIfInBounds_toArray, List.set_cons_zero, List.set_cons_succ, i64_w, i32_w]
        rfl
       refine one_ (i := 3) (N := some 33) #[true, true, true, true, true, false, false, true, true, true, true, false, false] rfl rfl (one_of HT_.out (by kernel_rfl)) (by decide) (fun K hK => ?_)
       refine goes_ Try.func58 (by kernel_rfl) rfl #[.slice (some ad455) l1.length c1] (by rfl) rfl rfl (by (try simp only [List.map_toArray, List.map_cons, List.map_nil]); first | done | rfl | (simp only [List.length_drop, List.length_take]; rfl)) ?_
       with_reducible refine (impl_reversed.calls k _ _ l1 t448 _ ?side1 ?side2 A11.out).mono ?_
       (case side1 => exact cs ((Kd.C_below HR1.out HB.out)))
       (case side2 => exact HC1.out)
       rintro e w34 ⟨v449, rfl, ho0, hb⟩
       refine ⟨_, rfl, ?_⟩
       have n0_ := Aside0.mk (Kd.R_elder' (rs HO444) (Kd.R_base ho0) hb)
       have n1_ := Aside0.mk (Kd.R_elder' (rs HO447) (Kd.R_base ho0) hb)
       have n2_ := Aside0.mk (Kd.R_lower (Kd.R_new' (Kd.R_new' ho0 (Kd.R_lt (rs HO444))) (Kd.R_lt (rs HO447))) (below_size (bs HB)))
       have n3_ := Aside0.mk (below_step (bs HB) hb)
       clear HO444
       clear HO447
       clear HB
       have HO444 := n0_
       have HO447 := n1_
       have HO450 := n2_
       have HB := n3_
       clear n0_ n1_ n2_ n3_
       (try clear hb)
       (try clear hb2)
       (try clear hk)
       (try clear hi)
       (try clear ho0)
       obtain ⟨Ao35, co35, eo35⟩ := Kd.R_slice HO444.out
       (first | subst eo35 | (injection eo35 with f1_ f2_ f3_; have f4_ := f1_.symm; have f5_ := f3_.symm; clear f1_ f2_ f3_; subst f4_; subst f5_))
       refine hK.out _ _ (((HB.out.cell (World.block_lt_of_cell? w _ hw455_0)).trans hw455_0)) (fun hHeld => ?_)
       clear hK K
       refine norm_ (a' := ?_) ?_ ?_
       rotate_left
       ·
        show Act.put _ (some 33) _ = _
        simp only [Act.put, List.setIfInBounds_toArray, List.set_cons_zero, List.set_cons_succ, i64_w, i32_w]
        rfl
       refine one_ (i := 5) (N := some 35) #[true, true, true, true, true, true, false, true, true, true, true, false, false] rfl rfl (one_of HT_.out (by kernel_rfl)) (by decide) (fun K hK => ?_)
       refine goes_ Try.func58 (by kernel_rfl) rfl #[.slice Ao35 y442.length co35] (by rfl) rfl rfl (by (try simp only [List.map_toArray, List.map_cons, List.map_nil]); first | done | rfl | (simp only [List.length_drop, List.length_take]; rfl)) ?_
       with_reducible refine (impl_reversed.calls k _ _ y442 t451 _ ?side1 ?side2 A12.out).mono ?_
       (case side1 => exact cs ((Kd.R_reads' HO444.out).2.2))
       (case side2 => exact (Kd.R_reads' HO444.out).2.1)
       rintro e w36 ⟨v452, rfl, ho0, hb⟩
       refine ⟨_, rfl, ?_⟩
       have n0_ := Aside0.mk (Kd.R_elder' (rs HO444) (Kd.R_base ho0) hb)
       have n1_ := Aside0.mk (Kd.R_elder' (rs HO447) (Kd.R_base ho0) hb)
       have n2_ := Aside0.mk (Kd.R_elder' (rs HO450) (Kd.R_base ho0) hb)
       have n3_ := Aside0.mk (Kd.R_lower (Kd.R_new' (Kd.R_new' (Kd.R_new' ho0 (Kd.R_lt (rs HO444))) (Kd.R_lt (rs HO447))) (Kd.R_lt (rs HO450))) (below_size (bs HB)))
       have n4_ := Aside0.mk (below_step (bs HB) hb)
       clear HO444
       clear HO447
       clear HO450
       clear HB
       have HO444 := n0_
       have HO447 := n1_
       have HO450 := n2_
       have HO453 := n3_
       have HB := n4_
       clear n0_ n1_ n2_ n3_ n4_
       (try clear hb)
       (try clear hb2)
       (try clear hk)
       (try clear hi)
       (try clear ho0)
       obtain ⟨Ao37, co37, eo37⟩ := Kd.R_slice HO450.out
       (first | subst eo37 | (injection eo37 with f1_ f2_ f3_; have f4_ := f1_.symm; have f5_ := f3_.symm; clear f1_ f2_ f3_; subst f4_; subst f5_))
       obtain ⟨Ao38, co38, eo38⟩ := Kd.R_slice HO453.out
       (first | subst eo38 | (injection eo38 with f1_ f2_ f3_; have f4_ := f1_.symm; have f5_ := f3_.symm; clear f1_ f2_ f3_; subst f4_; subst f5_))
       refine hK.out _ _ (((HB.out.cell (World.block_lt_of_cell? w _ hw455_0)).trans hw455_0)) (fun hHeld => ?_)
       clear hK K
       refine norm_ (a' := ?_) ?_ ?_
       rotate_left
       ·
        show Act.put _ (some 35) _ = _
        simp only [Act.put, List.setIfInBounds_toArray, List.set_cons_zero, List.set_cons_succ, i64_w, i32_w]
        rfl
       refine one_ (i := 6) (N := some 36) #[true, true, true, true, true, true, true, true, true, true, true, false, false] rfl rfl (one_of HT_.out (by kernel_rfl)) (by decide) (fun K hK => ?_)
       refine goes_ Try.func57 (by kernel_rfl) rfl #[.int .i64 a0, .slice Ao37 t448.length co37, .slice Ao38 t451.length co38] (by rfl) rfl rfl (by (try simp only [List.map_toArray, List.map_cons, List.map_nil]); first | done | rfl | (simp only [List.length_drop, List.length_take]; rfl)) ?_
       with_reducible refine (impl_field_sylvester.calls a0 _ _ t448 _ _ t451 t454 _ ?side1 ?side2 ?side3 ?side4 A13.out).mono ?_
       (case side1 => exact cs ((Kd.R_reads' HO450.out).2.2))
       (case side2 => exact (Kd.R_reads' HO450.out).2.1)
       (case side3 => exact cs ((Kd.R_reads' HO453.out).2.2))
       (case side4 => exact (Kd.R_reads' HO453.out).2.1)
       rintro e w39 ⟨rfl, hb⟩
       refine ⟨_, rfl, ?_⟩
       have n0_ := Aside0.mk (Kd.R_below (rs HO444) hb)
       have n1_ := Aside0.mk (Kd.R_below (rs HO447) hb)
       have n2_ := Aside0.mk (Kd.R_below (rs HO450) hb)
       have n3_ := Aside0.mk (Kd.R_below (rs HO453) hb)
       have n4_ := Aside0.mk (below_step (bs HB) hb)
       clear HO444
       clear HO447
       clear HO450
       clear HO453
       clear HB
       have HO444 := n0_
       have HO447 := n1_
       have HO450 := n2_
       have HO453 := n3_
       have HB := n4_
       clear n0_ n1_ n2_ n3_ n4_
       (try clear hb)
       (try clear hb2)
       (try clear hk)
       (try clear hi)
       refine hK.out _ _ (((HB.out.cell (World.block_lt_of_cell? w _ hw455_0)).trans hw455_0)) (fun hHeld => ?_)
       clear hK K
       refine norm_ (a' := ?_) ?_ ?_
       rotate_left
       ·
        show Act.put _ (some 36) _ = _
        simp only [Act.put, List.setIfInBounds_toArray, List.set_cons_zero, List.set_cons_succ, i64_w, i32_w]
        rfl
       refine one_ (i := 11) (N := some 41) #[true, true, true, true, true, true, true, true, true, true, true, true, false] rfl rfl (one_of HT_.out (by kernel_rfl)) (by decide) (fun K hK => ?_)
       refine goes_ Try.func63 (by kernel_rfl) rfl #[.int .i64 a0, .int .i64 t454, .int .i64 (rd l1 t441)] (by rfl) rfl rfl (by (try simp only [List.map_toArray, List.map_cons, List.map_nil]); first | done | rfl | (simp only [List.length_drop, List.length_take]; rfl)) ?_
       with_reducible refine (impl_field_div.calls k a0 t454 (rd l1 t441) t456 _ A15.out).mono ?_
       rintro e w' ⟨rfl, ⟨nd, rfl⟩⟩
       refine ⟨_, rfl, ?_⟩
       refine hK.out _ _ (((HB.out.cell (World.block_lt_of_cell? w _ hw455_0)).trans hw455_0)) (fun hHeld => ?_)
       clear hK K
       refine norm_ (a' := ?_) ?_ ?_
       rotate_left
       ·
        show Act.put _ (some 41) _ = _
        simp only [Act.put, List.setIfInBounds_toArray, List.set_cons_zero, List.set_cons_succ, i64_w, i32_w]
        rfl
       refine pure_ (i := 12) (N := some 10) (v := ?_) (a' := ?_) #[true, true, true, true, true, true, true, true, true, true, true, true, true] rfl rfl (any_of HT_.out (by kernel_rfl)) (fun _ _ _ h => h) (Or.inl ⟨by rfl, ?_⟩) ?_ ?_
       rotate_left
       ·
        intro w'
        go_simp
        with_reducible rfl
       rotate_left
       ·
        simp only [Act.put, List.setIfInBounds_toArray, List.set_cons_zero, List.set_cons_succ, i64_w, i32_w]
        rfl
       refine done_ (done_of HT_.out (by kernel_rfl)) ?_
       try go_wp2
       go_ret2
       exact ⟨by first | rfl | (simp [errW_none, errW_some] <;> rfl) | (simp [*, errW_none, errW_some] <;> rfl), by repeat (first | (with_reducible first | exact HB.out | apply below_alloc | apply pw_below_drewN | apply below_drew1) | exact HB.out)⟩
     ·
      rw [if_neg c14] at H
      exact absurd H (by simp)
    ·
     rw [if_neg c9] at H
     exact absurd H (by simp)
   ·
    rw [if_neg c8] at H
    exact absurd H (by simp)
 ·
  rw [if_neg c4] at H
  have c4b0 : (t440 == 0) = false := beq_eq_false_iff_ne.mpr c4
  have c4b1 : (t440 != 0) = true := bne_iff_ne.mpr c4
  simp only [Option.some.injEq, Prod.mk.injEq] at H
  obtain ⟨rfl, rfl⟩ := H
  go_enter Try.func24, Try.ntmps24
  go_wp2_with (first | (go_at_call 56; (with_reducible refine (impl_filledCode_1.calls k a0 true A1 c1 l1 t440 _ ?side1 ?side2 A3.out ?sideE ?sideG ?sideP).mono ?_); (case side1 => exact cs (HR1.out)); (case side2 => exact HC1.out); (case sideE => (first | exact enters_of Try.func44 (by kernel_rfl) rfl)); (case sideG => (first | exact always_gives _)); (case sideP => (first | (simp; done) | (simp [*]; done))); rintro e w40 ⟨rfl, hb⟩; have n0_ := Aside0.mk (below_step (bs HB) hb); clear HB; have HB := n0_; clear n0_; (try clear hb); (try clear hb2); (try clear hk); (try clear hi)))
  go_ret2
  exact ⟨by first | rfl | (simp [errW_none, errW_some] <;> rfl) | (simp [*, errW_none, errW_some] <;> rfl), by repeat (first | (with_reducible first | exact HB.out | apply below_alloc | apply pw_below_drewN | apply below_drew1) | exact HB.out)⟩
end
end Go.Proofs.Ytlmolloallhclaa.H
