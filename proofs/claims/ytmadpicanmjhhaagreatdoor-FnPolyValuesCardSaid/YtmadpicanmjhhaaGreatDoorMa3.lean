/- Joined texts of a claim: the printed functions and what is proved of them. -/
import Derived.Test.YtmadpicanmjhhaaGreatDoorYHx0
import Derived.Test.YtmadpicanmjhhaaGreatDoorMa2
namespace Go.Proofs.YtmadpicanmjhhaaGreatDoor.H
open Go.RowKit Go.Proofs.YtmadpicanmjhhaaGreatDoorW.PrintWords Go.Proofs.YtmadpicanmjhhaaGreatDoorW.PrintLast Go.Proofs.YtmadpicanmjhhaaGreatDoorW.PrintMore
attribute [local go_sem] max2_int min2_int max_two min_two max_three min_three max_four min_four   -- for this text's walks alone
set_option linter.unusedVariables false
set_option linter.unusedSimpArgs false
def impl_field_interpolate.l0 : Nat → Int → List Int → List Int → List Int → List Int → Int → Int → Option (List Int)
 | 0, _, _, _, _, _, _, _ => none
 | k + 1, x0, x2, x7, x8, x13, x14, x15 => if x15 < x14 then (if 0 ≤ x15 then (if x15 < (x13.length : Int) then (if x15 < (x2.length : Int) then ((impl_field_value.f x0 x7 (rd x13 x15)).bind fun t354 => ((impl_field_mod.f x0 (wrap64 ((rd x2 x15) - t354))).bind fun t355 => ((impl_field_value.f x0 x8 (rd x13 x15)).bind fun t356 => ((impl_field_div.f k x0 t355 t356).bind fun t357 => ((impl_field_add.f k x0 x7 x8 t357).bind fun t358 => ((impl_field_mod.f x0 (wrap64 (-(rd x13 x15)))).bind fun t361 => ((impl_field_product.f k x0 x8 (([t361, 1] : List Int))).bind fun t365 => (impl_field_interpolate.l0 k x0 x2 t358 t365 x13 x14 (wrap64 (x15 + 1)))))))))) else (none)) else (none)) else (none)) else (some x7)
def impl_field_interpolate.f (k : Nat) (a0 : Int) (l1 : List Int) (l2 : List Int) : Option (List Int) := impl_field_interpolate.l0 k a0 l2 ([] : List Int) (([1] : List Int)) l1 (l1.length : Int) 0
def impl_field_interpolate.T6 : Bool × List (List Nat × List Nat) := (true, [([], []), ([], []), ([], []), ([], []), ([2, 3], [2, 3]), ([4], [4]), ([], []), ([], []), ([], []), ([6, 7, 8], [6, 7, 8]), ([5, 9], [5, 9]), ([1, 10, 9], [1, 10]), ([], []), ([], []), ([], []), ([12, 13, 14, 11], [12, 13, 14]), ([0, 11, 15, 15], [0, 11, 15]), ([16, 16, 0, 1, 2, 3, 4, 5, 6, 7, 8, 9, 10, 11, 12, 13, 14, 15, 16], [16])])
def impl_field_interpolate.B6 : List Nat := [0, 0, 0, 0, 12, 28, 0, 0, 0, 448, 1020, 2046, 0, 0, 0, 32766, 65535, 131071]
theorem impl_field_interpolate.tab6 : rtab .any (opsOf Tryz.f30 6) = impl_field_interpolate.T6 := by kernel_rfl
theorem impl_field_interpolate.bits6 : waitsOk impl_field_interpolate.T6.2 impl_field_interpolate.B6 = true := by kernel_rfl
set_option maxHeartbeats 8000000 in
set_option maxRecDepth 100000 in
theorem impl_field_interpolate.calls (k : Nat) (a0 : Int) (A1 : Option Addr) (c1 : Nat) (l1 : List Int) (A2 : Option Addr) (c2 : Nat) (l2 : List Int) (r : List Int) (w : World) (hr1 : Kd.C (Kd.int .i64) w A1 l1.length l1) (hc1 : l1.length ≤ c1) (hr2 : Kd.C (Kd.int .i64) w A2 l2.length l2) (hc2 : l2.length ≤ c2) (h : impl_field_interpolate.f k a0 l1 l2 = some r) :
  Calls Tryz.prog 30 #[.int .i64 a0, .slice A1 l1.length c1, .slice A2 l2.length c2] w fun e w' => ∃ v0_ : Value, e = .returned (v0_) ∧ Kd.R (Kd.int .i64) 2 w' w.heap.size (fun _ => True) v0_ r ∧ Below w.heap.size w w' := by
 have HR1 := as0 hr1
 have HC1 := as0 hc1
 clear hr1 hc1
 have HR2 := as0 hr2
 have HC2 := as0 hc2
 clear hr2 hc2
 have HB := as0 (Below.refl w.heap.size w)
 have H : (impl_field_interpolate.l0 k a0 l2 ([] : List Int) (([1] : List Int)) l1 (l1.length : Int) 0) = some r := h
 clear h
 obtain ⟨y349, hy349⟩ : ∃ y_ : List Int, y_ = (([1] : List Int)) := ⟨_, rfl⟩
 replace H : (impl_field_interpolate.l0 k a0 l2 ([] : List Int) y349 l1 (l1.length : Int) 0) = some r := by first | (rw [hy349]; with_reducible exact H) | (have H2_ := (Option.bind_some _ _).symm.trans H; rw [hy349]; with_reducible exact H2_) | (have H2_ := (Option.bind_some _ _).symm.trans H; with_reducible exact H2_) | with_reducible exact H | (rw [hy349]; exact H) | exact H
 have Ny349 := as0 hy349
 clear hy349
 have H' := as0 H
 clear H
 go_enter Tryz.func30, Tryz.ntmps30
 go_wp2_with (first | ((with_reducible refine gate_dst (N := 12) rfl ?_); refine Kd.R_lit (Kd.int .i64) _ 2 ?hg (N := 12) ?hd (xs := ([1] : List Int)) (inner := [.int .i64 1]) (ok := fun _ => True) (okp := fun _ => True) ?hr ?hp (fun _ hk => hk) trivial (Below.refl _ _) (Nat.le_refl _) (by simp) ?_; (case hd => rfl); (case hg => rfl); (case hr => first | (go_simp; done) | (go_simp; rfl)); (case hp => exact (Reps.one (show Kd.M (Kd.int .i64) _ _ _ 1 [.int .i64 1] from rfl) (Reps.none _ _))); intro v350 w4 ho5 hb hg_ hnew_; clear hg_ hnew_; (first | rw [← Ny349.out] at ho5 | (simp only [Int.reduceToNat] at ho5; rw [← Ny349.out] at ho5)); have n0_ := as0 (Kd.R_lower ho5 (below_size (bs HB))); have n1_ := as0 (below_step (bs HB) hb); clear HB; have HO351 := n0_; have HB := n1_; clear n0_ n1_; clear hb ho5))
 go_loopg [7, 8, 15] k (fun kq v7 v8 v15 w' => ∃ (x7_1 : List Int) (x8_1 : List Int) (x15_1 : Int), v15 = .int .i64 x15_1 ∧ Aside0 (impl_field_interpolate.l0 kq a0 l2 x7_1 x8_1 l1 (l1.length : Int) x15_1 = some r) ∧ Aside0 (kq ≤ k) ∧ Aside0 (Kd.R (Kd.int .i64) 2 w' w.heap.size (fun k_ => some k_ ≠ (v8 : Value).ownBlock) v7 x7_1) ∧ Aside0 (Kd.R (Kd.int .i64) 2 w' w.heap.size (fun k_ => some k_ ≠ (v7 : Value).ownBlock) v8 x8_1) ∧ Aside0 (Below w.heap.size w w'))
 case atStart => exact ⟨(([] : List Int)), (y349), (0), ea_, H', ⟨Nat.le_refl _⟩, ⟨by first | exact Kd.R_nil _ _ _ _ _ | exact Kd.N_nil _ _ _ _ _ | exact Kd.V_nil _ _ _ _ _ | exact Kd.Q_nil _ _ _ _ _ | exact Kd.S_nil _ _ _ _ _⟩, ⟨by (with_reducible repeat (first | apply Kd.R_alloc | apply Kd.R_drewN | apply Kd.R_drew)); exact Kd.R_mono HO351.out (fun _ hk => (by simp [Value.ownBlock]))⟩, ⟨bs HB⟩⟩
 case round =>
  clear H'
  try clear c1
  try clear c2
  try clear p2
  try clear c3
  obtain ⟨x7_1, x8_1, x15_1, rfl, HA, HK1, HO_7, HO_8, HB⟩ := hrel
  cases gk with
  | zero => exact absurd HA.out (by simp [impl_field_interpolate.l0])
  | succ k1 =>
   have H := HA.out
   clear HA
   simp only [impl_field_interpolate.l0] at H
   by_cases c6 : x15_1 < (l1.length : Int)
   ·
    rw [if_pos c6] at H
    have c6b0 : decide (x15_1 < (l1.length : Int)) = true := decide_eq_true c6
    clear c6
    by_cases c7 : 0 ≤ x15_1
    ·
     rw [if_pos c7] at H
     have c7b0 : decide (0 ≤ x15_1) = true := decide_eq_true c7
     clear c7
     by_cases c8 : x15_1 < (l1.length : Int)
     ·
      rw [if_pos c8] at H
      have c8b0 : decide (x15_1 < (l1.length : Int)) = true := decide_eq_true c8
      clear c8
      by_cases c9 : x15_1 < (l2.length : Int)
      ·
       rw [if_pos c9] at H
       have c9b0 : decide (x15_1 < (l2.length : Int)) = true := decide_eq_true c9
       clear c9
       replace H := Option.bind_eq_some_iff.mp H
       obtain ⟨t354, A100, H⟩ := H
       have A10 := as0 A100
       clear A100
       replace H := Option.bind_eq_some_iff.mp H
       obtain ⟨t355, A110, H⟩ := H
       have A11 := as0 A110
       clear A110
       replace H := Option.bind_eq_some_iff.mp H
       obtain ⟨t356, A120, H⟩ := H
       have A12 := as0 A120
       clear A120
       replace H := Option.bind_eq_some_iff.mp H
       obtain ⟨t357, A130, H⟩ := H
       have A13 := as0 A130
       clear A130
       replace H := Option.bind_eq_some_iff.mp H
       obtain ⟨t358, A140, H⟩ := H
       have A14 := as0 A140
       clear A140
       replace H := Option.bind_eq_some_iff.mp H
       obtain ⟨t361, A150, H⟩ := H
       have A15 := as0 A150
       clear A150
       obtain ⟨y362, hy362⟩ : ∃ y_ : List Int, y_ = (([t361, 1] : List Int)) := ⟨_, rfl⟩
       replace H : ((impl_field_product.f k1 a0 x8_1 y362).bind fun t365 => (impl_field_interpolate.l0 k1 a0 l2 t358 t365 l1 (l1.length : Int) (wrap64 (x15_1 + 1)))) = some r := by first | (rw [hy362]; with_reducible exact H) | (have H2_ := (Option.bind_some _ _).symm.trans H; rw [hy362]; with_reducible exact H2_) | (have H2_ := (Option.bind_some _ _).symm.trans H; with_reducible exact H2_) | with_reducible exact H | (rw [hy362]; exact H) | exact H
       have Ny362 := as0 hy362
       clear hy362
       replace H := Option.bind_eq_some_iff.mp H
       obtain ⟨t365, A160, H⟩ := H
       have A16 := as0 A160
       clear A160
       have H' := as0 H
       clear H
       have p352 : 0 ≤ (x15_1 : Int) := oa_
       have q352 : x15_1 < (l1.length : Int) := oa_
       obtain ⟨ad352, e352, hx352_0⟩ := Kd.at_int HR1.out x15_1 p352 q352
       cases e352
       replace hx352_0 := (HB.out.cell (World.block_lt_of_cell? w _ hx352_0)).trans hx352_0
       replace p352 := eq_true p352
       replace q352 := eq_true q352
       try go_wp2
       have n0_ := as0 (Kd.R_drew HO_7.out)
       have n1_ := as0 (Kd.R_drew HO_8.out)
       have n2_ := as0 (below_drew1 HB.out)
       clear HO_7
       clear HO_8
       clear HB
       have HO_7 := n0_
       have HO_8 := n1_
       have HB := n2_
       clear n0_ n1_ n2_
       have p353 : 0 ≤ (x15_1 : Int) := oa_
       have q353 : x15_1 < (l2.length : Int) := oa_
       obtain ⟨ad353, e353, hx353_0⟩ := Kd.at_int HR2.out x15_1 p353 q353
       have hw353_0 := hx353_0
       cases e353
       replace hx353_0 := (HB.out.cell (World.block_lt_of_cell? w _ hx353_0)).trans hx353_0
       replace p353 := eq_true p353
       replace q353 := eq_true q353
       obtain ⟨Ao18, co18, eo18⟩ := Kd.R_slice HO_7.out
       (first | subst eo18 | (injection eo18 with f1_ f2_ f3_; have f4_ := f1_.symm; have f5_ := f3_.symm; clear f1_ f2_ f3_; subst f4_; subst f5_))
       refine start_ (n := 18) (S := fun w' => w'.cell? (ad353.add (x15_1).toNat) = some (.int .i64 (rd l2 x15_1))) (ds := []) #[false, false, false, false, false, false, false, false, false, false, false, false, false, false, false, false, false, false] (by kernel_rfl) rfl rfl (((HB.out.cell (World.block_lt_of_cell? w _ hw353_0)).trans hw353_0)) (fun hHeld => ?_); refine with_tabW impl_field_interpolate.tab6 impl_field_interpolate.bits6 (fun HT_ HW_ => ?_)
       generalize wr.drew = w17 at HO_7 HO_8 HB hx353_0 hHeld ⊢
       refine pm_ HT_ (i := 0) (N := some 20) ?_
       refine pm_ HT_ (i := 1) (N := some 21) ?_
       refine pm_ HT_ (i := 2) (N := some 22) ?_
       refine pm_ HT_ (i := 3) (N := some 23) ?_
       refine pm_ HT_ (i := 4) (N := some 24) ?_
       refine pm_ HT_ (i := 6) (N := some 26) ?_
       refine pm_ HT_ (i := 7) (N := some 27) ?_
       refine pm_ HT_ (i := 8) (N := some 28) ?_
       refine pm_ HT_ (i := 12) (N := some 32) ?_
       refine pm_ HT_ (i := 13) (N := some 33) ?_
       refine pm_ HT_ (i := 14) (N := some 34) ?_
       refine take_ (i := 5) (N := some 25) (v := ?_) (a' := ?_) #[true, true, true, true, true, true, true, true, true, false, false, false, true, true, true, false, false, false] rfl rfl (take_ofW HT_.out HW_.out (by kernel_rfl)) (fun _ _ _ h => h) (Or.inl ⟨by rfl, ?_⟩) hHeld ?_ ?_
       rotate_left
       ·
        intro w' s0
        go_simp
        with_reducible rfl
       rotate_left
       ·
        simp only [Act.put, List.setIfInBounds_toArray, List.set_cons_zero, List.set_cons_succ, i64_w, i32_w]
        rfl
       refine one_ (i := 9) (N := some 29) #[true, true, true, true, true, true, true, true, true, true, false, false, true, true, true, false, false, false] rfl rfl (one_of HT_.out (by kernel_rfl)) (by decide) (fun K hK => ?_)
       refine goes_ Tryz.func37 (by kernel_rfl) rfl #[.int .i64 a0, .slice Ao18 x7_1.length co18, .int .i64 (rd l1 x15_1)] (by rfl) rfl rfl (by (try simp only [List.map_toArray, List.map_cons, List.map_nil]); first | done | rfl | (simp only [List.length_drop, List.length_take]; rfl)) ?_
       with_reducible refine (impl_field_value.calls a0 _ _ x7_1 (rd l1 x15_1) t354 _ ?side1 ?side2 A10.out).mono ?_
       (case side1 => exact cs ((Kd.R_reads' HO_7.out).2.2))
       (case side2 => exact (Kd.R_reads' HO_7.out).2.1)
       rintro e w19 ⟨rfl, hb⟩
       refine ⟨_, rfl, ?_⟩
       have n0_ := as0 (Kd.R_below (rs HO_7) hb)
       have n1_ := as0 (Kd.R_below (rs HO_8) hb)
       have n2_ := as0 (below_step (bs HB) hb)
       clear HO_7
       clear HO_8
       clear HB
       have HO_7 := n0_
       have HO_8 := n1_
       have HB := n2_
       clear n0_ n1_ n2_
       (try clear hb)
       (try clear hb2)
       (try clear hk)
       (try clear hi)
       refine hK.out _ _ (((HB.out.cell (World.block_lt_of_cell? w _ hw353_0)).trans hw353_0)) (fun hHeld => ?_)
       clear hK K
       refine nm_ (some 29) ?_
       refine pm_ HT_ (i := 10) (N := some 30) ?_
       refine one_ (i := 11) (N := some 31) #[true, true, true, true, true, true, true, true, true, true, true, true, true, true, true, false, false, false] rfl rfl (one_of HT_.out (by kernel_rfl)) (by decide) (fun K hK => ?_)
       refine goes_ Tryz.func63 (by kernel_rfl) rfl #[.int .i64 a0, .int .i64 (wrap64 ((rd l2 x15_1) - t354))] (by rfl) rfl rfl (by (try simp only [List.map_toArray, List.map_cons, List.map_nil]); first | done | rfl | (simp only [List.length_drop, List.length_take]; rfl)) ?_
       with_reducible refine (impl_field_mod.calls a0 (wrap64 ((rd l2 x15_1) - t354)) t355 _ A11.out).mono ?_
       rintro e w' ⟨rfl, ⟨nd, rfl⟩⟩
       refine ⟨_, rfl, ?_⟩
       obtain ⟨Ao20, co20, eo20⟩ := Kd.R_slice HO_8.out
       (first | subst eo20 | (injection eo20 with f1_ f2_ f3_; have f4_ := f1_.symm; have f5_ := f3_.symm; clear f1_ f2_ f3_; subst f4_; subst f5_))
       refine hK.out _ _ (((HB.out.cell (World.block_lt_of_cell? w _ hw353_0)).trans hw353_0)) (fun hHeld => ?_)
       clear hK K
       refine nm_ (some 31) ?_
       refine one_ (i := 15) (N := some 35) #[true, true, true, true, true, true, true, true, true, true, true, true, true, true, true, true, false, false] rfl rfl (one_of HT_.out (by kernel_rfl)) (by decide) (fun K hK => ?_)
       refine goes_ Tryz.func37 (by kernel_rfl) rfl #[.int .i64 a0, .slice Ao20 x8_1.length co20, .int .i64 (rd l1 x15_1)] (by rfl) rfl rfl (by (try simp only [List.map_toArray, List.map_cons, List.map_nil]); first | done | rfl | (simp only [List.length_drop, List.length_take]; rfl)) ?_
       with_reducible refine (impl_field_value.calls a0 _ _ x8_1 (rd l1 x15_1) t356 _ ?side1 ?side2 A12.out).mono ?_
       (case side1 => exact cs ((Kd.R_reads' HO_8.out).2.2))
       (case side2 => exact (Kd.R_reads' HO_8.out).2.1)
       rintro e w21 ⟨rfl, hb⟩
       refine ⟨_, rfl, ?_⟩
       have n0_ := as0 (Kd.R_below (rs HO_7) hb)
       have n1_ := as0 (Kd.R_below (rs HO_8) hb)
       have n2_ := as0 (below_step (bs HB) hb)
       clear HO_7
       clear HO_8
       clear HB
       have HO_7 := n0_
       have HO_8 := n1_
       have HB := n2_
       clear n0_ n1_ n2_
       (try clear hb)
       (try clear hb2)
       (try clear hk)
       (try clear hi)
       refine hK.out _ _ (((HB.out.cell (World.block_lt_of_cell? w _ hw353_0)).trans hw353_0)) (fun hHeld => ?_)
       clear hK K
       refine nm_ (some 35) ?_
       refine one_ (i := 16) (N := some 36) #[true, true, true, true, true, true, true, true, true, true, true, true, true, true, true, true, true, false] rfl rfl (one_of HT_.out (by kernel_rfl)) (by decide) (fun K hK => ?_)
       refine goes_ Tryz.func62 (by kernel_rfl) rfl #[.int .i64 a0, .int .i64 t355, .int .i64 t356] (by rfl) rfl rfl (by (try simp only [List.map_toArray, List.map_cons, List.map_nil]); first | done | rfl | (simp only [List.length_drop, List.length_take]; rfl)) ?_
       with_reducible refine (impl_field_div.calls k1 a0 t355 t356 t357 _ A13.out).mono ?_
       rintro e w' ⟨rfl, ⟨nd, rfl⟩⟩
       refine ⟨_, rfl, ?_⟩
       refine hK.out _ _ (((HB.out.cell (World.block_lt_of_cell? w _ hw353_0)).trans hw353_0)) (fun hHeld => ?_)
       clear hK K
       refine nm_ (some 36) ?_
       refine pm_ HT_ (i := 17) (N := some 11) ?_
       refine done_ (done_of HT_.out (by kernel_rfl)) ?_
       try go_wp2_with (first | ((with_reducible refine gate_callee (f := 64) rfl ?_); refine goesM_ (some 41) rfl rfl Tryz.func64 #[.int .i64 a0, .slice Ao18 x7_1.length co18, .slice Ao20 x8_1.length co20, .int .i64 t357] rfl ?_; (with_reducible refine (impl_field_add.calls k1 a0 _ _ x7_1 _ _ x8_1 t357 t358 _ ?side1 ?side2 ?side3 ?side4 A14.out).mono ?_); (case side1 => exact cs ((Kd.R_reads' HO_7.out).2.2)); (case side2 => exact (Kd.R_reads' HO_7.out).2.1); (case side3 => exact cs ((Kd.R_reads' HO_8.out).2.2)); (case side4 => exact (Kd.R_reads' HO_8.out).2.1); rintro e w22 ⟨v359, rfl, ho0, hb⟩; refine ⟨_, rfl, ?_⟩; have n0_ := as0 (Kd.R_elder' (rs HO_7) (Kd.R_base ho0) hb); have n1_ := as0 (Kd.R_elder' (rs HO_8) (Kd.R_base ho0) hb); have n2_ := as0 (Kd.R_lower (Kd.R_new' (Kd.R_new' ho0 (Kd.R_lt (rs HO_7))) (Kd.R_lt (rs HO_8))) (below_size (bs HB))); have n3_ := as0 (below_step (bs HB) hb); clear HO_7; clear HO_8; clear HB; have HO_7 := n0_; have HO_8 := n1_; have HO360 := n2_; have HB := n3_; clear n0_ n1_ n2_ n3_; (try clear hb); (try clear hb2); (try clear hk); (try clear hi); (try clear ho0)) | ((with_reducible refine gate_callee (f := 63) rfl ?_); refine goesM_ (some 47) rfl rfl Tryz.func63 #[.int .i64 a0, .int .i64 (wrap64 (-(rd l1 x15_1)))] rfl ?_; (with_reducible refine (impl_field_mod.calls a0 (wrap64 (-(rd l1 x15_1))) t361 _ A15.out).mono ?_); rintro e w' ⟨rfl, ⟨nd, rfl⟩⟩; refine ⟨_, rfl, ?_⟩) | ((with_reducible refine gate_dst (N := 48) rfl ?_); refine Kd.R_lit (Kd.int .i64) _ 2 ?hg (N := 48) ?hd (xs := ([t361, 1] : List Int)) (inner := [.int .i64 t361, .int .i64 1]) (ok := fun _ => True) (okp := fun _ => True) ?hr ?hp (fun _ hk => hk) trivial (Below.refl _ _) (Nat.le_refl _) (by simp) ?_; (case hd => rfl); (case hg => rfl); (case hr => first | (go_simp; done) | (go_simp; rfl)); (case hp => exact (Reps.one (show Kd.M (Kd.int .i64) _ _ _ t361 [.int .i64 t361] from rfl) (Reps.one (show Kd.M (Kd.int .i64) _ _ _ 1 [.int .i64 1] from rfl) (Reps.none _ _)))); intro v363 w23 ho24 hb hg_ hnew_; clear hg_ hnew_; (first | rw [← Ny362.out] at ho24 | (simp only [Int.reduceToNat] at ho24; rw [← Ny362.out] at ho24)); have n0_ := as0 (Kd.R_elder' (rs HO_7) (Kd.R_base ho24) hb); have n1_ := as0 (Kd.R_elder' (rs HO_8) (Kd.R_base ho24) hb); have n2_ := as0 (Kd.R_elder' (rs HO360) (Kd.R_base ho24) hb); have n3_ := as0 (Kd.R_lower (Kd.R_new' (Kd.R_new' (Kd.R_new' ho24 (Kd.R_lt (rs HO_7))) (Kd.R_lt (rs HO_8))) (Kd.R_lt (rs HO360))) (below_size (bs HB))); have n4_ := as0 (below_step (bs HB) hb); clear HO_7; clear HO_8; clear HO360; clear HB; have HO_7 := n0_; have HO_8 := n1_; have HO360 := n2_; have HO364 := n3_; have HB := n4_; clear n0_ n1_ n2_ n3_ n4_; clear hb ho24; obtain ⟨Ao25, co25, eo25⟩ := Kd.R_slice HO364.out; subst eo25) | ((with_reducible refine gate_callee (f := 65) rfl ?_); refine goesM_ (some 49) rfl rfl Tryz.func65 #[.int .i64 a0, .slice Ao20 x8_1.length co20, .slice Ao25 y362.length co25] rfl ?_; (with_reducible refine (impl_field_product.calls k1 a0 _ _ x8_1 _ _ y362 t365 _ ?side1 ?side2 ?side3 ?side4 A16.out).mono ?_); (case side1 => exact cs ((Kd.R_reads' HO_8.out).2.2)); (case side2 => exact (Kd.R_reads' HO_8.out).2.1); (case side3 => exact cs ((Kd.R_reads' HO364.out).2.2)); (case side4 => exact (Kd.R_reads' HO364.out).2.1); rintro e w26 ⟨v366, rfl, ho0, hb⟩; refine ⟨_, rfl, ?_⟩; have n0_ := as0 (Kd.R_elder' (rs HO_7) (Kd.R_base ho0) hb); have n1_ := as0 (Kd.R_elder' (rs HO_8) (Kd.R_base ho0) hb); have n2_ := as0 (Kd.R_elder' (rs HO360) (Kd.R_base ho0) hb); have n3_ := as0 (Kd.R_elder' (rs HO364) (Kd.R_base ho0) hb); have n4_ := as0 (Kd.R_lower (Kd.R_new' (Kd.R_new' (Kd.R_new' (Kd.R_new' ho0 (Kd.R_lt (rs HO_7))) (Kd.R_lt (rs HO_8))) (Kd.R_lt (rs HO360))) (Kd.R_lt (rs HO364))) (below_size (bs HB))); have n5_ := as0 (below_step (bs HB) hb); clear HO_7; clear HO_8; clear HO360; clear HO364; clear HB; have HO_7 := n0_; have HO_8 := n1_; have HO360 := n2_; have HO364 := n3_; have HO367 := n4_; have HB := n5_; clear n0_ n1_ n2_ n3_ n4_ n5_; (try clear hb); (try clear hb2); (try clear hk); (try clear hi); (try clear ho0)))
       go_roundg k1
       case measure => have := HK1.out; omega
       case rel => exact ⟨(t358), (t365), (wrap64 (x15_1 + 1)), ea_, H', ⟨by have := HK1.out; omega⟩, ⟨by (with_reducible repeat (first | apply Kd.R_alloc | apply Kd.R_drewN | apply Kd.R_drew)); exact Kd.R_mono HO360.out (fun _ hk => hk.2)⟩, ⟨by (with_reducible repeat (first | apply Kd.R_alloc | apply Kd.R_drewN | apply Kd.R_drew)); exact Kd.R_mono HO367.out (fun _ hk => hk.1.2)⟩, ⟨bs HB⟩⟩
      ·
       rw [if_neg c9] at H
       exact absurd H (by simp)
     ·
      rw [if_neg c8] at H
      exact absurd H (by simp)
    ·
     rw [if_neg c7] at H
     exact absurd H (by simp)
   ·
    rw [if_neg c6] at H
    have c6b0 : decide (x15_1 < (l1.length : Int)) = false := decide_eq_false c6
    clear c6
    obtain rfl := Option.some.inj H
    go_wp2
    go_ret
    exact ⟨_, er_, by (with_reducible repeat (first | apply Kd.R_alloc | apply Kd.R_drewN | apply Kd.R_drew)); exact Kd.R_mono HO_7.out (fun _ hk => trivial), bs HB⟩
def impl_InterpolatePoly.f (k : Nat) (a0 : Int) (l1 : List Int) (l2 : List Int) : Option (List Int × Int) := (impl_areNodes.f k a0 l1 l2 25).bind fun t368 => (if t368 = true then ((impl_field_interpolate.f k a0 l1 l2).bind fun t369 => (some (t369, 0))) else (some (([] : List Int), 2)))
set_option maxHeartbeats 8000000 in
set_option maxRecDepth 100000 in
theorem impl_InterpolatePoly.calls (k : Nat) (a0 : Int) (A1 : Option Addr) (c1 : Nat) (l1 : List Int) (A2 : Option Addr) (c2 : Nat) (l2 : List Int) (r1 : List Int) (r2 : Int) (w : World) (hr1 : Kd.C (Kd.int .i64) w A1 l1.length l1) (hc1 : l1.length ≤ c1) (hr2 : Kd.C (Kd.int .i64) w A2 l2.length l2) (hc2 : l2.length ≤ c2) (h : impl_InterpolatePoly.f k a0 l1 l2 = some (r1, r2)) :
  Calls Tryz.prog 6 #[.int .i64 a0, .slice A1 l1.length c1, .slice A2 l2.length c2] w fun e w' => ∃ v0_ : Value, e = .returned (.tuple #[v0_, .int .i64 r2]) ∧ Kd.R (Kd.int .i64) 2 w' w.heap.size (fun _ => True) v0_ r1 ∧ Below w.heap.size w w' := by
 have HR1 := as0 hr1
 have HC1 := as0 hc1
 clear hr1 hc1
 have HR2 := as0 hr2
 have HC2 := as0 hc2
 clear hr2 hc2
 have HB := as0 (Below.refl w.heap.size w)
 have H : ((impl_areNodes.f k a0 l1 l2 25).bind fun t368 => (if t368 = true then ((impl_field_interpolate.f k a0 l1 l2).bind fun t369 => (some (t369, 0))) else (some (([] : List Int), 2)))) = some (r1, r2) := h
 clear h
 replace H := Option.bind_eq_some_iff.mp H
 obtain ⟨t368, A40, H⟩ := H
 have A4 := as0 A40
 clear A40
 by_cases c5 : t368 = true
 ·
  subst c5
  have H1 : ((impl_field_interpolate.f k a0 l1 l2).bind fun t369 => (some (t369, 0))) = some (r1, r2) := by rw [if_pos rfl] at H; exact H
  clear H
  have H := H1
  clear H1
  replace H := Option.bind_eq_some_iff.mp H
  obtain ⟨t369, A60, H⟩ := H
  have A6 := as0 A60
  clear A60
  simp only [Option.some.injEq, Prod.mk.injEq] at H
  obtain ⟨rfl, rfl⟩ := H
  go_enter Tryz.func6, Tryz.ntmps6
  go_wp2_with (first | ((with_reducible refine gate_callee (f := 29) rfl ?_); refine goesM_ (some 11) rfl rfl Tryz.func29 #[.int .i64 a0, .slice A1 l1.length c1, .slice A2 l2.length c2, .int .i64 25] rfl ?_; (with_reducible refine (impl_areNodes.calls k a0 _ _ l1 _ _ l2 25 true _ ?side1 ?side2 ?side3 ?side4 A4.out).mono ?_); (case side1 => exact cs (HR1.out)); (case side2 => exact HC1.out); (case side3 => exact cs (HR2.out)); (case side4 => exact HC2.out); rintro e w7 ⟨rfl, hb⟩; refine ⟨_, rfl, ?_⟩; have n0_ := as0 (below_step (bs HB) hb); clear HB; have HB := n0_; clear n0_; (try clear hb); (try clear hb2); (try clear hk); (try clear hi)) | ((with_reducible refine gate_callee (f := 30) rfl ?_); refine goesM_ (some 16) rfl rfl Tryz.func30 #[.int .i64 a0, .slice A1 l1.length c1, .slice A2 l2.length c2] rfl ?_; (with_reducible refine (impl_field_interpolate.calls k a0 _ _ l1 _ _ l2 t369 _ ?side1 ?side2 ?side3 ?side4 A6.out).mono ?_); (case side1 => exact cs ((Kd.C_below HR1.out HB.out))); (case side2 => exact HC1.out); (case side3 => exact cs ((Kd.C_below HR2.out HB.out))); (case side4 => exact HC2.out); rintro e w8 ⟨v370, rfl, ho0, hb⟩; refine ⟨_, rfl, ?_⟩; have n0_ := as0 (Kd.R_lower ho0 (below_size (bs HB))); have n1_ := as0 (below_step (bs HB) hb); clear HB; have HO371 := n0_; have HB := n1_; clear n0_ n1_; (try clear hb); (try clear hb2); (try clear hk); (try clear hi); (try clear ho0)))
  go_ret2
  exact ⟨_, er_, rs HO371, bs HB⟩
 ·
  replace c5 := Bool.eq_false_iff.mpr c5
  subst c5
  have H1 : (some (([] : List Int), 2)) = some (r1, r2) := by rw [if_neg (show ¬ (false = true) by decide)] at H; exact H
  clear H
  have H := H1
  clear H1
  simp only [Option.some.injEq, Prod.mk.injEq] at H
  obtain ⟨rfl, rfl⟩ := H
  go_enter Tryz.func6, Tryz.ntmps6
  go_wp2_with (first | ((with_reducible refine gate_callee (f := 29) rfl ?_); refine goesM_ (some 11) rfl rfl Tryz.func29 #[.int .i64 a0, .slice A1 l1.length c1, .slice A2 l2.length c2, .int .i64 25] rfl ?_; (with_reducible refine (impl_areNodes.calls k a0 _ _ l1 _ _ l2 25 false _ ?side1 ?side2 ?side3 ?side4 A4.out).mono ?_); (case side1 => exact cs (HR1.out)); (case side2 => exact HC1.out); (case side3 => exact cs (HR2.out)); (case side4 => exact HC2.out); rintro e w9 ⟨rfl, hb⟩; refine ⟨_, rfl, ?_⟩; have n0_ := as0 (below_step (bs HB) hb); clear HB; have HB := n0_; clear n0_; (try clear hb); (try clear hb2); (try clear hk); (try clear hi)))
  go_ret2
  exact ⟨_, er_, by first | exact Kd.R_nil _ _ _ _ _ | exact Kd.N_nil _ _ _ _ _ | exact Kd.V_nil _ _ _ _ _ | exact Kd.Q_nil _ _ _ _ _ | exact Kd.S_nil _ _ _ _ _, bs HB⟩
def spec_l01Mod.f (a0 : Int) (a1 : Int) : Option (Int) := if a0 = 0 then (none) else (some (Int.tmod (wrap64 ((Int.tmod a1 a0) + a0)) a0))
set_option maxHeartbeats 8000000 in
set_option maxRecDepth 100000 in
theorem spec_l01Mod.calls (a0 : Int) (a1 : Int) (r : Int) (w : World) (h : spec_l01Mod.f a0 a1 = some r) :
  Calls Tryz.prog 66 #[.int .i64 a0, .int .i64 a1] w fun e w' => e = .returned (.int .i64 r) ∧ Drawn0 w w' := by
 have H : (if a0 = 0 then (none) else (some (Int.tmod (wrap64 ((Int.tmod a1 a0) + a0)) a0))) = some r := h
 clear h
 by_cases c3 : a0 = 0
 ·
  rw [if_pos c3] at H
  exact absurd H (by simp)
 ·
  rw [if_neg c3] at H
  have c3b0 : (a0 == 0) = false := beq_eq_false_iff_ne.mpr c3
  have c3b1 : (a0 != 0) = true := bne_iff_ne.mpr c3
  obtain rfl := Option.some.inj H
  go_enter Tryz.func66, Tryz.ntmps66
  go_wp2
  go_ret
  exact ⟨ea_, dr_⟩
def spec_l01Own.f (l0 : List Int) : Option (List Int) := (some (([] : List Int) : List Int)).bind fun y380 => (if y380.length + l0.length < 17592186044416 then (some (y380 ++ l0)) else (none))
set_option maxHeartbeats 8000000 in
set_option maxRecDepth 100000 in
theorem spec_l01Own.calls (A0 : Option Addr) (c0 : Nat) (l0 : List Int) (r : List Int) (w : World) (hr0 : Kd.C (Kd.int .i64) w A0 l0.length l0) (hc0 : l0.length ≤ c0) (h : spec_l01Own.f l0 = some r) :
  Calls Tryz.prog 75 #[.slice A0 l0.length c0] w fun e w' => ∃ v0_ : Value, e = .returned (v0_) ∧ Kd.R (Kd.int .i64) 2 w' w.heap.size (fun _ => True) v0_ r ∧ Below w.heap.size w w' := by
 have HR0 := as0 hr0
 have HC0 := as0 hc0
 clear hr0 hc0
 have HB := as0 (Below.refl w.heap.size w)
 have H : ((some (([] : List Int) : List Int)).bind fun y380 => (if y380.length + l0.length < 17592186044416 then (some (y380 ++ l0)) else (none))) = some r := h
 clear h
 obtain ⟨y380, hy380⟩ : ∃ y_ : List Int, y_ = (([] : List Int)) := ⟨_, rfl⟩
 replace H : (if y380.length + l0.length < 17592186044416 then (some (y380 ++ l0)) else (none)) = some r := by first | (rw [hy380]; with_reducible exact H) | (have H2_ := (Option.bind_some _ _).symm.trans H; rw [hy380]; with_reducible exact H2_) | (have H2_ := (Option.bind_some _ _).symm.trans H; with_reducible exact H2_) | with_reducible exact H | (rw [hy380]; exact H) | exact H
 have Ny380 := as0 hy380
 clear hy380
 by_cases c2 : y380.length + l0.length < 17592186044416
 ·
  rw [if_pos c2] at H
  have LMc2 := as0 c2
  clear c2
  obtain ⟨y383, hy383⟩ : ∃ y_ : List Int, y_ = (y380 ++ l0) := ⟨_, rfl⟩
  replace H : (some y383) = some r := by first | (rw [hy383]; with_reducible exact H) | (have H2_ := (Option.bind_some _ _).symm.trans H; rw [hy383]; with_reducible exact H2_) | (have H2_ := (Option.bind_some _ _).symm.trans H; with_reducible exact H2_) | with_reducible exact H | (rw [hy383]; exact H) | exact H
  have Ny383 := as0 hy383
  clear hy383
  obtain rfl := Option.some.inj H
  go_enter Tryz.func75, Tryz.ntmps75
  go_wp2_with (first | ((with_reducible refine gate_dst (N := 3) rfl ?_); refine Kd.R_lit (Kd.int .i64) _ 2 ?hg (N := 3) ?hd (xs := ([] : List Int)) (inner := []) (ok := fun _ => True) (okp := fun _ => True) ?hr ?hp (fun _ hk => hk) trivial (Below.refl _ _) (Nat.le_refl _) (by simp) ?_; (case hd => rfl); (case hg => rfl); (case hr => first | (go_simp; done) | (go_simp; rfl)); (case hp => exact (Reps.none _ _)); intro v381 w3 ho4 hb hg_ hnew_; clear hg_ hnew_; (first | rw [← Ny380.out] at ho4 | (simp only [Int.reduceToNat] at ho4; rw [← Ny380.out] at ho4)); have n0_ := as0 (Kd.R_lower ho4 (below_size (bs HB))); have n1_ := as0 (below_step (bs HB) hb); clear HB; have HO382 := n0_; have HB := n1_; clear n0_ n1_; clear hb ho4) | ((with_reducible refine gate_builtin (b := .append) (xs := #[.tmp 3, .tmp 4]) rfl ?_); at_builtin; refine Kd.R_append_rows (Kd.int .i64) (w0 := w) w.heap.size rfl (.tmp 3) (.tmp 4) 24 2 (.int .i64 0) 8 rfl Tryz.underlying24 info2 rfl (by decide) (by omega) v381 y380 l0 _ _ _ (fun _ => True) (fun _ => False) rfl rfl ?aO ?aR (fun _ _ h => h) (fun _ h => h.elim) ?aF ?aB ?aS ?aL ?_; (case aR => exact cs ((Kd.C_below HR0.out HB.out))); (case aB => exact (bs HB)); (case aF => exact (fun _ _ => trivial)); (case aO => exact (rs HO382)); (case aS => exact (below_size (bs HB))); (case aL => have := LMc2.out; omega); intro v384 w5 ho hb hg hat; rw [← Ny383.out] at ho; have n0_ := as0 (hb); have n1_ := as0 (ho); clear HB; clear HO382; have HB := n0_; have HO385 := n1_; clear n0_ n1_; clear ho hb hg hat))
  go_ret
  exact ⟨_, er_, rs HO385, bs HB⟩
 ·
  rw [if_neg c2] at H
  exact absurd H (by simp)
def spec_l01Trim.l0 : Nat → List Int → Int → Option (List Int)
 | 0, _, _ => none
 | k + 1, x0, x3 => if x3 > 0 then (if 0 ≤ (wrap64 (x3 - 1)) then (if (wrap64 (x3 - 1)) < (x0.length : Int) then (if (rd x0 (wrap64 (x3 - 1))) = 0 then (spec_l01Trim.l0 k x0 (wrap64 (x3 - 1))) else (if 0 ≤ x3 then (if x3 ≤ (x0.length : Int) then ((spec_l01Own.f (x0.take (x3 : Int).toNat)).bind fun t388 => (some t388)) else (none)) else (none))) else (none)) else (none)) else (if 0 ≤ x3 then (if x3 ≤ (x0.length : Int) then ((spec_l01Own.f (x0.take (x3 : Int).toNat)).bind fun t392 => (some t392)) else (none)) else (none))
def spec_l01Trim.f (k : Nat) (l0 : List Int) : Option (List Int) := spec_l01Trim.l0 k l0 (l0.length : Int)
set_option maxHeartbeats 8000000 in
set_option maxRecDepth 100000 in
theorem spec_l01Trim.calls (k : Nat) (A0 : Option Addr) (c0 : Nat) (l0 : List Int) (r : List Int) (w : World) (hr0 : Kd.C (Kd.int .i64) w A0 l0.length l0) (hc0 : l0.length ≤ c0) (h : spec_l01Trim.f k l0 = some r) :
  Calls Tryz.prog 74 #[.slice A0 l0.length c0] w fun e w' => ∃ v0_ : Value, e = .returned (v0_) ∧ Kd.R (Kd.int .i64) 2 w' w.heap.size (fun _ => True) v0_ r ∧ Below w.heap.size w w' := by
 have HR0 := as0 hr0
 have HC0 := as0 hc0
 clear hr0 hc0
 have HB := as0 (Below.refl w.heap.size w)
 have H : (spec_l01Trim.l0 k l0 (l0.length : Int)) = some r := h
 clear h
 have H' := as0 H
 clear H
 go_enter Tryz.func74, Tryz.ntmps74
 go_wp2
 go_loopg [3] k (fun kq v3 w' => ∃ (x3_1 : Int), v3 = .int .i64 x3_1 ∧ Aside0 (spec_l01Trim.l0 kq l0 x3_1 = some r) ∧ Aside0 (kq ≤ k) ∧ Aside0 (Below w.heap.size w w'))
 case atStart => exact ⟨((l0.length : Int)), ea_, H', ⟨Nat.le_refl _⟩, ⟨bs HB⟩⟩
 case round =>
  clear H'
  obtain ⟨x3_1, rfl, HA, HK1, HB⟩ := hrel
  cases gk with
  | zero => exact absurd HA.out (by simp [spec_l01Trim.l0])
  | succ k1 =>
   have H := HA.out
   clear HA
   simp only [spec_l01Trim.l0] at H
   by_cases c2 : x3_1 > 0
   ·
    rw [if_pos c2] at H
    have c2b0 : decide (0 < x3_1) = true := decide_eq_true c2
    clear c2
    obtain ⟨ji3, hji3⟩ : ∃ j_ : Int, (wrap64 (x3_1 - 1)) = j_ := ⟨_, rfl⟩
    replace H : (if 0 ≤ (ji3) then (if (ji3) < (l0.length : Int) then (if (rd l0 (ji3)) = 0 then (spec_l01Trim.l0 k1 l0 ji3) else (if 0 ≤ x3_1 then (if x3_1 ≤ (l0.length : Int) then ((spec_l01Own.f (l0.take (x3_1 : Int).toNat)).bind fun t388 => (some t388)) else (none)) else (none))) else (none)) else (none)) = some r := by first | (rw [hji3] at H; exact H) | (simp only [hji3] at H ⊢; exact H)
    have hji3w : (IntKind.i64.wrap (x3_1 - 1)) = ji3 := (i64_w _).trans hji3
    by_cases c4 : 0 ≤ (ji3)
    ·
     rw [if_pos c4] at H
     have c4b0 : decide (0 ≤ (ji3)) = true := decide_eq_true c4
     clear c4
     by_cases c5 : (ji3) < (l0.length : Int)
     ·
      rw [if_pos c5] at H
      have c5b0 : decide ((ji3) < (l0.length : Int)) = true := decide_eq_true c5
      clear c5
      by_cases c6 : (rd l0 (ji3)) = 0
      ·
       rw [if_pos c6] at H
       have c6b0 : ((rd l0 (ji3)) == 0) = true := beq_iff_eq.mpr c6
       have c6b1 : ((rd l0 (ji3)) != 0) = false := bne_eq_false_iff_eq.mpr c6
       clear c6
       have H' := as0 H
       clear H
       have p386 : 0 ≤ ((ji3) : Int) := oa_
       have q386 : (ji3) < (l0.length : Int) := oa_
       obtain ⟨ad386, e386, hx386_0⟩ := Kd.at_int HR0.out (ji3) p386 q386
       cases e386
       replace hx386_0 := (HB.out.cell (World.block_lt_of_cell? w _ hx386_0)).trans hx386_0
       replace p386 := eq_true p386
       replace q386 := eq_true q386
       go_wp2
       go_roundg k1
       case measure => have := HK1.out; omega
       case rel => exact ⟨(ji3), (by first | rfl | (simp; done) | (simp only [← hji3] <;> (first | rfl | simp)) | (simp [*]; done)), H', ⟨by have := HK1.out; omega⟩, ⟨bs HB⟩⟩
      ·
       rw [if_neg c6] at H
       have c6b0 : ((rd l0 (ji3)) == 0) = false := beq_eq_false_iff_ne.mpr c6
       have c6b1 : ((rd l0 (ji3)) != 0) = true := bne_iff_ne.mpr c6
       by_cases c7 : 0 ≤ x3_1
       ·
        rw [if_pos c7] at H
        have c7b0 := eq_true c7
        have c7b1 : decide (0 ≤ x3_1) = true := decide_eq_true c7
        clear c7
        by_cases c8 : x3_1 ≤ (l0.length : Int)
        ·
         rw [if_pos c8] at H
         have c8b0 := eq_true c8
         have c8b1 : decide (x3_1 ≤ (l0.length : Int)) = true := decide_eq_true c8
         clear c8
         replace H := Option.bind_eq_some_iff.mp H
         obtain ⟨t388, A90, H⟩ := H
         have A9 := as0 A90
         clear A90
         obtain rfl := Option.some.inj H
         have p386 : 0 ≤ ((ji3) : Int) := oa_
         have q386 : (ji3) < (l0.length : Int) := oa_
         obtain ⟨ad386, e386, hx386_0⟩ := Kd.at_int HR0.out (ji3) p386 q386
         cases e386
         replace hx386_0 := (HB.out.cell (World.block_lt_of_cell? w _ hx386_0)).trans hx386_0
         replace p386 := eq_true p386
         replace q386 := eq_true q386
         obtain ⟨i010, hi010, _, hsz10, _⟩ := info_parts info2
         obtain ⟨hcut10, hA10, hC10⟩ := print_take_of (P := Tryz.prog) (Value.int .i64) 0 24 2 .i64 Tryz.underlying24 hi010 hsz10 (some ad386) c0 l0 x3_1 (oa_) (oa_) HC0.out
         have HR387 := as0 (Kd.C_of_reads (h1 := fun _ => rfl) (hA10 _ (Kd.reads_of_C HR0.out)))
         have HC387 := as0 hC10
         clear hA10 hC10 hi010 hsz10
         go_wp2_with (first | ((with_reducible refine gate_callee (f := 75) rfl ?_); refine goesL_ (some 21) rfl rfl Tryz.func75 (by kernel_rfl) rfl #[.slice (some ad386) (l0.take (x3_1 : Int).toNat).length c0] rfl (by (try simp only [List.map_toArray, List.map_cons, List.map_nil]); first | done | (rw [show (l0.take (x3_1 : Int).toNat).length = x3_1.toNat from (by rw [List.length_take]; have h_ : (x3_1 : Int) ≤ (l0.length : Int) := oa_; omega)] <;> rfl) | rfl | (simp only [List.length_drop, List.length_take]; rfl)) ?_; (with_reducible refine (spec_l01Own.calls _ _ (l0.take (x3_1 : Int).toNat) t388 _ ?side1 ?side2 A9.out).mono ?_); (case side1 => exact cs ((Kd.C_below HR387.out HB.out))); (case side2 => exact HC387.out); rintro e w11 ⟨v389, rfl, ho0, hb⟩; refine ⟨_, rfl, ?_⟩; have n0_ := as0 (Kd.R_lower ho0 (below_size (bs HB))); have n1_ := as0 (below_step (bs HB) hb); clear HB; have HO390 := n0_; have HB := n1_; clear n0_ n1_; (try clear hb); (try clear hb2); (try clear hk); (try clear hi); (try clear ho0)))
         go_ret
         exact ⟨_, by first | rfl | (simp [errW_none, errW_some] <;> rfl) | (simp only [← hji3]; first | rfl | (simp [errW_none, errW_some] <;> rfl)) | (simp [*, errW_none, errW_some] <;> rfl), rs HO390, bs HB⟩
        ·
         rw [if_neg c8] at H
         exact absurd H (by simp)
       ·
        rw [if_neg c7] at H
        exact absurd H (by simp)
     ·
      rw [if_neg c5] at H
      exact absurd H (by simp)
    ·
     rw [if_neg c4] at H
     exact absurd H (by simp)
   ·
    rw [if_neg c2] at H
    have c2b0 : decide (0 < x3_1) = false := decide_eq_false c2
    clear c2
    by_cases c12 : 0 ≤ x3_1
    ·
     rw [if_pos c12] at H
     have c12b0 := eq_true c12
     have c12b1 : decide (0 ≤ x3_1) = true := decide_eq_true c12
     clear c12
     by_cases c13 : x3_1 ≤ (l0.length : Int)
     ·
      rw [if_pos c13] at H
      have c13b0 := eq_true c13
      have c13b1 : decide (x3_1 ≤ (l0.length : Int)) = true := decide_eq_true c13
      clear c13
      replace H := Option.bind_eq_some_iff.mp H
      obtain ⟨t392, A140, H⟩ := H
      have A14 := as0 A140
      clear A140
      obtain rfl := Option.some.inj H
      obtain ⟨i015, hi015, _, hsz15, _⟩ := info_parts info2
      obtain ⟨hcut15, hA15, hC15⟩ := print_take_of (P := Tryz.prog) (Value.int .i64) 0 24 2 .i64 Tryz.underlying24 hi015 hsz15 A0 c0 l0 x3_1 (oa_) (oa_) HC0.out
      have HR391 := as0 (Kd.C_of_reads (h1 := fun _ => rfl) (hA15 _ (Kd.reads_of_C HR0.out)))
      have HC391 := as0 hC15
      clear hA15 hC15 hi015 hsz15
      go_wp2_with (first | ((with_reducible refine gate_callee (f := 75) rfl ?_); refine goesL_ (some 21) rfl rfl Tryz.func75 (by kernel_rfl) rfl #[.slice A0 (l0.take (x3_1 : Int).toNat).length c0] rfl (by (try simp only [List.map_toArray, List.map_cons, List.map_nil]); first | done | (rw [show (l0.take (x3_1 : Int).toNat).length = x3_1.toNat from (by rw [List.length_take]; have h_ : (x3_1 : Int) ≤ (l0.length : Int) := oa_; omega)] <;> rfl) | rfl | (simp only [List.length_drop, List.length_take]; rfl)) ?_; (with_reducible refine (spec_l01Own.calls _ _ (l0.take (x3_1 : Int).toNat) t392 _ ?side1 ?side2 A14.out).mono ?_); (case side1 => exact cs ((Kd.C_below HR391.out HB.out))); (case side2 => exact HC391.out); rintro e w16 ⟨v393, rfl, ho0, hb⟩; refine ⟨_, rfl, ?_⟩; have n0_ := as0 (Kd.R_lower ho0 (below_size (bs HB))); have n1_ := as0 (below_step (bs HB) hb); clear HB; have HO394 := n0_; have HB := n1_; clear n0_ n1_; (try clear hb); (try clear hb2); (try clear hk); (try clear hi); (try clear ho0)))
      go_ret
      exact ⟨_, er_, rs HO394, bs HB⟩
     ·
      rw [if_neg c13] at H
      exact absurd H (by simp)
    ·
     rw [if_neg c12] at H
     exact absurd H (by simp)
mutual
def spec_l01Add.l0 : Nat → Int → List Int → List Int → Int → List Int → Int → Option (List Int)
 | 0, _, _, _, _, _, _ => none
 | k + 1, x0, x1, x2, x3, x9, x10 => if x10 < (x1.length : Int) then (if 0 ≤ x10 then (if x10 < (x9.length : Int) then (spec_l01Add.l0 k x0 x1 x2 x3 (x9.set (x10 : Int).toNat (rd x1 x10)) (wrap64 (x10 + 1))) else (none)) else (none)) else (spec_l01Add.l1 k x0 x2 x3 x9 0)
def spec_l01Add.l1 : Nat → Int → List Int → Int → List Int → Int → Option (List Int)
 | 0, _, _, _, _, _ => none
 | k + 1, x0, x2, x3, x9, x11 => if x11 < (x2.length : Int) then (if 0 ≤ x11 then (if x11 < (x9.length : Int) then ((spec_l01Mod.f x0 (wrap64 ((rd x9 x11) + (wrap64 (x3 * (rd x2 x11)))))).bind fun t402 => (spec_l01Add.l1 k x0 x2 x3 (x9.set (x11 : Int).toNat t402) (wrap64 (x11 + 1)))) else (none)) else (none)) else ((spec_l01Trim.f k x9).bind fun t404 => (some t404))
end
def spec_l01Add.f (k : Nat) (a0 : Int) (l1 : List Int) (l2 : List Int) (a3 : Int) : Option (List Int) := if (l1.length : Int) < (l2.length : Int) then (if 0 ≤ (l2.length : Int) then (if ((l2.length : Int) : Int).toNat ≤ 35184372088832 then (spec_l01Add.l0 k a0 l1 l2 a3 (List.replicate ((l2.length : Int) : Int).toNat 0) 0) else (none)) else (none)) else (if 0 ≤ (l1.length : Int) then (if ((l1.length : Int) : Int).toNat ≤ 35184372088832 then (spec_l01Add.l0 k a0 l1 l2 a3 (List.replicate ((l1.length : Int) : Int).toNat 0) 0) else (none)) else (none))
def spec_l01Add.T9 : Bool × List (List Nat × List Nat) := (true, [([], []), ([], []), ([], []), ([], []), ([], []), ([3, 4], [3, 4]), ([5], [5]), ([], []), ([], []), ([], []), ([8, 9], [8, 9]), ([10], [10]), ([7, 11], [7, 11]), ([6, 12], [6, 12]), ([2, 13], [2, 13]), ([0, 1, 0, 1, 2, 3, 4, 5, 6, 7, 8, 9, 10, 11, 12, 13, 14], [0, 1]), ([15, 14, 14, 0, 1, 2, 3, 4, 5, 6, 7, 8, 9, 10, 11, 12, 13, 14], [14, 15])])
def spec_l01Add.B9 : List Nat := [0, 0, 0, 0, 0, 24, 56, 0, 0, 0, 768, 1792, 3968, 8184, 16380, 32767, 65535]
theorem spec_l01Add.tab9 : rtab .any (opsOf Tryz.f68 9) = spec_l01Add.T9 := by kernel_rfl
theorem spec_l01Add.bits9 : waitsOk spec_l01Add.T9.2 spec_l01Add.B9 = true := by kernel_rfl
set_option maxHeartbeats 8000000 in
set_option maxRecDepth 100000 in
theorem spec_l01Add.calls (k : Nat) (a0 : Int) (A1 : Option Addr) (c1 : Nat) (l1 : List Int) (A2 : Option Addr) (c2 : Nat) (l2 : List Int) (a3 : Int) (r : List Int) (w : World) (hr1 : Kd.C (Kd.int .i64) w A1 l1.length l1) (hc1 : l1.length ≤ c1) (hr2 : Kd.C (Kd.int .i64) w A2 l2.length l2) (hc2 : l2.length ≤ c2) (h : spec_l01Add.f k a0 l1 l2 a3 = some r) :
  Calls Tryz.prog 68 #[.int .i64 a0, .slice A1 l1.length c1, .slice A2 l2.length c2, .int .i64 a3] w fun e w' => ∃ v0_ : Value, e = .returned (v0_) ∧ Kd.R (Kd.int .i64) 2 w' w.heap.size (fun _ => True) v0_ r ∧ Below w.heap.size w w' := by
 have HR1 := as0 hr1
 have HC1 := as0 hc1
 clear hr1 hc1
 have HR2 := as0 hr2
 have HC2 := as0 hc2
 clear hr2 hc2
 have HB := as0 (Below.refl w.heap.size w)
 have H : (if (l1.length : Int) < (l2.length : Int) then (if 0 ≤ (l2.length : Int) then (if ((l2.length : Int) : Int).toNat ≤ 35184372088832 then (spec_l01Add.l0 k a0 l1 l2 a3 (List.replicate ((l2.length : Int) : Int).toNat 0) 0) else (none)) else (none)) else (if 0 ≤ (l1.length : Int) then (if ((l1.length : Int) : Int).toNat ≤ 35184372088832 then (spec_l01Add.l0 k a0 l1 l2 a3 (List.replicate ((l1.length : Int) : Int).toNat 0) 0) else (none)) else (none))) = some r := h
 clear h
 by_cases c5 : (l1.length : Int) < (l2.length : Int)
 ·
  rw [if_pos c5] at H
  have c5i := eq_true c5
  have c5b0 : decide ((l1.length : Int) < (l2.length : Int)) = true := decide_eq_true c5
  have c5b1 : decide (l1.length < l2.length) = true := decide_eq_true (Int.ofNat_lt.mp c5)
  clear c5
  by_cases c6 : 0 ≤ (l2.length : Int)
  ·
   rw [if_pos c6] at H
   have c6b0 := eq_true c6
   have c6b1 : decide (0 ≤ (l2.length : Int)) = true := decide_eq_true c6
   clear c6
   by_cases c7 : ((l2.length : Int) : Int).toNat ≤ 35184372088832
   ·
    rw [if_pos c7] at H
    have c7b0 := eq_true c7
    have c7b1 : decide (((l2.length : Int) : Int).toNat ≤ 35184372088832) = true := decide_eq_true c7
    clear c7
    obtain ⟨y395, hy395⟩ : ∃ y_ : List Int, y_ = (List.replicate ((l2.length : Int) : Int).toNat 0) := ⟨_, rfl⟩
    replace H : (spec_l01Add.l0 k a0 l1 l2 a3 y395 0) = some r := by first | (rw [hy395]; with_reducible exact H) | (have H2_ := (Option.bind_some _ _).symm.trans H; rw [hy395]; with_reducible exact H2_) | (have H2_ := (Option.bind_some _ _).symm.trans H; with_reducible exact H2_) | with_reducible exact H | (rw [hy395]; exact H) | exact H
    have Ny395 := as0 hy395
    clear hy395
    have H' := as0 H
    clear H
    go_enter Tryz.func68, Tryz.ntmps68
    go_wp2_with (first | ((with_reducible refine gate_dst (N := 17) rfl ?_); refine Kd.R_make (Kd.int .i64) _ 2 rfl (N := 17) rfl 24 _ _ rfl (l2.length : Int) rfl rfl Tryz.underlying24 (.int .i64 0) 8 info2 rfl (by decide) (by omega) 0 (ok := fun _ => True) (okp := fun _ => True) rfl (fun _ hk => hk) trivial (oa_) (Nat.le_trans (Nat.mul_le_mul_right _ (oa_ : (l2.length : Int).toNat ≤ 35184372088832)) (by omega)) (Below.refl _ _) (Nat.le_refl _) ?_; intro v396 w8 ho9 hb hg_ hnew_; clear hg_ hnew_; (first | rw [← Ny395.out] at ho9 | (simp only [Int.reduceToNat] at ho9; rw [← Ny395.out] at ho9)); have n0_ := as0 (Kd.R_lower ho9 (below_size (bs HB))); have n1_ := as0 (below_step (bs HB) hb); clear HB; have HO397 := n0_; have HB := n1_; clear n0_ n1_; clear hb ho9))
    go_loopg [10] k (fun kq v10 w' => ∃ (x9_1 : List Int) (x10_1 : Int), v10 = .int .i64 x10_1 ∧ Aside0 (spec_l01Add.l0 kq a0 l1 l2 a3 x9_1 x10_1 = some r) ∧ Aside0 (kq ≤ k) ∧ Aside0 (Kd.R (Kd.int .i64) 2 w' w.heap.size (fun _ => True) v396 x9_1) ∧ Aside0 (Below w.heap.size w w'))
    case atStart => exact ⟨(y395), (0), ea_, H', ⟨Nat.le_refl _⟩, ⟨rs HO397⟩, ⟨bs HB⟩⟩
    case round =>
     clear H'
     try clear c1
     try clear c2
     try clear p2
     try clear c5
     try clear c5b0
     try clear c5b1
     try clear c6
     try clear c6b0
     try clear c6b1
     try clear c7
     try clear c7b0
     try clear c7b1
     obtain ⟨x9_1, x10_1, rfl, HA, HK1, HO_9, HB⟩ := hrel
     cases gk with
     | zero => exact absurd HA.out (by simp [spec_l01Add.l0])
     | succ k1 =>
      have H := HA.out
      clear HA
      simp only [spec_l01Add.l0] at H
      by_cases c10 : x10_1 < (l1.length : Int)
      ·
       rw [if_pos c10] at H
       have c10b0 : decide (x10_1 < (l1.length : Int)) = true := decide_eq_true c10
       clear c10
       by_cases c11 : 0 ≤ x10_1
       ·
        rw [if_pos c11] at H
        have c11b0 : decide (0 ≤ x10_1) = true := decide_eq_true c11
        clear c11
        by_cases c12 : x10_1 < (x9_1.length : Int)
        ·
         rw [if_pos c12] at H
         have c12b0 : decide (x10_1 < (x9_1.length : Int)) = true := decide_eq_true c12
         clear c12
         obtain ⟨y399, hy399⟩ : ∃ y_ : List Int, y_ = (x9_1.set (x10_1 : Int).toNat (rd l1 x10_1)) := ⟨_, rfl⟩
         replace H : (spec_l01Add.l0 k1 a0 l1 l2 a3 y399 (wrap64 (x10_1 + 1))) = some r := by first | (rw [hy399]; with_reducible exact H) | (have H2_ := (Option.bind_some _ _).symm.trans H; rw [hy399]; with_reducible exact H2_) | (have H2_ := (Option.bind_some _ _).symm.trans H; with_reducible exact H2_) | with_reducible exact H | (rw [hy399]; exact H) | exact H
         have Ny399 := as0 hy399
         clear hy399
         have H' := as0 H
         clear H
         have p398 : 0 ≤ (x10_1 : Int) := oa_
         have q398 : x10_1 < (l1.length : Int) := oa_
         obtain ⟨ad398, e398, hx398_0⟩ := Kd.at_int HR1.out x10_1 p398 q398
         cases e398
         replace hx398_0 := (HB.out.cell (World.block_lt_of_cell? w _ hx398_0)).trans hx398_0
         replace p398 := eq_true p398
         replace q398 := eq_true q398
         have p13 : 0 ≤ (x10_1 : Int) := oa_
         have q13 : (x10_1 : Int) < ((x9_1.length : Int) : Int) := oa_
         obtain ⟨go13, co13, eo13, gb13, gl13, cl13, HG13⟩ := Kd.R_form HO_9.out (by omega)
         (first | cases eo13 | (injection eo13 with ea_ en_ ec_; (first | subst ea_ | (injection ea_ with ea_; subst ea_)); subst ec_; clear en_))
         have GB13 := as0 gb13
         have GG13 := as0 HG13
         clear gb13 gl13 HG13
         obtain ⟨hx13_0, hf13_0⟩ := Kd.R_celln 0 HO_9.out (x10_1 : Int) p13 q13
         replace p13 := eq_true p13
         replace q13 := eq_true q13
         have HP14 := Kd.R_putg HO_9.out (x10_1 : Int) (rd l1 x10_1)
         go_wp2_with (first | ((with_reducible refine gate_store (t := 2) (p := 30) rfl ?_); refine store_event (t := 2) (p := 30) (v := ?vo_w15) (w1 := (wr.setCell ⟨go13, (x10_1 : Int).toNat, none⟩ (.int .i64 (rd l1 x10_1)))) ?hg ?ho ?hn ?hr ?_; (case ho => rfl); (case hg => rfl); (case hn => rfl); (case hr => first | (go_simp; done) | (go_simp; rfl)); intro w15 hw; have hg : wr.grownBy w15 (some go13) := (by rw [hw]; exact HP14.2); have hp_ : Kd.R (Kd.int .i64) 2 w15 w.heap.size (fun _ => True) (.slice (some ⟨go13, 0, none⟩) x9_1.length co13) y399 := (by rw [hw, Ny399.out]; exact HP14.1); clear HP14; have n0_ := as0 (hp_); have n1_ := as0 ((by rw [hw]; exact below_set (HB.out) GB13.out : Below w.heap.size w w15)); clear HO_9; clear HB; have HO_9 := n0_; have HB := n1_; clear n0_ n1_; clear hg hw hp_))
         go_roundg k1
         case measure => have := HK1.out; omega
         case rel => exact ⟨(y399), (wrap64 (x10_1 + 1)), ea_, H', ⟨by have := HK1.out; omega⟩, ⟨rs HO_9⟩, ⟨bs HB⟩⟩
        ·
         rw [if_neg c12] at H
         exact absurd H (by simp)
       ·
        rw [if_neg c11] at H
        exact absurd H (by simp)
      ·
       rw [if_neg c10] at H
       have c10b0 : decide (x10_1 < (l1.length : Int)) = false := decide_eq_false c10
       clear c10
       have H' := as0 H
       clear H
       go_wp2
       go_loopg [11] k1 (fun kq v11 w' => ∃ (x9_2 : List Int) (x11_2 : Int), v11 = .int .i64 x11_2 ∧ Aside0 (spec_l01Add.l1 kq a0 l2 a3 x9_2 x11_2 = some r) ∧ Aside0 (kq ≤ k1) ∧ Aside0 (Kd.R (Kd.int .i64) 2 w' w.heap.size (fun _ => True) v396 x9_2) ∧ Aside0 (Below w.heap.size w w'))
       case atStart => exact ⟨(x9_1), (0), ea_, H', ⟨Nat.le_refl _⟩, ⟨rs HO_9⟩, ⟨bs HB⟩⟩
       case round =>
        clear H'
        try clear c1
        try clear p1
        try clear q1
        try clear hx1
        try clear c2
        try clear p2
        try clear p3
        try clear q3
        try clear hx3
        try clear c5
        try clear c5b0
        try clear c5b1
        try clear c6
        try clear c6b0
        try clear c6b1
        try clear p6
        try clear c7
        try clear c7b0
        try clear c7b1
        try clear c10
        try clear c10b0
        try clear c11
        try clear c11b0
        try clear c12
        try clear c12b0
        try clear p13
        try clear q13
        try clear hx13
        try clear hf13
        try clear hx13_0
        try clear hx398_0
        try clear p13
        try clear p2
        try clear p398
        try clear q13
        try clear q398
        obtain ⟨x9_2, x11_2, rfl, HA, HK2, HO_9, HB⟩ := hrel
        cases gk with
        | zero => exact absurd HA.out (by simp [spec_l01Add.l1])
        | succ k2 =>
         have H := HA.out
         clear HA
         simp only [spec_l01Add.l1] at H
         by_cases c16 : x11_2 < (l2.length : Int)
         ·
          rw [if_pos c16] at H
          have c16b0 : decide (x11_2 < (l2.length : Int)) = true := decide_eq_true c16
          clear c16
          by_cases c17 : 0 ≤ x11_2
          ·
           rw [if_pos c17] at H
           have c17b0 : decide (0 ≤ x11_2) = true := decide_eq_true c17
           clear c17
           by_cases c18 : x11_2 < (x9_2.length : Int)
           ·
            rw [if_pos c18] at H
            have c18b0 : decide (x11_2 < (x9_2.length : Int)) = true := decide_eq_true c18
            clear c18
            replace H := Option.bind_eq_some_iff.mp H
            obtain ⟨t402, A190, H⟩ := H
            have A19 := as0 A190
            clear A190
            obtain ⟨y403, hy403⟩ : ∃ y_ : List Int, y_ = (x9_2.set (x11_2 : Int).toNat t402) := ⟨_, rfl⟩
            replace H : (spec_l01Add.l1 k2 a0 l2 a3 y403 (wrap64 (x11_2 + 1))) = some r := by first | (rw [hy403]; with_reducible exact H) | (have H2_ := (Option.bind_some _ _).symm.trans H; rw [hy403]; with_reducible exact H2_) | (have H2_ := (Option.bind_some _ _).symm.trans H; with_reducible exact H2_) | with_reducible exact H | (rw [hy403]; exact H) | exact H
            have Ny403 := as0 hy403
            clear hy403
            have H' := as0 H
            clear H
            try go_wp2
            have n0_ := as0 (Kd.R_drew HO_9.out)
            have n1_ := as0 (below_drew1 HB.out)
            clear HO_9
            clear HB
            have HO_9 := n0_
            have HB := n1_
            clear n0_ n1_
            obtain ⟨Ao22, co22, eo22⟩ := Kd.R_slice HO_9.out
            (first | subst eo22 | (injection eo22 with f1_ f2_ f3_; have f4_ := f1_.symm; have f5_ := f3_.symm; clear f1_ f2_ f3_; subst f4_; subst f5_))
            have p400 : 0 ≤ (x11_2 : Int) := oa_
            have q400 : x11_2 < (x9_2.length : Int) := oa_
            obtain ⟨ad400, e400, hx400_0⟩ := Kd.at_int (Kd.R_reads' HO_9.out).2.2 x11_2 p400 q400
            cases e400
            replace p400 := eq_true p400
            replace q400 := eq_true q400
            have p401 : 0 ≤ (x11_2 : Int) := oa_
            have q401 : x11_2 < (l2.length : Int) := oa_
            obtain ⟨ad401, e401, hx401_0⟩ := Kd.at_int HR2.out x11_2 p401 q401
            have hw401_0 := hx401_0
            cases e401
            replace hx401_0 := (HB.out.cell (World.block_lt_of_cell? w _ hx401_0)).trans hx401_0
            replace p401 := eq_true p401
            replace q401 := eq_true q401
            refine start_ (n := 17) (S := fun w' => w'.cell? (ad400.add (x11_2).toNat) = some (.int .i64 (rd x9_2 x11_2)) ∧ w'.cell? (ad401.add (x11_2).toNat) = some (.int .i64 (rd l2 x11_2))) (ds := [16]) #[false, false, false, false, false, false, false, false, false, false, false, false, false, false, false, false, false] (by kernel_rfl) rfl rfl ⟨hx400_0, ((HB.out.cell (World.block_lt_of_cell? w _ hw401_0)).trans hw401_0)⟩ (fun hHeld => ?_); refine with_tabW spec_l01Add.tab9 spec_l01Add.bits9 (fun HT_ HW_ => ?_)
            generalize wr.drew = w21 at HO_9 HB hx400_0 hx401_0 hHeld ⊢
            refine pm_ HT_ (i := 0) (N := some 37) ?_
            refine pm_ HT_ (i := 1) (N := some 38) ?_
            refine pm_ HT_ (i := 2) (N := some 39) ?_
            refine pm_ HT_ (i := 3) (N := some 40) ?_
            refine pm_ HT_ (i := 4) (N := some 41) ?_
            refine pm_ HT_ (i := 5) (N := some 42) ?_
            refine pm_ HT_ (i := 7) (N := some 44) ?_
            refine pm_ HT_ (i := 8) (N := some 45) ?_
            refine pm_ HT_ (i := 9) (N := some 46) ?_
            refine pm_ HT_ (i := 10) (N := some 47) ?_
            refine tm2_ HT_ HW_ (i := 6) (N := some 43) hHeld ?_
            refine tm2_ HT_ HW_ (i := 11) (N := some 48) hHeld ?_
            refine pm_ HT_ (i := 12) (N := some 49) ?_
            refine pm_ HT_ (i := 13) (N := some 50) ?_
            refine one_ (i := 14) (N := some 51) #[true, true, true, true, true, true, true, true, true, true, true, true, true, true, true, false, false] rfl rfl (one_of HT_.out (by kernel_rfl)) (by decide) (fun K hK => ?_)
            refine goes_ Tryz.func66 (by kernel_rfl) rfl #[.int .i64 a0, .int .i64 (wrap64 ((rd x9_2 x11_2) + (wrap64 (a3 * (rd l2 x11_2)))))] (by rfl) rfl rfl (by (try simp only [List.map_toArray, List.map_cons, List.map_nil]); first | done | rfl | (simp only [List.length_drop, List.length_take]; rfl)) ?_
            with_reducible refine (spec_l01Mod.calls a0 (wrap64 ((rd x9_2 x11_2) + (wrap64 (a3 * (rd l2 x11_2))))) t402 _ A19.out).mono ?_
            rintro e w' ⟨rfl, ⟨nd, rfl⟩⟩
            refine ⟨_, rfl, ?_⟩
            have p20 : 0 ≤ (x11_2 : Int) := oa_
            have q20 : (x11_2 : Int) < ((x9_2.length : Int) : Int) := oa_
            obtain ⟨go20, co20, eo20, gb20, gl20, cl20, HG20⟩ := Kd.R_form HO_9.out (by omega)
            (first | cases eo20 | (injection eo20 with ea_ en_ ec_; (first | subst ea_ | (injection ea_ with ea_; subst ea_)); subst ec_; clear en_))
            have GB20 := as0 gb20
            have GG20 := as0 HG20
            clear gb20 gl20 HG20
            (first | simp only [add_plain] at hx400_0 | skip)
            obtain ⟨hx20_0, hf20_0⟩ := Kd.R_celln 0 HO_9.out (x11_2 : Int) p20 q20
            replace p20 := eq_true p20
            replace q20 := eq_true q20
            have HP23 := Kd.R_putn HO_9.out (x11_2 : Int) t402
            rw [← Ny403.out] at HP23
            have HQ23 := as0 HP23
            clear HP23
            refine hK.out _ _ ⟨hHeld.1, ((HB.out.cell (World.block_lt_of_cell? w _ hw401_0)).trans hw401_0)⟩ (fun hHeld => ?_)
            clear hK K
            refine nm_ (some 51) ?_
            refine pm_ HT_ (i := 15) (N := some 52) ?_
            refine last_ (i := 16) (N := none) #[true, true, true, true, true, true, true, true, true, true, true, true, true, true, true, true, true] rfl rfl (one_of HT_.out (by kernel_rfl)) (by decide) (fun K hK => ?_)
            refine skip_ (w1 := ?_) (by rfl) rfl ?_ ?_
            rotate_left
            ·
             go_simp
             rfl
            refine hK.out _ _ ?_
            clear hK K
            refine done_ (done_of HT_.out (by kernel_rfl)) ?_
            try go_wp2
            go_roundg k2
            case measure => have := HK1.out; have := HK2.out; omega
            case rel => exact ⟨(y403), (wrap64 (x11_2 + 1)), ea_, H', ⟨by have := HK1.out; have := HK2.out; omega⟩, ⟨by (with_reducible repeat (first | apply Kd.R_alloc | apply Kd.R_drewN | apply Kd.R_drew)); exact HQ23.out⟩, ⟨by repeat (first | (with_reducible first | exact HB.out | apply below_alloc | apply pw_below_drewN | apply below_drew1 | refine below_set ?_ GB20.out) | exact HB.out)⟩⟩
           ·
            rw [if_neg c18] at H
            exact absurd H (by simp)
          ·
           rw [if_neg c17] at H
           exact absurd H (by simp)
         ·
          rw [if_neg c16] at H
          have c16b0 : decide (x11_2 < (l2.length : Int)) = false := decide_eq_false c16
          clear c16
          replace H := Option.bind_eq_some_iff.mp H
          obtain ⟨t404, A240, H⟩ := H
          have A24 := as0 A240
          clear A240
          obtain rfl := Option.some.inj H
          obtain ⟨Ao25, co25, eo25⟩ := Kd.R_slice HO_9.out
          subst eo25
          go_wp2_with (first | ((with_reducible refine gate_callee (f := 74) rfl ?_); refine goesM_ (some 54) rfl rfl Tryz.func74 #[.slice Ao25 x9_2.length co25] rfl ?_; (with_reducible refine (spec_l01Trim.calls k2 _ _ x9_2 t404 _ ?side1 ?side2 A24.out).mono ?_); (case side1 => exact cs ((Kd.R_reads' HO_9.out).2.2)); (case side2 => exact (Kd.R_reads' HO_9.out).2.1); rintro e w26 ⟨v405, rfl, ho0, hb⟩; refine ⟨_, rfl, ?_⟩; have n0_ := as0 (Kd.R_elder' (rs HO_9) (Kd.R_base ho0) hb); have n1_ := as0 (Kd.R_lower (Kd.R_new' ho0 (Kd.R_lt (rs HO_9))) (below_size (bs HB))); have n2_ := as0 (below_step (bs HB) hb); clear HO_9; clear HB; have HO_9 := n0_; have HO406 := n1_; have HB := n2_; clear n0_ n1_ n2_; (try clear hb); (try clear hb2); (try clear hk); (try clear hi); (try clear ho0)))
          go_ret
          exact ⟨_, er_, by (with_reducible repeat (first | apply Kd.R_alloc | apply Kd.R_drewN | apply Kd.R_drew)); exact Kd.R_mono HO406.out (fun _ hk => trivial), bs HB⟩
   ·
    rw [if_neg c7] at H
    exact absurd H (by simp)
  ·
   rw [if_neg c6] at H
   exact absurd H (by simp)
 ·
  rw [if_neg c5] at H
  have c5i := eq_false c5
  have c5b0 : decide ((l1.length : Int) < (l2.length : Int)) = false := decide_eq_false c5
  have c5b1 : decide (l1.length < l2.length) = false := decide_eq_false (fun h => c5 (Int.ofNat_lt.mpr h))
  clear c5
  by_cases c27 : 0 ≤ (l1.length : Int)
  ·
   rw [if_pos c27] at H
   have c27b0 := eq_true c27
   have c27b1 : decide (0 ≤ (l1.length : Int)) = true := decide_eq_true c27
   clear c27
   by_cases c28 : ((l1.length : Int) : Int).toNat ≤ 35184372088832
   ·
    rw [if_pos c28] at H
    have c28b0 := eq_true c28
    have c28b1 : decide (((l1.length : Int) : Int).toNat ≤ 35184372088832) = true := decide_eq_true c28
    clear c28
    obtain ⟨y407, hy407⟩ : ∃ y_ : List Int, y_ = (List.replicate ((l1.length : Int) : Int).toNat 0) := ⟨_, rfl⟩
    replace H : (spec_l01Add.l0 k a0 l1 l2 a3 y407 0) = some r := by first | (rw [hy407]; with_reducible exact H) | (have H2_ := (Option.bind_some _ _).symm.trans H; rw [hy407]; with_reducible exact H2_) | (have H2_ := (Option.bind_some _ _).symm.trans H; with_reducible exact H2_) | with_reducible exact H | (rw [hy407]; exact H) | exact H
    have Ny407 := as0 hy407
    clear hy407
    have H' := as0 H
    clear H
    go_enter Tryz.func68, Tryz.ntmps68
    go_wp2_with (first | ((with_reducible refine gate_dst (N := 17) rfl ?_); refine Kd.R_make (Kd.int .i64) _ 2 rfl (N := 17) rfl 24 _ _ rfl (l1.length : Int) rfl rfl Tryz.underlying24 (.int .i64 0) 8 info2 rfl (by decide) (by omega) 0 (ok := fun _ => True) (okp := fun _ => True) rfl (fun _ hk => hk) trivial (oa_) (Nat.le_trans (Nat.mul_le_mul_right _ (oa_ : (l1.length : Int).toNat ≤ 35184372088832)) (by omega)) (Below.refl _ _) (Nat.le_refl _) ?_; intro v408 w29 ho30 hb hg_ hnew_; clear hg_ hnew_; (first | rw [← Ny407.out] at ho30 | (simp only [Int.reduceToNat] at ho30; rw [← Ny407.out] at ho30)); have n0_ := as0 (Kd.R_lower ho30 (below_size (bs HB))); have n1_ := as0 (below_step (bs HB) hb); clear HB; have HO409 := n0_; have HB := n1_; clear n0_ n1_; clear hb ho30))
    go_loopg [10] k (fun kq v10 w' => ∃ (x9_1 : List Int) (x10_1 : Int), v10 = .int .i64 x10_1 ∧ Aside0 (spec_l01Add.l0 kq a0 l1 l2 a3 x9_1 x10_1 = some r) ∧ Aside0 (kq ≤ k) ∧ Aside0 (Kd.R (Kd.int .i64) 2 w' w.heap.size (fun _ => True) v408 x9_1) ∧ Aside0 (Below w.heap.size w w'))
    case atStart => exact ⟨(y407), (0), ea_, H', ⟨Nat.le_refl _⟩, ⟨rs HO409⟩, ⟨bs HB⟩⟩
    case round =>
     clear H'
     try clear c1
     try clear p1
     try clear q1
     try clear hx1
     try clear c2
     try clear p2
     try clear q2
     try clear hx2
     try clear p3
     try clear q3
     try clear hx3
     try clear p4
     try clear q4
     try clear hx4
     try clear c5
     try clear c5b0
     try clear c5b1
     try clear c6
     try clear c6b0
     try clear c6b1
     try clear p6
     try clear c7
     try clear c7b0
     try clear c7b1
     try clear c10
     try clear c10b0
     try clear c11
     try clear c11b0
     try clear c12
     try clear c12b0
     try clear p13
     try clear q13
     try clear hx13
     try clear hf13
     try clear c16
     try clear c16b0
     try clear c17
     try clear c17b0
     try clear c18
     try clear c18b0
     try clear p20
     try clear q20
     try clear hx20
     try clear hf20
     try clear c27
     try clear c27b0
     try clear c27b1
     try clear c28
     try clear c28b0
     try clear c28b1
     try clear hx13_0
     try clear hx20_0
     try clear hx398_0
     try clear hx400_0
     try clear hx401_0
     try clear p1
     try clear p13
     try clear p2
     try clear p20
     try clear p3
     try clear p398
     try clear p400
     try clear p401
     try clear p6
     try clear q1
     try clear q13
     try clear q20
     try clear q3
     try clear q398
     try clear q400
     try clear q401
     obtain ⟨x9_1, x10_1, rfl, HA, HK1, HO_9, HB⟩ := hrel
     cases gk with
     | zero => exact absurd HA.out (by simp [spec_l01Add.l0])
     | succ k1 =>
      have H := HA.out
      clear HA
      simp only [spec_l01Add.l0] at H
      by_cases c31 : x10_1 < (l1.length : Int)
      ·
       rw [if_pos c31] at H
       have c31b0 : decide (x10_1 < (l1.length : Int)) = true := decide_eq_true c31
       clear c31
       by_cases c32 : 0 ≤ x10_1
       ·
        rw [if_pos c32] at H
        have c32b0 : decide (0 ≤ x10_1) = true := decide_eq_true c32
        clear c32
        by_cases c33 : x10_1 < (x9_1.length : Int)
        ·
         rw [if_pos c33] at H
         have c33b0 : decide (x10_1 < (x9_1.length : Int)) = true := decide_eq_true c33
         clear c33
         obtain ⟨y399, hy399⟩ : ∃ y_ : List Int, y_ = (x9_1.set (x10_1 : Int).toNat (rd l1 x10_1)) := ⟨_, rfl⟩
         replace H : (spec_l01Add.l0 k1 a0 l1 l2 a3 y399 (wrap64 (x10_1 + 1))) = some r := by first | (rw [hy399]; with_reducible exact H) | (have H2_ := (Option.bind_some _ _).symm.trans H; rw [hy399]; with_reducible exact H2_) | (have H2_ := (Option.bind_some _ _).symm.trans H; with_reducible exact H2_) | with_reducible exact H | (rw [hy399]; exact H) | exact H
         have Ny399 := as0 hy399
         clear hy399
         have H' := as0 H
         clear H
         have p398 : 0 ≤ (x10_1 : Int) := oa_
         have q398 : x10_1 < (l1.length : Int) := oa_
         obtain ⟨ad398, e398, hx398_0⟩ := Kd.at_int HR1.out x10_1 p398 q398
         cases e398
         replace hx398_0 := (HB.out.cell (World.block_lt_of_cell? w _ hx398_0)).trans hx398_0
         replace p398 := eq_true p398
         replace q398 := eq_true q398
         have p34 : 0 ≤ (x10_1 : Int) := oa_
         have q34 : (x10_1 : Int) < ((x9_1.length : Int) : Int) := oa_
         obtain ⟨go34, co34, eo34, gb34, gl34, cl34, HG34⟩ := Kd.R_form HO_9.out (by omega)
         (first | cases eo34 | (injection eo34 with ea_ en_ ec_; (first | subst ea_ | (injection ea_ with ea_; subst ea_)); subst ec_; clear en_))
         have GB34 := as0 gb34
         have GG34 := as0 HG34
         clear gb34 gl34 HG34
         obtain ⟨hx34_0, hf34_0⟩ := Kd.R_celln 0 HO_9.out (x10_1 : Int) p34 q34
         replace p34 := eq_true p34
         replace q34 := eq_true q34
         have HP35 := Kd.R_putg HO_9.out (x10_1 : Int) (rd l1 x10_1)
         go_wp2_with (first | ((with_reducible refine gate_store (t := 2) (p := 30) rfl ?_); refine store_event (t := 2) (p := 30) (v := ?vo_w36) (w1 := (wr.setCell ⟨go34, (x10_1 : Int).toNat, none⟩ (.int .i64 (rd l1 x10_1)))) ?hg ?ho ?hn ?hr ?_; (case ho => rfl); (case hg => rfl); (case hn => rfl); (case hr => first | (go_simp; done) | (go_simp; rfl)); intro w36 hw; have hg : wr.grownBy w36 (some go34) := (by rw [hw]; exact HP35.2); have hp_ : Kd.R (Kd.int .i64) 2 w36 w.heap.size (fun _ => True) (.slice (some ⟨go34, 0, none⟩) x9_1.length co34) y399 := (by rw [hw, Ny399.out]; exact HP35.1); clear HP35; have n0_ := as0 (hp_); have n1_ := as0 ((by rw [hw]; exact below_set (HB.out) GB34.out : Below w.heap.size w w36)); clear HO_9; clear HB; have HO_9 := n0_; have HB := n1_; clear n0_ n1_; clear hg hw hp_))
         go_roundg k1
         case measure => have := HK1.out; omega
         case rel => exact ⟨(y399), (wrap64 (x10_1 + 1)), ea_, H', ⟨by have := HK1.out; omega⟩, ⟨rs HO_9⟩, ⟨bs HB⟩⟩
        ·
         rw [if_neg c33] at H
         exact absurd H (by simp)
       ·
        rw [if_neg c32] at H
        exact absurd H (by simp)
      ·
       rw [if_neg c31] at H
       have c31b0 : decide (x10_1 < (l1.length : Int)) = false := decide_eq_false c31
       clear c31
       have H' := as0 H
       clear H
       go_wp2
       go_loopg [11] k1 (fun kq v11 w' => ∃ (x9_2 : List Int) (x11_2 : Int), v11 = .int .i64 x11_2 ∧ Aside0 (spec_l01Add.l1 kq a0 l2 a3 x9_2 x11_2 = some r) ∧ Aside0 (kq ≤ k1) ∧ Aside0 (Kd.R (Kd.int .i64) 2 w' w.heap.size (fun _ => True) v408 x9_2) ∧ Aside0 (Below w.heap.size w w'))
       case atStart => exact ⟨(x9_1), (0), ea_, H', ⟨Nat.le_refl _⟩, ⟨rs HO_9⟩, ⟨bs HB⟩⟩
       case round =>
        clear H'
        try clear c1
        try clear p1
        try clear q1
        try clear hx1
        try clear c2
        try clear p2
        try clear q2
        try clear hx2
        try clear c3
        try clear p3
        try clear q3
        try clear hx3
        try clear p4
        try clear q4
        try clear hx4
        try clear c5
        try clear c5b0
        try clear c5b1
        try clear c6
        try clear c6b0
        try clear c6b1
        try clear p6
        try clear c7
        try clear c7b0
        try clear c7b1
        try clear c10
        try clear c10b0
        try clear c11
        try clear c11b0
        try clear c12
        try clear c12b0
        try clear p13
        try clear q13
        try clear hx13
        try clear hf13
        try clear c16
        try clear c16b0
        try clear c17
        try clear c17b0
        try clear c18
        try clear c18b0
        try clear p20
        try clear q20
        try clear hx20
        try clear hf20
        try clear c27
        try clear c27b0
        try clear c27b1
        try clear c28
        try clear c28b0
        try clear c28b1
        try clear c31
        try clear c31b0
        try clear c32
        try clear c32b0
        try clear c33
        try clear c33b0
        try clear p34
        try clear q34
        try clear hx34
        try clear hf34
        try clear hx13_0
        try clear hx20_0
        try clear hx34_0
        try clear hx398_0
        try clear hx400_0
        try clear hx401_0
        try clear p1
        try clear p13
        try clear p2
        try clear p20
        try clear p3
        try clear p34
        try clear p398
        try clear p4
        try clear p400
        try clear p401
        try clear p6
        try clear q1
        try clear q13
        try clear q2
        try clear q20
        try clear q3
        try clear q34
        try clear q398
        try clear q4
        try clear q400
        try clear q401
        obtain ⟨x9_2, x11_2, rfl, HA, HK2, HO_9, HB⟩ := hrel
        cases gk with
        | zero => exact absurd HA.out (by simp [spec_l01Add.l1])
        | succ k2 =>
         have H := HA.out
         clear HA
         simp only [spec_l01Add.l1] at H
         by_cases c37 : x11_2 < (l2.length : Int)
         ·
          rw [if_pos c37] at H
          have c37b0 : decide (x11_2 < (l2.length : Int)) = true := decide_eq_true c37
          clear c37
          by_cases c38 : 0 ≤ x11_2
          ·
           rw [if_pos c38] at H
           have c38b0 : decide (0 ≤ x11_2) = true := decide_eq_true c38
           clear c38
           by_cases c39 : x11_2 < (x9_2.length : Int)
           ·
            rw [if_pos c39] at H
            have c39b0 : decide (x11_2 < (x9_2.length : Int)) = true := decide_eq_true c39
            clear c39
            replace H := Option.bind_eq_some_iff.mp H
            obtain ⟨t402, A400, H⟩ := H
            have A40 := as0 A400
            clear A400
            obtain ⟨y403, hy403⟩ : ∃ y_ : List Int, y_ = (x9_2.set (x11_2 : Int).toNat t402) := ⟨_, rfl⟩
            replace H : (spec_l01Add.l1 k2 a0 l2 a3 y403 (wrap64 (x11_2 + 1))) = some r := by first | (rw [hy403]; with_reducible exact H) | (have H2_ := (Option.bind_some _ _).symm.trans H; rw [hy403]; with_reducible exact H2_) | (have H2_ := (Option.bind_some _ _).symm.trans H; with_reducible exact H2_) | with_reducible exact H | (rw [hy403]; exact H) | exact H
            have Ny403 := as0 hy403
            clear hy403
            have H' := as0 H
            clear H
            try go_wp2
            have n0_ := as0 (Kd.R_drew HO_9.out)
            have n1_ := as0 (below_drew1 HB.out)
            clear HO_9
            clear HB
            have HO_9 := n0_
            have HB := n1_
            clear n0_ n1_
            obtain ⟨Ao43, co43, eo43⟩ := Kd.R_slice HO_9.out
            (first | subst eo43 | (injection eo43 with f1_ f2_ f3_; have f4_ := f1_.symm; have f5_ := f3_.symm; clear f1_ f2_ f3_; subst f4_; subst f5_))
            have p400 : 0 ≤ (x11_2 : Int) := oa_
            have q400 : x11_2 < (x9_2.length : Int) := oa_
            obtain ⟨ad400, e400, hx400_0⟩ := Kd.at_int (Kd.R_reads' HO_9.out).2.2 x11_2 p400 q400
            cases e400
            replace p400 := eq_true p400
            replace q400 := eq_true q400
            have p401 : 0 ≤ (x11_2 : Int) := oa_
            have q401 : x11_2 < (l2.length : Int) := oa_
            obtain ⟨ad401, e401, hx401_0⟩ := Kd.at_int HR2.out x11_2 p401 q401
            have hw401_0 := hx401_0
            cases e401
            replace hx401_0 := (HB.out.cell (World.block_lt_of_cell? w _ hx401_0)).trans hx401_0
            replace p401 := eq_true p401
            replace q401 := eq_true q401
            refine start_ (n := 17) (S := fun w' => w'.cell? (ad400.add (x11_2).toNat) = some (.int .i64 (rd x9_2 x11_2)) ∧ w'.cell? (ad401.add (x11_2).toNat) = some (.int .i64 (rd l2 x11_2))) (ds := [16]) #[false, false, false, false, false, false, false, false, false, false, false, false, false, false, false, false, false] (by kernel_rfl) rfl rfl ⟨hx400_0, ((HB.out.cell (World.block_lt_of_cell? w _ hw401_0)).trans hw401_0)⟩ (fun hHeld => ?_); refine with_tabW spec_l01Add.tab9 spec_l01Add.bits9 (fun HT_ HW_ => ?_)
            generalize wr.drew = w42 at HO_9 HB hx400_0 hx401_0 hHeld ⊢
            refine pm_ HT_ (i := 0) (N := some 37) ?_
            refine pm_ HT_ (i := 1) (N := some 38) ?_
            refine pm_ HT_ (i := 2) (N := some 39) ?_
            refine pm_ HT_ (i := 3) (N := some 40) ?_
            refine pm_ HT_ (i := 4) (N := some 41) ?_
            refine pm_ HT_ (i := 5) (N := some 42) ?_
            refine pm_ HT_ (i := 7) (N := some 44) ?_
            refine pm_ HT_ (i := 8) (N := some 45) ?_
            refine pm_ HT_ (i := 9) (N := some 46) ?_
            refine pm_ HT_ (i := 10) (N := some 47) ?_
            refine tm2_ HT_ HW_ (i := 6) (N := some 43) hHeld ?_
            refine tm2_ HT_ HW_ (i := 11) (N := some 48) hHeld ?_
            refine pm_ HT_ (i := 12) (N := some 49) ?_
            refine pm_ HT_ (i := 13) (N := some 50) ?_
            refine one_ (i := 14) (N := some 51) #[true, true, true, true, true, true, true, true, true, true, true, true, true, true, true, false, false] rfl rfl (one_of HT_.out (by kernel_rfl)) (by decide) (fun K hK => ?_)
            refine goes_ Tryz.func66 (by kernel_rfl) rfl #[.int .i64 a0, .int .i64 (wrap64 ((rd x9_2 x11_2) + (wrap64 (a3 * (rd l2 x11_2)))))] (by rfl) rfl rfl (by (try simp only [List.map_toArray, List.map_cons, List.map_nil]); first | done | rfl | (simp only [List.length_drop, List.length_take]; rfl)) ?_
            with_reducible refine (spec_l01Mod.calls a0 (wrap64 ((rd x9_2 x11_2) + (wrap64 (a3 * (rd l2 x11_2))))) t402 _ A40.out).mono ?_
            rintro e w' ⟨rfl, ⟨nd, rfl⟩⟩
            refine ⟨_, rfl, ?_⟩
            have p41 : 0 ≤ (x11_2 : Int) := oa_
            have q41 : (x11_2 : Int) < ((x9_2.length : Int) : Int) := oa_
            obtain ⟨go41, co41, eo41, gb41, gl41, cl41, HG41⟩ := Kd.R_form HO_9.out (by omega)
            (first | cases eo41 | (injection eo41 with ea_ en_ ec_; (first | subst ea_ | (injection ea_ with ea_; subst ea_)); subst ec_; clear en_))
            have GB41 := as0 gb41
            have GG41 := as0 HG41
            clear gb41 gl41 HG41
            (first | simp only [add_plain] at hx400_0 | skip)
            obtain ⟨hx41_0, hf41_0⟩ := Kd.R_celln 0 HO_9.out (x11_2 : Int) p41 q41
            replace p41 := eq_true p41
            replace q41 := eq_true q41
            have HP44 := Kd.R_putn HO_9.out (x11_2 : Int) t402
            rw [← Ny403.out] at HP44
            have HQ44 := as0 HP44
            clear HP44
            refine hK.out _ _ ⟨hHeld.1, ((HB.out.cell (World.block_lt_of_cell? w _ hw401_0)).trans hw401_0)⟩ (fun hHeld => ?_)
            clear hK K
            refine nm_ (some 51) ?_
            refine pm_ HT_ (i := 15) (N := some 52) ?_
            refine last_ (i := 16) (N := none) #[true, true, true, true, true, true, true, true, true, true, true, true, true, true, true, true, true] rfl rfl (one_of HT_.out (by kernel_rfl)) (by decide) (fun K hK => ?_)
            refine skip_ (w1 := ?_) (by rfl) rfl ?_ ?_
            rotate_left
            ·
             go_simp
             rfl
            refine hK.out _ _ ?_
            clear hK K
            refine done_ (done_of HT_.out (by kernel_rfl)) ?_
            try go_wp2
            go_roundg k2
            case measure => have := HK1.out; have := HK2.out; omega
            case rel => exact ⟨(y403), (wrap64 (x11_2 + 1)), ea_, H', ⟨by have := HK1.out; have := HK2.out; omega⟩, ⟨by (with_reducible repeat (first | apply Kd.R_alloc | apply Kd.R_drewN | apply Kd.R_drew)); exact HQ44.out⟩, ⟨by repeat (first | (with_reducible first | exact HB.out | apply below_alloc | apply pw_below_drewN | apply below_drew1 | refine below_set ?_ GB41.out) | exact HB.out)⟩⟩
           ·
            rw [if_neg c39] at H
            exact absurd H (by simp)
          ·
           rw [if_neg c38] at H
           exact absurd H (by simp)
         ·
          rw [if_neg c37] at H
          have c37b0 : decide (x11_2 < (l2.length : Int)) = false := decide_eq_false c37
          clear c37
          replace H := Option.bind_eq_some_iff.mp H
          obtain ⟨t404, A450, H⟩ := H
          have A45 := as0 A450
          clear A450
          obtain rfl := Option.some.inj H
          obtain ⟨Ao46, co46, eo46⟩ := Kd.R_slice HO_9.out
          subst eo46
          go_wp2_with (first | ((with_reducible refine gate_callee (f := 74) rfl ?_); refine goesM_ (some 54) rfl rfl Tryz.func74 #[.slice Ao46 x9_2.length co46] rfl ?_; (with_reducible refine (spec_l01Trim.calls k2 _ _ x9_2 t404 _ ?side1 ?side2 A45.out).mono ?_); (case side1 => exact cs ((Kd.R_reads' HO_9.out).2.2)); (case side2 => exact (Kd.R_reads' HO_9.out).2.1); rintro e w47 ⟨v405, rfl, ho0, hb⟩; refine ⟨_, rfl, ?_⟩; have n0_ := as0 (Kd.R_elder' (rs HO_9) (Kd.R_base ho0) hb); have n1_ := as0 (Kd.R_lower (Kd.R_new' ho0 (Kd.R_lt (rs HO_9))) (below_size (bs HB))); have n2_ := as0 (below_step (bs HB) hb); clear HO_9; clear HB; have HO_9 := n0_; have HO406 := n1_; have HB := n2_; clear n0_ n1_ n2_; (try clear hb); (try clear hb2); (try clear hk); (try clear hi); (try clear ho0)))
          go_ret
          exact ⟨_, er_, by (with_reducible repeat (first | apply Kd.R_alloc | apply Kd.R_drewN | apply Kd.R_drew)); exact Kd.R_mono HO406.out (fun _ hk => trivial), bs HB⟩
   ·
    rw [if_neg c28] at H
    exact absurd H (by simp)
  ·
   rw [if_neg c27] at H
   exact absurd H (by simp)
def spec_l01At.l0 : Nat → Int → List Int → Int → Int → Int → Option (Int)
 | 0, _, _, _, _, _ => none
 | k + 1, x0, x1, x2, x7, x8 => if x8 ≥ 0 then (if 0 ≤ x8 then (if x8 < (x1.length : Int) then (if x0 = 0 then (none) else (spec_l01At.l0 k x0 x1 x2 (Int.tmod (wrap64 ((wrap64 (x7 * x2)) + (rd x1 x8))) x0) (wrap64 (x8 - 1)))) else (none)) else (none)) else (some x7)
def spec_l01At.f (k : Nat) (a0 : Int) (l1 : List Int) (a2 : Int) : Option (Int) := spec_l01At.l0 k a0 l1 a2 0 (wrap64 ((l1.length : Int) - 1))
set_option maxHeartbeats 8000000 in
set_option maxRecDepth 100000 in
theorem spec_l01At.calls (k : Nat) (a0 : Int) (A1 : Option Addr) (c1 : Nat) (l1 : List Int) (a2 : Int) (r : Int) (w : World) (hr1 : Kd.C (Kd.int .i64) w A1 l1.length l1) (hc1 : l1.length ≤ c1) (h : spec_l01At.f k a0 l1 a2 = some r) :
  Calls Tryz.prog 58 #[.int .i64 a0, .slice A1 l1.length c1, .int .i64 a2] w fun e w' => e = .returned (.int .i64 r) ∧ Drawn0 w w' := by
 have HR1 := as0 hr1
 have HC1 := as0 hc1
 clear hr1 hc1
 have H : (spec_l01At.l0 k a0 l1 a2 0 (wrap64 ((l1.length : Int) - 1))) = some r := h
 clear h
 have H' := as0 H
 clear H
 go_enter Tryz.func58, Tryz.ntmps58
 go_wp2
 go_loopg [7, 8] k (fun kq v7 v8 w' => ∃ (x7_1 : Int) (x8_1 : Int), v7 = .int .i64 x7_1 ∧ v8 = .int .i64 x8_1 ∧ Aside0 (spec_l01At.l0 kq a0 l1 a2 x7_1 x8_1 = some r) ∧ Aside0 (kq ≤ k) ∧ Drawn0 w w')
 case atStart => exact ⟨(0), (wrap64 ((l1.length : Int) - 1)), ea_, ea_, H', ⟨Nat.le_refl _⟩, dr_⟩
 case round =>
  clear H'
  try clear c1
  try clear p2
  obtain ⟨x7_1, x8_1, rfl, rfl, HA, HK1, ⟨m1, rfl⟩⟩ := hrel
  cases gk with
  | zero => exact absurd HA.out (by simp [spec_l01At.l0])
  | succ k1 =>
   have H := HA.out
   clear HA
   simp only [spec_l01At.l0] at H
   by_cases c4 : x8_1 ≥ 0
   ·
    rw [if_pos c4] at H
    have c4b0 : decide (0 ≤ x8_1) = true := decide_eq_true c4
    clear c4
    by_cases c5 : 0 ≤ x8_1
    ·
     rw [if_pos c5] at H
     have c5b0 : decide (0 ≤ x8_1) = true := decide_eq_true c5
     clear c5
     by_cases c6 : x8_1 < (l1.length : Int)
     ·
      rw [if_pos c6] at H
      have c6b0 : decide (x8_1 < (l1.length : Int)) = true := decide_eq_true c6
      clear c6
      by_cases c7 : a0 = 0
      ·
       rw [if_pos c7] at H
       exact absurd H (by simp)
      ·
       rw [if_neg c7] at H
       have c7b0 : (a0 == 0) = false := beq_eq_false_iff_ne.mpr c7
       have c7b1 : (a0 != 0) = true := bne_iff_ne.mpr c7
       have H' := as0 H
       clear H
       have p377 : 0 ≤ (x8_1 : Int) := oa_
       have q377 : x8_1 < (l1.length : Int) := oa_
       obtain ⟨ad377, e377, hx377_0⟩ := Kd.at_int HR1.out x8_1 p377 q377
       cases e377
       replace p377 := eq_true p377
       replace q377 := eq_true q377
       go_wp2
       go_roundg k1
       case measure => have := HK1.out; omega
       case rel => exact ⟨(Int.tmod (wrap64 ((wrap64 (x7_1 * a2)) + (rd l1 x8_1))) a0), (wrap64 (x8_1 - 1)), ea_, ea_, H', ⟨by have := HK1.out; omega⟩, dr_⟩
     ·
      rw [if_neg c6] at H
      exact absurd H (by simp)
    ·
     rw [if_neg c5] at H
     exact absurd H (by simp)
   ·
    rw [if_neg c4] at H
    have c4b0 : decide (0 ≤ x8_1) = false := decide_eq_false c4
    clear c4
    obtain rfl := Option.some.inj H
    go_wp2
    go_ret
    exact ⟨ea_, dr_⟩
def spec_l01Power.l0 : Nat → Int → Int → Int → Int → Option (Int)
 | 0, _, _, _, _ => none
 | k + 1, x0, x2, x7, x8 => if x2 > 0 then (if (Int.tmod x2 2) = 1 then (if x0 = 0 then (none) else (spec_l01Power.l0 k x0 (wrap64 (Int.tdiv x2 2)) (Int.tmod (wrap64 (x7 * x8)) x0) (Int.tmod (wrap64 (x8 * x8)) x0))) else (if x0 = 0 then (none) else (spec_l01Power.l0 k x0 (wrap64 (Int.tdiv x2 2)) x7 (Int.tmod (wrap64 (x8 * x8)) x0)))) else (if x0 = 0 then (none) else (some (Int.tmod x7 x0)))
def spec_l01Power.f (k : Nat) (a0 : Int) (a1 : Int) (a2 : Int) : Option (Int) := (spec_l01Mod.f a0 a1).bind fun t378 => (spec_l01Power.l0 k a0 a2 1 t378)
set_option maxHeartbeats 8000000 in
set_option maxRecDepth 100000 in
theorem spec_l01Power.calls (k : Nat) (a0 : Int) (a1 : Int) (a2 : Int) (r : Int) (w : World) (h : spec_l01Power.f k a0 a1 a2 = some r) :
  Calls Tryz.prog 94 #[.int .i64 a0, .int .i64 a1, .int .i64 a2] w fun e w' => e = .returned (.int .i64 r) ∧ Drawn0 w w' := by
 have H : ((spec_l01Mod.f a0 a1).bind fun t378 => (spec_l01Power.l0 k a0 a2 1 t378)) = some r := h
 clear h
 replace H := Option.bind_eq_some_iff.mp H
 obtain ⟨t378, A40, H⟩ := H
 have A4 := as0 A40
 clear A40
 have H' := as0 H
 clear H
 go_enter Tryz.func94, Tryz.ntmps94
 go_wp2_with (first | ((with_reducible refine gate_callee (f := 66) rfl ?_); refine goesM_ (some 11) rfl rfl Tryz.func66 #[.int .i64 a0, .int .i64 a1] rfl ?_; (with_reducible refine (spec_l01Mod.calls a0 a1 t378 _ A4.out).mono ?_); rintro e w' ⟨rfl, ⟨nd, rfl⟩⟩; refine ⟨_, rfl, ?_⟩))
 go_loopg [2, 7, 8] k (fun kq v2 v7 v8 w' => ∃ (x2_1 : Int) (x7_1 : Int) (x8_1 : Int), v2 = .int .i64 x2_1 ∧ v7 = .int .i64 x7_1 ∧ v8 = .int .i64 x8_1 ∧ Aside0 (spec_l01Power.l0 kq a0 x2_1 x7_1 x8_1 = some r) ∧ Aside0 (kq ≤ k) ∧ Drawn0 w w')
 case atStart => exact ⟨(a2), (1), (t378), ea_, ea_, ea_, H', ⟨Nat.le_refl _⟩, dr_⟩
 case round =>
  clear H'
  try clear p2
  obtain ⟨x2_1, x7_1, x8_1, rfl, rfl, rfl, HA, HK1, ⟨m1, rfl⟩⟩ := hrel
  cases gk with
  | zero => exact absurd HA.out (by simp [spec_l01Power.l0])
  | succ k1 =>
   have H := HA.out
   clear HA
   simp only [spec_l01Power.l0] at H
   by_cases c5 : x2_1 > 0
   ·
    rw [if_pos c5] at H
    have c5b0 : decide (0 < x2_1) = true := decide_eq_true c5
    clear c5
    by_cases c6 : (Int.tmod x2_1 2) = 1
    ·
     rw [if_pos c6] at H
     have c6b0 : ((Int.tmod x2_1 2) == 1) = true := beq_iff_eq.mpr c6
     have c6b1 : ((Int.tmod x2_1 2) != 1) = false := bne_eq_false_iff_eq.mpr c6
     clear c6
     by_cases c7 : a0 = 0
     ·
      rw [if_pos c7] at H
      exact absurd H (by simp)
     ·
      rw [if_neg c7] at H
      have c7b0 : (a0 == 0) = false := beq_eq_false_iff_ne.mpr c7
      have c7b1 : (a0 != 0) = true := bne_iff_ne.mpr c7
      have H' := as0 H
      clear H
      go_wp2
      go_roundg k1
      case measure => have := HK1.out; omega
      case rel => exact ⟨(wrap64 (Int.tdiv x2_1 2)), (Int.tmod (wrap64 (x7_1 * x8_1)) a0), (Int.tmod (wrap64 (x8_1 * x8_1)) a0), ea_, ea_, ea_, H', ⟨by have := HK1.out; omega⟩, dr_⟩
    ·
     rw [if_neg c6] at H
     have c6b0 : ((Int.tmod x2_1 2) == 1) = false := beq_eq_false_iff_ne.mpr c6
     have c6b1 : ((Int.tmod x2_1 2) != 1) = true := bne_iff_ne.mpr c6
     by_cases c8 : a0 = 0
     ·
      rw [if_pos c8] at H
      exact absurd H (by simp)
     ·
      rw [if_neg c8] at H
      have c8b0 : (a0 == 0) = false := beq_eq_false_iff_ne.mpr c8
      have c8b1 : (a0 != 0) = true := bne_iff_ne.mpr c8
      have H' := as0 H
      clear H
      go_wp2
      go_roundg k1
      case measure => have := HK1.out; omega
      case rel => exact ⟨(wrap64 (Int.tdiv x2_1 2)), (x7_1), (Int.tmod (wrap64 (x8_1 * x8_1)) a0), ea_, ea_, ea_, H', ⟨by have := HK1.out; omega⟩, dr_⟩
   ·
    rw [if_neg c5] at H
    have c5b0 : decide (0 < x2_1) = false := decide_eq_false c5
    clear c5
    by_cases c9 : a0 = 0
    ·
     rw [if_pos c9] at H
     exact absurd H (by simp)
    ·
     rw [if_neg c9] at H
     have c9b0 : (a0 == 0) = false := beq_eq_false_iff_ne.mpr c9
     have c9b1 : (a0 != 0) = true := bne_iff_ne.mpr c9
     obtain rfl := Option.some.inj H
     go_wp2
     go_ret
     exact ⟨ea_, dr_⟩
def spec_l01Inverse.f (k : Nat) (a0 : Int) (a1 : Int) : Option (Int) := (spec_l01Power.f k a0 a1 (wrap64 (a0 - 2))).bind fun t379 => (some t379)
set_option maxHeartbeats 8000000 in
set_option maxRecDepth 100000 in
theorem spec_l01Inverse.calls (k : Nat) (a0 : Int) (a1 : Int) (r : Int) (w : World) (h : spec_l01Inverse.f k a0 a1 = some r) :
  Calls Tryz.prog 67 #[.int .i64 a0, .int .i64 a1] w fun e w' => e = .returned (.int .i64 r) ∧ Drawn0 w w' := by
 have H : ((spec_l01Power.f k a0 a1 (wrap64 (a0 - 2))).bind fun t379 => (some t379)) = some r := h
 clear h
 replace H := Option.bind_eq_some_iff.mp H
 obtain ⟨t379, A30, H⟩ := H
 have A3 := as0 A30
 clear A30
 obtain rfl := Option.some.inj H
 go_enter Tryz.func67, Tryz.ntmps67
 go_wp2_with (first | ((with_reducible refine gate_callee (f := 94) rfl ?_); refine goesM_ (some 9) rfl rfl Tryz.func94 #[.int .i64 a0, .int .i64 a1, .int .i64 (wrap64 (a0 - 2))] rfl ?_; (with_reducible refine (spec_l01Power.calls k a0 a1 (wrap64 (a0 - 2)) t379 _ A3.out).mono ?_); rintro e w' ⟨rfl, ⟨nd, rfl⟩⟩; refine ⟨_, rfl, ?_⟩))
 go_ret
 exact ⟨ea_, dr_⟩
end Go.Proofs.YtmadpicanmjhhaaGreatDoor.H
