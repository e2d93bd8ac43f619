/- Joined texts of a claim: the printed functions and what is proved of them. -/
import Derived.Test.YtlmolloallhclaaYHx0
import Derived.Test.YtlmolloallhclaaMa5
import Derived.Test.YtlmolloallhclaaMa2
import Derived.Test.YtlmolloallhclaaMa1
import Derived.Test.YtlmolloallhclaaMa4
import Derived.Test.YtlmolloallhclaaMa3
namespace Go.Proofs.Ytlmolloallhclaa.H
open Go.RowKit Go.Proofs.YtlmolloallhclaaW.PrintWords Go.Proofs.YtlmolloallhclaaW.PrintLast Go.Proofs.YtlmolloallhclaaW.PrintMore
attribute [local go_sem] max2_int min2_int max_two min_two max_three min_three max_four min_four   -- for this text's walks alone
set_option linter.unusedVariables false
set_option linter.unusedSimpArgs false
noncomputable section
def impl_ResultantOf.f (k : Nat) (a0 : Int) (l1 : List Int) (l2 : List Int) : Option (Int × Int) := (impl_filledCode_2.f k a0 true l1 l2).bind fun t335 => (if t335 = 0 then ((impl_reversed.f k l1).bind fun t336 => ((impl_reversed.f k l2).bind fun t339 => ((impl_field_sylvester.f a0 t336 t339).bind fun t342 => (some (t342, 0))))) else (some (0, t335)))
set_option maxHeartbeats 8000000 in
set_option maxRecDepth 100000 in
theorem impl_ResultantOf.calls (k : Nat) (a0 : Int) (A1 : Option Addr) (c1 : Nat) (l1 : List Int) (A2 : Option Addr) (c2 : Nat) (l2 : List Int) (r1 : Int) (r2 : Int) (w : World) (hr1 : Kd.C (Kd.int .i64) w A1 l1.length l1) (hc1 : l1.length ≤ c1) (hr2 : Kd.C (Kd.int .i64) w A2 l2.length l2) (hc2 : l2.length ≤ c2) (h : impl_ResultantOf.f k a0 l1 l2 = some (r1, r2)) :
  Calls Try.prog 22 #[.int .i64 a0, .slice A1 l1.length c1, .slice A2 l2.length c2] w fun e w' => e = .returned (.tuple #[.int .i64 r1, .int .i64 r2]) ∧ Below w.heap.size w w' := by
 have HR1 := as0 hr1
 have HC1 := as0 hc1
 clear hr1 hc1
 have HR2 := as0 hr2
 have HC2 := as0 hc2
 clear hr2 hc2
 have HB := as0 (Below.refl w.heap.size w)
 have H : ((impl_filledCode_2.f k a0 true l1 l2).bind fun t335 => (if t335 = 0 then ((impl_reversed.f k l1).bind fun t336 => ((impl_reversed.f k l2).bind fun t339 => ((impl_field_sylvester.f a0 t336 t339).bind fun t342 => (some (t342, 0))))) else (some (0, t335)))) = some (r1, r2) := h
 clear h
 replace H := Option.bind_eq_some_iff.mp H
 obtain ⟨t335, A40, H⟩ := H
 have A4 := as0 A40
 clear A40
 by_cases c5 : t335 = 0
 ·
  rw [if_pos c5] at H
  have c5b0 : (t335 == 0) = true := beq_iff_eq.mpr c5
  have c5b1 : (t335 != 0) = false := bne_eq_false_iff_eq.mpr c5
  clear c5
  replace H := Option.bind_eq_some_iff.mp H
  obtain ⟨t336, A60, H⟩ := H
  have A6 := as0 A60
  clear A60
  replace H := Option.bind_eq_some_iff.mp H
  obtain ⟨t339, A70, H⟩ := H
  have A7 := as0 A70
  clear A70
  replace H := Option.bind_eq_some_iff.mp H
  obtain ⟨t342, A80, H⟩ := H
  have A8 := as0 A80
  clear A80
  simp only [Option.some.injEq, Prod.mk.injEq] at H
  obtain ⟨rfl, rfl⟩ := H
  go_enter Try.func22, Try.ntmps22
  go_wp2_with (first | (go_at_call 56; (with_reducible refine (impl_filledCode_2.calls k a0 true A1 c1 l1 A2 c2 l2 t335 _ ?side1 ?side2 ?side3 ?side4 A4.out ?sideE ?sideG ?sideP ?sideQ).mono ?_); (case side1 => exact cs (HR1.out)); (case side2 => exact HC1.out); (case side3 => exact cs (HR2.out)); (case side4 => exact HC2.out); (case sideE => (first | exact enters_of Try.func44 (by kernel_rfl) rfl)); (case sideG => (first | exact always_gives _)); (case sideP => (first | (simp; done) | (simp [*]; done))); (case sideQ => (first | (simp; done) | (simp [*]; done))); rintro e w9 ⟨rfl, hb⟩; have n0_ := as0 (below_step (bs HB) hb); clear HB; have HB := n0_; clear n0_; (try clear hb); (try clear hb2); (try clear hk); (try clear hi)) | ((with_reducible refine gate_callee (f := 58) rfl ?_); refine goesM_ (some 19) rfl rfl Try.func58 #[.slice A1 l1.length c1] rfl ?_; (with_reducible refine (impl_reversed.calls k _ _ l1 t336 _ ?side1 ?side2 A6.out).mono ?_); (case side1 => exact cs ((Kd.C_below HR1.out HB.out))); (case side2 => exact HC1.out); rintro e w10 ⟨v337, rfl, ho0, hb⟩; refine ⟨_, rfl, ?_⟩; have n0_ := as0 (Kd.R_lower ho0 (below_size (bs HB))); have n1_ := as0 (below_step (bs HB) hb); clear HB; have HO338 := n0_; have HB := n1_; clear n0_ n1_; (try clear hb); (try clear hb2); (try clear hk); (try clear hi); (try clear ho0)) | ((with_reducible refine gate_callee (f := 58) rfl ?_); refine goesM_ (some 21) rfl rfl Try.func58 #[.slice A2 l2.length c2] rfl ?_; (with_reducible refine (impl_reversed.calls k _ _ l2 t339 _ ?side1 ?side2 A7.out).mono ?_); (case side1 => exact cs ((Kd.C_below HR2.out HB.out))); (case side2 => exact HC2.out); rintro e w11 ⟨v340, rfl, ho0, hb⟩; refine ⟨_, rfl, ?_⟩; have n0_ := as0 (Kd.R_elder' (rs HO338) (Kd.R_base ho0) hb); have n1_ := as0 (Kd.R_lower (Kd.R_new' ho0 (Kd.R_lt (rs HO338))) (below_size (bs HB))); have n2_ := as0 (below_step (bs HB) hb); clear HO338; clear HB; have HO338 := n0_; have HO341 := n1_; have HB := n2_; clear n0_ n1_ n2_; (try clear hb); (try clear hb2); (try clear hk); (try clear hi); (try clear ho0); obtain ⟨Ao12, co12, eo12⟩ := Kd.R_slice HO338.out; subst eo12; obtain ⟨Ao13, co13, eo13⟩ := Kd.R_slice HO341.out; subst eo13) | ((with_reducible refine gate_callee (f := 57) rfl ?_); refine goesM_ (some 22) rfl rfl Try.func57 #[.int .i64 a0, .slice Ao12 t336.length co12, .slice Ao13 t339.length co13] rfl ?_; (with_reducible refine (impl_field_sylvester.calls a0 _ _ t336 _ _ t339 t342 _ ?side1 ?side2 ?side3 ?side4 A8.out).mono ?_); (case side1 => exact cs ((Kd.R_reads' HO338.out).2.2)); (case side2 => exact (Kd.R_reads' HO338.out).2.1); (case side3 => exact cs ((Kd.R_reads' HO341.out).2.2)); (case side4 => exact (Kd.R_reads' HO341.out).2.1); rintro e w14 ⟨rfl, hb⟩; refine ⟨_, rfl, ?_⟩; have n0_ := as0 (Kd.R_below (rs HO338) hb); have n1_ := as0 (Kd.R_below (rs HO341) hb); have n2_ := as0 (below_step (bs HB) hb); clear HO338; clear HO341; clear HB; have HO338 := n0_; have HO341 := n1_; have HB := n2_; clear n0_ n1_ n2_; (try clear hb); (try clear hb2); (try clear hk); (try clear hi)))
  go_ret2
  exact ⟨er_, bs HB⟩
 ·
  rw [if_neg c5] at H
  have c5b0 : (t335 == 0) = false := beq_eq_false_iff_ne.mpr c5
  have c5b1 : (t335 != 0) = true := bne_iff_ne.mpr c5
  simp only [Option.some.injEq, Prod.mk.injEq] at H
  obtain ⟨rfl, rfl⟩ := H
  go_enter Try.func22, Try.ntmps22
  go_wp2_with (first | (go_at_call 56; (with_reducible refine (impl_filledCode_2.calls k a0 true A1 c1 l1 A2 c2 l2 t335 _ ?side1 ?side2 ?side3 ?side4 A4.out ?sideE ?sideG ?sideP ?sideQ).mono ?_); (case side1 => exact cs (HR1.out)); (case side2 => exact HC1.out); (case side3 => exact cs (HR2.out)); (case side4 => exact HC2.out); (case sideE => (first | exact enters_of Try.func44 (by kernel_rfl) rfl)); (case sideG => (first | exact always_gives _)); (case sideP => (first | (simp; done) | (simp [*]; done))); (case sideQ => (first | (simp; done) | (simp [*]; done))); rintro e w15 ⟨rfl, hb⟩; have n0_ := as0 (below_step (bs HB) hb); clear HB; have HB := n0_; clear n0_; (try clear hb); (try clear hb2); (try clear hk); (try clear hi)))
  go_ret2
  exact ⟨er_, bs HB⟩
end
def impl_SimplePart.f (k : Nat) (a0 : Int) (l1 : List Int) : Option (List Int × Int) := (impl_filledCode_1.f k a0 true l1).bind fun t741 => (if t741 = 0 then ((impl_field_derivative.f k a0 l1).bind fun t742 => ((impl_field_gcd.f k a0 l1 t742).bind fun t745 => ((impl_field_divide.f k a0 l1 t745).bind fun bt748 => (some (bt748.1, 0))))) else (some (([] : List Int), t741)))
set_option maxHeartbeats 8000000 in
set_option maxRecDepth 100000 in
theorem impl_SimplePart.calls (k : Nat) (a0 : Int) (A1 : Option Addr) (c1 : Nat) (l1 : List Int) (r1 : List Int) (r2 : Int) (w : World) (hr1 : Kd.C (Kd.int .i64) w A1 l1.length l1) (hc1 : l1.length ≤ c1) (h : impl_SimplePart.f k a0 l1 = some (r1, r2)) :
  Calls Try.prog 33 #[.int .i64 a0, .slice A1 l1.length c1] w fun e w' => ∃ v0_ : Value, e = .returned (.tuple #[v0_, .int .i64 r2]) ∧ Kd.R (Kd.int .i64) 2 w' w.heap.size (fun _ => True) v0_ r1 ∧ Below w.heap.size w w' := by
 have HR1 := as0 hr1
 have HC1 := as0 hc1
 clear hr1 hc1
 have HB := as0 (Below.refl w.heap.size w)
 have H : ((impl_filledCode_1.f k a0 true l1).bind fun t741 => (if t741 = 0 then ((impl_field_derivative.f k a0 l1).bind fun t742 => ((impl_field_gcd.f k a0 l1 t742).bind fun t745 => ((impl_field_divide.f k a0 l1 t745).bind fun bt748 => (some (bt748.1, 0))))) else (some (([] : List Int), t741)))) = some (r1, r2) := h
 clear h
 replace H := Option.bind_eq_some_iff.mp H
 obtain ⟨t741, A30, H⟩ := H
 have A3 := as0 A30
 clear A30
 by_cases c4 : t741 = 0
 ·
  rw [if_pos c4] at H
  have c4b0 : (t741 == 0) = true := beq_iff_eq.mpr c4
  have c4b1 : (t741 != 0) = false := bne_eq_false_iff_eq.mpr c4
  clear c4
  replace H := Option.bind_eq_some_iff.mp H
  obtain ⟨t742, A50, H⟩ := H
  have A5 := as0 A50
  clear A50
  replace H := Option.bind_eq_some_iff.mp H
  obtain ⟨t745, A60, H⟩ := H
  have A6 := as0 A60
  clear A60
  replace H := Option.bind_eq_some_iff.mp H
  obtain ⟨⟨t748, t749⟩, A70, H⟩ := H
  have A7 := as0 A70
  clear A70
  simp only [Option.some.injEq, Prod.mk.injEq] at H
  obtain ⟨rfl, rfl⟩ := H
  go_enter Try.func33, Try.ntmps33
  go_wp2_with (first | (go_at_call 56; (with_reducible refine (impl_filledCode_1.calls k a0 true A1 c1 l1 t741 _ ?side1 ?side2 A3.out ?sideE ?sideG ?sideP).mono ?_); (case side1 => exact cs (HR1.out)); (case side2 => exact HC1.out); (case sideE => (first | exact enters_of Try.func44 (by kernel_rfl) rfl)); (case sideG => (first | exact always_gives _)); (case sideP => (first | (simp; done) | (simp [*]; done))); rintro e w8 ⟨rfl, hb⟩; have n0_ := as0 (below_step (bs HB) hb); clear HB; have HB := n0_; clear n0_; (try clear hb); (try clear hb2); (try clear hk); (try clear hi)) | ((with_reducible refine gate_callee (f := 62) rfl ?_); refine goesM_ (some 23) rfl rfl Try.func62 #[.int .i64 a0, .slice A1 l1.length c1] rfl ?_; (with_reducible refine (impl_field_derivative.calls k a0 _ _ l1 t742 _ ?side1 ?side2 A5.out).mono ?_); (case side1 => exact cs ((Kd.C_below HR1.out HB.out))); (case side2 => exact HC1.out); rintro e w9 ⟨v743, rfl, ho0, hb⟩; refine ⟨_, rfl, ?_⟩; have n0_ := as0 (Kd.R_lower ho0 (below_size (bs HB))); have n1_ := as0 (below_step (bs HB) hb); clear HB; have HO744 := n0_; have HB := n1_; clear n0_ n1_; (try clear hb); (try clear hb2); (try clear hk); (try clear hi); (try clear ho0); obtain ⟨Ao10, co10, eo10⟩ := Kd.R_slice HO744.out; subst eo10) | ((with_reducible refine gate_callee (f := 74) rfl ?_); refine goesM_ (some 24) rfl rfl Try.func74 #[.int .i64 a0, .slice A1 l1.length c1, .slice Ao10 t742.length co10] rfl ?_; (with_reducible refine (impl_field_gcd.calls k a0 (fun k_ => k_ < w.heap.size) _ _ l1 (fun k_ => some k_ = (.slice Ao10 t742.length co10 : Value).ownBlock) _ _ t742 t745 _ ?side1 ?side2 A6.out).mono ?_); (case side1 => exact Kd.V_mk HC1.out (Kd.F_below (Kd.C_F (Kd.heap_int .i64) HR1.out) (bs HB))); (case side2 => exact Kd.R_V (Kd.R_tight rfl (HO744.out))); rintro e w11 ⟨v746, rfl, ho0, hb⟩; refine ⟨_, rfl, ?_⟩; have n0_ := as0 (Kd.R_elder' (rs HO744) (Kd.R_base ho0) hb); have n1_ := as0 (Kd.R_lower (Kd.R_new' (Kd.R_mono (ok' := fun k_ => True) ho0 (fun _ hk_ => trivial)) (Kd.R_lt (rs HO744))) (below_size (bs HB))); have n2_ := as0 (below_step (bs HB) hb); clear HO744; clear HB; have HO744 := n0_; have HO747 := n1_; have HB := n2_; clear n0_ n1_ n2_; (try clear hb); (try clear hb2); (try clear hk); (try clear hi); (try clear ho0); obtain ⟨Ao12, co12, eo12⟩ := Kd.R_slice HO747.out; subst eo12) | ((with_reducible refine gate_callee (f := 45) rfl ?_); refine goesM_ (some 25) rfl rfl Try.func45 #[.int .i64 a0, .slice A1 l1.length c1, .slice Ao12 t745.length co12] rfl ?_; (with_reducible refine (impl_field_divide.calls k a0 _ _ l1 _ _ t745 t748 t749 _ ?side1 ?side2 ?side3 ?side4 A7.out).mono ?_); (case side1 => exact cs ((Kd.C_below HR1.out HB.out))); (case side2 => exact HC1.out); (case side3 => exact cs ((Kd.R_reads' HO747.out).2.2)); (case side4 => exact (Kd.R_reads' HO747.out).2.1); rintro e w13 ⟨v750, v752, rfl, ho0, ho1, hb⟩; refine ⟨_, rfl, ?_⟩; have n0_ := as0 (Kd.R_mono (Kd.R_told (Kd.R_told (Kd.R_old (rs HO744) hb) (Kd.R_base ho0)) (Kd.R_base ho1)) (fun _ h_ => h_.1)); have n1_ := as0 (Kd.R_mono (Kd.R_told (Kd.R_told (Kd.R_old (rs HO747) hb) (Kd.R_base ho0)) (Kd.R_base ho1)) (fun _ h_ => h_.1)); have n2_ := as0 (Kd.R_lower (Kd.R_new' (Kd.R_new' ho0 (Kd.R_lt (rs HO744))) (Kd.R_lt (rs HO747))) (below_size (bs HB))); have n3_ := as0 (Kd.R_lower (Kd.R_new' (Kd.R_new' ho1 (Kd.R_lt (rs HO744))) (Kd.R_lt (rs HO747))) (below_size (bs HB))); have n4_ := as0 (below_step (bs HB) hb); clear HO744; clear HO747; clear HB; have HO744 := n0_; have HO747 := n1_; have HO751 := n2_; have HO753 := n3_; have HB := n4_; clear n0_ n1_ n2_ n3_ n4_; (try clear hb); (try clear hb2); (try clear hk); (try clear hi); (try clear ho0); (try clear ho1)))
  go_ret2
  exact ⟨_, er_, by (with_reducible repeat (first | apply Kd.R_alloc | apply Kd.R_drewN | apply Kd.R_drew)); exact Kd.R_mono HO751.out (fun _ hk => trivial), bs HB⟩
 ·
  rw [if_neg c4] at H
  have c4b0 : (t741 == 0) = false := beq_eq_false_iff_ne.mpr c4
  have c4b1 : (t741 != 0) = true := bne_iff_ne.mpr c4
  simp only [Option.some.injEq, Prod.mk.injEq] at H
  obtain ⟨rfl, rfl⟩ := H
  go_enter Try.func33, Try.ntmps33
  go_wp2_with (first | (go_at_call 56; (with_reducible refine (impl_filledCode_1.calls k a0 true A1 c1 l1 t741 _ ?side1 ?side2 A3.out ?sideE ?sideG ?sideP).mono ?_); (case side1 => exact cs (HR1.out)); (case side2 => exact HC1.out); (case sideE => (first | exact enters_of Try.func44 (by kernel_rfl) rfl)); (case sideG => (first | exact always_gives _)); (case sideP => (first | (simp; done) | (simp [*]; done))); rintro e w14 ⟨rfl, hb⟩; have n0_ := as0 (below_step (bs HB) hb); clear HB; have HB := n0_; clear n0_; (try clear hb); (try clear hb2); (try clear hk); (try clear hi)))
  go_ret2
  exact ⟨_, er_, by first | exact Kd.R_nil _ _ _ _ _ | exact Kd.N_nil _ _ _ _ _ | exact Kd.V_nil _ _ _ _ _ | exact Kd.Q_nil _ _ _ _ _ | exact Kd.S_nil _ _ _ _ _, bs HB⟩
theorem impl_ValueAt_c1 (B0 B1 : Nat) (x0 x1 : Int) (w : World) (h0 : w.cell? ⟨B0, 0, none⟩ = some (.int .i64 x0)) (h1 : w.cell? ⟨B1, 0, none⟩ = some (.int .i64 x1)) :
  Gives0 77 #[.pointer (some ⟨B0, 0, none⟩), .pointer (some ⟨B1, 0, none⟩)] (hasB x0 x1) w := by
 intro W hW
 have h0' := (hW.cell (p := ⟨B0, 0, none⟩) (World.block_lt_of_cell? w _ h0)).trans h0
 have h1' := (hW.cell (p := ⟨B1, 0, none⟩) (World.block_lt_of_cell? w _ h1)).trans h1
 have hP := has_hasB x0 x1 W
 clear hW h0 h1
 show Calls Try.prog 77 #[.pointer (some ⟨B0, 0, none⟩), .pointer (some ⟨B1, 0, none⟩)] W _
 go_enter Try.func77, Try.ntmps77
 go_wp2_with (go_at_call 78; refine hP.mono ?_; rintro e w' ⟨rfl, ⟨nd, rfl⟩⟩)
 go_ret
 exact ⟨rfl, pw_below_drewN (Below.refl _ _) _⟩
def impl_ValueAt.f (k : Nat) (a0 : Int) (l1 : List Int) (a2 : Int) : Option (Int × Int) := (impl_polyCode_1.f k a0 (hasB a0 a2) l1).bind fun t802 => (if t802 = 0 then ((impl_field_value.f a0 l1 a2).bind fun t803 => (some (t803, 0))) else (some (0, t802)))
set_option maxHeartbeats 8000000 in
set_option maxRecDepth 100000 in
theorem impl_ValueAt.calls (k : Nat) (a0 : Int) (A1 : Option Addr) (c1 : Nat) (l1 : List Int) (a2 : Int) (r1 : Int) (r2 : Int) (w : World) (hr1 : Kd.C (Kd.int .i64) w A1 l1.length l1) (hc1 : l1.length ≤ c1) (h : impl_ValueAt.f k a0 l1 a2 = some (r1, r2)) :
  Calls Try.prog 39 #[.int .i64 a0, .slice A1 l1.length c1, .int .i64 a2] w fun e w' => e = .returned (.tuple #[.int .i64 r1, .int .i64 r2]) ∧ Below w.heap.size w w' := by
 have HR1 := as0 hr1
 have HC1 := as0 hc1
 clear hr1 hc1
 have HB := as0 (Below.refl w.heap.size w)
 have H : ((impl_polyCode_1.f k a0 (hasB a0 a2) l1).bind fun t802 => (if t802 = 0 then ((impl_field_value.f a0 l1 a2).bind fun t803 => (some (t803, 0))) else (some (0, t802)))) = some (r1, r2) := h
 clear h
 replace H := Option.bind_eq_some_iff.mp H
 obtain ⟨t802, A40, H⟩ := H
 have A4 := as0 A40
 clear A40
 by_cases c5 : t802 = 0
 ·
  rw [if_pos c5] at H
  have c5b0 : (t802 == 0) = true := beq_iff_eq.mpr c5
  have c5b1 : (t802 != 0) = false := bne_eq_false_iff_eq.mpr c5
  clear c5
  replace H := Option.bind_eq_some_iff.mp H
  obtain ⟨t803, A60, H⟩ := H
  have A6 := as0 A60
  clear A60
  simp only [Option.some.injEq, Prod.mk.injEq] at H
  obtain ⟨rfl, rfl⟩ := H
  go_enter Try.func39, Try.ntmps39
  go_wp2_with (first | ((with_reducible refine gate_dst (N := 3) rfl ?_); refine box_event ?hg (N := 3) ?hd (cs := #[.int .i64 a0]) (t := 2) ?hr ?_; (case hd => rfl); (case hg => rfl); (case hr => first | (go_simp; done) | (go_simp; rfl)); intro gb800 hg w7 hbox hb; have n0_ := as0 (below_step (bs HB) hb); have n1_ := as0 (hbox); have n2_ := as0 ((by rw [hg]; exact (below_size (bs HB)) : w.heap.size ≤ gb800)); have n3_ := as0 ((by rw [hg]; exact (below_size (bs HB)) : w.heap.size ≤ gb800)); clear HB; have HB := n0_; have BK800 := n1_; have GW800 := n2_; have GE800 := n3_; clear n0_ n1_ n2_ n3_; clear hb hbox hg) | ((with_reducible refine gate_dst (N := 5) rfl ?_); refine box_event ?hg (N := 5) ?hd (cs := #[.int .i64 a2]) (t := 2) ?hr ?_; (case hd => rfl); (case hg => rfl); (case hr => first | (go_simp; done) | (go_simp; rfl)); intro gb801 hg w8 hbox hb; have n0_ := as0 (blk_below (g := gb800) (o := .cells #[.int .i64 a0] 2 (0, 0)) (by (with_reducible repeat (first | refine blk_drewN ?_ _ | refine blk_drew ?_ | refine blk_alloc ?_ _)); exact BK800.out) hb); have n1_ := as0 (below_step (by repeat (first | (with_reducible first | exact HB.out | apply below_alloc | apply pw_below_drewN | apply below_drew1 | refine below_set ?_ GE800.out) | exact HB.out)) hb); have n2_ := as0 (hbox); have n3_ := as0 ((by rw [hg]; exact (below_size (by repeat (first | (with_reducible first | exact HB.out | apply below_alloc | apply pw_below_drewN | apply below_drew1 | refine below_set ?_ GE800.out) | exact HB.out))) : w.heap.size ≤ gb801)); have n4_ := as0 ((by rw [hg]; exact (below_size (by repeat (first | (with_reducible first | exact HB.out | apply below_alloc | apply pw_below_drewN | apply below_drew1 | refine below_set ?_ GE800.out) | exact HB.out))) : w.heap.size ≤ gb801)); have n5_ := as0 ((by rw [hg]; exact Nat.ne_of_lt (blk_lt (g := gb800) (o := .cells #[.int .i64 a0] 2 (0, 0)) (by (with_reducible repeat (first | refine blk_drewN ?_ _ | refine blk_drew ?_ | refine blk_alloc ?_ _)); exact BK800.out)) : gb800 ≠ gb801)); have n6_ := as0 ((by rw [hg]; exact Nat.ne_of_gt (blk_lt (g := gb800) (o := .cells #[.int .i64 a0] 2 (0, 0)) (by (with_reducible repeat (first | refine blk_drewN ?_ _ | refine blk_drew ?_ | refine blk_alloc ?_ _)); exact BK800.out)) : gb801 ≠ gb800)); clear BK800; clear HB; have BK800 := n0_; have HB := n1_; have BK801 := n2_; have GW801 := n3_; have GE801 := n4_; have NB800_801 := n5_; have NB801_800 := n6_; clear n0_ n1_ n2_ n3_ n4_ n5_ n6_; clear hb hbox hg; have hnb9 := NB800_801.out; have hnc9 := NB801_800.out; have hcz10_0 : w8.cell? ⟨gb800, 0, none⟩ = some (.int .i64 a0) := (blk_cell BK800.out 0).trans rfl; have hfz10_0 := blk_frozen BK800.out 0) | (go_at_call 43; (with_reducible refine (impl_polyCode_1.calls k a0 (hasB a0 a2) A1 c1 l1 t802 _ ?side1 ?side2 A4.out ?sideE ?sideG ?sideP).mono ?_); (case side1 => exact cs ((Kd.C_below HR1.out HB.out))); (case side2 => exact HC1.out); (case sideE => (first | exact enters_of Try.func77 (by kernel_rfl) rfl | exact enters_of Try.func44 (by kernel_rfl) rfl)); (case sideG => (first | exact impl_ValueAt_c1 _ _ _ _ _ (by (first | (simp; done) | exact blk_cell1 (by (with_reducible repeat (first | refine blk_drewN ?_ _ | refine blk_drew ?_ | refine blk_alloc ?_ _)); (first | exact BK800.out | exact BK801.out)) | (simp [*]; done))) (by (first | (simp; done) | exact blk_cell1 (by (with_reducible repeat (first | refine blk_drewN ?_ _ | refine blk_drew ?_ | refine blk_alloc ?_ _)); (first | exact BK800.out | exact BK801.out)) | (simp [*]; done))) | exact always_gives _)); (case sideP => (first | (simp; done) | exact blk_cell1 (by (with_reducible repeat (first | refine blk_drewN ?_ _ | refine blk_drew ?_ | refine blk_alloc ?_ _)); (first | exact BK800.out | exact BK801.out)) | (simp [*]; done))); rintro e w11 ⟨rfl, hb⟩; have n0_ := as0 (blk_below (g := gb800) (o := .cells #[.int .i64 a0] 2 (0, 0)) (by (with_reducible repeat (first | refine blk_drewN ?_ _ | refine blk_drew ?_ | refine blk_alloc ?_ _)); exact BK800.out) hb); have n1_ := as0 (blk_below (g := gb801) (o := .cells #[.int .i64 a2] 2 (0, 0)) (by (with_reducible repeat (first | refine blk_drewN ?_ _ | refine blk_drew ?_ | refine blk_alloc ?_ _)); exact BK801.out) hb); have n2_ := as0 (below_step (by repeat (first | (with_reducible first | exact HB.out | apply below_alloc | apply pw_below_drewN | apply below_drew1 | refine below_set ?_ GE800.out | refine below_set ?_ GE801.out) | exact HB.out)) hb); clear BK800; clear BK801; clear HB; have BK800 := n0_; have BK801 := n1_; have HB := n2_; clear n0_ n1_ n2_; (try clear hb); (try clear hb2); (try clear hk); (try clear hi); have hcz12_0 : w11.cell? ⟨gb800, 0, none⟩ = some (.int .i64 a0) := (blk_cell BK800.out 0).trans rfl; have hfz12_0 := blk_frozen BK800.out 0; have hcz13_0 : w11.cell? ⟨gb801, 0, none⟩ = some (.int .i64 a2) := (blk_cell BK801.out 0).trans rfl; have hfz13_0 := blk_frozen BK801.out 0) | ((with_reducible refine gate_callee (f := 79) rfl ?_); refine goesM_ (some 20) rfl rfl Try.func79 #[.int .i64 a0, .slice A1 l1.length c1, .int .i64 a2] rfl ?_; (with_reducible refine (impl_field_value.calls a0 _ _ l1 a2 t803 _ ?side1 ?side2 A6.out).mono ?_); (case side1 => exact cs ((Kd.C_below HR1.out HB.out))); (case side2 => exact HC1.out); rintro e w14 ⟨rfl, hb⟩; refine ⟨_, rfl, ?_⟩; have n0_ := as0 (blk_below (g := gb800) (o := .cells #[.int .i64 a0] 2 (0, 0)) (by (with_reducible repeat (first | refine blk_drewN ?_ _ | refine blk_drew ?_ | refine blk_alloc ?_ _)); exact BK800.out) hb); have n1_ := as0 (blk_below (g := gb801) (o := .cells #[.int .i64 a2] 2 (0, 0)) (by (with_reducible repeat (first | refine blk_drewN ?_ _ | refine blk_drew ?_ | refine blk_alloc ?_ _)); exact BK801.out) hb); have n2_ := as0 (below_step (by repeat (first | (with_reducible first | exact HB.out | apply below_alloc | apply pw_below_drewN | apply below_drew1 | refine below_set ?_ GE800.out | refine below_set ?_ GE801.out) | exact HB.out)) hb); clear BK800; clear BK801; clear HB; have BK800 := n0_; have BK801 := n1_; have HB := n2_; clear n0_ n1_ n2_; (try clear hb); (try clear hb2); (try clear hk); (try clear hi)))
  go_ret2
  exact ⟨er_, by repeat (first | (with_reducible first | exact HB.out | apply below_alloc | apply pw_below_drewN | apply below_drew1 | refine below_set ?_ GE800.out | refine below_set ?_ GE801.out) | exact HB.out)⟩
 ·
  rw [if_neg c5] at H
  have c5b0 : (t802 == 0) = false := beq_eq_false_iff_ne.mpr c5
  have c5b1 : (t802 != 0) = true := bne_iff_ne.mpr c5
  simp only [Option.some.injEq, Prod.mk.injEq] at H
  obtain ⟨rfl, rfl⟩ := H
  go_enter Try.func39, Try.ntmps39
  go_wp2_with (first | ((with_reducible refine gate_dst (N := 3) rfl ?_); refine box_event ?hg (N := 3) ?hd (cs := #[.int .i64 a0]) (t := 2) ?hr ?_; (case hd => rfl); (case hg => rfl); (case hr => first | (go_simp; done) | (go_simp; rfl)); intro gb800 hg w15 hbox hb; have n0_ := as0 (below_step (bs HB) hb); have n1_ := as0 (hbox); have n2_ := as0 ((by rw [hg]; exact (below_size (bs HB)) : w.heap.size ≤ gb800)); have n3_ := as0 ((by rw [hg]; exact (below_size (bs HB)) : w.heap.size ≤ gb800)); clear HB; have HB := n0_; have BK800 := n1_; have GW800 := n2_; have GE800 := n3_; clear n0_ n1_ n2_ n3_; clear hb hbox hg) | ((with_reducible refine gate_dst (N := 5) rfl ?_); refine box_event ?hg (N := 5) ?hd (cs := #[.int .i64 a2]) (t := 2) ?hr ?_; (case hd => rfl); (case hg => rfl); (case hr => first | (go_simp; done) | (go_simp; rfl)); intro gb801 hg w16 hbox hb; have n0_ := as0 (blk_below (g := gb800) (o := .cells #[.int .i64 a0] 2 (0, 0)) (by (with_reducible repeat (first | refine blk_drewN ?_ _ | refine blk_drew ?_ | refine blk_alloc ?_ _)); exact BK800.out) hb); have n1_ := as0 (below_step (by repeat (first | (with_reducible first | exact HB.out | apply below_alloc | apply pw_below_drewN | apply below_drew1 | refine below_set ?_ GE800.out) | exact HB.out)) hb); have n2_ := as0 (hbox); have n3_ := as0 ((by rw [hg]; exact (below_size (by repeat (first | (with_reducible first | exact HB.out | apply below_alloc | apply pw_below_drewN | apply below_drew1 | refine below_set ?_ GE800.out) | exact HB.out))) : w.heap.size ≤ gb801)); have n4_ := as0 ((by rw [hg]; exact (below_size (by repeat (first | (with_reducible first | exact HB.out | apply below_alloc | apply pw_below_drewN | apply below_drew1 | refine below_set ?_ GE800.out) | exact HB.out))) : w.heap.size ≤ gb801)); have n5_ := as0 ((by rw [hg]; exact Nat.ne_of_lt (blk_lt (g := gb800) (o := .cells #[.int .i64 a0] 2 (0, 0)) (by (with_reducible repeat (first | refine blk_drewN ?_ _ | refine blk_drew ?_ | refine blk_alloc ?_ _)); exact BK800.out)) : gb800 ≠ gb801)); have n6_ := as0 ((by rw [hg]; exact Nat.ne_of_gt (blk_lt (g := gb800) (o := .cells #[.int .i64 a0] 2 (0, 0)) (by (with_reducible repeat (first | refine blk_drewN ?_ _ | refine blk_drew ?_ | refine blk_alloc ?_ _)); exact BK800.out)) : gb801 ≠ gb800)); clear BK800; clear HB; have BK800 := n0_; have HB := n1_; have BK801 := n2_; have GW801 := n3_; have GE801 := n4_; have NB800_801 := n5_; have NB801_800 := n6_; clear n0_ n1_ n2_ n3_ n4_ n5_ n6_; clear hb hbox hg; have hnb17 := NB800_801.out; have hnc17 := NB801_800.out; have hcz18_0 : w16.cell? ⟨gb800, 0, none⟩ = some (.int .i64 a0) := (blk_cell BK800.out 0).trans rfl; have hfz18_0 := blk_frozen BK800.out 0) | (go_at_call 43; (with_reducible refine (impl_polyCode_1.calls k a0 (hasB a0 a2) A1 c1 l1 t802 _ ?side1 ?side2 A4.out ?sideE ?sideG ?sideP).mono ?_); (case side1 => exact cs ((Kd.C_below HR1.out HB.out))); (case side2 => exact HC1.out); (case sideE => (first | exact enters_of Try.func77 (by kernel_rfl) rfl | exact enters_of Try.func44 (by kernel_rfl) rfl)); (case sideG => (first | exact impl_ValueAt_c1 _ _ _ _ _ (by (first | (simp; done) | exact blk_cell1 (by (with_reducible repeat (first | refine blk_drewN ?_ _ | refine blk_drew ?_ | refine blk_alloc ?_ _)); (first | exact BK800.out | exact BK801.out)) | (simp [*]; done))) (by (first | (simp; done) | exact blk_cell1 (by (with_reducible repeat (first | refine blk_drewN ?_ _ | refine blk_drew ?_ | refine blk_alloc ?_ _)); (first | exact BK800.out | exact BK801.out)) | (simp [*]; done))) | exact always_gives _)); (case sideP => (first | (simp; done) | exact blk_cell1 (by (with_reducible repeat (first | refine blk_drewN ?_ _ | refine blk_drew ?_ | refine blk_alloc ?_ _)); (first | exact BK800.out | exact BK801.out)) | (simp [*]; done))); rintro e w19 ⟨rfl, hb⟩; have n0_ := as0 (blk_below (g := gb800) (o := .cells #[.int .i64 a0] 2 (0, 0)) (by (with_reducible repeat (first | refine blk_drewN ?_ _ | refine blk_drew ?_ | refine blk_alloc ?_ _)); exact BK800.out) hb); have n1_ := as0 (blk_below (g := gb801) (o := .cells #[.int .i64 a2] 2 (0, 0)) (by (with_reducible repeat (first | refine blk_drewN ?_ _ | refine blk_drew ?_ | refine blk_alloc ?_ _)); exact BK801.out) hb); have n2_ := as0 (below_step (by repeat (first | (with_reducible first | exact HB.out | apply below_alloc | apply pw_below_drewN | apply below_drew1 | refine below_set ?_ GE800.out | refine below_set ?_ GE801.out) | exact HB.out)) hb); clear BK800; clear BK801; clear HB; have BK800 := n0_; have BK801 := n1_; have HB := n2_; clear n0_ n1_ n2_; (try clear hb); (try clear hb2); (try clear hk); (try clear hi)))
  go_ret2
  exact ⟨er_, by repeat (first | (with_reducible first | exact HB.out | apply below_alloc | apply pw_below_drewN | apply below_drew1 | refine below_set ?_ GE800.out | refine below_set ?_ GE801.out) | exact HB.out)⟩
def laws_big.f (l0 : List Int) : Option (Bool) := some (decide ((l0.length : Int) > 4096))
set_option maxHeartbeats 8000000 in
set_option maxRecDepth 100000 in
theorem laws_big.calls (A0 : Option Addr) (c0 : Nat) (l0 : List Int) (r : Bool) (w : World) (hr0 : Kd.C (Kd.int .u8) w A0 l0.length l0) (hc0 : l0.length ≤ c0) (h : laws_big.f l0 = some r) :
  Calls Try.prog 28 #[.slice A0 l0.length c0] w fun e w' => e = .returned (.bool r) ∧ Drawn0 w w' := by
 have HR0 := as0 hr0
 have HC0 := as0 hc0
 clear hr0 hc0
 have H : (some (decide ((l0.length : Int) > 4096))) = some r := h
 clear h
 obtain rfl := Option.some.inj H
 go_enter Try.func28, Try.ntmps28
 go_wp2
 go_ret
 exact ⟨ea_, dr_⟩
def laws_likeInts.l0 : Nat → List Int → List Int → Int → Option (Bool)
 | 0, _, _, _ => none
 | k + 1, x0, x1, x5 => if x5 < (x0.length : Int) then (if 0 ≤ x5 then (if x5 < (x1.length : Int) then (if (rd x0 x5) = (rd x1 x5) then (laws_likeInts.l0 k x0 x1 (wrap64 (x5 + 1))) else (some false)) else (none)) else (none)) else (some true)
def laws_likeInts.f (k : Nat) (l0 : List Int) (l1 : List Int) : Option (Bool) := if (l0.length : Int) = (l1.length : Int) then (laws_likeInts.l0 k l0 l1 0) else (some false)
set_option maxHeartbeats 8000000 in
set_option maxRecDepth 100000 in
theorem laws_likeInts.calls (k : Nat) (A0 : Option Addr) (c0 : Nat) (l0 : List Int) (A1 : Option Addr) (c1 : Nat) (l1 : List Int) (r : Bool) (w : World) (hr0 : Kd.C (Kd.int .i64) w A0 l0.length l0) (hc0 : l0.length ≤ c0) (hr1 : Kd.C (Kd.int .i64) w A1 l1.length l1) (hc1 : l1.length ≤ c1) (h : laws_likeInts.f k l0 l1 = some r) :
  Calls Try.prog 35 #[.slice A0 l0.length c0, .slice A1 l1.length c1] w fun e w' => e = .returned (.bool r) ∧ Drawn0 w w' := by
 have HR0 := as0 hr0
 have HC0 := as0 hc0
 clear hr0 hc0
 have HR1 := as0 hr1
 have HC1 := as0 hc1
 clear hr1 hc1
 have H : (if (l0.length : Int) = (l1.length : Int) then (laws_likeInts.l0 k l0 l1 0) else (some false)) = some r := h
 clear h
 by_cases c3 : (l0.length : Int) = (l1.length : Int)
 ·
  rw [if_pos c3] at H
  have c3b0 : ((l0.length : Int) == (l1.length : Int)) = true := beq_iff_eq.mpr c3
  have c3b1 : ((l0.length : Int) != (l1.length : Int)) = false := bne_eq_false_iff_eq.mpr c3
  have c3b2 : (l0.length == l1.length) = true := by first | simpa using c3 | (simp at c3 ⊢; omega)
  clear c3
  have H' := as0 H
  clear H
  go_enter Try.func35, Try.ntmps35
  go_wp2
  repeat (go_quiet (fail); try go_wp2)
  go_loopg [5] k (fun kq v5 w' => ∃ (x5_1 : Int), v5 = .int .i64 x5_1 ∧ Aside0 (laws_likeInts.l0 kq l0 l1 x5_1 = some r) ∧ Aside0 (kq ≤ k) ∧ Drawn0 w w')
  case atStart => exact ⟨(0), ea_, H', ⟨Nat.le_refl _⟩, dr_⟩
  case round =>
   clear H'
   try clear c1
   try clear p2
   try clear c3
   try clear c3b0
   try clear c3b1
   try clear c3b2
   obtain ⟨x5_1, rfl, HA, HK1, ⟨m1, rfl⟩⟩ := hrel
   cases gk with
   | zero => exact absurd HA.out (by simp [laws_likeInts.l0])
   | succ k1 =>
    have H := HA.out
    clear HA
    simp only [laws_likeInts.l0] at H
    by_cases c4 : x5_1 < (l0.length : Int)
    ·
     rw [if_pos c4] at H
     have c4b0 : decide (x5_1 < (l0.length : Int)) = true := decide_eq_true c4
     clear c4
     by_cases c5 : 0 ≤ x5_1
     ·
      rw [if_pos c5] at H
      have c5b0 : decide (0 ≤ x5_1) = true := decide_eq_true c5
      clear c5
      by_cases c6 : x5_1 < (l1.length : Int)
      ·
       rw [if_pos c6] at H
       have c6b0 : decide (x5_1 < (l1.length : Int)) = true := decide_eq_true c6
       clear c6
       by_cases c7 : (rd l0 x5_1) = (rd l1 x5_1)
       ·
        rw [if_pos c7] at H
        have c7b0 : ((rd l0 x5_1) == (rd l1 x5_1)) = true := beq_iff_eq.mpr c7
        have c7b1 : ((rd l0 x5_1) != (rd l1 x5_1)) = false := bne_eq_false_iff_eq.mpr c7
        clear c7
        have H' := as0 H
        clear H
        have p770 : 0 ≤ (x5_1 : Int) := oa_
        have q770 : x5_1 < (l0.length : Int) := oa_
        obtain ⟨ad770, e770, hx770_0⟩ := Kd.at_int HR0.out x5_1 p770 q770
        cases e770
        replace p770 := eq_true p770
        replace q770 := eq_true q770
        have p771 : 0 ≤ (x5_1 : Int) := oa_
        have q771 : x5_1 < (l1.length : Int) := oa_
        obtain ⟨ad771, e771, hx771_0⟩ := Kd.at_int HR1.out x5_1 p771 q771
        cases e771
        replace p771 := eq_true p771
        replace q771 := eq_true q771
        go_wp2
        repeat (go_quiet (fail); try go_wp2)
        go_roundg k1
        case measure => have := HK1.out; omega
        case rel => exact ⟨(wrap64 (x5_1 + 1)), ea_, H', ⟨by have := HK1.out; omega⟩, dr_⟩
       ·
        rw [if_neg c7] at H
        have c7b0 : ((rd l0 x5_1) == (rd l1 x5_1)) = false := beq_eq_false_iff_ne.mpr c7
        have c7b1 : ((rd l0 x5_1) != (rd l1 x5_1)) = true := bne_iff_ne.mpr c7
        obtain rfl := Option.some.inj H
        have p770 : 0 ≤ (x5_1 : Int) := oa_
        have q770 : x5_1 < (l0.length : Int) := oa_
        obtain ⟨ad770, e770, hx770_0⟩ := Kd.at_int HR0.out x5_1 p770 q770
        cases e770
        replace p770 := eq_true p770
        replace q770 := eq_true q770
        have p771 : 0 ≤ (x5_1 : Int) := oa_
        have q771 : x5_1 < (l1.length : Int) := oa_
        obtain ⟨ad771, e771, hx771_0⟩ := Kd.at_int HR1.out x5_1 p771 q771
        cases e771
        replace p771 := eq_true p771
        replace q771 := eq_true q771
        go_wp2
        repeat (go_quiet (fail); try go_wp2)
        go_ret
        exact ⟨ea_, dr_⟩
      ·
       rw [if_neg c6] at H
       exact absurd H (by simp)
     ·
      rw [if_neg c5] at H
      exact absurd H (by simp)
    ·
     rw [if_neg c4] at H
     have c4b0 : decide (x5_1 < (l0.length : Int)) = false := decide_eq_false c4
     clear c4
     obtain rfl := Option.some.inj H
     go_wp2
     repeat (go_quiet (fail); try go_wp2)
     go_ret
     exact ⟨ea_, dr_⟩
 ·
  rw [if_neg c3] at H
  have c3b0 : ((l0.length : Int) == (l1.length : Int)) = false := beq_eq_false_iff_ne.mpr c3
  have c3b1 : ((l0.length : Int) != (l1.length : Int)) = true := bne_iff_ne.mpr c3
  have c3b2 : (l0.length == l1.length) = false := by first | simpa using c3 | (simp at c3 ⊢; omega)
  obtain rfl := Option.some.inj H
  go_enter Try.func35, Try.ntmps35
  go_wp2
  repeat (go_quiet (fail); try go_wp2)
  go_ret
  exact ⟨ea_, dr_⟩
def spec_l06Code.l0 : Nat → List (List Int) → Int → Option (Int)
 | 0, _, _ => none
 | k + 1, x1, x6 => if x6 < (x1.length : Int) then (if 0 ≤ x6 then (if ((rd_L1 x1 x6).length : Int) = 0 then (some 5) else (spec_l06Code.l0 k x1 (wrap64 (x6 + 1)))) else (none)) else (some 0)
def spec_l06Code.f (k : Nat) (a0 : Int) (l1 : List (List Int)) : Option (Int) := (spec_l01Code.f k a0 l1).bind fun t300 => (if t300 = 0 then (spec_l06Code.l0 k l1 0) else (some t300))
set_option maxHeartbeats 8000000 in
set_option maxRecDepth 100000 in
theorem spec_l06Code.calls (k : Nat) (a0 : Int) (A1 : Option Addr) (c1 : Nat) (l1 : List (List Int)) (r : Int) (w : World) (hr1 : Kd.C (Kd.slice 2 (Kd.int .i64)) w A1 l1.length l1) (hc1 : l1.length ≤ c1) (h : spec_l06Code.f k a0 l1 = some r) :
  Calls Try.prog 54 #[.int .i64 a0, .slice A1 l1.length c1] w fun e w' => e = .returned (.int .i64 r) ∧ Drawn0 w w' := by
 have HR1 := as0 hr1
 have HC1 := as0 hc1
 clear hr1 hc1
 have H : ((spec_l01Code.f k a0 l1).bind fun t300 => (if t300 = 0 then (spec_l06Code.l0 k l1 0) else (some t300))) = some r := h
 clear h
 replace H := Option.bind_eq_some_iff.mp H
 obtain ⟨t300, A30, H⟩ := H
 have A3 := as0 A30
 clear A30
 by_cases c4 : t300 = 0
 ·
  rw [if_pos c4] at H
  have c4b0 : (t300 == 0) = true := beq_iff_eq.mpr c4
  have c4b1 : (t300 != 0) = false := bne_eq_false_iff_eq.mpr c4
  clear c4
  have H' := as0 H
  clear H
  go_enter Try.func54, Try.ntmps54
  go_wp2_with (first | ((with_reducible refine gate_callee (f := 41) rfl ?_); refine goesM_ (some 9) rfl rfl Try.func41 #[.int .i64 a0, .slice A1 l1.length c1] rfl ?_; (with_reducible refine (spec_l01Code.calls k a0 _ _ l1 t300 _ ?side1 ?side2 A3.out).mono ?_); (case side1 => exact cs (HR1.out)); (case side2 => exact HC1.out); rintro e w' ⟨rfl, ⟨nd, rfl⟩⟩; refine ⟨_, rfl, ?_⟩))
  go_loopg [6] k (fun kq v6 w' => ∃ (x6_1 : Int), v6 = .int .i64 x6_1 ∧ Aside0 (spec_l06Code.l0 kq l1 x6_1 = some r) ∧ Aside0 (kq ≤ k) ∧ Drawn0 w w')
  case atStart => exact ⟨(0), ea_, H', ⟨Nat.le_refl _⟩, dr_⟩
  case round =>
   clear H'
   try clear c1
   try clear p2
   try clear c4
   try clear c4b0
   try clear c4b1
   obtain ⟨x6_1, rfl, HA, HK1, ⟨m1, rfl⟩⟩ := hrel
   cases gk with
   | zero => exact absurd HA.out (by simp [spec_l06Code.l0])
   | succ k1 =>
    have H := HA.out
    clear HA
    simp only [spec_l06Code.l0] at H
    by_cases c5 : x6_1 < (l1.length : Int)
    ·
     rw [if_pos c5] at H
     have c5b0 : decide (x6_1 < (l1.length : Int)) = true := decide_eq_true c5
     clear c5
     by_cases c6 : 0 ≤ x6_1
     ·
      rw [if_pos c6] at H
      have c6b0 : decide (0 ≤ x6_1) = true := decide_eq_true c6
      clear c6
      by_cases c7 : ((rd_L1 l1 x6_1).length : Int) = 0
      ·
       rw [if_pos c7] at H
       have c7b0 : (((rd_L1 l1 x6_1).length : Int) == 0) = true := beq_iff_eq.mpr c7
       have c7b1 : (((rd_L1 l1 x6_1).length : Int) != 0) = false := bne_eq_false_iff_eq.mpr c7
       clear c7
       obtain rfl := Option.some.inj H
       have p301 : 0 ≤ (x6_1 : Int) := oa_
       have q301 : x6_1 < (l1.length : Int) := oa_
       obtain ⟨ad301, A301_0, c301_0, e301, hx301_0, hl301_0, hi301_0⟩ := at_L1 HR1.out x6_1 p301 q301
       cases e301
       have HR301_0 := as0 hi301_0
       have HC301_0 := as0 hl301_0
       clear hi301_0 hl301_0
       replace p301 := eq_true p301
       replace q301 := eq_true q301
       go_wp2
       go_ret
       exact ⟨ea_, dr_⟩
      ·
       rw [if_neg c7] at H
       have c7b0 : (((rd_L1 l1 x6_1).length : Int) == 0) = false := beq_eq_false_iff_ne.mpr c7
       have c7b1 : (((rd_L1 l1 x6_1).length : Int) != 0) = true := bne_iff_ne.mpr c7
       have c7b2 : ¬ ((rd_L1 l1 x6_1) = []) := fun h_ => c7 (by rw [h_]; rfl)
       have H' := as0 H
       clear H
       have p301 : 0 ≤ (x6_1 : Int) := oa_
       have q301 : x6_1 < (l1.length : Int) := oa_
       obtain ⟨ad301, A301_0, c301_0, e301, hx301_0, hl301_0, hi301_0⟩ := at_L1 HR1.out x6_1 p301 q301
       cases e301
       have HR301_0 := as0 hi301_0
       have HC301_0 := as0 hl301_0
       clear hi301_0 hl301_0
       replace p301 := eq_true p301
       replace q301 := eq_true q301
       go_wp2
       go_roundg k1
       case measure => have := HK1.out; omega
       case rel => exact ⟨(wrap64 (x6_1 + 1)), ea_, H', ⟨by have := HK1.out; omega⟩, dr_⟩
     ·
      rw [if_neg c6] at H
      exact absurd H (by simp)
    ·
     rw [if_neg c5] at H
     have c5b0 : decide (x6_1 < (l1.length : Int)) = false := decide_eq_false c5
     clear c5
     obtain rfl := Option.some.inj H
     go_wp2
     go_ret
     exact ⟨ea_, dr_⟩
 ·
  rw [if_neg c4] at H
  have c4b0 : (t300 == 0) = false := beq_eq_false_iff_ne.mpr c4
  have c4b1 : (t300 != 0) = true := bne_iff_ne.mpr c4
  obtain rfl := Option.some.inj H
  go_enter Try.func54, Try.ntmps54
  go_wp2_with (first | ((with_reducible refine gate_callee (f := 41) rfl ?_); refine goesM_ (some 9) rfl rfl Try.func41 #[.int .i64 a0, .slice A1 l1.length c1] rfl ?_; (with_reducible refine (spec_l01Code.calls k a0 _ _ l1 t300 _ ?side1 ?side2 A3.out).mono ?_); (case side1 => exact cs (HR1.out)); (case side2 => exact HC1.out); rintro e w' ⟨rfl, ⟨nd, rfl⟩⟩; refine ⟨_, rfl, ?_⟩))
  go_ret
  exact ⟨ea_, dr_⟩
def spec_l06Roots.l0 : Nat → Int → List Int → List Int → Int → Option (List Int)
 | 0, _, _, _, _ => none
 | k + 1, x0, x1, x5, x6 => if x6 < x0 then ((spec_l01At.f k x0 x1 x6).bind fun t497 => (if t497 = 0 then (if x5.length < 17592186044416 then (spec_l06Roots.l0 k x0 x1 (x5 ++ [x6]) (wrap64 (x6 + 1))) else (none)) else (spec_l06Roots.l0 k x0 x1 x5 (wrap64 (x6 + 1))))) else (some x5)
def spec_l06Roots.f (k : Nat) (a0 : Int) (l1 : List Int) : Option (List Int) := spec_l06Roots.l0 k a0 l1 (([] : List Int)) 0
set_option maxHeartbeats 8000000 in
set_option maxRecDepth 100000 in
theorem spec_l06Roots.calls (k : Nat) (a0 : Int) (A1 : Option Addr) (c1 : Nat) (l1 : List Int) (r : List Int) (w : World) (hr1 : Kd.C (Kd.int .i64) w A1 l1.length l1) (hc1 : l1.length ≤ c1) (h : spec_l06Roots.f k a0 l1 = some r) :
  Calls Try.prog 76 #[.int .i64 a0, .slice A1 l1.length c1] w fun e w' => ∃ v0_ : Value, e = .returned (v0_) ∧ Kd.R (Kd.int .i64) 2 w' w.heap.size (fun _ => True) v0_ r ∧ Below w.heap.size w w' := by
 have HR1 := as0 hr1
 have HC1 := as0 hc1
 clear hr1 hc1
 have HB := as0 (Below.refl w.heap.size w)
 have H : (spec_l06Roots.l0 k a0 l1 (([] : List Int)) 0) = some r := h
 clear h
 obtain ⟨y494, hy494⟩ : ∃ y_ : List Int, y_ = (([] : List Int)) := ⟨_, rfl⟩
 replace H : (spec_l06Roots.l0 k a0 l1 y494 0) = some r := by first | (rw [hy494]; with_reducible exact H) | (have H2_ := (Option.bind_some _ _).symm.trans H; rw [hy494]; with_reducible exact H2_) | (have H2_ := (Option.bind_some _ _).symm.trans H; with_reducible exact H2_) | with_reducible exact H | (rw [hy494]; exact H) | exact H
 have Ny494 := as0 hy494
 clear hy494
 have H' := as0 H
 clear H
 go_enter Try.func76, Try.ntmps76
 go_wp2_with (first | ((with_reducible refine gate_dst (N := 7) rfl ?_); refine Kd.R_lit (Kd.int .i64) _ 2 ?hg (N := 7) ?hd (xs := ([] : List Int)) (inner := []) (ok := fun _ => True) (okp := fun _ => True) ?hr ?hp (fun _ hk => hk) trivial (Below.refl _ _) (Nat.le_refl _) (by simp) ?_; (case hd => rfl); (case hg => rfl); (case hr => first | (go_simp; done) | (go_simp; rfl)); (case hp => exact (Reps.none _ _)); intro v495 w3 ho4 hb hg_ hnew_; clear hg_ hnew_; (first | rw [← Ny494.out] at ho4 | (simp only [Int.reduceToNat] at ho4; rw [← Ny494.out] at ho4)); have n0_ := as0 (Kd.R_lower ho4 (below_size (bs HB))); have n1_ := as0 (below_step (bs HB) hb); clear HB; have HO496 := n0_; have HB := n1_; clear n0_ n1_; clear hb ho4))
 go_loopg [5, 6] k (fun kq v5 v6 w' => ∃ (x5_1 : List Int) (x6_1 : Int), v6 = .int .i64 x6_1 ∧ Aside0 (spec_l06Roots.l0 kq a0 l1 x5_1 x6_1 = some r) ∧ Aside0 (kq ≤ k) ∧ Aside0 (Kd.R (Kd.int .i64) 2 w' w.heap.size (fun _ => True) v5 x5_1) ∧ Aside0 (Below w.heap.size w w'))
 case atStart => exact ⟨(y494), (0), ea_, H', ⟨Nat.le_refl _⟩, ⟨rs HO496⟩, ⟨bs HB⟩⟩
 case round =>
  clear H'
  try clear c1
  try clear p2
  obtain ⟨x5_1, x6_1, rfl, HA, HK1, HO_5, HB⟩ := hrel
  cases gk with
  | zero => exact absurd HA.out (by simp [spec_l06Roots.l0])
  | succ k1 =>
   have H := HA.out
   clear HA
   simp only [spec_l06Roots.l0] at H
   by_cases c5 : x6_1 < a0
   ·
    rw [if_pos c5] at H
    have c5b0 : decide (x6_1 < a0) = true := decide_eq_true c5
    clear c5
    replace H := Option.bind_eq_some_iff.mp H
    obtain ⟨t497, A60, H⟩ := H
    have A6 := as0 A60
    clear A60
    by_cases c7 : t497 = 0
    ·
     rw [if_pos c7] at H
     have c7b0 : (t497 == 0) = true := beq_iff_eq.mpr c7
     have c7b1 : (t497 != 0) = false := bne_eq_false_iff_eq.mpr c7
     clear c7
     by_cases c8 : x5_1.length < 17592186044416
     ·
      rw [if_pos c8] at H
      have LMc8 := as0 c8
      clear c8
      obtain ⟨y498, hy498⟩ : ∃ y_ : List Int, y_ = (x5_1 ++ [x6_1]) := ⟨_, rfl⟩
      replace H : (spec_l06Roots.l0 k1 a0 l1 y498 (wrap64 (x6_1 + 1))) = some r := by first | (rw [hy498]; with_reducible exact H) | (have H2_ := (Option.bind_some _ _).symm.trans H; rw [hy498]; with_reducible exact H2_) | (have H2_ := (Option.bind_some _ _).symm.trans H; with_reducible exact H2_) | with_reducible exact H | (rw [hy498]; exact H) | exact H
      have Ny498 := as0 hy498
      clear hy498
      have H' := as0 H
      clear H
      go_wp2_with (first | ((with_reducible refine gate_callee (f := 110) rfl ?_); refine goesM_ (some 16) rfl rfl Try.func110 #[.int .i64 a0, .slice A1 l1.length c1, .int .i64 x6_1] rfl ?_; (with_reducible refine (spec_l01At.calls k1 a0 _ _ l1 x6_1 t497 _ ?side1 ?side2 A6.out).mono ?_); (case side1 => exact cs ((Kd.C_below HR1.out HB.out))); (case side2 => exact HC1.out); rintro e w' ⟨rfl, ⟨nd, rfl⟩⟩; refine ⟨_, rfl, ?_⟩) | ((with_reducible refine gate_builtin (b := .append) (xs := #[.tmp 18, .tmp 20]) rfl ?_); at_builtin; refine Kd.R_append (Kd.int .i64) (w0 := w) w.heap.size rfl (.tmp 18) (.tmp 20) 22 2 (.int .i64 0) 8 rfl Try.underlying22 info2 rfl (by decide) (by omega) u5 x5_1 x6_1 [.int .i64 x6_1] (fun _ => True) (fun _ => False) rfl rfl ?aP (fun _ hk => hk.elim) ?aF ?aO ?aB ?aS ?aL ?_; (case aP => exact rfl); (case aB => exact (bs HB)); (case aF => exact (fun _ _ => trivial)); (case aO => exact (rs HO_5)); (case aS => exact (below_size (bs HB))); (case aL => have := LMc8.out; omega); intro v499 w9 ho hb hg hat; rw [← Ny498.out] at ho; have n0_ := as0 (hb); have n1_ := as0 (ho); clear HB; clear HO_5; have HB := n0_; have HO500 := n1_; clear n0_ n1_; clear ho hb hg hat))
      go_roundg k1
      case measure => have := HK1.out; omega
      case rel => exact ⟨(y498), (wrap64 (x6_1 + 1)), ea_, H', ⟨by have := HK1.out; omega⟩, ⟨rs HO500⟩, ⟨bs HB⟩⟩
     ·
      rw [if_neg c8] at H
      exact absurd H (by simp)
    ·
     rw [if_neg c7] at H
     have c7b0 : (t497 == 0) = false := beq_eq_false_iff_ne.mpr c7
     have c7b1 : (t497 != 0) = true := bne_iff_ne.mpr c7
     have H' := as0 H
     clear H
     go_wp2_with (first | ((with_reducible refine gate_callee (f := 110) rfl ?_); refine goesM_ (some 16) rfl rfl Try.func110 #[.int .i64 a0, .slice A1 l1.length c1, .int .i64 x6_1] rfl ?_; (with_reducible refine (spec_l01At.calls k1 a0 _ _ l1 x6_1 t497 _ ?side1 ?side2 A6.out).mono ?_); (case side1 => exact cs ((Kd.C_below HR1.out HB.out))); (case side2 => exact HC1.out); rintro e w' ⟨rfl, ⟨nd, rfl⟩⟩; refine ⟨_, rfl, ?_⟩))
     go_roundg k1
     case measure => have := HK1.out; omega
     case rel => exact ⟨(x5_1), (wrap64 (x6_1 + 1)), ea_, H', ⟨by have := HK1.out; omega⟩, ⟨rs HO_5⟩, ⟨bs HB⟩⟩
   ·
    rw [if_neg c5] at H
    have c5b0 : decide (x6_1 < a0) = false := decide_eq_false c5
    clear c5
    obtain rfl := Option.some.inj H
    go_wp2
    go_ret
    exact ⟨_, er_, rs HO_5, bs HB⟩
def spec_CommonRoots.f (k : Nat) (a0 : Int) (l1 : List Int) (l2 : List Int) : Option (List Int × Int) := (spec_l06Code.f k a0 (([l1, l2] : List (List Int)))).bind fun t793 => (if t793 = 0 then ((spec_l01Gcd.f k a0 l1 l2).bind fun t794 => ((spec_l06Roots.f k a0 t794).bind fun t797 => (some (t797, 0)))) else (some (([] : List Int), t793)))
set_option maxHeartbeats 8000000 in
set_option maxRecDepth 100000 in
theorem spec_CommonRoots.calls (k : Nat) (a0 : Int) (P1_ : Nat → Prop) (A1 : Option Addr) (c1 : Nat) (l1 : List Int) (P2_ : Nat → Prop) (A2 : Option Addr) (c2 : Nat) (l2 : List Int) (r1 : List Int) (r2 : Int) (w : World) (hs1 : Kd.V (Kd.int .i64) 2 w w.heap.size (fun k_ => P1_ k_) (.slice A1 l1.length c1) l1) (hs2 : Kd.V (Kd.int .i64) 2 w w.heap.size (fun k_ => P2_ k_) (.slice A2 l2.length c2) l2) (h : spec_CommonRoots.f k a0 l1 l2 = some (r1, r2)) :
  Calls Try.prog 38 #[.int .i64 a0, .slice A1 l1.length c1, .slice A2 l2.length c2] w fun e w' => ∃ v0_ : Value, e = .returned (.tuple #[v0_, .int .i64 r2]) ∧ Kd.R (Kd.int .i64) 2 w' w.heap.size (fun k_ => (w.heap.size ≤ k_)) v0_ r1 ∧ Below w.heap.size w w' := by
 have HO1 := as0 (show Kd.V (Kd.int .i64) 2 w w.heap.size (fun k_ => ((P1_ k_ ∨ P2_ k_) ∨ w.heap.size ≤ k_)) (.slice A1 l1.length c1) l1 from Kd.V_mono hs1 (fun k_ hk => .inl (.inl hk)))
 have HO2 := as0 (show Kd.V (Kd.int .i64) 2 w w.heap.size (fun k_ => ((P1_ k_ ∨ P2_ k_) ∨ w.heap.size ≤ k_)) (.slice A2 l2.length c2) l2 from Kd.V_mono hs2 (fun k_ hk => .inl (.inr hk)))
 have HB := as0 (Below.refl w.heap.size w)
 have H : ((spec_l06Code.f k a0 (([l1, l2] : List (List Int)))).bind fun t793 => (if t793 = 0 then ((spec_l01Gcd.f k a0 l1 l2).bind fun t794 => ((spec_l06Roots.f k a0 t794).bind fun t797 => (some (t797, 0)))) else (some (([] : List Int), t793)))) = some (r1, r2) := h
 clear h
 obtain ⟨y790, hy790⟩ : ∃ y_ : List (List Int), y_ = (([l1, l2] : List (List Int))) := ⟨_, rfl⟩
 replace H : ((spec_l06Code.f k a0 y790).bind fun t793 => (if t793 = 0 then ((spec_l01Gcd.f k a0 l1 l2).bind fun t794 => ((spec_l06Roots.f k a0 t794).bind fun t797 => (some (t797, 0)))) else (some (([] : List Int), t793)))) = some (r1, r2) := by first | (rw [hy790]; with_reducible exact H) | (have H2_ := (Option.bind_some _ _).symm.trans H; rw [hy790]; with_reducible exact H2_) | (have H2_ := (Option.bind_some _ _).symm.trans H; with_reducible exact H2_) | with_reducible exact H | (rw [hy790]; exact H) | exact H
 have Ny790 := as0 hy790
 clear hy790
 replace H := Option.bind_eq_some_iff.mp H
 obtain ⟨t793, A40, H⟩ := H
 have A4 := as0 A40
 clear A40
 by_cases c5 : t793 = 0
 ·
  rw [if_pos c5] at H
  have c5b0 : (t793 == 0) = true := beq_iff_eq.mpr c5
  have c5b1 : (t793 != 0) = false := bne_eq_false_iff_eq.mpr c5
  clear c5
  replace H := Option.bind_eq_some_iff.mp H
  obtain ⟨t794, A60, H⟩ := H
  have A6 := as0 A60
  clear A60
  replace H := Option.bind_eq_some_iff.mp H
  obtain ⟨t797, A70, H⟩ := H
  have A7 := as0 A70
  clear A70
  simp only [Option.some.injEq, Prod.mk.injEq] at H
  obtain ⟨rfl, rfl⟩ := H
  go_enter Try.func38, Try.ntmps38
  go_wp2_with (first | ((with_reducible refine gate_dst (N := 12) rfl ?_); refine Kd.N_lit (Kd.slice 2 (Kd.int .i64)) _ 22 ?hg (N' := 12) ?hd (xs := ([l1, l2] : List (List Int))) (inner := [.slice A1 l1.length c1, .slice A2 l2.length c2]) (ok := (fun k_ => ((P1_ k_ ∨ P2_ k_) ∨ w.heap.size ≤ k_))) (okp := (fun k_ => ((P1_ k_ ∨ P2_ k_) ∨ w.heap.size ≤ k_))) ?hr ?hp (fun _ hk => hk) ((show ∀ k_, w.heap.size ≤ k_ → (fun k_ => ((P1_ k_ ∨ P2_ k_) ∨ w.heap.size ≤ k_)) k_ from fun k_ hk => (.inr (Nat.le_trans (below_size (bs HB)) hk))) _ (Nat.le_refl _)) (Below.refl _ _) (Nat.le_refl _) (by simp) ?_; (case hd => rfl); (case hg => rfl); (case hr => first | (go_simp; done) | (go_simp; rfl)); (case hp => exact (Reps.one (show Kd.FK (Kd.slice 2 (Kd.int .i64)) _ _ l1 [.slice A1 l1.length c1] from (Kd.FK_slice_mk (Kd.V_reads' (Kd.V_mono (ok' := (fun k_ => ((P1_ k_ ∨ P2_ k_) ∨ w.heap.size ≤ k_))) (HO1.out) (fun k_ hk => hk))).2.1 (Kd.V_F (Kd.V_mono (ok' := (fun k_ => ((P1_ k_ ∨ P2_ k_) ∨ w.heap.size ≤ k_))) (HO1.out) (fun k_ hk => hk))))) (Reps.one (show Kd.FK (Kd.slice 2 (Kd.int .i64)) _ _ l2 [.slice A2 l2.length c2] from (Kd.FK_slice_mk (Kd.V_reads' (Kd.V_mono (ok' := (fun k_ => ((P1_ k_ ∨ P2_ k_) ∨ w.heap.size ≤ k_))) (HO2.out) (fun k_ hk => hk))).2.1 (Kd.V_F (Kd.V_mono (ok' := (fun k_ => ((P1_ k_ ∨ P2_ k_) ∨ w.heap.size ≤ k_))) (HO2.out) (fun k_ hk => hk))))) (Reps.none _ _)))); intro v791 w8 ho9 hb hg_ hnew_; clear hg_ hnew_; (first | rw [← Ny790.out] at ho9 | (simp only [Int.reduceToNat] at ho9; rw [← Ny790.out] at ho9)); have n0_ := as0 (Kd.V_elder' (by (with_reducible repeat (first | apply Kd.V_alloc | apply Kd.V_drewN | apply Kd.V_drew)); exact HO1.out) (Kd.N_base ho9) hb); have n1_ := as0 (Kd.V_elder' (by (with_reducible repeat (first | apply Kd.V_alloc | apply Kd.V_drewN | apply Kd.V_drew)); exact HO2.out) (Kd.N_base ho9) hb); have n2_ := as0 (Kd.N_lower ho9 (below_size (bs HB))); have n3_ := as0 (below_step (bs HB) hb); clear HO1; clear HO2; clear HB; have HO1 := n0_; have HO2 := n1_; have HO792 := n2_; have HB := n3_; clear n0_ n1_ n2_ n3_; clear hb ho9; obtain ⟨Ao10, co10, eo10⟩ := Kd.N_slice HO792.out; subst eo10) | ((with_reducible refine gate_callee (f := 54) rfl ?_); refine goesM_ (some 13) rfl rfl Try.func54 #[.int .i64 a0, .slice Ao10 y790.length co10] rfl ?_; (with_reducible refine (spec_l06Code.calls k a0 _ _ y790 t793 _ ?side1 ?side2 A4.out).mono ?_); (case side1 => exact cs ((Kd.N_reads' HO792.out).2.2)); (case side2 => exact (Kd.N_reads' HO792.out).2.1); rintro e w' ⟨rfl, ⟨nd, rfl⟩⟩; refine ⟨_, rfl, ?_⟩) | ((with_reducible refine gate_callee (f := 73) rfl ?_); refine goesM_ (some 21) rfl rfl Try.func73 #[.int .i64 a0, .slice A1 l1.length c1, .slice A2 l2.length c2] rfl ?_; (with_reducible refine (spec_l01Gcd.calls k a0 (fun k_ => (((P1_ k_ ∨ P2_ k_) ∨ w.heap.size ≤ k_) ∧ some k_ ≠ (.slice Ao10 y790.length co10 : Value).ownBlock)) _ _ l1 (fun k_ => (((P1_ k_ ∨ P2_ k_) ∨ w.heap.size ≤ k_) ∧ some k_ ≠ (.slice Ao10 y790.length co10 : Value).ownBlock)) _ _ l2 t794 _ ?side1 ?side2 A6.out).mono ?_); (case side1 => exact HO1.out); (case side2 => exact HO2.out); rintro e w11 ⟨v795, rfl, ho0, hb⟩; refine ⟨_, rfl, ?_⟩; have n0_ := as0 (Kd.V_elder' (by (with_reducible repeat (first | apply Kd.V_alloc | apply Kd.V_drewN | apply Kd.V_drew)); exact HO1.out) (Kd.R_base ho0) hb); have n1_ := as0 (Kd.V_elder' (by (with_reducible repeat (first | apply Kd.V_alloc | apply Kd.V_drewN | apply Kd.V_drew)); exact HO2.out) (Kd.R_base ho0) hb); have n2_ := as0 (Kd.N_elder' (by (with_reducible repeat (first | apply Kd.N_alloc | apply Kd.N_drewN | apply Kd.N_drew)); exact HO792.out) (Kd.R_base ho0) hb); have n3_ := as0 (Kd.R_lower (Kd.R_newM (M := fun k_ => (w.heap.size ≤ k_)) (Kd.R_mono (ok' := fun k_ => True) ho0 (fun _ hk_ => trivial)) (below_size (bs HB)) (fun k_ h_ => h_)) (below_size (bs HB))); have n4_ := as0 (below_step (bs HB) hb); clear HO1; clear HO2; clear HO792; clear HB; have HO1 := n0_; have HO2 := n1_; have HO792 := n2_; have HO796 := n3_; have HB := n4_; clear n0_ n1_ n2_ n3_ n4_; (try clear hb); (try clear hb2); (try clear hk); (try clear hi); (try clear ho0); obtain ⟨Ao12, co12, eo12⟩ := Kd.R_slice HO796.out; subst eo12) | ((with_reducible refine gate_callee (f := 76) rfl ?_); refine goesM_ (some 22) rfl rfl Try.func76 #[.int .i64 a0, .slice Ao12 t794.length co12] rfl ?_; (with_reducible refine (spec_l06Roots.calls k a0 _ _ t794 t797 _ ?side1 ?side2 A7.out).mono ?_); (case side1 => exact cs ((Kd.R_reads' HO796.out).2.2)); (case side2 => exact (Kd.R_reads' HO796.out).2.1); rintro e w13 ⟨v798, rfl, ho0, hb⟩; refine ⟨_, rfl, ?_⟩; have n0_ := as0 (Kd.V_elder' (by (with_reducible repeat (first | apply Kd.V_alloc | apply Kd.V_drewN | apply Kd.V_drew)); exact HO1.out) (Kd.R_base ho0) hb); have n1_ := as0 (Kd.V_elder' (by (with_reducible repeat (first | apply Kd.V_alloc | apply Kd.V_drewN | apply Kd.V_drew)); exact HO2.out) (Kd.R_base ho0) hb); have n2_ := as0 (Kd.N_elder' (by (with_reducible repeat (first | apply Kd.N_alloc | apply Kd.N_drewN | apply Kd.N_drew)); exact HO792.out) (Kd.R_base ho0) hb); have n3_ := as0 (Kd.R_elder' (rs HO796) (Kd.R_base ho0) hb); have n4_ := as0 (Kd.R_lower (Kd.R_new' (Kd.R_newM (M := fun k_ => (w.heap.size ≤ k_)) ho0 (below_size (bs HB)) (fun k_ h_ => h_)) (Kd.R_lt (rs HO796))) (below_size (bs HB))); have n5_ := as0 (below_step (bs HB) hb); clear HO1; clear HO2; clear HO792; clear HO796; clear HB; have HO1 := n0_; have HO2 := n1_; have HO792 := n2_; have HO796 := n3_; have HO799 := n4_; have HB := n5_; clear n0_ n1_ n2_ n3_ n4_ n5_; (try clear hb); (try clear hb2); (try clear hk); (try clear hi); (try clear ho0)))
  go_ret2
  exact ⟨_, er_, by (with_reducible repeat (first | apply Kd.R_alloc | apply Kd.R_drewN | apply Kd.R_drew)); exact Kd.R_mono HO799.out (fun _ hk => hk.1.1), bs HB⟩
 ·
  rw [if_neg c5] at H
  have c5b0 : (t793 == 0) = false := beq_eq_false_iff_ne.mpr c5
  have c5b1 : (t793 != 0) = true := bne_iff_ne.mpr c5
  simp only [Option.some.injEq, Prod.mk.injEq] at H
  obtain ⟨rfl, rfl⟩ := H
  go_enter Try.func38, Try.ntmps38
  go_wp2_with (first | ((with_reducible refine gate_dst (N := 12) rfl ?_); refine Kd.N_lit (Kd.slice 2 (Kd.int .i64)) _ 22 ?hg (N' := 12) ?hd (xs := ([l1, l2] : List (List Int))) (inner := [.slice A1 l1.length c1, .slice A2 l2.length c2]) (ok := (fun k_ => ((P1_ k_ ∨ P2_ k_) ∨ w.heap.size ≤ k_))) (okp := (fun k_ => ((P1_ k_ ∨ P2_ k_) ∨ w.heap.size ≤ k_))) ?hr ?hp (fun _ hk => hk) ((show ∀ k_, w.heap.size ≤ k_ → (fun k_ => ((P1_ k_ ∨ P2_ k_) ∨ w.heap.size ≤ k_)) k_ from fun k_ hk => (.inr (Nat.le_trans (below_size (bs HB)) hk))) _ (Nat.le_refl _)) (Below.refl _ _) (Nat.le_refl _) (by simp) ?_; (case hd => rfl); (case hg => rfl); (case hr => first | (go_simp; done) | (go_simp; rfl)); (case hp => exact (Reps.one (show Kd.FK (Kd.slice 2 (Kd.int .i64)) _ _ l1 [.slice A1 l1.length c1] from (Kd.FK_slice_mk (Kd.V_reads' (Kd.V_mono (ok' := (fun k_ => ((P1_ k_ ∨ P2_ k_) ∨ w.heap.size ≤ k_))) (HO1.out) (fun k_ hk => hk))).2.1 (Kd.V_F (Kd.V_mono (ok' := (fun k_ => ((P1_ k_ ∨ P2_ k_) ∨ w.heap.size ≤ k_))) (HO1.out) (fun k_ hk => hk))))) (Reps.one (show Kd.FK (Kd.slice 2 (Kd.int .i64)) _ _ l2 [.slice A2 l2.length c2] from (Kd.FK_slice_mk (Kd.V_reads' (Kd.V_mono (ok' := (fun k_ => ((P1_ k_ ∨ P2_ k_) ∨ w.heap.size ≤ k_))) (HO2.out) (fun k_ hk => hk))).2.1 (Kd.V_F (Kd.V_mono (ok' := (fun k_ => ((P1_ k_ ∨ P2_ k_) ∨ w.heap.size ≤ k_))) (HO2.out) (fun k_ hk => hk))))) (Reps.none _ _)))); intro v791 w14 ho15 hb hg_ hnew_; clear hg_ hnew_; (first | rw [← Ny790.out] at ho15 | (simp only [Int.reduceToNat] at ho15; rw [← Ny790.out] at ho15)); have n0_ := as0 (Kd.V_elder' (by (with_reducible repeat (first | apply Kd.V_alloc | apply Kd.V_drewN | apply Kd.V_drew)); exact HO1.out) (Kd.N_base ho15) hb); have n1_ := as0 (Kd.V_elder' (by (with_reducible repeat (first | apply Kd.V_alloc | apply Kd.V_drewN | apply Kd.V_drew)); exact HO2.out) (Kd.N_base ho15) hb); have n2_ := as0 (Kd.N_lower ho15 (below_size (bs HB))); have n3_ := as0 (below_step (bs HB) hb); clear HO1; clear HO2; clear HB; have HO1 := n0_; have HO2 := n1_; have HO792 := n2_; have HB := n3_; clear n0_ n1_ n2_ n3_; clear hb ho15; obtain ⟨Ao16, co16, eo16⟩ := Kd.N_slice HO792.out; subst eo16) | ((with_reducible refine gate_callee (f := 54) rfl ?_); refine goesM_ (some 13) rfl rfl Try.func54 #[.int .i64 a0, .slice Ao16 y790.length co16] rfl ?_; (with_reducible refine (spec_l06Code.calls k a0 _ _ y790 t793 _ ?side1 ?side2 A4.out).mono ?_); (case side1 => exact cs ((Kd.N_reads' HO792.out).2.2)); (case side2 => exact (Kd.N_reads' HO792.out).2.1); rintro e w' ⟨rfl, ⟨nd, rfl⟩⟩; refine ⟨_, rfl, ?_⟩))
  go_ret2
  exact ⟨_, er_, by first | exact Kd.R_nil _ _ _ _ _ | exact Kd.N_nil _ _ _ _ _ | exact Kd.V_nil _ _ _ _ _ | exact Kd.Q_nil _ _ _ _ _ | exact Kd.S_nil _ _ _ _ _, bs HB⟩
theorem N_putrow {W : World} {base g n cap : Nat} {ok okp : Nat → Prop} {xs : List (List Int)} (h : Kd.N (Kd.slice 2 (Kd.int .i64)) 22 W base ok (.slice (some ⟨g, 0, none⟩) n cap) xs) (i : Nat) (hi : i < n) {A : Option Addr} {c : Nat} {x' : List Int} (hlc : x'.length ≤ c)
  (hF : Kd.F (Kd.int .i64) W okp A x'.length x') (hokp : ∀ k, okp k → ok k ∧ k ≠ g) :
  Kd.N (Kd.slice 2 (Kd.int .i64)) 22 (W.setCell ⟨g, i, none⟩ (.slice A x'.length c)) base ok (.slice (some ⟨g, 0, none⟩) n cap) (xs.set i x') ∧ W.grownBy (W.setCell ⟨g, i, none⟩ (.slice A x'.length c)) (some g) := by
 obtain ⟨cs, hcl, hK, hcc, _⟩ := Kd.N_elem h [] (i : Int) (by omega) (by omega)
 have hsz : (Kd.slice 2 (Kd.int .i64)).sz = 1 := rfl
 have hd : cs.drop (0 + [Value.slice A x'.length c].length) = [] := List.drop_of_length_le (by rw [hcl, hsz]; simp)
 have hM : Kd.FK (Kd.slice 2 (Kd.int .i64)) W okp x' (cs.take 0 ++ [Value.slice A x'.length c] ++ cs.drop (0 + [Value.slice A x'.length c].length)) := by
  rw [hd]
  exact fun W' hW => ⟨A, c, rfl, hlc, hF W' hW⟩
 have h2 := Kd.N_seg h (i : Int) (by omega) (by omega) (seg := [Value.slice A x'.length c]) (j := 0) hcl hcc (by rw [hsz]; simp) hM hokp
 have e : ((i : Int).toNat * (Kd.slice 2 (Kd.int .i64)).sz + 0) = i := by rw [hsz]; simp
 rw [e] at h2
 simpa [World.setCells] using h2
def spec_l02Det.T24 : Bool × List (List Nat × List Nat) := (true, [([], []), ([], []), ([], []), ([], []), ([2, 3], [2, 3]), ([4], [4]), ([], []), ([5, 6], [5, 6]), ([7], [7]), ([], []), ([], []), ([], []), ([10, 11], [10, 11]), ([12], [12]), ([9, 13], [9, 13]), ([8, 14], [8, 14]), ([1, 15], [1, 15]), ([16], [16]), ([0, 17, 16], [0, 17]), ([18, 18, 0, 1, 2, 3, 4, 5, 6, 7, 8, 9, 10, 11, 12, 13, 14, 15, 16, 17, 18], [0, 18])])
def spec_l02Det.B24 : List Nat := [0, 0, 0, 0, 12, 28, 0, 124, 252, 0, 0, 0, 3072, 7168, 15872, 32764, 65534, 131070, 262143, 524287]
theorem spec_l02Det.tab24 : rtab .any (opsOf Try.f90 24) = spec_l02Det.T24 := by kernel_rfl
theorem spec_l02Det.bits24 : waitsOk spec_l02Det.T24.2 spec_l02Det.B24 = true := by kernel_rfl
open Classical in
noncomputable def spec_l02Det.f (a0 : Int) (l1 : List (List Int)) : Option Int := if Num.IsP a0 ∧ Sq a0 l1.length l1 ∧ l1.length ≤ 1000 then some (zdt l1.length (sb l1 0) % a0) else none
set_option maxHeartbeats 8000000 in
set_option maxRecDepth 100000 in
theorem spec_l02Det.calls (a0 : Int) (P_ : Nat → Prop) (u : Value) (l1 : List (List Int)) (r : Int) (w0 w : World) (hB : Below w0.heap.size w0 w) (ho : Kd.N (Kd.slice 2 (Kd.int .i64)) 22 w w0.heap.size P_ u l1) (h : spec_l02Det.f a0 l1 = some r) :
  Calls Try.prog 90 #[.int .i64 a0, u] w fun e w' => e = .returned (.int .i64 r) ∧ Below w0.heap.size w0 w' := by
 unfold spec_l02Det.f at h
 split at h
 case isFalse => cases h
 rename_i hcond
 obtain ⟨hp, hsq, hn⟩ := hcond
 have hr := Option.some.inj h
 clear h
 obtain ⟨D, hD⟩ : ∃ D, D = zdt l1.length (sb l1 0) := ⟨_, rfl⟩
 rw [← hD] at hr
 obtain ⟨n, hnl⟩ : ∃ n, n = l1.length := ⟨_, rfl⟩
 rw [← hnl] at hsq hn hD
 have hp2 := hp.1
 have hpm := hp.2.1
 have HP := as0 hp
 have HD := as0 (show Num.cg a0 (1 * zdt (n - 0) (sb l1 0)) D by rw [Int.one_mul, Nat.sub_zero, hD]; exact Num.cg.refl _)
 have HR := as0 hr
 have HSQ := as0 hsq
 have HN := as0 hn
 have HB := as0 hB
 have HO := as0 (Kd.N_mono ho (ok' := fun k_ => P_ k_ ∨ w.heap.size ≤ k_) (fun k_ hk => .inl hk))
 have HW := as0 hB.size
 clear hB ho hr hD hsq hn hp
 obtain ⟨Au, cu, eu⟩ := Kd.N_slice HO.out
 subst eu
 rw [← hnl] at HO ⊢
 clear hnl
 have hn1 := HN.out
 go_enter Try.func90, Try.ntmps90
 go_wp2
 go_loopg [5, 7] n (fun kq v5 v7 w' => ∃ (out : Int) (c : Nat) (rows : List (List Int)), v5 = .int .i64 out ∧ v7 = .int .i64 (c : Int) ∧ Aside0 (c + kq = n) ∧ Aside0 (0 ≤ out ∧ out < a0) ∧ Aside0 (Sq a0 n rows) ∧ Aside0 (Num.cg a0 (out * zdt (n - c) (sb rows c)) D) ∧ Aside0 (Kd.N (Kd.slice 2 (Kd.int .i64)) 22 w' w0.heap.size (fun k_ => P_ k_ ∨ w.heap.size ≤ k_) (.slice Au n cu) rows) ∧ Aside0 (w.heap.size ≤ w'.heap.size) ∧ Aside0 (Below w0.heap.size w0 w'))
 case atStart => exact ⟨1, 0, l1, rfl, rfl, ⟨by omega⟩, ⟨by omega⟩, HSQ, HD, HO, ⟨Nat.le_refl _⟩, HB⟩
 case round =>
  clear HD HSQ HO HB HW
  obtain ⟨out, c, rows, rfl, rfl, HG, HOUT, HSQ, HD, HO, HW, HB⟩ := hrel
  have hg := HG.out
  by_cases hc : c < n
  ·
   have hcb : decide ((c : Int) < (n : Int)) = true := decide_eq_true (by omega)
   obtain ⟨G, rfl⟩ : ∃ G, gk = G + 1 := ⟨gk - 1, by omega⟩
   go_wp2
   go_loopg [8] (n - c) (fun kq v8 w' => ∃ (b : Nat), v8 = .int .i64 (b : Int) ∧ Aside0 (b + kq = n) ∧ Aside0 (c ≤ b) ∧ Aside0 (∀ i, c ≤ i → i < b → co (ro rows i) c = 0) ∧ w' = wr)
   case atStart => exact ⟨c, rfl, ⟨by omega⟩, ⟨Nat.le_refl _⟩, ⟨fun i h1 h2 => by omega⟩, rfl⟩
   case round =>
    obtain ⟨b, rfl, HGb, HCb, HZ, rfl⟩ := hrel
    have hgb := HGb.out
    have hcb2 := HCb.out
    by_cases hbn : b < n
    ·
     have hrd : rd_L1 rows (b : Int) = ro rows b := by unfold rd_L1 ro; rw [Int.toNat_natCast]
     have hrl := HSQ.out.row b hbn
     have hin := (HSQ.out.inR b hbn).co (show 0 < a0 by omega) c
     obtain ⟨adb, Ab, cb, eb, hcellb, hlb, hCb⟩ := at_L1 (Kd.N_reads' HO.out).2.2 (b : Int) (by omega) (by rw [HSQ.out.len]; omega)
     rw [hrd, hrl] at hcellb hCb hlb
     obtain ⟨adc, ec, hcellc⟩ := Kd.at_int hCb (c : Int) (by omega) (by omega)
     subst eb
     subst ec
     have hx : rd (ro rows b) (c : Int) = co (ro rows b) c := rd_n _ _
     rw [hx] at hcellc
     rw [Int.toNat_natCast] at hcellb hcellc
     obtain ⟨x, hxe⟩ : ∃ x, x = co (ro rows b) c := ⟨_, rfl⟩
     rw [← hxe] at hcellc hin
     have hcb := as0 hCb
     have HX := as0 hxe
     have HIN := as0 hin
     have HLB := as0 hlb
     have p1 := eq_true (show (0 : Int) ≤ (b : Int) by omega)
     have p2 := eq_true (show (b : Int) < (n : Int) by omega)
     have p3 := eq_true (show (0 : Int) ≤ (c : Int) by omega)
     have p4 := eq_true (show (c : Int) < (n : Int) by omega)
     have d1 : decide (b < n) = true := decide_eq_true (by omega)
     have hbn0 := as0 hbn
     have hc0 := as0 hc
     clear hxe hrd hrl hCb hlb hin hgb hcb2 hbn hc
     by_cases hz : x = 0
     ·
      have z1 : (x == 0) = true := beq_iff_eq.mpr hz
      have HZ0 := as0 hz
      clear hz
      obtain ⟨m, rfl⟩ : ∃ m, gk = m + 1 := ⟨gk - 1, by have := HGb.out; have := hbn0.out; omega⟩
      go_wp2
      go_roundg m
      case measure => omega
      case rel =>
       refine ⟨b + 1, ?_, ⟨by have := HGb.out; omega⟩, ⟨by have := HCb.out; omega⟩, ⟨fun i h1 h2 => ?_⟩, rfl⟩
       ·
        rw [wp1 (show b ≤ 1000000000000 by have := HGb.out; omega)]
       ·
        by_cases e : i = b
        ·
         rw [e, ← HX.out, HZ0.out]
        ·
         exact HZ.out i h1 (by omega)
     ·
      have z1 : (x == 0) = false := beq_eq_false_iff_ne.mpr hz
      have HZ0 := as0 hz
      clear hz
      have d2 : ((b : Int) == (n : Int)) = false := beq_eq_false_iff_ne.mpr (by have := hbn0.out; omega)
      -- the pivot's row
      obtain ⟨own, hown⟩ : ∃ own, own = ro rows b := ⟨_, rfl⟩
      have HOWN := as0 hown
      clear hown
      have hlen0 : 0 < rows.length := by have := HSQ.out.len; have := hbn0.out; omega
      obtain ⟨g, cap, eu, hbg, hgl, _⟩ := Kd.N_form HO.out hlen0
      have hgv : adb = ⟨g, 0, none⟩ := by injection eu with h1; injection h1
      subst hgv
      rw [add_plain] at hcellb
      clear eu hlen0
      have FOWN := as0 (show Kd.F (Kd.int .i64) wr (fun k_ => (P_ k_ ∨ w.heap.size ≤ k_) ∧ k_ ≠ g) (some adc) n own by
       obtain ⟨cs, hcl, hK, hcc, _⟩ := Kd.N_elem HO.out [] (b : Int) (by omega) (by have := hbn0.out; omega)
       obtain ⟨A', c', ecs, _, hF⟩ := Kd.FK_slice_open hK
       subst ecs
       have h1 := hcc 0 _ rfl
       rw [show (b : Int).toNat * (Kd.slice 2 (Kd.int .i64)).sz + 0 = b by simp [Kd.slice]] at h1
       rw [hcellb] at h1
       injection h1 with h1
       injection h1 with h1 h2 h3
       subst h1
       have e : rows.getD (b : Int).toNat [] = own := by rw [Int.toNat_natCast]; exact HOWN.out.symm
       rw [e] at hF h2
       rw [h2]; exact hF)
      have HGl := as0 hgl
      have HBg := as0 hbg
      clear hgl hbg
      go_upto_if 47 with (fail)
      go_cut [5] (fun v5 wc => ∃ (out1 : Int) (rows1 : List (List Int)), v5 = .int .i64 out1 ∧ Aside0 (0 ≤ out1 ∧ out1 < a0) ∧ Aside0 (Sq a0 n rows1) ∧ Aside0 (ro rows1 c = own) ∧ Aside0 (Num.cg a0 (out1 * zdt (n - c) (sb rows1 c)) D) ∧ Aside0 (Kd.N (Kd.slice 2 (Kd.int .i64)) 22 wc w0.heap.size (fun k_ => P_ k_ ∨ w.heap.size ≤ k_) (.slice (some ⟨g, 0, none⟩) n cu) rows1) ∧ Aside0 (Kd.F (Kd.int .i64) wc (fun k_ => (P_ k_ ∨ w.heap.size ≤ k_) ∧ k_ ≠ g) (some adc) n own) ∧ Aside0 (w.heap.size ≤ wc.heap.size) ∧ Aside0 (Below w0.heap.size w0 wc))
      case first =>
       by_cases hbc : b = c
       ·
        subst hbc
        go_wp2
        go_meet
        case rel => exact ⟨out, rows, rfl, HOUT, HSQ, ⟨HOWN.out.symm⟩, HD, HO, FOWN, HW, HB⟩
       ·
        have d3 : ((b : Int) != (c : Int)) = true := bne_iff_ne.mpr (by omega)
        -- row c
        obtain ⟨csc, hclc, hKc, hccc, hfrc⟩ := Kd.N_elem HO.out [] (c : Int) (by omega) (by have := hc0.out; omega)
        obtain ⟨_, _, _, _, hfrb⟩ := Kd.N_elem HO.out [] (b : Int) (by omega) (by have := hbn0.out; omega)
        obtain ⟨Ac, cc, ecs, hlc, hFc⟩ := Kd.FK_slice_open hKc
        subst ecs
        have hcellC := hccc 0 _ rfl
        have hfb := hfrb 0
        have hfc := hfrc 0
        rw [show (c : Int).toNat * (Kd.slice 2 (Kd.int .i64)).sz + 0 = c by simp [Kd.slice]] at hcellC hfc
        rw [show (b : Int).toNat * (Kd.slice 2 (Kd.int .i64)).sz + 0 = b by simp [Kd.slice]] at hfb
        have erow : rows.getD (c : Int).toNat [] = ro rows c := by rw [Int.toNat_natCast]; rfl
        have elen : (ro rows c).length = n := HSQ.out.row c hc0.out
        rw [erow] at hcellC hFc hlc
        rw [elen] at hcellC hlc
        have HP1 := N_putrow HO.out b hbn0.out (A := Ac) (c := cc) (x' := ro rows c) (by rw [elen]; exact hlc) hFc (fun _ hk => hk)
        rw [elen] at HP1
        have H1 := as0 HP1
        have HFC := as0 hFc
        have HBC := as0 hbc
        clear HP1 hFc hccc hfrc hfrb hKc hclc erow elen hlc hbc
        have hlown : own.length = n := by rw [HOWN.out]; exact HSQ.out.row b hbn0.out
        have HLO := as0 hlown
        clear hlown
        have hmod := spec_mod (p := a0) (x := -out) (by omega) (by omega)
        have hwn : wrap64 (-out) = -out := Num.w64 (by have := HOUT.out; omega) (by have := HOUT.out; omega)
        have HM : ∀ W, Calls Try.prog 61 #[.int .i64 a0, .int .i64 (wrap64 (-out))] W fun e w' => e = .returned (.int .i64 ((-out) % a0)) ∧ Drawn0 W w' := fun W => by
         rw [hwn]; exact spec_l01Mod.calls a0 (-out) ((-out) % a0) W hmod
        clear hmod hwn
        go_wp2_with (first | ((with_reducible refine gate_store (t := 22) (p := 54) rfl ?_); refine store_event (t := 22) (p := 54) (v := ?vo_w8) (w1 := wr.setCell ⟨g, b, none⟩ (.slice Ac n cc)) ?hg ?ho ?hn ?hr ?_; (case ho => rfl); (case hg => rfl); (case hn => rfl); (case hr => first | (go_simp; done) | (go_simp; rfl)); intro w8 hw; have O8 := as0 (show Kd.N (Kd.slice 2 (Kd.int .i64)) 22 w8 w0.heap.size (fun k_ => P_ k_ ∨ w.heap.size ≤ k_) (.slice (some ⟨g, 0, none⟩) n cu) (rows.set b (ro rows c)) from by rw [hw]; exact H1.out.1); have G8 : wr.grownBy w8 (some g) := (by rw [hw]; exact H1.out.2); have F8 := as0 (Kd.F_grown FOWN.out G8 (fun k_ hk e_ => hk.2 (Option.some.inj e_))); have B8 := as0 (show Below w0.heap.size w0 w8 from by rw [hw]; exact below_set HB.out HBg.out); have S8 := as0 (Nat.le_trans HW.out G8.size); clear hw G8 H1; obtain ⟨cs8, hcl8, hK8, hcc8, hfr8⟩ := Kd.N_elem O8.out [] (c : Int) (by omega) (by have := hc0.out; omega); have hf8 := hfr8 0; have hc8 := hcc8 0 _ (List.getElem?_eq_getElem (show 0 < cs8.length by rw [hcl8]; exact Nat.one_pos)); rw [show (c : Int).toNat * (Kd.slice 2 (Kd.int .i64)).sz + 0 = c by simp [Kd.slice]] at hf8 hc8; clear hK8 hcc8; have H2 := N_putrow O8.out c hc0.out (A := some adc) (c := cb) (x' := own) (by rw [HLO.out]; exact HLB.out) (by rw [HLO.out]; exact F8.out) (fun _ hk => hk); rw [HLO.out] at H2; have H2 := as0 H2; clear hfr8) | ((with_reducible refine gate_store (t := 22) (p := 58) rfl ?_); refine store_event (t := 22) (p := 58) (v := ?vo_w9) (w1 := w8.setCell ⟨g, c, none⟩ (.slice (some adc) n cb)) ?hg ?ho ?hn ?hr ?_; (case ho => rfl); (case hg => rfl); (case hn => rfl); (case hr => first | (go_simp; done) | (go_simp; rfl)); intro w9 hw; have O9 := as0 (show Kd.N (Kd.slice 2 (Kd.int .i64)) 22 w9 w0.heap.size (fun k_ => P_ k_ ∨ w.heap.size ≤ k_) (.slice (some ⟨g, 0, none⟩) n cu) ((rows.set b (ro rows c)).set c own) from by rw [hw]; exact H2.out.1); have G9 : w8.grownBy w9 (some g) := (by rw [hw]; exact H2.out.2); have F9 := as0 (Kd.F_grown F8.out G9 (fun k_ hk e_ => hk.2 (Option.some.inj e_))); have B9 := as0 (show Below w0.heap.size w0 w9 from by rw [hw]; exact below_set B8.out HBg.out); have S9 := as0 (Nat.le_trans S8.out G9.size); clear hw G9 H2) | (go_at_call 61; refine (HM _).mono ?_; rintro e w' ⟨rfl, ⟨nd, rfl⟩⟩))
        go_meet
        case rel =>
         refine ⟨(-out) % a0, (rows.set b (ro rows c)).set c own, rfl, ⟨Num.emod_bd (by omega)⟩, ⟨?_⟩, ⟨?_⟩, ⟨?_⟩, ⟨Kd.N_drewN O9.out _⟩, ⟨Kd.F_drewN F9.out _⟩, S9, ⟨pw_below_drewN B9.out _⟩⟩
         ·
          exact (HSQ.out.set hbn0.out (HSQ.out.row c hc0.out) (HSQ.out.inR c hc0.out)).set hc0.out HLO.out (by rw [HOWN.out]; exact HSQ.out.inR b hbn0.out)
         ·
          rw [ro_set _ _ _ _ (by rw [List.length_set, HSQ.out.len]; exact hc0.out), if_pos rfl]
         ·
          have h1 := sb_swap (c := c) HSQ.out.len (show c < b by have := HCb.out; have := HBC.out; omega) hbn0.out
          rw [HOWN.out, h1]
          have h2 := (Num.cg.mod a0 (-out)).mul (Num.cg.refl (p := a0) (-zdt (n - c) (sb rows c)))
          rw [Int.neg_mul_neg] at h2
          exact h2.trans HD.out
      case rest =>
       obtain ⟨out1, rows1, rfl, HOUT1, HSQ1, HOW1, HD1, HO1, FO1, HW1, HB1⟩ := hcut
       have HOWN0 := as0 (show own = ro rows1 c from HOW1.out.symm)
       clear HOUT HSQ HD HO HW HB FOWN hcellb hcellc z1 d2 d1 hcb
       have hxo : co own c = x := by rw [HOWN.out, ← HX.out]
       obtain ⟨ad', ead, hcc⟩ := Kd.at_int (Kd.F_now FO1.out) (c : Int) (by omega) (by have := hc0.out; omega)
       injection ead with ead
       subst ead
       rw [rd_n, Int.toNat_natCast] at hcc
       rw [show own.getD c 0 = x from hxo] at hcc
       have HXO := as0 hxo
       clear hxo
       obtain ⟨K, hK⟩ := spec_inverse (p := a0) (x := x) hp2 hpm
       have HI := fun W => spec_l01Inverse.calls K a0 x _ W (hK K (Nat.le_refl _))
       have z2 : (a0 == 0) = false := beq_eq_false_iff_ne.mpr (by omega)
       have HK := as0 hK
       clear hK
       go_wp2_with (go_at_call 60; refine (HI _).mono ?_; rintro e w' ⟨rfl, ⟨nd, rfl⟩⟩)
       obtain ⟨iv, hiv⟩ : ∃ iv, iv = x ^ (a0 - 2).toNat % a0 := ⟨_, rfl⟩
       rw [← hiv]
       have HIV := as0 hiv
       clear hiv HI HK
       have hivb : 0 ≤ iv ∧ iv < a0 := by rw [HIV.out]; exact Num.emod_bd (by omega)
       have HIVB := as0 hivb
       clear hivb
       have cnum : Value.int .i64 ((c : Int) + 1) = .int .i64 ((c + 1 : Nat) : Int) := by rw [show ((c + 1 : Nat) : Int) = (c : Int) + 1 by omega]
       rw [cnum]
       clear cnum hcc
       go_loopg [11] (n - (c + 1)) (fun kq v11 w' => ∃ (i : Nat) (rows2 : List (List Int)), v11 = .int .i64 (i : Int) ∧ Aside0 (i + kq = n) ∧ Aside0 (c < i) ∧ Aside0 (Sq a0 n rows2) ∧ Aside0 (∀ j, j ≤ c ∨ i ≤ j → ro rows2 j = ro rows1 j) ∧ Aside0 (∀ j, c < j → j < i → ∀ t, t < n → Num.cg a0 (co (ro rows2 j) t) (co (ro rows1 j) t - co (ro rows1 j) c * iv % a0 * co own t)) ∧ Aside0 (Kd.N (Kd.slice 2 (Kd.int .i64)) 22 w' w0.heap.size (fun k_ => P_ k_ ∨ w.heap.size ≤ k_) (.slice (some ⟨g, 0, none⟩) n cu) rows2) ∧ Aside0 (Kd.F (Kd.int .i64) w' (fun k_ => (P_ k_ ∨ w.heap.size ≤ k_) ∧ k_ ≠ g) (some adc) n own) ∧ Aside0 (w.heap.size ≤ w'.heap.size) ∧ Aside0 (Below w0.heap.size w0 w'))
       case atStart => exact ⟨c + 1, rows1, rfl, ⟨by have := hc0.out; omega⟩, ⟨by omega⟩, HSQ1, ⟨fun _ _ => rfl⟩, ⟨fun j h1 h2 => by omega⟩, ⟨Kd.N_drewN HO1.out _⟩, ⟨Kd.F_drewN FO1.out _⟩, HW1, ⟨pw_below_drewN HB1.out _⟩⟩
       case round =>
        clear HO1 FO1 HW1 HB1
        obtain ⟨i, rows2, rfl, HGi, HCi, HSQ2, HEQ, HEL, HO2, FO2, HW2, HB2⟩ := hrel
        obtain ⟨wi, hwi⟩ : ∃ wi, wi = wr := ⟨_, rfl⟩
        subst hwi
        by_cases hi : i < n
        ·
         obtain ⟨ri, hri⟩ : ∃ ri, ri = ro rows1 i := ⟨_, rfl⟩
         have hr2 : ro rows2 i = ri := by rw [hri]; exact HEQ.out i (.inr (Nat.le_refl _))
         have hrl : ri.length = n := by rw [hri]; exact HSQ1.out.row i hi
         have hrr : InR a0 ri := by rw [hri]; exact HSQ1.out.inR i hi
         obtain ⟨csi, hcli, hKi, hcci, hfri⟩ := Kd.N_elem HO2.out [] (i : Int) (by omega) (by omega)
         obtain ⟨Ai, ci, eci, hli, hFi⟩ := Kd.FK_slice_open hKi
         subst eci
         have hcelli := hcci 0 _ rfl
         rw [show (i : Int).toNat * (Kd.slice 2 (Kd.int .i64)).sz + 0 = i by simp [Kd.slice]] at hcelli
         have erow : rows2.getD (i : Int).toNat [] = ri := by rw [Int.toNat_natCast]; exact hr2
         rw [erow] at hcelli hFi hli
         rw [hrl] at hcelli hFi hli
         obtain ⟨adi, eai, hcy⟩ := Kd.at_int (Kd.F_now hFi) (c : Int) (by omega) (by have := hc0.out; omega)
         subst eai
         rw [rd_n, Int.toNat_natCast] at hcy
         obtain ⟨y, hy⟩ : ∃ y, y = ri.getD c 0 := ⟨_, rfl⟩
         rw [← hy] at hcy
         have hyb : 0 ≤ y ∧ y < a0 := by rw [hy]; exact hrr.get (by omega) c
         have hmb := mul_bd2 hpm hyb (y := iv) (by have := HIVB.out; omega)
         have hfac : (wrap64 (y * iv)).tmod a0 = y * iv % a0 := by rw [Num.w64 (by omega) (by omega), Num.tmod_nn hmb.1]
         have RI := as0 hri
         have RR := as0 hrr
         have RL := as0 hrl
         have HY := as0 hy
         have HYB := as0 hyb
         have FI := as0 hFi
         have HFAC := as0 hfac
         have HI0 := as0 hi
         have d1 : decide (i < n) = true := decide_eq_true hi
         have p5 := eq_true (show (0 : Int) ≤ (i : Int) by omega)
         have p6 := eq_true (show (i : Int) < (n : Int) by omega)
         clear hri hr2 hrl hrr hKi hcci hfri hcli hli hFi erow hy hyb hmb hfac hi
         obtain ⟨m, rfl⟩ : ∃ m, gk = m + 1 := ⟨gk - 1, by have := HGi.out; have := HI0.out; omega⟩
         go_wp2_with ((with_reducible refine gate_dst (N := 95) rfl ?_); refine Kd.R_lit (Kd.int .i64) _ 2 ?hg (N := 95) ?hd (xs := ([] : List Int)) (inner := []) (ok := fun _ => True) (okp := fun _ => True) ?hr ?hp (fun _ hk => hk) trivial (Below.refl _ _) (Nat.le_refl _) (by simp) ?_; (case hd => rfl); (case hg => rfl); (case hr => first | (go_simp; done) | (go_simp; rfl)); (case hp => exact Reps.none _ _); intro vn w3 ho4 hb hg_ hnew_; clear hg_ hnew_; have ON := as0 ho4; have BN := as0 hb; clear ho4 hb)
         rw [HFAC.out]
         obtain ⟨fa, hfa⟩ : ∃ fa, fa = y * iv % a0 := ⟨_, rfl⟩
         rw [← hfa]
         have HFA := as0 hfa
         have HFB := as0 (show 0 ≤ fa ∧ fa < a0 by rw [hfa]; exact Num.emod_bd (by omega))
         clear hfa HFAC hcy
         have HCELLI := as0 hcelli
         clear hcelli
         go_loopg [13, 14] n (fun kq v13 v14 w' => ∃ (t : Nat) (nx : List Int), v14 = .int .i64 (t : Int) ∧ Aside0 (t + kq = n) ∧ Aside0 (nx.length = t) ∧ Aside0 (∀ j, j < t → co nx j = (co ri j - fa * co own j) % a0) ∧ Aside0 (Kd.R (Kd.int .i64) 2 w' wi.heap.size (fun _ => True) v13 nx) ∧ Aside0 (Below wi.heap.size wi w'))
         case atStart => exact ⟨0, [], rfl, ⟨by omega⟩, ⟨rfl⟩, ⟨fun j h => by omega⟩, ON, BN⟩
         case round =>
          clear ON BN
          obtain ⟨t, nx, rfl, HGt, HNL, HNX, ON, BN⟩ := hrel
          have OWB := as0 (show ∀ j, 0 ≤ own.getD j 0 ∧ own.getD j 0 < a0 from fun j => by rw [HOWN0.out]; exact (HSQ1.out.inR c hc0.out).get (by omega) j)
          by_cases ht : t < n
          ·
           have hcell1 := pw_cell_below BN.out HCELLI.out
           obtain ⟨ad1, e1, hcr⟩ := Kd.at_int (Kd.F_now FI.out) (t : Int) (by omega) (by omega)
           obtain ⟨ad2, e2, hco⟩ := Kd.at_int (Kd.F_now FO2.out) (t : Int) (by omega) (by omega)
           injection e1 with e1
           injection e2 with e2
           subst e1 e2
           rw [rd_n, Int.toNat_natCast] at hcr hco
           obtain ⟨rt, hrt⟩ : ∃ rt, rt = ri.getD t 0 := ⟨_, rfl⟩
           obtain ⟨ot, hot⟩ : ∃ ot, ot = own.getD t 0 := ⟨_, rfl⟩
           rw [← hrt] at hcr
           rw [← hot] at hco
           have HCR := as0 hcr
           have HCO := as0 hco
           replace hcr := pw_cell_below BN.out hcr
           replace hco := pw_cell_below BN.out hco
           have RT := as0 hrt
           have OT := as0 hot
           have HT := as0 ht
           have d2 : decide (t < n) = true := decide_eq_true ht
           have p7 := eq_true (show (0 : Int) ≤ (t : Int) by omega)
           have p8 := eq_true (show (t : Int) < (n : Int) by omega)
           clear hrt hot ht
           obtain ⟨q, rfl⟩ : ∃ q, gk = q + 1 := ⟨gk - 1, by have := HGt.out; have := HT.out; omega⟩
           obtain ⟨An, cn, en⟩ := Kd.R_slice ON.out
           subst en
           go_wp2
           have hfo := mul_bd2 hpm HFB.out (y := ot) (by rw [OT.out]; have := OWB.out t; omega)
           have hob2 : 0 ≤ ot ∧ ot < a0 := by rw [OT.out]; exact OWB.out t
           have hrb2 : 0 ≤ rt ∧ rt < a0 := by rw [RT.out]; exact RR.out.get (by omega) t
           have hwm : wrap64 (rt - wrap64 (fa * ot)) = rt - fa * ot := by rw [Num.w64 (x := fa * ot) (by omega) (by omega), Num.w64 (by omega) (by omega)]
           have hmod := spec_mod (p := a0) (x := rt - fa * ot) (by omega) (by omega)
           have HMk : ∀ W, Calls Try.prog 61 #[.int .i64 a0, .int .i64 (wrap64 (rt - wrap64 (fa * ot)))] W fun e w' => e = .returned (.int .i64 ((rt - fa * ot) % a0)) ∧ Drawn0 W w' := fun W => by
            rw [hwm]; exact spec_l01Mod.calls a0 (rt - fa * ot) _ W hmod
           clear hwm hmod hfo hob2 hrb2
           have ON' := as0 (Kd.R_drew ON.out)
           have BN' := as0 (below_drew BN.out)
           clear ON BN
           have ON := ON'
           have BN := BN'
           clear ON' BN'
           refine start_ (n := 20) (S := fun w' => w'.cell? ⟨g, i, none⟩ = some (.slice (some adi) n ci) ∧ w'.cell? (adi.add t) = some (.int .i64 rt) ∧ w'.cell? (adc.add t) = some (.int .i64 ot)) (ds := []) #[false, false, false, false, false, false, false, false, false, false, false, false, false, false, false, false, false, false, false, false] (by kernel_rfl) rfl rfl ⟨hcell1, hcr, hco⟩ (fun hHeld => ?_); refine with_tabW spec_l02Det.tab24 spec_l02Det.bits24 (fun HT_ HW_ => ?_)
           generalize wr.drew = wd at ON BN hHeld ⊢
           clear hcell1 hcr hco
           refine pm_ HT_ (i := 0) (N := some 101) ?_
           refine pm_ HT_ (i := 1) (N := some 102) ?_
           refine pm_ HT_ (i := 2) (N := some 103) ?_
           refine pm_ HT_ (i := 3) (N := some 104) ?_
           refine pm_ HT_ (i := 6) (N := some 107) ?_
           refine pm_ HT_ (i := 9) (N := some 110) ?_
           refine pm_ HT_ (i := 10) (N := some 111) ?_
           refine pm_ HT_ (i := 11) (N := some 112) ?_
           refine pm_ HT_ (i := 4) (N := some 105) ?_
           refine pm_ HT_ (i := 12) (N := some 113) ?_
           refine tm3_ HT_ HW_ (i := 5) (N := some 106) hHeld ?_
           refine pm_ HT_ (i := 7) (N := some 108) ?_
           refine tm3_ HT_ HW_ (i := 8) (N := some 109) hHeld ?_
           refine tm3_ HT_ HW_ (i := 13) (N := some 114) hHeld ?_
           refine pm_ HT_ (i := 14) (N := some 115) ?_
           refine pm_ HT_ (i := 15) (N := some 116) ?_
           refine one_ (i := 16) (N := some 117) #[true, true, true, true, true, true, true, true, true, true, true, true, true, true, true, true, true, false, false, false] rfl rfl (one_of HT_.out (by kernel_rfl)) (by decide) (fun K hK => ?_)
           refine goes_ Try.func61 (by kernel_rfl) rfl #[.int .i64 a0, .int .i64 (wrap64 (rt - wrap64 (fa * ot)))] (by rfl) rfl rfl (by (try simp only [List.map_toArray, List.map_cons, List.map_nil]); first | done | rfl) ?_
           refine (HMk _).mono ?_
           rintro e w' ⟨rfl, ⟨nd, rfl⟩⟩
           refine ⟨_, rfl, ?_⟩
           refine hK.out _ _ hHeld (fun hHeld => ?_)
           clear hK K
           refine nm_ (some 117) ?_
           refine one_ (i := 17) (N := some 118) #[true, true, true, true, true, true, true, true, true, true, true, true, true, true, true, true, true, true, false, false] rfl rfl (one_of HT_.out (by kernel_rfl)) (by decide) (fun K hK => ?_)
           refine value_ (w1 := ?_) (v := ?_) (by rfl) rfl ?_ ?_
           rotate_left 2
           ·
            go_simp
            constructor
            ·
             rfl
            ·
             rfl
           refine hK.out _ _ ⟨pw_cell_below (below_alloc (Below.refl _ _) _) hHeld.1, pw_cell_below (below_alloc (Below.refl _ _) _) hHeld.2.1, pw_cell_below (below_alloc (Below.refl _ _) _) hHeld.2.2⟩ (fun hHeld => ?_)
           clear hK K
           refine nm_ (some 118) ?_
           refine one_ (i := 18) (N := some 119) #[true, true, true, true, true, true, true, true, true, true, true, true, true, true, true, true, true, true, true, false] rfl rfl (one_of HT_.out (by kernel_rfl)) (by decide) (fun K hK => ?_)
           refine Kd.R_append_step (Kd.int .i64) (w0 := wi) wi.heap.size (by rfl) (.tmp 101) (.tmp 118) 22 2 (.int .i64 0) 8 rfl Try.underlying22 info2 rfl (by decide) (by omega) (.slice An nx.length cn) nx ((rt - fa * ot) % a0) [.int .i64 ((rt - fa * ot) % a0)] (fun _ => True) (fun _ => False) rfl rfl ?aP (fun _ hk => hk.elim) ?aF ?aO ?aB ?aS ?aL ?_
           (case aP => exact rfl)
           (case aB => exact (by repeat (first | (with_reducible first | exact BN.out | apply below_alloc | apply pw_below_drewN | apply below_drew1) | exact BN.out)))
           (case aF => exact fun _ _ => trivial)
           (case aO => exact (rs ON))
           (case aS => exact BN.out.size)
           (case aL => have := HNL.out; have := HT.out; omega)
           intro v1 w19 ho hb hg hat
           have ON2 := as0 ho
           have BN2 := as0 hb
           clear ho hb hg hat ON BN
           refine hK.out _ _ ⟨pw_cell_below BN2.out HCELLI.out, pw_cell_below BN2.out HCR.out, pw_cell_below BN2.out HCO.out⟩ (fun hHeld => ?_)
           clear hK K
           refine nm_ (some 119) ?_
           refine pm_ HT_ (i := 19) (N := some 13) ?_
           refine done_ (done_of HT_.out (by kernel_rfl)) ?_
           clear HT_ HW_ hHeld HMk
           go_wp2
           go_roundg q
           case measure => omega
           case rel =>
            refine ⟨t + 1, nx ++ [(rt - fa * ot) % a0], ?_, ⟨by have := HGt.out; omega⟩, ⟨by rw [List.length_append, HNL.out]; rfl⟩, ⟨fun j hj => ?_⟩, ON2, BN2⟩
            ·
             rw [wp1 (show t ≤ 1000000000000 by have := HT.out; omega)]
            ·
             rw [co_app1 _ _ _ (by rw [HNL.out]; exact hj), HNL.out]
             by_cases e : j < t
             ·
              rw [if_pos e]; exact HNX.out j e
             ·
              obtain rfl : j = t := by omega
              rw [if_neg e, RT.out, OT.out]; rfl
          ·
           obtain rfl : t = n := by have := HGt.out; omega
           have d2 : decide (t < t) = false := decide_eq_false (by omega)
           clear ht
           obtain ⟨An, cn, en⟩ := Kd.R_slice ON.out
           subst en
           have hnl := HNL.out
           have hlec := (Kd.R_reads' ON.out).2.1
           rw [hnl] at ON hlec ⊢
           have hN := Kd.N_below HO2.out BN.out
           have hgw : g < wi.heap.size := Kd.N_lt HO2.out g (by simp [Value.ownBlock])
           have hFn : Kd.F (Kd.int .i64) wr (fun k_ => wi.heap.size ≤ k_) An nx.length nx := by
            rw [hnl]
            exact Kd.R_F (Kd.R_mono (Kd.R_bound ON.out) (ok' := fun k_ => wi.heap.size ≤ k_) (fun k_ hk => hk.2.1))
           have hP := N_putrow hN i HI0.out (A := An) (c := cn) (x' := nx) (by rw [hnl]; exact hlec) hFn (fun k_ hk => ⟨.inr (Nat.le_trans HW2.out hk), fun e => by omega⟩)
           rw [hnl] at hP
           obtain ⟨csg, hclg, _, hccg, hfrg⟩ := Kd.N_elem hN [] (i : Int) (by omega) (by have := HI0.out; omega)
           have hcg := hccg 0 _ (List.getElem?_eq_getElem (show 0 < csg.length by rw [hclg]; exact Nat.one_pos))
           have hfg := hfrg 0
           rw [show (i : Int).toNat * (Kd.slice 2 (Kd.int .i64)).sz + 0 = i by simp [Kd.slice]] at hcg hfg
           have HPP := as0 hP
           have FOn := as0 (Kd.F_below FO2.out BN.out)
           have HBn := as0 (below_step HB2.out BN.out)
           clear hN hFn hP hccg hfrg hlec hnl
           go_wp2_with ((with_reducible refine gate_store (t := 22) (p := 123) rfl ?_); refine store_event (t := 22) (p := 123) (v := ?vo_z8) (w1 := wr.setCell ⟨g, i, none⟩ (.slice An t cn)) ?hg ?ho ?hn ?hr ?_; (case ho => rfl); (case hg => rfl); (case hn => rfl); (case hr => first | (go_simp; done) | (go_simp; rfl)); intro w8 hw; have O8 := as0 (show Kd.N (Kd.slice 2 (Kd.int .i64)) 22 w8 w0.heap.size (fun k_ => P_ k_ ∨ w.heap.size ≤ k_) (.slice (some ⟨g, 0, none⟩) t cu) (rows2.set i nx) from by rw [hw]; exact HPP.out.1); have G8 : wr.grownBy w8 (some g) := (by rw [hw]; exact HPP.out.2); have F8 := as0 (Kd.F_grown FOn.out G8 (fun k_ hk e_ => hk.2 (Option.some.inj e_))); have B8 := as0 (show Below w0.heap.size w0 w8 from by rw [hw]; exact below_set HBn.out HBg.out); have S8 := as0 (Nat.le_trans (Nat.le_trans HW2.out BN.out.size) G8.size); clear hw G8 HPP)
           go_roundg m
           case measure => omega
           case rel =>
            refine ⟨i + 1, rows2.set i nx, ?_, ⟨by have := HGi.out; omega⟩, ⟨by have := HCi.out; omega⟩, ⟨?_⟩, ⟨fun j hj => ?_⟩, ⟨fun j h1 h2 s hs => ?_⟩, O8, F8, S8, B8⟩
            ·
             rw [wp1 (show i ≤ 1000000000000 by have := HI0.out; omega)]
            ·
             refine HSQ2.out.set HI0.out HNL.out fun z hz => ?_
             obtain ⟨s, hs, e⟩ := List.getElem_of_mem hz
             have := HNX.out s (by rw [← HNL.out]; exact hs)
             unfold co at this
             rw [List.getD_eq_getElem?_getD, List.getElem?_eq_getElem hs] at this
             rw [← e, show nx[s] = _ from this]
             exact Num.emod_bd (by omega)
            ·
             rw [ro_set _ _ _ _ (by rw [HSQ2.out.len]; exact HI0.out), if_neg (by have := HCi.out; omega)]
             exact HEQ.out j (by omega)
            ·
             rw [ro_set _ _ _ _ (by rw [HSQ2.out.len]; exact HI0.out)]
             by_cases e : j = i
             ·
              rw [if_pos e, HNX.out s hs, e, ← RI.out]
              have := HY.out
              have e2 : co ri c = y := HY.out.symm
              rw [e2, ← HFA.out]
              exact Num.cg.mod _ _
             ·
              rw [if_neg e]; exact HEL.out j h1 (by omega) s hs
        ·
         obtain rfl : i = n := by have := HGi.out; omega
         have d1 : decide (i < i) = false := decide_eq_false (by omega)
         clear hi
         have hob := mul_bd2 hpm HOUT1.out (y := x) (by have := HIN.out; omega)
         have hw1 : (wrap64 (out1 * x)).tmod a0 = out1 * x % a0 := by rw [Num.w64 (by omega) (by omega), Num.tmod_nn hob.1]
         rw [hw1]
         clear hw1 hob
         go_wp2
         go_roundg G
         case measure => omega
         case rel =>
          refine ⟨out1 * x % a0, c + 1, rows2, rfl, ?_, ⟨by have := HG.out; omega⟩, ⟨Num.emod_bd (by omega)⟩, HSQ2, ⟨?_⟩, HO2, HW2, HB2⟩
          ·
           rw [show ((c + 1 : Nat) : Int) = (c : Int) + 1 by omega]
          ·
           have hun : Num.cg a0 (co (ro rows1 c) c * iv) 1 := by
            rw [HOW1.out, HXO.out, HIV.out]
            exact Num.inv_cg HP.out (by rw [Int.emod_eq_of_lt HIN.out.1 HIN.out.2]; exact HZ0.out)
           have h1 := sb_elim (p := a0) (n := i) (c := c) (R := rows1) (R2 := rows2) hc0.out hun (fun j => co (ro rows1 j) c * iv % a0) (fun j _ _ => Num.cg.mod _ _) (fun j h1 h2 t ht => by rw [HOW1.out]; exact HEL.out j h1 h2 t ht)
           rw [HOW1.out, HXO.out] at h1
           have h2 := (Num.cg.refl (p := a0) out1).mul h1
           have h3 := (Num.cg.mod a0 (out1 * x)).mul (Num.cg.refl (p := a0) (zdt (i - (c + 1)) (sb rows2 (c + 1))))
           rw [Int.mul_assoc] at h3
           exact h3.trans (h2.symm.trans HD1.out)
    ·
     obtain rfl : b = n := by omega
     have d1 : decide (b < b) = false := decide_eq_false (by omega)
     have hc0 := as0 hc
     clear hbn hgb hcb2 hc
     go_wp2
     go_ret
     refine ⟨?_, HB.out⟩
     have hz := sb_zero (p := a0) hc0.out (rows := rows) fun i h1 h2 => HZ.out i h1 h2
     have h1 := (Num.cg.refl (p := a0) out).mul hz
     rw [Int.mul_zero] at h1
     have h2 := Num.cg.zero.1 (HD.out.symm.trans h1)
     show Ending.returned (.int .i64 0) = _
     rw [← HR.out, h2]
  ·
   have hcn : c = n := by omega
   have d1 : decide (c < n) = false := decide_eq_false (by omega)
   have hcn0 := as0 hcn
   clear hc hcn hg
   go_wp2
   go_ret
   refine ⟨?_, HB.out⟩
   have h1 := HD.out
   rw [hcn0.out, Nat.sub_self, show zdt 0 (sb rows n) = 1 from rfl, Int.mul_one] at h1
   have h2 := h1.emod
   rw [Int.emod_eq_of_lt HOUT.out.1 HOUT.out.2] at h2
   show Ending.returned (.int .i64 out) = _
   rw [h2, HR.out]
noncomputable section
mutual
def spec_l06Sylvester.l0 : Nat → Int → List Int → List Int → Int → Int → List (List Int) → Int → Option (Int)
 | 0, _, _, _, _, _, _, _ => none
 | k + 1, x0, x1, x2, x7, x8, x9, x10 => if x10 < x8 then (if 0 ≤ (wrap64 (x7 + x8)) then (if (wrap64 (x7 + x8) : Int).toNat ≤ 35184372088832 then (spec_l06Sylvester.l1 k x0 x1 x2 x7 x8 x9 x10 (List.replicate (wrap64 (x7 + x8) : Int).toNat 0) 0) else (none)) else (none)) else (spec_l06Sylvester.l2 k x0 x2 x7 x8 x9 0)
def spec_l06Sylvester.l1 : Nat → Int → List Int → List Int → Int → Int → List (List Int) → Int → List Int → Int → Option (Int)
 | 0, _, _, _, _, _, _, _, _, _ => none
 | k + 1, x0, x1, x2, x7, x8, x9, x10, x11, x12 => if x12 ≤ x7 then (if 0 ≤ (wrap64 (x7 - x12)) then (if (wrap64 (x7 - x12)) < (x1.length : Int) then (if 0 ≤ (wrap64 (x10 + x12)) then (if (wrap64 (x10 + x12)) < (x11.length : Int) then (spec_l06Sylvester.l1 k x0 x1 x2 x7 x8 x9 x10 (x11.set ((wrap64 (x10 + x12)) : Int).toNat (rd x1 (wrap64 (x7 - x12)))) (wrap64 (x12 + 1))) else (none)) else (none)) else (none)) else (none)) else (if x9.length < 5864062014805 then (spec_l06Sylvester.l0 k x0 x1 x2 x7 x8 (x9 ++ [x11]) (wrap64 (x10 + 1))) else (none))
def spec_l06Sylvester.l2 : Nat → Int → List Int → Int → Int → List (List Int) → Int → Option (Int)
 | 0, _, _, _, _, _, _ => none
 | k + 1, x0, x2, x7, x8, x9, x13 => if x13 < x7 then (if 0 ≤ (wrap64 (x7 + x8)) then (if (wrap64 (x7 + x8) : Int).toNat ≤ 35184372088832 then (spec_l06Sylvester.l3 k x0 x2 x7 x8 x9 x13 (List.replicate (wrap64 (x7 + x8) : Int).toNat 0) 0) else (none)) else (none)) else ((spec_l02Det.f x0 x9).bind fun t313 => (some t313))
def spec_l06Sylvester.l3 : Nat → Int → List Int → Int → Int → List (List Int) → Int → List Int → Int → Option (Int)
 | 0, _, _, _, _, _, _, _, _ => none
 | k + 1, x0, x2, x7, x8, x9, x13, x14, x15 => if x15 ≤ x8 then (if 0 ≤ (wrap64 (x8 - x15)) then (if (wrap64 (x8 - x15)) < (x2.length : Int) then (if 0 ≤ (wrap64 (x13 + x15)) then (if (wrap64 (x13 + x15)) < (x14.length : Int) then (spec_l06Sylvester.l3 k x0 x2 x7 x8 x9 x13 (x14.set ((wrap64 (x13 + x15)) : Int).toNat (rd x2 (wrap64 (x8 - x15)))) (wrap64 (x15 + 1))) else (none)) else (none)) else (none)) else (none)) else (if x9.length < 5864062014805 then (spec_l06Sylvester.l2 k x0 x2 x7 x8 (x9 ++ [x14]) (wrap64 (x13 + 1))) else (none))
end
def spec_l06Sylvester.f (k : Nat) (a0 : Int) (l1 : List Int) (l2 : List Int) : Option (Int) := spec_l06Sylvester.l0 k a0 l1 l2 (wrap64 ((l1.length : Int) - 1)) (wrap64 ((l2.length : Int) - 1)) (([] : List (List Int))) 0
set_option maxHeartbeats 8000000 in
set_option maxRecDepth 100000 in
theorem spec_l06Sylvester.calls (k : Nat) (a0 : Int) (A1 : Option Addr) (c1 : Nat) (l1 : List Int) (A2 : Option Addr) (c2 : Nat) (l2 : List Int) (r : Int) (w : World) (hr1 : Kd.C (Kd.int .i64) w A1 l1.length l1) (hc1 : l1.length ≤ c1) (hr2 : Kd.C (Kd.int .i64) w A2 l2.length l2) (hc2 : l2.length ≤ c2) (h : spec_l06Sylvester.f k a0 l1 l2 = some r) :
  Calls Try.prog 55 #[.int .i64 a0, .slice A1 l1.length c1, .slice A2 l2.length c2] w fun e w' => e = .returned (.int .i64 r) ∧ Below w.heap.size w w' := by
 have HR1 := as0 hr1
 have HC1 := as0 hc1
 clear hr1 hc1
 have HR2 := as0 hr2
 have HC2 := as0 hc2
 clear hr2 hc2
 have HB := as0 (Below.refl w.heap.size w)
 have H : (spec_l06Sylvester.l0 k a0 l1 l2 (wrap64 ((l1.length : Int) - 1)) (wrap64 ((l2.length : Int) - 1)) (([] : List (List Int))) 0) = some r := h
 clear h
 obtain ⟨y302, hy302⟩ : ∃ y_ : List (List Int), y_ = (([] : List (List Int))) := ⟨_, rfl⟩
 replace H : (spec_l06Sylvester.l0 k a0 l1 l2 (wrap64 ((l1.length : Int) - 1)) (wrap64 ((l2.length : Int) - 1)) y302 0) = some r := by first | (rw [hy302]; with_reducible exact H) | (have H2_ := (Option.bind_some _ _).symm.trans H; rw [hy302]; with_reducible exact H2_) | (have H2_ := (Option.bind_some _ _).symm.trans H; with_reducible exact H2_) | with_reducible exact H | (rw [hy302]; exact H) | exact H
 have Ny302 := as0 hy302
 clear hy302
 have H' := as0 H
 clear H
 go_enter Try.func55, Try.ntmps55
 go_wp2_with (first | ((with_reducible refine gate_dst (N := 22) rfl ?_); refine Kd.S_lit (Kd.slice 2 (Kd.int .i64)) _ 22 ?hg (N := 22) ?hd (xs := ([] : List (List Int))) (inner := []) (ok := fun _ => True) (okp := fun _ => True) ?hr ?hp (fun _ hk => hk) trivial (Below.refl _ _) (Nat.le_refl _) (by simp) ?_; (case hd => rfl); (case hg => rfl); (case hr => first | (go_simp; done) | (go_simp; rfl)); (case hp => exact (Reps.none _ _)); intro v303 w4 ho5 hb hg_ hnew_; clear hg_ hnew_; (first | rw [← Ny302.out] at ho5 | (simp only [Int.reduceToNat] at ho5; rw [← Ny302.out] at ho5)); have n0_ := as0 (Kd.S_lower ho5 (below_size (bs HB))); have n1_ := as0 (below_step (bs HB) hb); clear HB; have HO304 := n0_; have HB := n1_; clear n0_ n1_; clear hb ho5))
 go_loopg [9, 10] k (fun kq v9 v10 w' => ∃ (x9_1 : List (List Int)) (x10_1 : Int), v10 = .int .i64 x10_1 ∧ Aside0 (spec_l06Sylvester.l0 kq a0 l1 l2 (wrap64 ((l1.length : Int) - 1)) (wrap64 ((l2.length : Int) - 1)) x9_1 x10_1 = some r) ∧ Aside0 (kq ≤ k) ∧ Aside0 (Kd.S (Kd.slice 2 (Kd.int .i64)) 22 w' w.heap.size (fun _ => True) v9 x9_1) ∧ Aside0 (Below w.heap.size w w'))
 case atStart => exact ⟨(y302), (0), ea_, H', ⟨Nat.le_refl _⟩, ⟨by (with_reducible repeat (first | apply Kd.S_alloc | apply Kd.S_drewN | apply Kd.S_drew)); exact HO304.out⟩, ⟨bs HB⟩⟩
 case round =>
  clear H'
  try clear c1
  try clear c2
  try clear p2
  try clear c5
  obtain ⟨x9_1, x10_1, rfl, HA, HK1, HO_9, HB⟩ := hrel
  cases gk with
  | zero => exact absurd HA.out (by simp [spec_l06Sylvester.l0])
  | succ k1 =>
   have H := HA.out
   clear HA
   simp only [spec_l06Sylvester.l0] at H
   by_cases c6 : x10_1 < (wrap64 ((l2.length : Int) - 1))
   ·
    rw [if_pos c6] at H
    have c6b0 : decide (x10_1 < (wrap64 ((l2.length : Int) - 1))) = true := decide_eq_true c6
    clear c6
    obtain ⟨ji7, hji7⟩ : ∃ j_ : Int, (wrap64 ((wrap64 ((l1.length : Int) - 1)) + (wrap64 ((l2.length : Int) - 1)))) = j_ := ⟨_, rfl⟩
    replace H : (if 0 ≤ (ji7) then (if (ji7 : Int).toNat ≤ 35184372088832 then (spec_l06Sylvester.l1 k1 a0 l1 l2 (wrap64 ((l1.length : Int) - 1)) (wrap64 ((l2.length : Int) - 1)) x9_1 x10_1 (List.replicate (ji7 : Int).toNat 0) 0) else (none)) else (none)) = some r := by first | (rw [hji7] at H; exact H) | (simp only [hji7] at H ⊢; exact H)
    have hji7w : (IntKind.i64.wrap ((wrap64 ((l1.length : Int) - 1)) + (wrap64 ((l2.length : Int) - 1)))) = ji7 := (i64_w _).trans hji7
    by_cases c8 : 0 ≤ (ji7)
    ·
     rw [if_pos c8] at H
     have c8b0 := eq_true c8
     have c8b1 : decide (0 ≤ (ji7)) = true := decide_eq_true c8
     clear c8
     by_cases c9 : (ji7 : Int).toNat ≤ 35184372088832
     ·
      rw [if_pos c9] at H
      have c9b0 := eq_true c9
      have c9b1 : decide ((ji7 : Int).toNat ≤ 35184372088832) = true := decide_eq_true c9
      clear c9
      obtain ⟨y305, hy305⟩ : ∃ y_ : List Int, y_ = (List.replicate (ji7 : Int).toNat 0) := ⟨_, rfl⟩
      replace H : (spec_l06Sylvester.l1 k1 a0 l1 l2 (wrap64 ((l1.length : Int) - 1)) (wrap64 ((l2.length : Int) - 1)) x9_1 x10_1 y305 0) = some r := by first | (rw [hy305]; with_reducible exact H) | (have H2_ := (Option.bind_some _ _).symm.trans H; rw [hy305]; with_reducible exact H2_) | (have H2_ := (Option.bind_some _ _).symm.trans H; with_reducible exact H2_) | with_reducible exact H | (rw [hy305]; exact H) | exact H
      have Ny305 := as0 hy305
      clear hy305
      have H' := as0 H
      clear H
      go_wp2_with (first | ((with_reducible refine gate_dst (N := 31) rfl ?_); refine Kd.R_make (Kd.int .i64) _ 2 rfl (N := 31) rfl 22 _ _ rfl ji7 rfl rfl Try.underlying22 (.int .i64 0) 8 info2 rfl (by decide) (by omega) 0 (ok := fun _ => True) (okp := fun _ => True) rfl (fun _ hk => hk) trivial (oa_) (Nat.le_trans (Nat.mul_le_mul_right _ (oa_ : ji7.toNat ≤ 35184372088832)) (by omega)) (Below.refl _ _) (Nat.le_refl _) ?_; intro v306 w10 ho11 hb hg_ hnew_; clear hg_ hnew_; (first | rw [← Ny305.out] at ho11 | (simp only [Int.reduceToNat] at ho11; rw [← Ny305.out] at ho11)); have n0_ := as0 (Kd.S_elder' (by (with_reducible repeat (first | apply Kd.S_alloc | apply Kd.S_drewN | apply Kd.S_drew)); exact HO_9.out) (Kd.R_base ho11) hb); have n1_ := as0 (Kd.R_lower ho11 (below_size (bs HB))); have n2_ := as0 (below_step (bs HB) hb); clear HO_9; clear HB; have HO_9 := n0_; have HO307 := n1_; have HB := n2_; clear n0_ n1_ n2_; clear hb ho11))
      go_loopg [12] k1 (fun kq v12 w' => ∃ (x11_2 : List Int) (x12_2 : Int), v12 = .int .i64 x12_2 ∧ Aside0 (spec_l06Sylvester.l1 kq a0 l1 l2 (wrap64 ((l1.length : Int) - 1)) (wrap64 ((l2.length : Int) - 1)) x9_1 x10_1 x11_2 x12_2 = some r) ∧ Aside0 (kq ≤ k1) ∧ Aside0 (Kd.S (Kd.slice 2 (Kd.int .i64)) 22 w' w.heap.size (fun k_ => some k_ ≠ (v306 : Value).ownBlock) u9 x9_1) ∧ Aside0 (Kd.R (Kd.int .i64) 2 w' w.heap.size (fun _ => True) v306 x11_2) ∧ Aside0 (Below w.heap.size w w'))
      case atStart => exact ⟨(y305), (0), ea_, H', ⟨Nat.le_refl _⟩, ⟨by (with_reducible repeat (first | apply Kd.S_alloc | apply Kd.S_drewN | apply Kd.S_drew)); exact Kd.S_mono HO_9.out (fun _ hk => hk.2)⟩, ⟨rs HO307⟩, ⟨bs HB⟩⟩
      case round =>
       clear H'
       try clear c1
       try clear c2
       try clear p2
       try clear c5
       try clear c6
       try clear c6b0
       try clear p6
       try clear c8
       try clear c8b0
       try clear c8b1
       try clear c9
       try clear c9b0
       try clear c9b1
       try clear p2
       obtain ⟨x11_2, x12_2, rfl, HA, HK2, HO_9, HO_11, HB⟩ := hrel
       cases gk with
       | zero => exact absurd HA.out (by simp [spec_l06Sylvester.l1])
       | succ k2 =>
        have H := HA.out
        clear HA
        simp only [spec_l06Sylvester.l1] at H
        by_cases c12 : x12_2 ≤ (wrap64 ((l1.length : Int) - 1))
        ·
         rw [if_pos c12] at H
         have c12b0 : decide (x12_2 ≤ (wrap64 ((l1.length : Int) - 1))) = true := decide_eq_true c12
         clear c12
         obtain ⟨ji13, hji13⟩ : ∃ j_ : Int, (wrap64 ((wrap64 ((l1.length : Int) - 1)) - x12_2)) = j_ := ⟨_, rfl⟩
         replace H : (if 0 ≤ (ji13) then (if (ji13) < (l1.length : Int) then (if 0 ≤ (wrap64 (x10_1 + x12_2)) then (if (wrap64 (x10_1 + x12_2)) < (x11_2.length : Int) then (spec_l06Sylvester.l1 k2 a0 l1 l2 (wrap64 ((l1.length : Int) - 1)) (wrap64 ((l2.length : Int) - 1)) x9_1 x10_1 (x11_2.set ((wrap64 (x10_1 + x12_2)) : Int).toNat (rd l1 (ji13))) (wrap64 (x12_2 + 1))) else (none)) else (none)) else (none)) else (none)) = some r := by first | (rw [hji13] at H; exact H) | (simp only [hji13] at H ⊢; exact H)
         have hji13w : (IntKind.i64.wrap ((wrap64 ((l1.length : Int) - 1)) - x12_2)) = ji13 := (i64_w _).trans hji13
         by_cases c14 : 0 ≤ (ji13)
         ·
          rw [if_pos c14] at H
          have c14b0 : decide (0 ≤ (ji13)) = true := decide_eq_true c14
          clear c14
          by_cases c15 : (ji13) < (l1.length : Int)
          ·
           rw [if_pos c15] at H
           have c15b0 : decide ((ji13) < (l1.length : Int)) = true := decide_eq_true c15
           clear c15
           obtain ⟨ji16, hji16⟩ : ∃ j_ : Int, (wrap64 (x10_1 + x12_2)) = j_ := ⟨_, rfl⟩
           replace H : (if 0 ≤ (ji16) then (if (ji16) < (x11_2.length : Int) then (spec_l06Sylvester.l1 k2 a0 l1 l2 (wrap64 ((l1.length : Int) - 1)) (wrap64 ((l2.length : Int) - 1)) x9_1 x10_1 (x11_2.set ((ji16) : Int).toNat (rd l1 (ji13))) (wrap64 (x12_2 + 1))) else (none)) else (none)) = some r := by first | (rw [hji16] at H; exact H) | (simp only [hji16] at H ⊢; exact H)
           have hji16w : (IntKind.i64.wrap (x10_1 + x12_2)) = ji16 := (i64_w _).trans hji16
           by_cases c17 : 0 ≤ (ji16)
           ·
            rw [if_pos c17] at H
            have c17b0 : decide (0 ≤ (ji16)) = true := decide_eq_true c17
            clear c17
            by_cases c18 : (ji16) < (x11_2.length : Int)
            ·
             rw [if_pos c18] at H
             have c18b0 : decide ((ji16) < (x11_2.length : Int)) = true := decide_eq_true c18
             clear c18
             obtain ⟨y309, hy309⟩ : ∃ y_ : List Int, y_ = (x11_2.set ((ji16) : Int).toNat (rd l1 (ji13))) := ⟨_, rfl⟩
             replace H : (spec_l06Sylvester.l1 k2 a0 l1 l2 (wrap64 ((l1.length : Int) - 1)) (wrap64 ((l2.length : Int) - 1)) x9_1 x10_1 y309 (wrap64 (x12_2 + 1))) = some r := by first | (rw [hy309]; with_reducible exact H) | (have H2_ := (Option.bind_some _ _).symm.trans H; rw [hy309]; with_reducible exact H2_) | (have H2_ := (Option.bind_some _ _).symm.trans H; with_reducible exact H2_) | with_reducible exact H | (rw [hy309]; exact H) | exact H
             have Ny309 := as0 hy309
             clear hy309
             have H' := as0 H
             clear H
             have p308 : 0 ≤ ((ji13) : Int) := oa_
             have q308 : (ji13) < (l1.length : Int) := oa_
             obtain ⟨ad308, e308, hx308_0⟩ := Kd.at_int HR1.out (ji13) p308 q308
             cases e308
             replace hx308_0 := (HB.out.cell (World.block_lt_of_cell? w _ hx308_0)).trans hx308_0
             replace p308 := eq_true p308
             replace q308 := eq_true q308
             have p19 : 0 ≤ ((ji16) : Int) := oa_
             have q19 : ((ji16) : Int) < ((x11_2.length : Int) : Int) := oa_
             obtain ⟨go19, co19, eo19, gb19, gl19, cl19, HG19⟩ := Kd.R_form HO_11.out (by omega)
             (first | cases eo19 | (injection eo19 with ea_ en_ ec_; (first | subst ea_ | (injection ea_ with ea_; subst ea_)); subst ec_; clear en_))
             have GB19 := as0 gb19
             have GG19 := as0 HG19
             clear gb19 gl19 HG19
             obtain ⟨hx19_0, hf19_0⟩ := Kd.R_celln 0 HO_11.out ((ji16) : Int) p19 q19
             replace p19 := eq_true p19
             replace q19 := eq_true q19
             have HP20 := Kd.R_putg HO_11.out ((ji16) : Int) (rd l1 (ji13))
             go_wp2_with (first | ((with_reducible refine gate_store (t := 2) (p := 47) rfl ?_); refine store_event (t := 2) (p := 47) (v := ?vo_w21) (w1 := (wr.setCell ⟨go19, ((ji16) : Int).toNat, none⟩ (.int .i64 (rd l1 (ji13))))) ?hg ?ho ?hn ?hr ?_; (case ho => rfl); (case hg => rfl); (case hn => rfl); (case hr => first | (go_simp; done) | (go_simp; rfl)); intro w21 hw; have hg : wr.grownBy w21 (some go19) := (by rw [hw]; exact HP20.2); have hp_ : Kd.R (Kd.int .i64) 2 w21 w.heap.size (fun _ => True) (.slice (some ⟨go19, 0, none⟩) x11_2.length co19) y309 := (by rw [hw, Ny309.out]; exact HP20.1); clear HP20; have n0_ := as0 (Kd.S_after (v := (.slice (some ⟨go19, 0, none⟩) x11_2.length co19)) (v1 := (.slice (some ⟨go19, 0, none⟩) x11_2.length co19)) (ok := (fun _ => True)) (by (with_reducible repeat (first | apply Kd.S_alloc | apply Kd.S_drewN | apply Kd.S_drew)); exact Kd.S_mono HO_9.out (fun _ hk => ⟨trivial, hk⟩)) hg (.inl rfl)); have n1_ := as0 (hp_); have n2_ := as0 ((by rw [hw]; exact below_set (HB.out) GB19.out : Below w.heap.size w w21)); clear HO_9; clear HO_11; clear HB; have HO_9 := n0_; have HO_11 := n1_; have HB := n2_; clear n0_ n1_ n2_; clear hg hw hp_))
             go_roundg k2
             case measure => have := HK1.out; have := HK2.out; omega
             case rel => exact ⟨(y309), (wrap64 (x12_2 + 1)), ea_, H', ⟨by have := HK1.out; have := HK2.out; omega⟩, ⟨by (with_reducible repeat (first | apply Kd.S_alloc | apply Kd.S_drewN | apply Kd.S_drew)); exact Kd.S_mono HO_9.out (fun _ hk => hk.2)⟩, ⟨rs HO_11⟩, ⟨bs HB⟩⟩
            ·
             rw [if_neg c18] at H
             exact absurd H (by simp)
           ·
            rw [if_neg c17] at H
            exact absurd H (by simp)
          ·
           rw [if_neg c15] at H
           exact absurd H (by simp)
         ·
          rw [if_neg c14] at H
          exact absurd H (by simp)
        ·
         rw [if_neg c12] at H
         have c12b0 : decide (x12_2 ≤ (wrap64 ((l1.length : Int) - 1))) = false := decide_eq_false c12
         clear c12
         by_cases c22 : x9_1.length < 5864062014805
         ·
          rw [if_pos c22] at H
          have LMc22 := as0 c22
          clear c22
          obtain ⟨y310, hy310⟩ : ∃ y_ : List (List Int), y_ = (x9_1 ++ [x11_2]) := ⟨_, rfl⟩
          replace H : (spec_l06Sylvester.l0 k2 a0 l1 l2 (wrap64 ((l1.length : Int) - 1)) (wrap64 ((l2.length : Int) - 1)) y310 (wrap64 (x10_1 + 1))) = some r := by first | (rw [hy310]; with_reducible exact H) | (have H2_ := (Option.bind_some _ _).symm.trans H; rw [hy310]; with_reducible exact H2_) | (have H2_ := (Option.bind_some _ _).symm.trans H; with_reducible exact H2_) | with_reducible exact H | (rw [hy310]; exact H) | exact H
          have Ny310 := as0 hy310
          clear hy310
          have H' := as0 H
          clear H
          obtain ⟨Ao24, co24, eo24⟩ := Kd.R_slice HO_11.out
          subst eo24
          go_wp2_with (first | ((with_reducible refine gate_builtin (b := .append) (xs := #[.tmp 48, .tmp 50]) rfl ?_); at_builtin; refine Kd.S_append (Kd.slice 2 (Kd.int .i64)) (w0 := w) w.heap.size rfl (.tmp 48) (.tmp 50) 23 22 (.slice none 0 0) 24 rfl Try.underlying23 info22 rfl (by decide) (by omega) u9 x9_1 x11_2 [.slice Ao24 x11_2.length co24] (fun _ => True) (fun k_ => some k_ = (.slice Ao24 x11_2.length co24 : Value).ownBlock) rfl rfl ?aP (fun k_ hk_ => ((Kd.R_mono (ok' := fun k_ => ((fun _ => True)) k_ ∧ some k_ ≠ (u9 : Value).ownBlock) (Kd.R_apart' (HO_11.out) (Kd.S_typed HO_9.out) (by decide)) (fun k_ hk => ⟨trivial, hk.2⟩))).1 k_ hk_.symm) ?aF ?aO ?aB ?aS ?aL ?_; (case aP => exact Kd.M_row (Kd.R_mono (Kd.R_tight rfl (Kd.R_mono (ok' := fun k_ => ((fun _ => True)) k_ ∧ some k_ ≠ (u9 : Value).ownBlock) (Kd.R_apart' (HO_11.out) (Kd.S_typed HO_9.out) (by decide)) (fun k_ hk => ⟨trivial, hk.2⟩))) (fun _ h_ => h_))); (case aB => exact (bs HB)); (case aF => exact (fun _ _ => trivial)); (case aO => exact (by (with_reducible repeat (first | apply Kd.S_alloc | apply Kd.S_drewN | apply Kd.S_drew)); exact Kd.S_mono HO_9.out (fun k_ hk => ⟨trivial, fun e_ => hk e_⟩))); (case aS => exact (below_size (bs HB))); (case aL => have := LMc22.out; omega); intro v311 w23 ho hb hg hat; rw [← Ny310.out] at ho; have n0_ := as0 (hb); have n1_ := as0 (ho); clear HB; clear HO_9; clear HO_11; have HB := n0_; have HO312 := n1_; clear n0_ n1_; clear ho hb hg hat))
          go_roundg k2
          case measure => have := HK1.out; have := HK2.out; omega
          case rel => exact ⟨(y310), (wrap64 (x10_1 + 1)), ea_, H', ⟨by have := HK1.out; have := HK2.out; omega⟩, ⟨by (with_reducible repeat (first | apply Kd.S_alloc | apply Kd.S_drewN | apply Kd.S_drew)); exact HO312.out⟩, ⟨bs HB⟩⟩
         ·
          rw [if_neg c22] at H
          exact absurd H (by simp)
     ·
      rw [if_neg c9] at H
      exact absurd H (by simp)
    ·
     rw [if_neg c8] at H
     exact absurd H (by simp)
   ·
    rw [if_neg c6] at H
    have c6b0 : decide (x10_1 < (wrap64 ((l2.length : Int) - 1))) = false := decide_eq_false c6
    clear c6
    have H' := as0 H
    clear H
    go_wp2
    go_loopg [9, 13] k1 (fun kq v9 v13 w' => ∃ (x9_2 : List (List Int)) (x13_2 : Int), v13 = .int .i64 x13_2 ∧ Aside0 (spec_l06Sylvester.l2 kq a0 l2 (wrap64 ((l1.length : Int) - 1)) (wrap64 ((l2.length : Int) - 1)) x9_2 x13_2 = some r) ∧ Aside0 (kq ≤ k1) ∧ Aside0 (Kd.S (Kd.slice 2 (Kd.int .i64)) 22 w' w.heap.size (fun _ => True) v9 x9_2) ∧ Aside0 (Below w.heap.size w w'))
    case atStart => exact ⟨(x9_1), (0), ea_, H', ⟨Nat.le_refl _⟩, ⟨by (with_reducible repeat (first | apply Kd.S_alloc | apply Kd.S_drewN | apply Kd.S_drew)); exact HO_9.out⟩, ⟨bs HB⟩⟩
    case round =>
     clear H'
     try clear c1
     try clear p1
     try clear q1
     try clear hx1
     try clear c2
     try clear p2
     try clear p3
     try clear q3
     try clear hx3
     try clear c5
     try clear c6
     try clear c6b0
     try clear p6
     try clear c8
     try clear c8b0
     try clear c8b1
     try clear c9
     try clear c9b0
     try clear c9b1
     try clear c12
     try clear c12b0
     try clear c14
     try clear c14b0
     try clear c15
     try clear c15b0
     try clear c17
     try clear c17b0
     try clear c18
     try clear c18b0
     try clear p19
     try clear q19
     try clear hx19
     try clear hf19
     try clear c22
     try clear hx19_0
     try clear hx308_0
     try clear p19
     try clear p2
     try clear p308
     try clear p6
     try clear q19
     try clear q308
     obtain ⟨x9_2, x13_2, rfl, HA, HK2, HO_9, HB⟩ := hrel
     cases gk with
     | zero => exact absurd HA.out (by simp [spec_l06Sylvester.l2])
     | succ k2 =>
      have H := HA.out
      clear HA
      simp only [spec_l06Sylvester.l2] at H
      by_cases c25 : x13_2 < (wrap64 ((l1.length : Int) - 1))
      ·
       rw [if_pos c25] at H
       have c25b0 : decide (x13_2 < (wrap64 ((l1.length : Int) - 1))) = true := decide_eq_true c25
       clear c25
       obtain ⟨ji26, hji26⟩ : ∃ j_ : Int, (wrap64 ((wrap64 ((l1.length : Int) - 1)) + (wrap64 ((l2.length : Int) - 1)))) = j_ := ⟨_, rfl⟩
       replace H : (if 0 ≤ (ji26) then (if (ji26 : Int).toNat ≤ 35184372088832 then (spec_l06Sylvester.l3 k2 a0 l2 (wrap64 ((l1.length : Int) - 1)) (wrap64 ((l2.length : Int) - 1)) x9_2 x13_2 (List.replicate (ji26 : Int).toNat 0) 0) else (none)) else (none)) = some r := by first | (rw [hji26] at H; exact H) | (simp only [hji26] at H ⊢; exact H)
       have hji26w : (IntKind.i64.wrap ((wrap64 ((l1.length : Int) - 1)) + (wrap64 ((l2.length : Int) - 1)))) = ji26 := (i64_w _).trans hji26
       by_cases c27 : 0 ≤ (ji26)
       ·
        rw [if_pos c27] at H
        have c27b0 := eq_true c27
        have c27b1 : decide (0 ≤ (ji26)) = true := decide_eq_true c27
        clear c27
        by_cases c28 : (ji26 : Int).toNat ≤ 35184372088832
        ·
         rw [if_pos c28] at H
         have c28b0 := eq_true c28
         have c28b1 : decide ((ji26 : Int).toNat ≤ 35184372088832) = true := decide_eq_true c28
         clear c28
         obtain ⟨y314, hy314⟩ : ∃ y_ : List Int, y_ = (List.replicate (ji26 : Int).toNat 0) := ⟨_, rfl⟩
         replace H : (spec_l06Sylvester.l3 k2 a0 l2 (wrap64 ((l1.length : Int) - 1)) (wrap64 ((l2.length : Int) - 1)) x9_2 x13_2 y314 0) = some r := by first | (rw [hy314]; with_reducible exact H) | (have H2_ := (Option.bind_some _ _).symm.trans H; rw [hy314]; with_reducible exact H2_) | (have H2_ := (Option.bind_some _ _).symm.trans H; with_reducible exact H2_) | with_reducible exact H | (rw [hy314]; exact H) | exact H
         have Ny314 := as0 hy314
         clear hy314
         have H' := as0 H
         clear H
         go_wp2_with (first | ((with_reducible refine gate_dst (N := 60) rfl ?_); refine Kd.R_make (Kd.int .i64) _ 2 rfl (N := 60) rfl 22 _ _ rfl ji26 rfl rfl Try.underlying22 (.int .i64 0) 8 info2 rfl (by decide) (by omega) 0 (ok := fun _ => True) (okp := fun _ => True) rfl (fun _ hk => hk) trivial (oa_) (Nat.le_trans (Nat.mul_le_mul_right _ (oa_ : ji26.toNat ≤ 35184372088832)) (by omega)) (Below.refl _ _) (Nat.le_refl _) ?_; intro v315 w29 ho30 hb hg_ hnew_; clear hg_ hnew_; (first | rw [← Ny314.out] at ho30 | (simp only [Int.reduceToNat] at ho30; rw [← Ny314.out] at ho30)); have n0_ := as0 (Kd.S_elder' (by (with_reducible repeat (first | apply Kd.S_alloc | apply Kd.S_drewN | apply Kd.S_drew)); exact HO_9.out) (Kd.R_base ho30) hb); have n1_ := as0 (Kd.R_lower ho30 (below_size (bs HB))); have n2_ := as0 (below_step (bs HB) hb); clear HO_9; clear HB; have HO_9 := n0_; have HO316 := n1_; have HB := n2_; clear n0_ n1_ n2_; clear hb ho30))
         go_loopg [15] k2 (fun kq v15 w' => ∃ (x14_3 : List Int) (x15_3 : Int), v15 = .int .i64 x15_3 ∧ Aside0 (spec_l06Sylvester.l3 kq a0 l2 (wrap64 ((l1.length : Int) - 1)) (wrap64 ((l2.length : Int) - 1)) x9_2 x13_2 x14_3 x15_3 = some r) ∧ Aside0 (kq ≤ k2) ∧ Aside0 (Kd.S (Kd.slice 2 (Kd.int .i64)) 22 w' w.heap.size (fun k_ => some k_ ≠ (v315 : Value).ownBlock) u9 x9_2) ∧ Aside0 (Kd.R (Kd.int .i64) 2 w' w.heap.size (fun _ => True) v315 x14_3) ∧ Aside0 (Below w.heap.size w w'))
         case atStart => exact ⟨(y314), (0), ea_, H', ⟨Nat.le_refl _⟩, ⟨by (with_reducible repeat (first | apply Kd.S_alloc | apply Kd.S_drewN | apply Kd.S_drew)); exact Kd.S_mono HO_9.out (fun _ hk => hk.2)⟩, ⟨rs HO316⟩, ⟨bs HB⟩⟩
         case round =>
          clear H'
          try clear c1
          try clear p1
          try clear q1
          try clear hx1
          try clear c2
          try clear p2
          try clear p3
          try clear q3
          try clear hx3
          try clear c5
          try clear c6
          try clear c6b0
          try clear p6
          try clear c8
          try clear c8b0
          try clear c8b1
          try clear c9
          try clear c9b0
          try clear c9b1
          try clear c12
          try clear c12b0
          try clear c14
          try clear c14b0
          try clear c15
          try clear c15b0
          try clear c17
          try clear c17b0
          try clear c18
          try clear c18b0
          try clear p19
          try clear q19
          try clear hx19
          try clear hf19
          try clear c22
          try clear c25
          try clear c25b0
          try clear c27
          try clear c27b0
          try clear c27b1
          try clear c28
          try clear c28b0
          try clear c28b1
          try clear p30
          try clear q30
          try clear hx30
          try clear hx19_0
          try clear hx308_0
          try clear p1
          try clear p19
          try clear p2
          try clear p3
          try clear p308
          try clear p6
          try clear q1
          try clear q19
          try clear q3
          try clear q308
          obtain ⟨x14_3, x15_3, rfl, HA, HK3, HO_9, HO_14, HB⟩ := hrel
          cases gk with
          | zero => exact absurd HA.out (by simp [spec_l06Sylvester.l3])
          | succ k3 =>
           have H := HA.out
           clear HA
           simp only [spec_l06Sylvester.l3] at H
           by_cases c31 : x15_3 ≤ (wrap64 ((l2.length : Int) - 1))
           ·
            rw [if_pos c31] at H
            have c31b0 : decide (x15_3 ≤ (wrap64 ((l2.length : Int) - 1))) = true := decide_eq_true c31
            clear c31
            obtain ⟨ji32, hji32⟩ : ∃ j_ : Int, (wrap64 ((wrap64 ((l2.length : Int) - 1)) - x15_3)) = j_ := ⟨_, rfl⟩
            replace H : (if 0 ≤ (ji32) then (if (ji32) < (l2.length : Int) then (if 0 ≤ (wrap64 (x13_2 + x15_3)) then (if (wrap64 (x13_2 + x15_3)) < (x14_3.length : Int) then (spec_l06Sylvester.l3 k3 a0 l2 (wrap64 ((l1.length : Int) - 1)) (wrap64 ((l2.length : Int) - 1)) x9_2 x13_2 (x14_3.set ((wrap64 (x13_2 + x15_3)) : Int).toNat (rd l2 (ji32))) (wrap64 (x15_3 + 1))) else (none)) else (none)) else (none)) else (none)) = some r := by first | (rw [hji32] at H; exact H) | (simp only [hji32] at H ⊢; exact H)
            have hji32w : (IntKind.i64.wrap ((wrap64 ((l2.length : Int) - 1)) - x15_3)) = ji32 := (i64_w _).trans hji32
            by_cases c33 : 0 ≤ (ji32)
            ·
             rw [if_pos c33] at H
             have c33b0 : decide (0 ≤ (ji32)) = true := decide_eq_true c33
             clear c33
             by_cases c34 : (ji32) < (l2.length : Int)
             ·
              rw [if_pos c34] at H
              have c34b0 : decide ((ji32) < (l2.length : Int)) = true := decide_eq_true c34
              clear c34
              obtain ⟨ji35, hji35⟩ : ∃ j_ : Int, (wrap64 (x13_2 + x15_3)) = j_ := ⟨_, rfl⟩
              replace H : (if 0 ≤ (ji35) then (if (ji35) < (x14_3.length : Int) then (spec_l06Sylvester.l3 k3 a0 l2 (wrap64 ((l1.length : Int) - 1)) (wrap64 ((l2.length : Int) - 1)) x9_2 x13_2 (x14_3.set ((ji35) : Int).toNat (rd l2 (ji32))) (wrap64 (x15_3 + 1))) else (none)) else (none)) = some r := by first | (rw [hji35] at H; exact H) | (simp only [hji35] at H ⊢; exact H)
              have hji35w : (IntKind.i64.wrap (x13_2 + x15_3)) = ji35 := (i64_w _).trans hji35
              by_cases c36 : 0 ≤ (ji35)
              ·
               rw [if_pos c36] at H
               have c36b0 : decide (0 ≤ (ji35)) = true := decide_eq_true c36
               clear c36
               by_cases c37 : (ji35) < (x14_3.length : Int)
               ·
                rw [if_pos c37] at H
                have c37b0 : decide ((ji35) < (x14_3.length : Int)) = true := decide_eq_true c37
                clear c37
                obtain ⟨y318, hy318⟩ : ∃ y_ : List Int, y_ = (x14_3.set ((ji35) : Int).toNat (rd l2 (ji32))) := ⟨_, rfl⟩
                replace H : (spec_l06Sylvester.l3 k3 a0 l2 (wrap64 ((l1.length : Int) - 1)) (wrap64 ((l2.length : Int) - 1)) x9_2 x13_2 y318 (wrap64 (x15_3 + 1))) = some r := by first | (rw [hy318]; with_reducible exact H) | (have H2_ := (Option.bind_some _ _).symm.trans H; rw [hy318]; with_reducible exact H2_) | (have H2_ := (Option.bind_some _ _).symm.trans H; with_reducible exact H2_) | with_reducible exact H | (rw [hy318]; exact H) | exact H
                have Ny318 := as0 hy318
                clear hy318
                have H' := as0 H
                clear H
                have p317 : 0 ≤ ((ji32) : Int) := oa_
                have q317 : (ji32) < (l2.length : Int) := oa_
                obtain ⟨ad317, e317, hx317_0⟩ := Kd.at_int HR2.out (ji32) p317 q317
                cases e317
                replace hx317_0 := (HB.out.cell (World.block_lt_of_cell? w _ hx317_0)).trans hx317_0
                replace p317 := eq_true p317
                replace q317 := eq_true q317
                have p38 : 0 ≤ ((ji35) : Int) := oa_
                have q38 : ((ji35) : Int) < ((x14_3.length : Int) : Int) := oa_
                obtain ⟨go38, co38, eo38, gb38, gl38, cl38, HG38⟩ := Kd.R_form HO_14.out (by omega)
                (first | cases eo38 | (injection eo38 with ea_ en_ ec_; (first | subst ea_ | (injection ea_ with ea_; subst ea_)); subst ec_; clear en_))
                have GB38 := as0 gb38
                have GG38 := as0 HG38
                clear gb38 gl38 HG38
                obtain ⟨hx38_0, hf38_0⟩ := Kd.R_celln 0 HO_14.out ((ji35) : Int) p38 q38
                replace p38 := eq_true p38
                replace q38 := eq_true q38
                have HP39 := Kd.R_putg HO_14.out ((ji35) : Int) (rd l2 (ji32))
                go_wp2_with (first | ((with_reducible refine gate_store (t := 2) (p := 76) rfl ?_); refine store_event (t := 2) (p := 76) (v := ?vo_w40) (w1 := (wr.setCell ⟨go38, ((ji35) : Int).toNat, none⟩ (.int .i64 (rd l2 (ji32))))) ?hg ?ho ?hn ?hr ?_; (case ho => rfl); (case hg => rfl); (case hn => rfl); (case hr => first | (go_simp; done) | (go_simp; rfl)); intro w40 hw; have hg : wr.grownBy w40 (some go38) := (by rw [hw]; exact HP39.2); have hp_ : Kd.R (Kd.int .i64) 2 w40 w.heap.size (fun _ => True) (.slice (some ⟨go38, 0, none⟩) x14_3.length co38) y318 := (by rw [hw, Ny318.out]; exact HP39.1); clear HP39; have n0_ := as0 (Kd.S_after (v := (.slice (some ⟨go38, 0, none⟩) x14_3.length co38)) (v1 := (.slice (some ⟨go38, 0, none⟩) x14_3.length co38)) (ok := (fun _ => True)) (by (with_reducible repeat (first | apply Kd.S_alloc | apply Kd.S_drewN | apply Kd.S_drew)); exact Kd.S_mono HO_9.out (fun _ hk => ⟨trivial, hk⟩)) hg (.inl rfl)); have n1_ := as0 (hp_); have n2_ := as0 ((by rw [hw]; exact below_set (HB.out) GB38.out : Below w.heap.size w w40)); clear HO_9; clear HO_14; clear HB; have HO_9 := n0_; have HO_14 := n1_; have HB := n2_; clear n0_ n1_ n2_; clear hg hw hp_))
                go_roundg k3
                case measure => have := HK1.out; have := HK2.out; have := HK3.out; omega
                case rel => exact ⟨(y318), (wrap64 (x15_3 + 1)), ea_, H', ⟨by have := HK1.out; have := HK2.out; have := HK3.out; omega⟩, ⟨by (with_reducible repeat (first | apply Kd.S_alloc | apply Kd.S_drewN | apply Kd.S_drew)); exact Kd.S_mono HO_9.out (fun _ hk => hk.2)⟩, ⟨rs HO_14⟩, ⟨bs HB⟩⟩
               ·
                rw [if_neg c37] at H
                exact absurd H (by simp)
              ·
               rw [if_neg c36] at H
               exact absurd H (by simp)
             ·
              rw [if_neg c34] at H
              exact absurd H (by simp)
            ·
             rw [if_neg c33] at H
             exact absurd H (by simp)
           ·
            rw [if_neg c31] at H
            have c31b0 : decide (x15_3 ≤ (wrap64 ((l2.length : Int) - 1))) = false := decide_eq_false c31
            clear c31
            by_cases c41 : x9_2.length < 5864062014805
            ·
             rw [if_pos c41] at H
             have LMc41 := as0 c41
             clear c41
             obtain ⟨y319, hy319⟩ : ∃ y_ : List (List Int), y_ = (x9_2 ++ [x14_3]) := ⟨_, rfl⟩
             replace H : (spec_l06Sylvester.l2 k3 a0 l2 (wrap64 ((l1.length : Int) - 1)) (wrap64 ((l2.length : Int) - 1)) y319 (wrap64 (x13_2 + 1))) = some r := by first | (rw [hy319]; with_reducible exact H) | (have H2_ := (Option.bind_some _ _).symm.trans H; rw [hy319]; with_reducible exact H2_) | (have H2_ := (Option.bind_some _ _).symm.trans H; with_reducible exact H2_) | with_reducible exact H | (rw [hy319]; exact H) | exact H
             have Ny319 := as0 hy319
             clear hy319
             have H' := as0 H
             clear H
             obtain ⟨Ao43, co43, eo43⟩ := Kd.R_slice HO_14.out
             subst eo43
             go_wp2_with (first | ((with_reducible refine gate_builtin (b := .append) (xs := #[.tmp 77, .tmp 79]) rfl ?_); at_builtin; refine Kd.S_append (Kd.slice 2 (Kd.int .i64)) (w0 := w) w.heap.size rfl (.tmp 77) (.tmp 79) 23 22 (.slice none 0 0) 24 rfl Try.underlying23 info22 rfl (by decide) (by omega) u9 x9_2 x14_3 [.slice Ao43 x14_3.length co43] (fun _ => True) (fun k_ => some k_ = (.slice Ao43 x14_3.length co43 : Value).ownBlock) rfl rfl ?aP (fun k_ hk_ => ((Kd.R_mono (ok' := fun k_ => ((fun _ => True)) k_ ∧ some k_ ≠ (u9 : Value).ownBlock) (Kd.R_apart' (HO_14.out) (Kd.S_typed HO_9.out) (by decide)) (fun k_ hk => ⟨trivial, hk.2⟩))).1 k_ hk_.symm) ?aF ?aO ?aB ?aS ?aL ?_; (case aP => exact Kd.M_row (Kd.R_mono (Kd.R_tight rfl (Kd.R_mono (ok' := fun k_ => ((fun _ => True)) k_ ∧ some k_ ≠ (u9 : Value).ownBlock) (Kd.R_apart' (HO_14.out) (Kd.S_typed HO_9.out) (by decide)) (fun k_ hk => ⟨trivial, hk.2⟩))) (fun _ h_ => h_))); (case aB => exact (bs HB)); (case aF => exact (fun _ _ => trivial)); (case aO => exact (by (with_reducible repeat (first | apply Kd.S_alloc | apply Kd.S_drewN | apply Kd.S_drew)); exact Kd.S_mono HO_9.out (fun k_ hk => ⟨trivial, fun e_ => hk e_⟩))); (case aS => exact (below_size (bs HB))); (case aL => have := LMc41.out; omega); intro v320 w42 ho hb hg hat; rw [← Ny319.out] at ho; have n0_ := as0 (hb); have n1_ := as0 (ho); clear HB; clear HO_9; clear HO_14; have HB := n0_; have HO321 := n1_; clear n0_ n1_; clear ho hb hg hat))
             go_roundg k3
             case measure => have := HK1.out; have := HK2.out; have := HK3.out; omega
             case rel => exact ⟨(y319), (wrap64 (x13_2 + 1)), ea_, H', ⟨by have := HK1.out; have := HK2.out; have := HK3.out; omega⟩, ⟨by (with_reducible repeat (first | apply Kd.S_alloc | apply Kd.S_drewN | apply Kd.S_drew)); exact HO321.out⟩, ⟨bs HB⟩⟩
            ·
             rw [if_neg c41] at H
             exact absurd H (by simp)
        ·
         rw [if_neg c28] at H
         exact absurd H (by simp)
       ·
        rw [if_neg c27] at H
        exact absurd H (by simp)
      ·
       rw [if_neg c25] at H
       have c25b0 : decide (x13_2 < (wrap64 ((l1.length : Int) - 1))) = false := decide_eq_false c25
       clear c25
       replace H := Option.bind_eq_some_iff.mp H
       obtain ⟨t313, A440, H⟩ := H
       have A44 := as0 A440
       clear A440
       obtain rfl := Option.some.inj H
       obtain ⟨Ao45, co45, eo45⟩ := Kd.S_slice HO_9.out
       subst eo45
       go_wp2_with fail
       go_at_call 90
       have hN_ := Kd.S_N HO_9.out
       have hB_ := bs HB
       have hC_ := spec_l02Det.calls a0 _ _ x9_2 t313 w _ hB_ hN_ A44.out
       refine hC_.mono ?_
       rintro e wd_ ⟨rfl, hb⟩
       clear HO_9 hN_ hB_ hC_ HB
       have HB := as0 hb
       go_wp2
       go_ret
       exact ⟨er_, bs HB⟩
end
end Go.Proofs.Ytlmolloallhclaa.H
