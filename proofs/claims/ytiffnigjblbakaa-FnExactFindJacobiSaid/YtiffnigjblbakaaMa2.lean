/- Joined texts of a claim: the printed functions and what is proved of them. -/
import Derived.Test.YtiffnigjblbakaaYHx0
import Derived.Test.YtiffnigjblbakaaMa1
namespace Go.Proofs.Ytiffnigjblbakaa.H
open Go.RowKit Go.Proofs.YtiffnigjblbakaaW.PrintWords Go.Proofs.YtiffnigjblbakaaW.PrintLast Go.Proofs.YtiffnigjblbakaaW.PrintMore
attribute [local go_sem] max2_int min2_int max_two min_two max_three min_three max_four min_four   -- for this text's walks alone
set_option linter.unusedVariables false
set_option linter.unusedSimpArgs false
/-! ### impl_field_find: function 97 -/
mutual
def impl_field_find.l0 : Nat → Int → List Int → List Int → Int → Int → Int → List Int → List Int → Option (Int × List Int × List Int × Bool)
  | 0, _, _, _, _, _, _, _, _ => none
  | k + 1, x0, x1, x2, x3, x12, x1129000, x1129001, x1129002 => if x12 ≥ 0 then ((impl_field_product.f k x0 (([0, 1] : List Int)) x2).bind fun t1132 => ((impl_field_mod.f x0 (-1)).bind fun t1135 => ((impl_field_add.f k x0 x1 t1132 t1135).bind fun t1136 => ((impl_length_int64.f t1136).bind fun t1139 => (if t1139 > x12 then (if 0 ≤ x12 then (if x12 < (t1136.length : Int) then ((impl_field_mod.f x0 (wrap64 (-(rd t1136 x12)))).bind fun t1141 => (if x12 < (x1129001.length : Int) then (impl_field_find.j1 k x0 x2 x3 x12 t1136 x1129000 (x1129001.set (x12 : Int).toNat t1141) x1129002) else (none))) else (none)) else (none)) else (impl_field_find.j1 k x0 x2 x3 x12 t1136 x1129000 x1129001 x1129002)))))) else (some (x1129000, x1129001, x1129002, true))
def impl_field_find.j1 : Nat → Int → List Int → Int → Int → List Int → Int → List Int → List Int → Option (Int × List Int × List Int × Bool)
  | 0, _, _, _, _, _, _, _, _ => none
  | k + 1, x0, x2, x3, x12, x13, x1129000, x1129001, x1129002 => if 0 ≤ x12 then (if x12 < (x1129001.length : Int) then ((impl_field_add.f k x0 x13 x2 (rd x1129001 x12)).bind fun t1144 => (if x12 = 0 then (if 0 < (x1129002.length : Int) then (some (x1129000, x1129001, (x1129002.set (0 : Int).toNat x3), ((t1144.length : Int) == 0))) else (none)) else ((impl_degree.f t1144).bind fun t1148 => (if t1148 = (wrap64 (x12 - 1)) then (if 0 ≤ (wrap64 (x12 - 1)) then (if (wrap64 (x12 - 1)) < (t1144.length : Int) then ((impl_field_mod.f x0 (wrap64 (-(rd t1144 (wrap64 (x12 - 1)))))).bind fun t1150 => (if x12 < (x1129002.length : Int) then ((impl_field_monic.f k x0 t1144).bind fun t1152 => (impl_field_find.l0 k x0 x2 t1152 x3 (wrap64 (x12 - 1)) x1129000 x1129001 (x1129002.set (x12 : Int).toNat t1150))) else (none))) else (none)) else (none)) else (some (0, ([] : List Int), ([] : List Int), false)))))) else (none)) else (none)
end
def impl_field_find.f (k : Nat) (a0 : Int) (l1 : List Int) (l2 : List Int) (a3 : Int) : Option (Int × List Int × List Int × Bool) := (impl_degree.f l1).bind fun t1121 => (if 0 ≤ t1121 then (if (t1121 : Int).toNat ≤ 35184372088832 then (impl_field_find.l0 k a0 l1 l2 a3 (wrap64 (t1121 - 1)) a0 (List.replicate (t1121 : Int).toNat 0) (List.replicate (t1121 : Int).toNat 0)) else (none)) else (none))
def impl_field_find.T2 : Bool × List (List Nat × List Nat) := (true, [([], []), ([], []), ([1, 1], [1]), ([], []), ([3, 3], [3]), ([0, 2, 4], [0, 2, 4]), ([], []), ([6, 5, 0, 1, 2, 3, 4, 5, 6], [5, 6])])
def impl_field_find.B2 : List Nat := [0, 0, 2, 0, 8, 31, 0, 127]
theorem impl_field_find.tab2 : rtab .any (opsOf Try.f97 2) = impl_field_find.T2 := by kernel_rfl
theorem impl_field_find.bits2 : waitsOk impl_field_find.T2.2 impl_field_find.B2 = true := by kernel_rfl
def impl_field_find.T8 : Bool × List (List Nat × List Nat) := (true, [([], []), ([0], [0]), ([], []), ([], []), ([], []), ([], []), ([4, 5], [4, 5]), ([6], [6]), ([7], [7]), ([3, 8], [3, 8]), ([1, 2, 0, 1, 2, 3, 4, 5, 6, 7, 8, 9], [1, 2]), ([10, 9, 9, 0, 1, 2, 3, 4, 5, 6, 7, 8, 9], [9, 10])])
def impl_field_find.B8 : List Nat := [0, 1, 0, 0, 0, 0, 48, 112, 240, 504, 1023, 2047]
theorem impl_field_find.tab8 : rtab .any (opsOf Try.f97 8) = impl_field_find.T8 := by kernel_rfl
theorem impl_field_find.bits8 : waitsOk impl_field_find.T8.2 impl_field_find.B8 = true := by kernel_rfl
def impl_field_find.T15 : Bool × List (List Nat × List Nat) := (true, [([], []), ([0], [0]), ([], []), ([], []), ([], []), ([], []), ([5], [5]), ([4, 6], [4, 6]), ([7], [7]), ([8], [8]), ([3, 9], [3, 9]), ([1, 2, 0, 1, 2, 3, 4, 5, 6, 7, 8, 9, 10], [1, 2]), ([11, 10, 10, 0, 1, 2, 3, 4, 5, 6, 7, 8, 9, 10], [10, 11])])
def impl_field_find.B15 : List Nat := [0, 1, 0, 0, 0, 0, 32, 112, 240, 496, 1016, 2047, 4095]
theorem impl_field_find.tab15 : rtab .any (opsOf Try.f97 15) = impl_field_find.T15 := by kernel_rfl
theorem impl_field_find.bits15 : waitsOk impl_field_find.T15.2 impl_field_find.B15 = true := by kernel_rfl
set_option maxHeartbeats 8000000 in
set_option maxRecDepth 100000 in
theorem impl_field_find.calls (k : Nat) (a0 : Int) (P1_ : Nat → Prop) (A1 : Option Addr) (c1 : Nat) (l1 : List Int) (P2_ : Nat → Prop) (A2 : Option Addr) (c2 : Nat) (l2 : List Int) (a3 : Int) (r1 : Int) (r2 : List Int) (r3 : List Int) (r4 : Bool) (w : World) (hs1 : Kd.V (Kd.int .i64) 2 w w.heap.size (fun k_ => P1_ k_) (.slice A1 l1.length c1) l1) (hs2 : Kd.V (Kd.int .i64) 2 w w.heap.size (fun k_ => P2_ k_) (.slice A2 l2.length c2) l2) (h : impl_field_find.f k a0 l1 l2 a3 = some (r1, r2, r3, r4)) :
    Calls Try.prog 97 #[.int .i64 a0, .slice A1 l1.length c1, .slice A2 l2.length c2, .int .i64 a3] w fun e w' => ∃ v1_ v2_ : Value, e = .returned (.tuple #[.agg #[.int .i64 r1, v1_, v2_], .bool r4]) ∧ Kd.R (Kd.int .i64) 2 w' w.heap.size (fun k_ => (w.heap.size ≤ k_) ∧ some k_ ≠ (v2_ : Value).ownBlock) v1_ r2 ∧ Kd.R (Kd.int .i64) 2 w' w.heap.size (fun k_ => (w.heap.size ≤ k_) ∧ some k_ ≠ (v1_ : Value).ownBlock) v2_ r3 ∧ Below w.heap.size w w' := by
  have hu52 := Try.underlying52
  have HO1 := Aside0.mk (show Kd.V (Kd.int .i64) 2 w w.heap.size (fun k_ => ((P1_ k_ ∨ P2_ k_) ∨ w.heap.size ≤ k_)) (.slice A1 l1.length c1) l1 from Kd.V_mono hs1 (fun k_ hk => .inl (.inl hk)))
  have HO2 := Aside0.mk (show Kd.V (Kd.int .i64) 2 w w.heap.size (fun k_ => ((P1_ k_ ∨ P2_ k_) ∨ w.heap.size ≤ k_)) (.slice A2 l2.length c2) l2 from Kd.V_mono hs2 (fun k_ hk => .inl (.inr hk)))
  have HB := Aside0.mk (Below.refl w.heap.size w)
  have H : ((impl_degree.f l1).bind fun t1121 => (if 0 ≤ t1121 then (if (t1121 : Int).toNat ≤ 35184372088832 then (impl_field_find.l0 k a0 l1 l2 a3 (wrap64 (t1121 - 1)) a0 (List.replicate (t1121 : Int).toNat 0) (List.replicate (t1121 : Int).toNat 0)) else (none)) else (none))) = some (r1, r2, r3, r4) := h
  clear h
  replace H := Option.bind_eq_some_iff.mp H
  obtain ⟨t1121, A50, H⟩ := H
  have A5 := Aside0.mk A50
  clear A50
  by_cases c6 : 0 ≤ t1121
  · rw [if_pos c6] at H
    have c6b0 := eq_true c6
    have c6b1 : decide (0 ≤ t1121) = true := decide_eq_true c6
    clear c6
    by_cases c7 : (t1121 : Int).toNat ≤ 35184372088832
    · rw [if_pos c7] at H
      have c7b0 := eq_true c7
      have c7b1 : decide ((t1121 : Int).toNat ≤ 35184372088832) = true := decide_eq_true c7
      clear c7
      obtain ⟨y1122, hy1122⟩ : ∃ y_ : List Int, y_ = (List.replicate (t1121 : Int).toNat 0) := ⟨_, rfl⟩
      replace H : (impl_field_find.l0 k a0 l1 l2 a3 (wrap64 (t1121 - 1)) a0 y1122 (List.replicate (t1121 : Int).toNat 0)) = some (r1, r2, r3, r4) := by first | (rw [hy1122]; with_reducible exact H) | (have H2_ := (Option.bind_some _ _).symm.trans H; rw [hy1122]; with_reducible exact H2_) | (have H2_ := (Option.bind_some _ _).symm.trans H; with_reducible exact H2_) | with_reducible exact H | (rw [hy1122]; exact H) | exact H
      have Ny1122 := Aside0.mk hy1122
      clear hy1122
      obtain ⟨y1125, hy1125⟩ : ∃ y_ : List Int, y_ = (List.replicate (t1121 : Int).toNat 0) := ⟨_, rfl⟩
      replace H : (impl_field_find.l0 k a0 l1 l2 a3 (wrap64 (t1121 - 1)) a0 y1122 y1125) = some (r1, r2, r3, r4) := by first | (rw [hy1125]; with_reducible exact H) | (have H2_ := (Option.bind_some _ _).symm.trans H; rw [hy1125]; with_reducible exact H2_) | (have H2_ := (Option.bind_some _ _).symm.trans H; with_reducible exact H2_) | with_reducible exact H | (rw [hy1125]; exact H) | exact H
      have Ny1125 := Aside0.mk hy1125
      clear hy1125
      have H' := Aside0.mk H
      clear H
      go_enter Try.func97, Try.ntmps97
      try go_wp2_with (first | ((with_reducible refine gate_dst (N := 8) rfl ?_); refine box_event ?hg (N := 8) ?hd (cs := #[.int .i64 0, .slice none 0 0, .slice none 0 0]) (t := 52) ?hr ?_; (case hd => rfl); (case hg => rfl); (case hr => first | (go_simp; done) | (go_simp; rfl)); intro gb1120 hg w8 hbox hb; have n0_ := Aside0.mk (Kd.V_below (Kd.V_elderB (by (with_reducible repeat (first | apply Kd.V_alloc | apply Kd.V_drewN | apply Kd.V_drew)); exact HO1.out) gb1120 (Nat.le_of_eq hg.symm)) hb); have n1_ := Aside0.mk (Kd.V_below (Kd.V_elderB (by (with_reducible repeat (first | apply Kd.V_alloc | apply Kd.V_drewN | apply Kd.V_drew)); exact HO2.out) gb1120 (Nat.le_of_eq hg.symm)) hb); have n2_ := Aside0.mk (below_step (bs HB) hb); have n3_ := Aside0.mk (hbox); have n4_ := Aside0.mk ((by rw [hg]; exact (below_size (bs HB)) : w.heap.size ≤ gb1120)); have n5_ := Aside0.mk ((by rw [hg]; exact (below_size (bs HB)) : w.heap.size ≤ gb1120)); clear HO1; clear HO2; clear HB; have HO1 := n0_; have HO2 := n1_; have HB := n2_; have BK1120 := n3_; have GW1120 := n4_; have GE1120 := n5_; clear n0_ n1_ n2_ n3_ n4_ n5_; clear hb hbox hg) | ((with_reducible refine gate_callee (f := 85) rfl ?_); refine goesM_ (some 15) rfl rfl Try.func85 #[.slice A1 l1.length c1] rfl ?_; (with_reducible refine (impl_degree.calls _ _ l1 t1121 _ ?side1 ?side2 A5.out).mono ?_); (case side1 => exact cs ((Kd.V_reads' HO1.out).2.2)); (case side2 => exact (Kd.V_reads' HO1.out).2.1); rintro e w' ⟨rfl, ⟨nd, rfl⟩⟩; refine ⟨_, rfl, ?_⟩; (try (rw [drewN_self w8]; generalize hq_ : World.drewN w8 _ = w8; have n0_ : Aside0 (Kd.V (Kd.int .i64) 2 w8 w.heap.size (fun k_ => ((P1_ k_ ∨ P2_ k_) ∨ w.heap.size ≤ k_) ∧ k_ ≠ gb1120) (.slice A1 l1.length c1) l1) := ⟨by rw [← hq_]; exact (by (with_reducible repeat (first | apply Kd.V_alloc | apply Kd.V_drewN | apply Kd.V_drew)); exact HO1.out)⟩; have n1_ : Aside0 (Kd.V (Kd.int .i64) 2 w8 w.heap.size (fun k_ => ((P1_ k_ ∨ P2_ k_) ∨ w.heap.size ≤ k_) ∧ k_ ≠ gb1120) (.slice A2 l2.length c2) l2) := ⟨by rw [← hq_]; exact (by (with_reducible repeat (first | apply Kd.V_alloc | apply Kd.V_drewN | apply Kd.V_drew)); exact HO2.out)⟩; have n2_ : Aside0 (w8.heap[gb1120]? = some (.cells #[.int .i64 0, .slice none 0 0, .slice none 0 0] 52 (0, 0))) := ⟨by rw [← hq_]; exact (by (with_reducible repeat (first | refine blk_drewN ?_ _ | refine blk_drew ?_ | refine blk_alloc ?_ _)); exact BK1120.out)⟩; have n3_ : Aside0 (Below w.heap.size w w8) := ⟨by rw [← hq_]; exact (by repeat (first | (with_reducible first | exact HB.out | apply below_alloc | apply pw_below_drewN | apply below_drew1 | refine below_set ?_ GE1120.out) | exact HB.out))⟩; clear HO1 HO2 BK1120 HB hq_; have HO1 := n0_; have HO2 := n1_; have BK1120 := n2_; have HB := n3_; clear n0_ n1_ n2_ n3_))))
      have n0_ := Aside0.mk (Kd.V_drew HO1.out)
      have n1_ := Aside0.mk (Kd.V_drew HO2.out)
      have n2_ := Aside0.mk (blk_drew BK1120.out)
      have n3_ := Aside0.mk (below_drew1 HB.out)
      clear HO1
      clear HO2
      clear BK1120
      clear HB
      have HO1 := n0_
      have HO2 := n1_
      have BK1120 := n2_
      have HB := n3_
      clear n0_ n1_ n2_ n3_
      refine start_ (n := 8) (S := fun w' => True) (ds := []) #[false, false, false, false, false, false, false, false] (by kernel_rfl) rfl rfl trivial (fun hHeld => ?_); refine with_tabW impl_field_find.tab2 impl_field_find.bits2 (fun HT_ HW_ => ?_)
      generalize w8.drew = w9 at HO1 HO2 BK1120 HB hHeld ⊢
      refine pure_ (i := 0) (N := some 16) (v := ?_) (a' := ?_) #[true, false, false, false, false, false, false, false] rfl rfl (any_of HT_.out (by kernel_rfl)) (fun _ _ _ h => h) (Or.inl ⟨by rfl, ?_⟩) ?_ ?_
      rotate_left
      · intro w'
        go_simp
        with_reducible rfl
      rotate_left
      · simp only [Act.put, List.setIfInBounds_toArray, List.set_cons_zero, List.set_cons_succ, i64_w, i32_w]
        rfl
      refine pure_ (i := 1) (N := some 17) (v := ?_) (a' := ?_) #[true, true, false, false, false, false, false, false] rfl rfl (any_of HT_.out (by kernel_rfl)) (fun _ _ _ h => h) (Or.inl ⟨by rfl, ?_⟩) ?_ ?_
      rotate_left
      · intro w'
        go_simp
        with_reducible rfl
      rotate_left
      · simp only [Act.put, List.setIfInBounds_toArray, List.set_cons_zero, List.set_cons_succ, i64_w, i32_w]
        rfl
      refine pure_ (i := 3) (N := some 19) (v := ?_) (a' := ?_) #[true, true, false, true, false, false, false, false] rfl rfl (any_of HT_.out (by kernel_rfl)) (fun _ _ _ h => h) (Or.inl ⟨by rfl, ?_⟩) ?_ ?_
      rotate_left
      · intro w'
        go_simp
        with_reducible rfl
      rotate_left
      · simp only [Act.put, List.setIfInBounds_toArray, List.set_cons_zero, List.set_cons_succ, i64_w, i32_w]
        rfl
      refine join_ (σ := Value × Value × Nat) 1 #[true, true, true, true, true, true, true, false] (fun s_ => [(18, s_.1), (20, s_.2.1), (11, .pointer (some ⟨s_.2.2, 0, none⟩)), (21, .agg #[.int .i64 a0, s_.1, s_.2.1])]) (fun s_ w' => (Kd.V (Kd.int .i64) 2 w' w.heap.size (fun k_ => ((P1_ k_ ∨ P2_ k_) ∨ w.heap.size ≤ k_) ∧ some k_ ≠ (s_.1 : Value).ownBlock ∧ some k_ ≠ (s_.2.1 : Value).ownBlock ∧ k_ ≠ gb1120 ∧ k_ ≠ s_.2.2) (.slice A1 l1.length c1) l1) ∧ (Kd.R (Kd.int .i64) 2 w' w.heap.size (fun k_ => (w.heap.size ≤ k_) ∧ some k_ ≠ (s_.2.1 : Value).ownBlock) s_.1 y1122) ∧ (Kd.R (Kd.int .i64) 2 w' w.heap.size (fun k_ => (w.heap.size ≤ k_) ∧ some k_ ≠ (s_.1 : Value).ownBlock) s_.2.1 y1125) ∧ (Kd.V (Kd.int .i64) 2 w' w.heap.size (fun k_ => ((P1_ k_ ∨ P2_ k_) ∨ w.heap.size ≤ k_) ∧ some k_ ≠ (s_.1 : Value).ownBlock ∧ some k_ ≠ (s_.2.1 : Value).ownBlock ∧ k_ ≠ gb1120 ∧ k_ ≠ s_.2.2) (.slice A2 l2.length c2) l2) ∧ (w'.heap[gb1120]? = some (.cells #[.int .i64 0, .slice none 0 0, .slice none 0 0] 52 (0, 0))) ∧ (w'.heap[s_.2.2]? = some (.cells #[.int .i64 0, .slice none 0 0, .slice none 0 0] 52 (0, 0))) ∧ (w.heap.size ≤ s_.2.2) ∧ (w.heap.size ≤ s_.2.2) ∧ (gb1120 ≠ s_.2.2) ∧ (s_.2.2 ≠ gb1120) ∧ (Below w.heap.size w w')) ?_ ?_
      rotate_left
      · intro hJ2_4_6
        refine join_ (σ := Value × Value) 2 #[true, true, true, true, true, true, false, false] (fun s_ => [(18, s_.1), (20, s_.2), (21, .agg #[.int .i64 a0, s_.1, s_.2])]) (fun s_ w' => (Kd.V (Kd.int .i64) 2 w' w.heap.size (fun k_ => ((P1_ k_ ∨ P2_ k_) ∨ w.heap.size ≤ k_) ∧ some k_ ≠ (s_.1 : Value).ownBlock ∧ some k_ ≠ (s_.2 : Value).ownBlock ∧ k_ ≠ gb1120) (.slice A1 l1.length c1) l1) ∧ (Kd.R (Kd.int .i64) 2 w' w.heap.size (fun k_ => (w.heap.size ≤ k_) ∧ some k_ ≠ (s_.2 : Value).ownBlock) s_.1 y1122) ∧ (Kd.R (Kd.int .i64) 2 w' w.heap.size (fun k_ => (w.heap.size ≤ k_) ∧ some k_ ≠ (s_.1 : Value).ownBlock) s_.2 y1125) ∧ (Kd.V (Kd.int .i64) 2 w' w.heap.size (fun k_ => ((P1_ k_ ∨ P2_ k_) ∨ w.heap.size ≤ k_) ∧ some k_ ≠ (s_.1 : Value).ownBlock ∧ some k_ ≠ (s_.2 : Value).ownBlock ∧ k_ ≠ gb1120) (.slice A2 l2.length c2) l2) ∧ (w'.heap[gb1120]? = some (.cells #[.int .i64 0, .slice none 0 0, .slice none 0 0] 52 (0, 0))) ∧ (Below w.heap.size w w')) ?_ ?_
        rotate_left
        · intro hJ2_4
          refine join_ (σ := Value × Nat) 3 #[true, true, true, true, false, false, true, false] (fun s_ => [(18, s_.1), (11, .pointer (some ⟨s_.2, 0, none⟩))]) (fun s_ w' => (Kd.V (Kd.int .i64) 2 w' w.heap.size (fun k_ => ((P1_ k_ ∨ P2_ k_) ∨ w.heap.size ≤ k_) ∧ some k_ ≠ (s_.1 : Value).ownBlock ∧ k_ ≠ gb1120 ∧ k_ ≠ s_.2) (.slice A1 l1.length c1) l1) ∧ (Kd.R (Kd.int .i64) 2 w' w.heap.size (fun k_ => (w.heap.size ≤ k_)) s_.1 y1122) ∧ (Kd.V (Kd.int .i64) 2 w' w.heap.size (fun k_ => ((P1_ k_ ∨ P2_ k_) ∨ w.heap.size ≤ k_) ∧ some k_ ≠ (s_.1 : Value).ownBlock ∧ k_ ≠ gb1120 ∧ k_ ≠ s_.2) (.slice A2 l2.length c2) l2) ∧ (w'.heap[gb1120]? = some (.cells #[.int .i64 0, .slice none 0 0, .slice none 0 0] 52 (0, 0))) ∧ (w'.heap[s_.2]? = some (.cells #[.int .i64 0, .slice none 0 0, .slice none 0 0] 52 (0, 0))) ∧ (w.heap.size ≤ s_.2) ∧ (w.heap.size ≤ s_.2) ∧ (gb1120 ≠ s_.2) ∧ (s_.2 ≠ gb1120) ∧ (Below w.heap.size w w')) ?_ ?_
          rotate_left
          · intro hJ2_6
            refine join_ (σ := Value × Nat) 3 #[true, true, false, true, true, false, true, false] (fun s_ => [(20, s_.1), (11, .pointer (some ⟨s_.2, 0, none⟩))]) (fun s_ w' => (Kd.V (Kd.int .i64) 2 w' w.heap.size (fun k_ => ((P1_ k_ ∨ P2_ k_) ∨ w.heap.size ≤ k_) ∧ some k_ ≠ (s_.1 : Value).ownBlock ∧ k_ ≠ gb1120 ∧ k_ ≠ s_.2) (.slice A1 l1.length c1) l1) ∧ (Kd.R (Kd.int .i64) 2 w' w.heap.size (fun k_ => (w.heap.size ≤ k_)) s_.1 y1125) ∧ (Kd.V (Kd.int .i64) 2 w' w.heap.size (fun k_ => ((P1_ k_ ∨ P2_ k_) ∨ w.heap.size ≤ k_) ∧ some k_ ≠ (s_.1 : Value).ownBlock ∧ k_ ≠ gb1120 ∧ k_ ≠ s_.2) (.slice A2 l2.length c2) l2) ∧ (w'.heap[gb1120]? = some (.cells #[.int .i64 0, .slice none 0 0, .slice none 0 0] 52 (0, 0))) ∧ (w'.heap[s_.2]? = some (.cells #[.int .i64 0, .slice none 0 0, .slice none 0 0] 52 (0, 0))) ∧ (w.heap.size ≤ s_.2) ∧ (w.heap.size ≤ s_.2) ∧ (gb1120 ≠ s_.2) ∧ (s_.2 ≠ gb1120) ∧ (Below w.heap.size w w')) ?_ ?_
            rotate_left
            · intro hJ4_6
              refine join_ (σ := Value) 4 #[true, true, true, true, false, false, false, false] (fun s_ => [(18, s_)]) (fun s_ w' => (Kd.V (Kd.int .i64) 2 w' w.heap.size (fun k_ => ((P1_ k_ ∨ P2_ k_) ∨ w.heap.size ≤ k_) ∧ some k_ ≠ (s_ : Value).ownBlock ∧ k_ ≠ gb1120) (.slice A1 l1.length c1) l1) ∧ (Kd.R (Kd.int .i64) 2 w' w.heap.size (fun k_ => (w.heap.size ≤ k_)) s_ y1122) ∧ (Kd.V (Kd.int .i64) 2 w' w.heap.size (fun k_ => ((P1_ k_ ∨ P2_ k_) ∨ w.heap.size ≤ k_) ∧ some k_ ≠ (s_ : Value).ownBlock ∧ k_ ≠ gb1120) (.slice A2 l2.length c2) l2) ∧ (w'.heap[gb1120]? = some (.cells #[.int .i64 0, .slice none 0 0, .slice none 0 0] 52 (0, 0))) ∧ (Below w.heap.size w w')) ?_ ?_
              rotate_left
              · intro hJ2
                refine join_ (σ := Value) 4 #[true, true, false, true, true, false, false, false] (fun s_ => [(20, s_)]) (fun s_ w' => (Kd.V (Kd.int .i64) 2 w' w.heap.size (fun k_ => ((P1_ k_ ∨ P2_ k_) ∨ w.heap.size ≤ k_) ∧ some k_ ≠ (s_ : Value).ownBlock ∧ k_ ≠ gb1120) (.slice A1 l1.length c1) l1) ∧ (Kd.R (Kd.int .i64) 2 w' w.heap.size (fun k_ => (w.heap.size ≤ k_)) s_ y1125) ∧ (Kd.V (Kd.int .i64) 2 w' w.heap.size (fun k_ => ((P1_ k_ ∨ P2_ k_) ∨ w.heap.size ≤ k_) ∧ some k_ ≠ (s_ : Value).ownBlock ∧ k_ ≠ gb1120) (.slice A2 l2.length c2) l2) ∧ (w'.heap[gb1120]? = some (.cells #[.int .i64 0, .slice none 0 0, .slice none 0 0] 52 (0, 0))) ∧ (Below w.heap.size w w')) ?_ ?_
                rotate_left
                · intro hJ4
                  refine join_ (σ := Nat) 4 #[true, true, false, true, false, false, true, false] (fun s_ => [(11, .pointer (some ⟨s_, 0, none⟩))]) (fun s_ w' => (Kd.V (Kd.int .i64) 2 w' w.heap.size (fun k_ => ((P1_ k_ ∨ P2_ k_) ∨ w.heap.size ≤ k_) ∧ k_ ≠ gb1120 ∧ k_ ≠ s_) (.slice A1 l1.length c1) l1) ∧ (Kd.V (Kd.int .i64) 2 w' w.heap.size (fun k_ => ((P1_ k_ ∨ P2_ k_) ∨ w.heap.size ≤ k_) ∧ k_ ≠ gb1120 ∧ k_ ≠ s_) (.slice A2 l2.length c2) l2) ∧ (w'.heap[gb1120]? = some (.cells #[.int .i64 0, .slice none 0 0, .slice none 0 0] 52 (0, 0))) ∧ (w'.heap[s_]? = some (.cells #[.int .i64 0, .slice none 0 0, .slice none 0 0] 52 (0, 0))) ∧ (w.heap.size ≤ s_) ∧ (w.heap.size ≤ s_) ∧ (gb1120 ≠ s_) ∧ (s_ ≠ gb1120) ∧ (Below w.heap.size w w')) ?_ ?_
                  rotate_left
                  · intro hJ6
                    refine three_ (i := 2) (j := 4) (k := 6) (Ni := some 18) (Nj := some 20) (Nk := some 11) #[true, true, true, true, false, false, false, false] #[true, true, false, true, true, false, false, false] #[true, true, false, true, false, false, true, false] rfl rfl rfl rfl rfl rfl (three_of HT_.out (by kernel_rfl)) (by decide) (by decide) (by decide) (fun K hK => ?_) (fun K hK => ?_) (fun K hK => ?_)
                    · skip
                      refine Kd.R_make_step (Kd.int .i64) _ 2 (by rfl) (N := 18) rfl 22 _ _ rfl t1121 rfl rfl Try.underlying22 (.int .i64 0) 8 info2 rfl (by decide) (by omega) 0 (ok := fun _ => True) (okp := fun _ => True) rfl (fun _ hk => hk) trivial (of_decide_eq_true (by first | (with_reducible assumption) | assumption)) (Nat.le_trans (Nat.mul_le_mul_right _ (of_decide_eq_true (by first | (with_reducible assumption) | assumption) : t1121.toNat ≤ 35184372088832)) (by omega)) (Below.refl _ _) (Nat.le_refl _) ?_
                      intro v1123 w10 ho11 hb hg_ hnew_
                      clear hg_ hnew_
                      (first | rw [← Ny1122.out] at ho11 | (simp only [Int.reduceToNat] at ho11; rw [← Ny1122.out] at ho11))
                      have n0_ := Aside0.mk (Kd.V_elder' (by (with_reducible repeat (first | apply Kd.V_alloc | apply Kd.V_drewN | apply Kd.V_drew)); exact HO1.out) (Kd.R_base ho11) hb)
                      have n1_ := Aside0.mk (Kd.V_elder' (by (with_reducible repeat (first | apply Kd.V_alloc | apply Kd.V_drewN | apply Kd.V_drew)); exact HO2.out) (Kd.R_base ho11) hb)
                      have n2_ := Aside0.mk (Kd.R_lower (Kd.R_newM (M := fun k_ => (w.heap.size ≤ k_)) ho11 (below_size (by repeat (first | (with_reducible first | exact HB.out | apply below_alloc | apply pw_below_drewN | apply below_drew1 | refine below_set ?_ GE1120.out) | exact HB.out))) (fun k_ h_ => h_)) (below_size (by repeat (first | (with_reducible first | exact HB.out | apply below_alloc | apply pw_below_drewN | apply below_drew1 | refine below_set ?_ GE1120.out) | exact HB.out))))
                      have n3_ := Aside0.mk (blk_below (g := gb1120) (o := .cells #[.int .i64 0, .slice none 0 0, .slice none 0 0] 52 (0, 0)) (by (with_reducible repeat (first | refine blk_drewN ?_ _ | refine blk_drew ?_ | refine blk_alloc ?_ _)); exact BK1120.out) hb)
                      have n4_ := Aside0.mk (below_step (by repeat (first | (with_reducible first | exact HB.out | apply below_alloc | apply pw_below_drewN | apply below_drew1 | refine below_set ?_ GE1120.out) | exact HB.out)) hb)
                      clear HO1
                      clear HO2
                      clear BK1120
                      clear HB
                      have HO1 := n0_
                      have HO2 := n1_
                      have HO1124 := n2_
                      have BK1120 := n3_
                      have HB := n4_
                      clear n0_ n1_ n2_ n3_ n4_
                      clear hb ho11
                      refine hK.out _ _ trivial (fun hHeld => ?_)
                      clear hK K
                      refine norm_ (a' := ?_) ?_ ?_
                      rotate_left
                      · show Act.put _ (some 18) _ = _
                        simp only [Act.put, List.setIfInBounds_toArray, List.set_cons_zero, List.set_cons_succ, i64_w, i32_w]
                        rfl
                      exact norm_ (by first | (simp only [putAll, Act.put, List.setIfInBounds_toArray, List.set_cons_zero, List.set_cons_succ]; done) | (simp only [putAll, Act.put, List.setIfInBounds_toArray, List.set_cons_zero, List.set_cons_succ]; rfl)) (hJ2 (v1123) _ ⟨(by (with_reducible repeat (first | apply Kd.V_alloc | apply Kd.V_drewN | apply Kd.V_drew)); exact Kd.V_mono HO1.out (fun _ hk => ⟨hk.1.1, ⟨hk.2, hk.1.2⟩⟩)), (by (with_reducible repeat (first | apply Kd.R_alloc | apply Kd.R_drewN | apply Kd.R_drew)); exact Kd.R_mono HO1124.out (fun _ hk => hk.1)), (by (with_reducible repeat (first | apply Kd.V_alloc | apply Kd.V_drewN | apply Kd.V_drew)); exact Kd.V_mono HO2.out (fun _ hk => ⟨hk.1.1, ⟨hk.2, hk.1.2⟩⟩)), (by (with_reducible repeat (first | refine blk_drewN ?_ _ | refine blk_drew ?_ | refine blk_alloc ?_ _)); exact BK1120.out), (by repeat (first | (with_reducible first | exact HB.out | apply below_alloc | apply pw_below_drewN | apply below_drew1 | refine below_set ?_ GE1120.out) | exact HB.out))⟩)
                    · skip
                      refine Kd.R_make_step (Kd.int .i64) _ 2 (by rfl) (N := 20) rfl 22 _ _ rfl t1121 rfl rfl Try.underlying22 (.int .i64 0) 8 info2 rfl (by decide) (by omega) 0 (ok := fun _ => True) (okp := fun _ => True) rfl (fun _ hk => hk) trivial (of_decide_eq_true (by first | (with_reducible assumption) | assumption)) (Nat.le_trans (Nat.mul_le_mul_right _ (of_decide_eq_true (by first | (with_reducible assumption) | assumption) : t1121.toNat ≤ 35184372088832)) (by omega)) (Below.refl _ _) (Nat.le_refl _) ?_
                      intro v1126 w10 ho11 hb hg_ hnew_
                      clear hg_ hnew_
                      (first | rw [← Ny1125.out] at ho11 | (simp only [Int.reduceToNat] at ho11; rw [← Ny1125.out] at ho11))
                      have n0_ := Aside0.mk (Kd.V_elder' (by (with_reducible repeat (first | apply Kd.V_alloc | apply Kd.V_drewN | apply Kd.V_drew)); exact HO1.out) (Kd.R_base ho11) hb)
                      have n1_ := Aside0.mk (Kd.V_elder' (by (with_reducible repeat (first | apply Kd.V_alloc | apply Kd.V_drewN | apply Kd.V_drew)); exact HO2.out) (Kd.R_base ho11) hb)
                      have n2_ := Aside0.mk (Kd.R_lower (Kd.R_newM (M := fun k_ => (w.heap.size ≤ k_)) ho11 (below_size (by repeat (first | (with_reducible first | exact HB.out | apply below_alloc | apply pw_below_drewN | apply below_drew1 | refine below_set ?_ GE1120.out) | exact HB.out))) (fun k_ h_ => h_)) (below_size (by repeat (first | (with_reducible first | exact HB.out | apply below_alloc | apply pw_below_drewN | apply below_drew1 | refine below_set ?_ GE1120.out) | exact HB.out))))
                      have n3_ := Aside0.mk (blk_below (g := gb1120) (o := .cells #[.int .i64 0, .slice none 0 0, .slice none 0 0] 52 (0, 0)) (by (with_reducible repeat (first | refine blk_drewN ?_ _ | refine blk_drew ?_ | refine blk_alloc ?_ _)); exact BK1120.out) hb)
                      have n4_ := Aside0.mk (below_step (by repeat (first | (with_reducible first | exact HB.out | apply below_alloc | apply pw_below_drewN | apply below_drew1 | refine below_set ?_ GE1120.out) | exact HB.out)) hb)
                      clear HO1
                      clear HO2
                      clear BK1120
                      clear HB
                      have HO1 := n0_
                      have HO2 := n1_
                      have HO1127 := n2_
                      have BK1120 := n3_
                      have HB := n4_
                      clear n0_ n1_ n2_ n3_ n4_
                      clear hb ho11
                      refine hK.out _ _ trivial (fun hHeld => ?_)
                      clear hK K
                      refine norm_ (a' := ?_) ?_ ?_
                      rotate_left
                      · show Act.put _ (some 20) _ = _
                        simp only [Act.put, List.setIfInBounds_toArray, List.set_cons_zero, List.set_cons_succ, i64_w, i32_w]
                        rfl
                      exact norm_ (by first | (simp only [putAll, Act.put, List.setIfInBounds_toArray, List.set_cons_zero, List.set_cons_succ]; done) | (simp only [putAll, Act.put, List.setIfInBounds_toArray, List.set_cons_zero, List.set_cons_succ]; rfl)) (hJ4 (v1126) _ ⟨(by (with_reducible repeat (first | apply Kd.V_alloc | apply Kd.V_drewN | apply Kd.V_drew)); exact Kd.V_mono HO1.out (fun _ hk => ⟨hk.1.1, ⟨hk.2, hk.1.2⟩⟩)), (by (with_reducible repeat (first | apply Kd.R_alloc | apply Kd.R_drewN | apply Kd.R_drew)); exact Kd.R_mono HO1127.out (fun _ hk => hk.1)), (by (with_reducible repeat (first | apply Kd.V_alloc | apply Kd.V_drewN | apply Kd.V_drew)); exact Kd.V_mono HO2.out (fun _ hk => ⟨hk.1.1, ⟨hk.2, hk.1.2⟩⟩)), (by (with_reducible repeat (first | refine blk_drewN ?_ _ | refine blk_drew ?_ | refine blk_alloc ?_ _)); exact BK1120.out), (by repeat (first | (with_reducible first | exact HB.out | apply below_alloc | apply pw_below_drewN | apply below_drew1 | refine below_set ?_ GE1120.out) | exact HB.out))⟩)
                    · skip
                      refine box_step ?hg (N := 11) ?hd (cs := #[.int .i64 0, .slice none 0 0, .slice none 0 0]) (t := 52) ?hr ?_; (case hd => rfl); (case hg => rfl); (case hr => first | (go_simp; done) | (go_simp; rfl))
                      intro gb1128 hg w10 hbox hb
                      have n0_ := Aside0.mk (Kd.V_below (Kd.V_elderB (by (with_reducible repeat (first | apply Kd.V_alloc | apply Kd.V_drewN | apply Kd.V_drew)); exact HO1.out) gb1128 (Nat.le_of_eq hg.symm)) hb)
                      have n1_ := Aside0.mk (Kd.V_below (Kd.V_elderB (by (with_reducible repeat (first | apply Kd.V_alloc | apply Kd.V_drewN | apply Kd.V_drew)); exact HO2.out) gb1128 (Nat.le_of_eq hg.symm)) hb)
                      have n2_ := Aside0.mk (blk_below (g := gb1120) (o := .cells #[.int .i64 0, .slice none 0 0, .slice none 0 0] 52 (0, 0)) (by (with_reducible repeat (first | refine blk_drewN ?_ _ | refine blk_drew ?_ | refine blk_alloc ?_ _)); exact BK1120.out) hb)
                      have n3_ := Aside0.mk (below_step (by repeat (first | (with_reducible first | exact HB.out | apply below_alloc | apply pw_below_drewN | apply below_drew1 | refine below_set ?_ GE1120.out) | exact HB.out)) hb)
                      have n4_ := Aside0.mk (hbox)
                      have n5_ := Aside0.mk ((by rw [hg]; exact (below_size (by repeat (first | (with_reducible first | exact HB.out | apply below_alloc | apply pw_below_drewN | apply below_drew1 | refine below_set ?_ GE1120.out) | exact HB.out))) : w.heap.size ≤ gb1128))
                      have n6_ := Aside0.mk ((by rw [hg]; exact (below_size (by repeat (first | (with_reducible first | exact HB.out | apply below_alloc | apply pw_below_drewN | apply below_drew1 | refine below_set ?_ GE1120.out) | exact HB.out))) : w.heap.size ≤ gb1128))
                      have n7_ := Aside0.mk ((by rw [hg]; exact Nat.ne_of_lt (blk_lt (g := gb1120) (o := .cells #[.int .i64 0, .slice none 0 0, .slice none 0 0] 52 (0, 0)) (by (with_reducible repeat (first | refine blk_drewN ?_ _ | refine blk_drew ?_ | refine blk_alloc ?_ _)); exact BK1120.out)) : gb1120 ≠ gb1128))
                      have n8_ := Aside0.mk ((by rw [hg]; exact Nat.ne_of_gt (blk_lt (g := gb1120) (o := .cells #[.int .i64 0, .slice none 0 0, .slice none 0 0] 52 (0, 0)) (by (with_reducible repeat (first | refine blk_drewN ?_ _ | refine blk_drew ?_ | refine blk_alloc ?_ _)); exact BK1120.out)) : gb1128 ≠ gb1120))
                      clear HO1
                      clear HO2
                      clear BK1120
                      clear HB
                      have HO1 := n0_
                      have HO2 := n1_
                      have BK1120 := n2_
                      have HB := n3_
                      have BK1128 := n4_
                      have GW1128 := n5_
                      have GE1128 := n6_
                      have NB1120_1128 := n7_
                      have NB1128_1120 := n8_
                      clear n0_ n1_ n2_ n3_ n4_ n5_ n6_ n7_ n8_
                      clear hb hbox hg
                      refine hK.out _ _ trivial (fun hHeld => ?_)
                      clear hK K
                      refine norm_ (a' := ?_) ?_ ?_
                      rotate_left
                      · show Act.put _ (some 11) _ = _
                        simp only [Act.put, List.setIfInBounds_toArray, List.set_cons_zero, List.set_cons_succ, i64_w, i32_w]
                        rfl
                      exact norm_ (by first | (simp only [putAll, Act.put, List.setIfInBounds_toArray, List.set_cons_zero, List.set_cons_succ]; done) | (simp only [putAll, Act.put, List.setIfInBounds_toArray, List.set_cons_zero, List.set_cons_succ]; rfl)) (hJ6 (gb1128) _ ⟨(by (with_reducible repeat (first | apply Kd.V_alloc | apply Kd.V_drewN | apply Kd.V_drew)); exact Kd.V_mono HO1.out (fun _ hk => ⟨hk.1.1, ⟨hk.1.2, hk.2⟩⟩)), (by (with_reducible repeat (first | apply Kd.V_alloc | apply Kd.V_drewN | apply Kd.V_drew)); exact Kd.V_mono HO2.out (fun _ hk => ⟨hk.1.1, ⟨hk.1.2, hk.2⟩⟩)), (by (with_reducible repeat (first | refine blk_drewN ?_ _ | refine blk_drew ?_ | refine blk_alloc ?_ _)); exact BK1120.out), (by (with_reducible repeat (first | refine blk_drewN ?_ _ | refine blk_drew ?_ | refine blk_alloc ?_ _)); exact BK1128.out), GW1128.out, GE1128.out, NB1120_1128.out, NB1128_1120.out, (by repeat (first | (with_reducible first | exact HB.out | apply below_alloc | apply pw_below_drewN | apply below_drew1 | refine below_set ?_ GE1120.out | refine below_set ?_ GE1128.out) | exact HB.out))⟩)
                  · skip
                    rintro gb1128 w11 ⟨h0_, h1_, h2_, h3_, h4_, h5_, h6_, h7_, h8_⟩
                    have n0_ : Aside0 (Kd.V (Kd.int .i64) 2 w11 w.heap.size (fun k_ => ((P1_ k_ ∨ P2_ k_) ∨ w.heap.size ≤ k_) ∧ k_ ≠ gb1120 ∧ k_ ≠ gb1128) (.slice A1 l1.length c1) l1) := ⟨h0_⟩
                    have n1_ : Aside0 (Kd.V (Kd.int .i64) 2 w11 w.heap.size (fun k_ => ((P1_ k_ ∨ P2_ k_) ∨ w.heap.size ≤ k_) ∧ k_ ≠ gb1120 ∧ k_ ≠ gb1128) (.slice A2 l2.length c2) l2) := ⟨h1_⟩
                    have n2_ : Aside0 (w11.heap[gb1120]? = some (.cells #[.int .i64 0, .slice none 0 0, .slice none 0 0] 52 (0, 0))) := ⟨h2_⟩
                    have n3_ : Aside0 (w11.heap[gb1128]? = some (.cells #[.int .i64 0, .slice none 0 0, .slice none 0 0] 52 (0, 0))) := ⟨h3_⟩
                    have n4_ : Aside0 (w.heap.size ≤ gb1128) := ⟨h4_⟩
                    have n5_ : Aside0 (w.heap.size ≤ gb1128) := ⟨h5_⟩
                    have n6_ : Aside0 (gb1120 ≠ gb1128) := ⟨h6_⟩
                    have n7_ : Aside0 (gb1128 ≠ gb1120) := ⟨h7_⟩
                    have n8_ : Aside0 (Below w.heap.size w w11) := ⟨h8_⟩
                    clear HO1
                    clear HO2
                    clear BK1120
                    clear HB
                    clear h0_ h1_ h2_ h3_ h4_ h5_ h6_ h7_ h8_
                    have HO1 := n0_
                    have HO2 := n1_
                    have BK1120 := n2_
                    have BK1128 := n3_
                    have GW1128 := n4_
                    have GE1128 := n5_
                    have NB1120_1128 := n6_
                    have NB1128_1120 := n7_
                    have HB := n8_
                    clear n0_ n1_ n2_ n3_ n4_ n5_ n6_ n7_ n8_
                    have hHeld := trivial
                    refine norm_ (a' := ?_) ?_ ?_
                    rotate_left
                    · simp only [putAll, Act.put, List.setIfInBounds_toArray, List.set_cons_zero, List.set_cons_succ]
                      rfl
                    refine two_ (i := 2) (j := 4) (Ni := some 18) (Nj := some 20) #[true, true, true, true, false, false, true, false] #[true, true, false, true, true, false, true, false] rfl rfl rfl rfl (two_of HT_.out (by kernel_rfl)) (by decide) (by decide) (fun K hK => ?_) (fun K hK => ?_)
                    · skip
                      refine Kd.R_make_step (Kd.int .i64) _ 2 (by rfl) (N := 18) rfl 22 _ _ rfl t1121 rfl rfl Try.underlying22 (.int .i64 0) 8 info2 rfl (by decide) (by omega) 0 (ok := fun _ => True) (okp := fun _ => True) rfl (fun _ hk => hk) trivial (of_decide_eq_true (by first | (with_reducible assumption) | assumption)) (Nat.le_trans (Nat.mul_le_mul_right _ (of_decide_eq_true (by first | (with_reducible assumption) | assumption) : t1121.toNat ≤ 35184372088832)) (by omega)) (Below.refl _ _) (Nat.le_refl _) ?_
                      intro v1123 w12 ho13 hb hg_ hnew_
                      clear hg_ hnew_
                      (first | rw [← Ny1122.out] at ho13 | (simp only [Int.reduceToNat] at ho13; rw [← Ny1122.out] at ho13))
                      have n0_ := Aside0.mk (Kd.V_elder' (by (with_reducible repeat (first | apply Kd.V_alloc | apply Kd.V_drewN | apply Kd.V_drew)); exact HO1.out) (Kd.R_base ho13) hb)
                      have n1_ := Aside0.mk (Kd.V_elder' (by (with_reducible repeat (first | apply Kd.V_alloc | apply Kd.V_drewN | apply Kd.V_drew)); exact HO2.out) (Kd.R_base ho13) hb)
                      have n2_ := Aside0.mk (Kd.R_lower (Kd.R_newM (M := fun k_ => (w.heap.size ≤ k_)) ho13 (below_size (by repeat (first | (with_reducible first | exact HB.out | apply below_alloc | apply pw_below_drewN | apply below_drew1 | refine below_set ?_ GE1120.out | refine below_set ?_ GE1128.out) | exact HB.out))) (fun k_ h_ => h_)) (below_size (by repeat (first | (with_reducible first | exact HB.out | apply below_alloc | apply pw_below_drewN | apply below_drew1 | refine below_set ?_ GE1120.out | refine below_set ?_ GE1128.out) | exact HB.out))))
                      have n3_ := Aside0.mk (blk_below (g := gb1120) (o := .cells #[.int .i64 0, .slice none 0 0, .slice none 0 0] 52 (0, 0)) (by (with_reducible repeat (first | refine blk_drewN ?_ _ | refine blk_drew ?_ | refine blk_alloc ?_ _)); exact BK1120.out) hb)
                      have n4_ := Aside0.mk (blk_below (g := gb1128) (o := .cells #[.int .i64 0, .slice none 0 0, .slice none 0 0] 52 (0, 0)) (by (with_reducible repeat (first | refine blk_drewN ?_ _ | refine blk_drew ?_ | refine blk_alloc ?_ _)); exact BK1128.out) hb)
                      have n5_ := Aside0.mk (below_step (by repeat (first | (with_reducible first | exact HB.out | apply below_alloc | apply pw_below_drewN | apply below_drew1 | refine below_set ?_ GE1120.out | refine below_set ?_ GE1128.out) | exact HB.out)) hb)
                      clear HO1
                      clear HO2
                      clear BK1120
                      clear BK1128
                      clear HB
                      have HO1 := n0_
                      have HO2 := n1_
                      have HO1124 := n2_
                      have BK1120 := n3_
                      have BK1128 := n4_
                      have HB := n5_
                      clear n0_ n1_ n2_ n3_ n4_ n5_
                      clear hb ho13
                      refine hK.out _ _ trivial (fun hHeld => ?_)
                      clear hK K
                      refine norm_ (a' := ?_) ?_ ?_
                      rotate_left
                      · show Act.put _ (some 18) _ = _
                        simp only [Act.put, List.setIfInBounds_toArray, List.set_cons_zero, List.set_cons_succ, i64_w, i32_w]
                        rfl
                      exact norm_ (by first | (simp only [putAll, Act.put, List.setIfInBounds_toArray, List.set_cons_zero, List.set_cons_succ]; done) | (simp only [putAll, Act.put, List.setIfInBounds_toArray, List.set_cons_zero, List.set_cons_succ]; rfl)) (hJ2_6 (v1123, gb1128) _ ⟨(by (with_reducible repeat (first | apply Kd.V_alloc | apply Kd.V_drewN | apply Kd.V_drew)); exact Kd.V_mono HO1.out (fun _ hk => ⟨hk.1.1, ⟨hk.2, ⟨hk.1.2.1, hk.1.2.2⟩⟩⟩)), (by (with_reducible repeat (first | apply Kd.R_alloc | apply Kd.R_drewN | apply Kd.R_drew)); exact Kd.R_mono HO1124.out (fun _ hk => hk.1)), (by (with_reducible repeat (first | apply Kd.V_alloc | apply Kd.V_drewN | apply Kd.V_drew)); exact Kd.V_mono HO2.out (fun _ hk => ⟨hk.1.1, ⟨hk.2, ⟨hk.1.2.1, hk.1.2.2⟩⟩⟩)), (by (with_reducible repeat (first | refine blk_drewN ?_ _ | refine blk_drew ?_ | refine blk_alloc ?_ _)); exact BK1120.out), (by (with_reducible repeat (first | refine blk_drewN ?_ _ | refine blk_drew ?_ | refine blk_alloc ?_ _)); exact BK1128.out), GW1128.out, GE1128.out, NB1120_1128.out, NB1128_1120.out, (by repeat (first | (with_reducible first | exact HB.out | apply below_alloc | apply pw_below_drewN | apply below_drew1 | refine below_set ?_ GE1120.out | refine below_set ?_ GE1128.out) | exact HB.out))⟩)
                    · skip
                      refine Kd.R_make_step (Kd.int .i64) _ 2 (by rfl) (N := 20) rfl 22 _ _ rfl t1121 rfl rfl Try.underlying22 (.int .i64 0) 8 info2 rfl (by decide) (by omega) 0 (ok := fun _ => True) (okp := fun _ => True) rfl (fun _ hk => hk) trivial (of_decide_eq_true (by first | (with_reducible assumption) | assumption)) (Nat.le_trans (Nat.mul_le_mul_right _ (of_decide_eq_true (by first | (with_reducible assumption) | assumption) : t1121.toNat ≤ 35184372088832)) (by omega)) (Below.refl _ _) (Nat.le_refl _) ?_
                      intro v1126 w12 ho13 hb hg_ hnew_
                      clear hg_ hnew_
                      (first | rw [← Ny1125.out] at ho13 | (simp only [Int.reduceToNat] at ho13; rw [← Ny1125.out] at ho13))
                      have n0_ := Aside0.mk (Kd.V_elder' (by (with_reducible repeat (first | apply Kd.V_alloc | apply Kd.V_drewN | apply Kd.V_drew)); exact HO1.out) (Kd.R_base ho13) hb)
                      have n1_ := Aside0.mk (Kd.V_elder' (by (with_reducible repeat (first | apply Kd.V_alloc | apply Kd.V_drewN | apply Kd.V_drew)); exact HO2.out) (Kd.R_base ho13) hb)
                      have n2_ := Aside0.mk (Kd.R_lower (Kd.R_newM (M := fun k_ => (w.heap.size ≤ k_)) ho13 (below_size (by repeat (first | (with_reducible first | exact HB.out | apply below_alloc | apply pw_below_drewN | apply below_drew1 | refine below_set ?_ GE1120.out | refine below_set ?_ GE1128.out) | exact HB.out))) (fun k_ h_ => h_)) (below_size (by repeat (first | (with_reducible first | exact HB.out | apply below_alloc | apply pw_below_drewN | apply below_drew1 | refine below_set ?_ GE1120.out | refine below_set ?_ GE1128.out) | exact HB.out))))
                      have n3_ := Aside0.mk (blk_below (g := gb1120) (o := .cells #[.int .i64 0, .slice none 0 0, .slice none 0 0] 52 (0, 0)) (by (with_reducible repeat (first | refine blk_drewN ?_ _ | refine blk_drew ?_ | refine blk_alloc ?_ _)); exact BK1120.out) hb)
                      have n4_ := Aside0.mk (blk_below (g := gb1128) (o := .cells #[.int .i64 0, .slice none 0 0, .slice none 0 0] 52 (0, 0)) (by (with_reducible repeat (first | refine blk_drewN ?_ _ | refine blk_drew ?_ | refine blk_alloc ?_ _)); exact BK1128.out) hb)
                      have n5_ := Aside0.mk (below_step (by repeat (first | (with_reducible first | exact HB.out | apply below_alloc | apply pw_below_drewN | apply below_drew1 | refine below_set ?_ GE1120.out | refine below_set ?_ GE1128.out) | exact HB.out)) hb)
                      clear HO1
                      clear HO2
                      clear BK1120
                      clear BK1128
                      clear HB
                      have HO1 := n0_
                      have HO2 := n1_
                      have HO1127 := n2_
                      have BK1120 := n3_
                      have BK1128 := n4_
                      have HB := n5_
                      clear n0_ n1_ n2_ n3_ n4_ n5_
                      clear hb ho13
                      refine hK.out _ _ trivial (fun hHeld => ?_)
                      clear hK K
                      refine norm_ (a' := ?_) ?_ ?_
                      rotate_left
                      · show Act.put _ (some 20) _ = _
                        simp only [Act.put, List.setIfInBounds_toArray, List.set_cons_zero, List.set_cons_succ, i64_w, i32_w]
                        rfl
                      exact norm_ (by first | (simp only [putAll, Act.put, List.setIfInBounds_toArray, List.set_cons_zero, List.set_cons_succ]; done) | (simp only [putAll, Act.put, List.setIfInBounds_toArray, List.set_cons_zero, List.set_cons_succ]; rfl)) (hJ4_6 (v1126, gb1128) _ ⟨(by (with_reducible repeat (first | apply Kd.V_alloc | apply Kd.V_drewN | apply Kd.V_drew)); exact Kd.V_mono HO1.out (fun _ hk => ⟨hk.1.1, ⟨hk.2, ⟨hk.1.2.1, hk.1.2.2⟩⟩⟩)), (by (with_reducible repeat (first | apply Kd.R_alloc | apply Kd.R_drewN | apply Kd.R_drew)); exact Kd.R_mono HO1127.out (fun _ hk => hk.1)), (by (with_reducible repeat (first | apply Kd.V_alloc | apply Kd.V_drewN | apply Kd.V_drew)); exact Kd.V_mono HO2.out (fun _ hk => ⟨hk.1.1, ⟨hk.2, ⟨hk.1.2.1, hk.1.2.2⟩⟩⟩)), (by (with_reducible repeat (first | refine blk_drewN ?_ _ | refine blk_drew ?_ | refine blk_alloc ?_ _)); exact BK1120.out), (by (with_reducible repeat (first | refine blk_drewN ?_ _ | refine blk_drew ?_ | refine blk_alloc ?_ _)); exact BK1128.out), GW1128.out, GE1128.out, NB1120_1128.out, NB1128_1120.out, (by repeat (first | (with_reducible first | exact HB.out | apply below_alloc | apply pw_below_drewN | apply below_drew1 | refine below_set ?_ GE1120.out | refine below_set ?_ GE1128.out) | exact HB.out))⟩)
                · skip
                  rintro v1126 w12 ⟨h0_, h1_, h2_, h3_, h4_⟩
                  have n0_ : Aside0 (Kd.V (Kd.int .i64) 2 w12 w.heap.size (fun k_ => ((P1_ k_ ∨ P2_ k_) ∨ w.heap.size ≤ k_) ∧ some k_ ≠ (v1126 : Value).ownBlock ∧ k_ ≠ gb1120) (.slice A1 l1.length c1) l1) := ⟨h0_⟩
                  have n1_ : Aside0 (Kd.R (Kd.int .i64) 2 w12 w.heap.size (fun k_ => (w.heap.size ≤ k_)) v1126 y1125) := ⟨h1_⟩
                  have n2_ : Aside0 (Kd.V (Kd.int .i64) 2 w12 w.heap.size (fun k_ => ((P1_ k_ ∨ P2_ k_) ∨ w.heap.size ≤ k_) ∧ some k_ ≠ (v1126 : Value).ownBlock ∧ k_ ≠ gb1120) (.slice A2 l2.length c2) l2) := ⟨h2_⟩
                  have n3_ : Aside0 (w12.heap[gb1120]? = some (.cells #[.int .i64 0, .slice none 0 0, .slice none 0 0] 52 (0, 0))) := ⟨h3_⟩
                  have n4_ : Aside0 (Below w.heap.size w w12) := ⟨h4_⟩
                  clear HO1
                  clear HO2
                  clear BK1120
                  clear HB
                  clear h0_ h1_ h2_ h3_ h4_
                  have HO1 := n0_
                  have HO1127 := n1_
                  have HO2 := n2_
                  have BK1120 := n3_
                  have HB := n4_
                  clear n0_ n1_ n2_ n3_ n4_
                  have hHeld := trivial
                  refine norm_ (a' := ?_) ?_ ?_
                  rotate_left
                  · simp only [putAll, Act.put, List.setIfInBounds_toArray, List.set_cons_zero, List.set_cons_succ]
                    rfl
                  refine two_ (i := 2) (j := 6) (Ni := some 18) (Nj := some 11) #[true, true, true, true, true, false, false, false] #[true, true, false, true, true, false, true, false] rfl rfl rfl rfl (two_of HT_.out (by kernel_rfl)) (by decide) (by decide) (fun K hK => ?_) (fun K hK => ?_)
                  · skip
                    refine Kd.R_make_step (Kd.int .i64) _ 2 (by rfl) (N := 18) rfl 22 _ _ rfl t1121 rfl rfl Try.underlying22 (.int .i64 0) 8 info2 rfl (by decide) (by omega) 0 (ok := fun _ => True) (okp := fun _ => True) rfl (fun _ hk => hk) trivial (of_decide_eq_true (by first | (with_reducible assumption) | assumption)) (Nat.le_trans (Nat.mul_le_mul_right _ (of_decide_eq_true (by first | (with_reducible assumption) | assumption) : t1121.toNat ≤ 35184372088832)) (by omega)) (Below.refl _ _) (Nat.le_refl _) ?_
                    intro v1123 w13 ho14 hb hg_ hnew_
                    clear hg_ hnew_
                    (first | rw [← Ny1122.out] at ho14 | (simp only [Int.reduceToNat] at ho14; rw [← Ny1122.out] at ho14))
                    have n0_ := Aside0.mk (Kd.V_elder' (by (with_reducible repeat (first | apply Kd.V_alloc | apply Kd.V_drewN | apply Kd.V_drew)); exact HO1.out) (Kd.R_base ho14) hb)
                    have n1_ := Aside0.mk (Kd.V_elder' (by (with_reducible repeat (first | apply Kd.V_alloc | apply Kd.V_drewN | apply Kd.V_drew)); exact HO2.out) (Kd.R_base ho14) hb)
                    have n2_ := Aside0.mk (Kd.R_elder' (rs HO1127) (Kd.R_base ho14) hb)
                    have n3_ := Aside0.mk (Kd.R_lower (Kd.R_new' (Kd.R_newM (M := fun k_ => (w.heap.size ≤ k_)) ho14 (below_size (by repeat (first | (with_reducible first | exact HB.out | apply below_alloc | apply pw_below_drewN | apply below_drew1 | refine below_set ?_ GE1120.out) | exact HB.out))) (fun k_ h_ => h_)) (Kd.R_lt (rs HO1127))) (below_size (by repeat (first | (with_reducible first | exact HB.out | apply below_alloc | apply pw_below_drewN | apply below_drew1 | refine below_set ?_ GE1120.out) | exact HB.out))))
                    have n4_ := Aside0.mk (blk_below (g := gb1120) (o := .cells #[.int .i64 0, .slice none 0 0, .slice none 0 0] 52 (0, 0)) (by (with_reducible repeat (first | refine blk_drewN ?_ _ | refine blk_drew ?_ | refine blk_alloc ?_ _)); exact BK1120.out) hb)
                    have n5_ := Aside0.mk (below_step (by repeat (first | (with_reducible first | exact HB.out | apply below_alloc | apply pw_below_drewN | apply below_drew1 | refine below_set ?_ GE1120.out) | exact HB.out)) hb)
                    clear HO1
                    clear HO2
                    clear HO1127
                    clear BK1120
                    clear HB
                    have HO1 := n0_
                    have HO2 := n1_
                    have HO1127 := n2_
                    have HO1124 := n3_
                    have BK1120 := n4_
                    have HB := n5_
                    clear n0_ n1_ n2_ n3_ n4_ n5_
                    clear hb ho14
                    obtain ⟨Ao15, co15, eo15⟩ := Kd.R_slice HO1127.out
                    (first | subst eo15 | (injection eo15 with f1_ f2_ f3_; have f4_ := f1_.symm; have f5_ := f3_.symm; clear f1_ f2_ f3_; subst f4_; subst f5_))
                    obtain ⟨Ao16, co16, eo16⟩ := Kd.R_slice HO1124.out
                    (first | subst eo16 | (injection eo16 with f1_ f2_ f3_; have f4_ := f1_.symm; have f5_ := f3_.symm; clear f1_ f2_ f3_; subst f4_; subst f5_))
                    refine hK.out _ _ trivial (fun hHeld => ?_)
                    clear hK K
                    refine norm_ (a' := ?_) ?_ ?_
                    rotate_left
                    · show Act.put _ (some 18) _ = _
                      simp only [Act.put, List.setIfInBounds_toArray, List.set_cons_zero, List.set_cons_succ, i64_w, i32_w]
                      rfl
                    refine pure_ (i := 5) (N := some 21) (v := ?_) (a' := ?_) #[true, true, true, true, true, true, false, false] rfl rfl (any_of HT_.out (by kernel_rfl)) (fun _ _ _ h => h) (Or.inl ⟨by rfl, ?_⟩) ?_ ?_
                    rotate_left
                    · intro w'
                      go_simp
                      with_reducible rfl
                    rotate_left
                    · simp only [Act.put, List.setIfInBounds_toArray, List.set_cons_zero, List.set_cons_succ, i64_w, i32_w]
                      rfl
                    exact norm_ (by first | (simp only [putAll, Act.put, List.setIfInBounds_toArray, List.set_cons_zero, List.set_cons_succ]; done) | (simp only [putAll, Act.put, List.setIfInBounds_toArray, List.set_cons_zero, List.set_cons_succ]; rfl)) (hJ2_4 (.slice Ao16 y1122.length co16, .slice Ao15 y1125.length co15) _ ⟨(by (with_reducible repeat (first | apply Kd.V_alloc | apply Kd.V_drewN | apply Kd.V_drew)); exact Kd.V_mono HO1.out (fun _ hk => ⟨hk.1.1, ⟨hk.2, ⟨hk.1.2.1, hk.1.2.2⟩⟩⟩)), (by (with_reducible repeat (first | apply Kd.R_alloc | apply Kd.R_drewN | apply Kd.R_drew)); exact Kd.R_mono HO1124.out (fun _ hk => ⟨hk.1.1, hk.2⟩)), (rs HO1127), (by (with_reducible repeat (first | apply Kd.V_alloc | apply Kd.V_drewN | apply Kd.V_drew)); exact Kd.V_mono HO2.out (fun _ hk => ⟨hk.1.1, ⟨hk.2, ⟨hk.1.2.1, hk.1.2.2⟩⟩⟩)), (by (with_reducible repeat (first | refine blk_drewN ?_ _ | refine blk_drew ?_ | refine blk_alloc ?_ _)); exact BK1120.out), (by repeat (first | (with_reducible first | exact HB.out | apply below_alloc | apply pw_below_drewN | apply below_drew1 | refine below_set ?_ GE1120.out) | exact HB.out))⟩)
                  · skip
                    refine box_step ?hg (N := 11) ?hd (cs := #[.int .i64 0, .slice none 0 0, .slice none 0 0]) (t := 52) ?hr ?_; (case hd => rfl); (case hg => rfl); (case hr => first | (go_simp; done) | (go_simp; rfl))
                    intro gb1128 hg w13 hbox hb
                    have n0_ := Aside0.mk (Kd.V_below (Kd.V_elderB (by (with_reducible repeat (first | apply Kd.V_alloc | apply Kd.V_drewN | apply Kd.V_drew)); exact HO1.out) gb1128 (Nat.le_of_eq hg.symm)) hb)
                    have n1_ := Aside0.mk (Kd.V_below (Kd.V_elderB (by (with_reducible repeat (first | apply Kd.V_alloc | apply Kd.V_drewN | apply Kd.V_drew)); exact HO2.out) gb1128 (Nat.le_of_eq hg.symm)) hb)
                    have n2_ := Aside0.mk (Kd.R_below (rs HO1127) hb)
                    have n3_ := Aside0.mk (blk_below (g := gb1120) (o := .cells #[.int .i64 0, .slice none 0 0, .slice none 0 0] 52 (0, 0)) (by (with_reducible repeat (first | refine blk_drewN ?_ _ | refine blk_drew ?_ | refine blk_alloc ?_ _)); exact BK1120.out) hb)
                    have n4_ := Aside0.mk (below_step (by repeat (first | (with_reducible first | exact HB.out | apply below_alloc | apply pw_below_drewN | apply below_drew1 | refine below_set ?_ GE1120.out) | exact HB.out)) hb)
                    have n5_ := Aside0.mk (hbox)
                    have n6_ := Aside0.mk ((by rw [hg]; exact (below_size (by repeat (first | (with_reducible first | exact HB.out | apply below_alloc | apply pw_below_drewN | apply below_drew1 | refine below_set ?_ GE1120.out) | exact HB.out))) : w.heap.size ≤ gb1128))
                    have n7_ := Aside0.mk ((by rw [hg]; exact (below_size (by repeat (first | (with_reducible first | exact HB.out | apply below_alloc | apply pw_below_drewN | apply below_drew1 | refine below_set ?_ GE1120.out) | exact HB.out))) : w.heap.size ≤ gb1128))
                    have n8_ := Aside0.mk ((by rw [hg]; exact Nat.ne_of_lt (blk_lt (g := gb1120) (o := .cells #[.int .i64 0, .slice none 0 0, .slice none 0 0] 52 (0, 0)) (by (with_reducible repeat (first | refine blk_drewN ?_ _ | refine blk_drew ?_ | refine blk_alloc ?_ _)); exact BK1120.out)) : gb1120 ≠ gb1128))
                    have n9_ := Aside0.mk ((by rw [hg]; exact Nat.ne_of_gt (blk_lt (g := gb1120) (o := .cells #[.int .i64 0, .slice none 0 0, .slice none 0 0] 52 (0, 0)) (by (with_reducible repeat (first | refine blk_drewN ?_ _ | refine blk_drew ?_ | refine blk_alloc ?_ _)); exact BK1120.out)) : gb1128 ≠ gb1120))
                    clear HO1
                    clear HO2
                    clear HO1127
                    clear BK1120
                    clear HB
                    have HO1 := n0_
                    have HO2 := n1_
                    have HO1127 := n2_
                    have BK1120 := n3_
                    have HB := n4_
                    have BK1128 := n5_
                    have GW1128 := n6_
                    have GE1128 := n7_
                    have NB1120_1128 := n8_
                    have NB1128_1120 := n9_
                    clear n0_ n1_ n2_ n3_ n4_ n5_ n6_ n7_ n8_ n9_
                    clear hb hbox hg
                    refine hK.out _ _ trivial (fun hHeld => ?_)
                    clear hK K
                    refine norm_ (a' := ?_) ?_ ?_
                    rotate_left
                    · show Act.put _ (some 11) _ = _
                      simp only [Act.put, List.setIfInBounds_toArray, List.set_cons_zero, List.set_cons_succ, i64_w, i32_w]
                      rfl
                    exact norm_ (by first | (simp only [putAll, Act.put, List.setIfInBounds_toArray, List.set_cons_zero, List.set_cons_succ]; done) | (simp only [putAll, Act.put, List.setIfInBounds_toArray, List.set_cons_zero, List.set_cons_succ]; rfl)) (hJ4_6 (v1126, gb1128) _ ⟨(by (with_reducible repeat (first | apply Kd.V_alloc | apply Kd.V_drewN | apply Kd.V_drew)); exact Kd.V_mono HO1.out (fun _ hk => ⟨hk.1.1, ⟨hk.1.2.1, ⟨hk.1.2.2, hk.2⟩⟩⟩)), (rs HO1127), (by (with_reducible repeat (first | apply Kd.V_alloc | apply Kd.V_drewN | apply Kd.V_drew)); exact Kd.V_mono HO2.out (fun _ hk => ⟨hk.1.1, ⟨hk.1.2.1, ⟨hk.1.2.2, hk.2⟩⟩⟩)), (by (with_reducible repeat (first | refine blk_drewN ?_ _ | refine blk_drew ?_ | refine blk_alloc ?_ _)); exact BK1120.out), (by (with_reducible repeat (first | refine blk_drewN ?_ _ | refine blk_drew ?_ | refine blk_alloc ?_ _)); exact BK1128.out), GW1128.out, GE1128.out, NB1120_1128.out, NB1128_1120.out, (by repeat (first | (with_reducible first | exact HB.out | apply below_alloc | apply pw_below_drewN | apply below_drew1 | refine below_set ?_ GE1120.out | refine below_set ?_ GE1128.out) | exact HB.out))⟩)
              · skip
                rintro v1123 w12 ⟨h0_, h1_, h2_, h3_, h4_⟩
                have n0_ : Aside0 (Kd.V (Kd.int .i64) 2 w12 w.heap.size (fun k_ => ((P1_ k_ ∨ P2_ k_) ∨ w.heap.size ≤ k_) ∧ some k_ ≠ (v1123 : Value).ownBlock ∧ k_ ≠ gb1120) (.slice A1 l1.length c1) l1) := ⟨h0_⟩
                have n1_ : Aside0 (Kd.R (Kd.int .i64) 2 w12 w.heap.size (fun k_ => (w.heap.size ≤ k_)) v1123 y1122) := ⟨h1_⟩
                have n2_ : Aside0 (Kd.V (Kd.int .i64) 2 w12 w.heap.size (fun k_ => ((P1_ k_ ∨ P2_ k_) ∨ w.heap.size ≤ k_) ∧ some k_ ≠ (v1123 : Value).ownBlock ∧ k_ ≠ gb1120) (.slice A2 l2.length c2) l2) := ⟨h2_⟩
                have n3_ : Aside0 (w12.heap[gb1120]? = some (.cells #[.int .i64 0, .slice none 0 0, .slice none 0 0] 52 (0, 0))) := ⟨h3_⟩
                have n4_ : Aside0 (Below w.heap.size w w12) := ⟨h4_⟩
                clear HO1
                clear HO2
                clear BK1120
                clear HB
                clear h0_ h1_ h2_ h3_ h4_
                have HO1 := n0_
                have HO1124 := n1_
                have HO2 := n2_
                have BK1120 := n3_
                have HB := n4_
                clear n0_ n1_ n2_ n3_ n4_
                have hHeld := trivial
                refine norm_ (a' := ?_) ?_ ?_
                rotate_left
                · simp only [putAll, Act.put, List.setIfInBounds_toArray, List.set_cons_zero, List.set_cons_succ]
                  rfl
                refine two_ (i := 4) (j := 6) (Ni := some 20) (Nj := some 11) #[true, true, true, true, true, false, false, false] #[true, true, true, true, false, false, true, false] rfl rfl rfl rfl (two_of HT_.out (by kernel_rfl)) (by decide) (by decide) (fun K hK => ?_) (fun K hK => ?_)
                · skip
                  refine Kd.R_make_step (Kd.int .i64) _ 2 (by rfl) (N := 20) rfl 22 _ _ rfl t1121 rfl rfl Try.underlying22 (.int .i64 0) 8 info2 rfl (by decide) (by omega) 0 (ok := fun _ => True) (okp := fun _ => True) rfl (fun _ hk => hk) trivial (of_decide_eq_true (by first | (with_reducible assumption) | assumption)) (Nat.le_trans (Nat.mul_le_mul_right _ (of_decide_eq_true (by first | (with_reducible assumption) | assumption) : t1121.toNat ≤ 35184372088832)) (by omega)) (Below.refl _ _) (Nat.le_refl _) ?_
                  intro v1126 w13 ho14 hb hg_ hnew_
                  clear hg_ hnew_
                  (first | rw [← Ny1125.out] at ho14 | (simp only [Int.reduceToNat] at ho14; rw [← Ny1125.out] at ho14))
                  have n0_ := Aside0.mk (Kd.V_elder' (by (with_reducible repeat (first | apply Kd.V_alloc | apply Kd.V_drewN | apply Kd.V_drew)); exact HO1.out) (Kd.R_base ho14) hb)
                  have n1_ := Aside0.mk (Kd.V_elder' (by (with_reducible repeat (first | apply Kd.V_alloc | apply Kd.V_drewN | apply Kd.V_drew)); exact HO2.out) (Kd.R_base ho14) hb)
                  have n2_ := Aside0.mk (Kd.R_elder' (rs HO1124) (Kd.R_base ho14) hb)
                  have n3_ := Aside0.mk (Kd.R_lower (Kd.R_new' (Kd.R_newM (M := fun k_ => (w.heap.size ≤ k_)) ho14 (below_size (by repeat (first | (with_reducible first | exact HB.out | apply below_alloc | apply pw_below_drewN | apply below_drew1 | refine below_set ?_ GE1120.out) | exact HB.out))) (fun k_ h_ => h_)) (Kd.R_lt (rs HO1124))) (below_size (by repeat (first | (with_reducible first | exact HB.out | apply below_alloc | apply pw_below_drewN | apply below_drew1 | refine below_set ?_ GE1120.out) | exact HB.out))))
                  have n4_ := Aside0.mk (blk_below (g := gb1120) (o := .cells #[.int .i64 0, .slice none 0 0, .slice none 0 0] 52 (0, 0)) (by (with_reducible repeat (first | refine blk_drewN ?_ _ | refine blk_drew ?_ | refine blk_alloc ?_ _)); exact BK1120.out) hb)
                  have n5_ := Aside0.mk (below_step (by repeat (first | (with_reducible first | exact HB.out | apply below_alloc | apply pw_below_drewN | apply below_drew1 | refine below_set ?_ GE1120.out) | exact HB.out)) hb)
                  clear HO1
                  clear HO2
                  clear HO1124
                  clear BK1120
                  clear HB
                  have HO1 := n0_
                  have HO2 := n1_
                  have HO1124 := n2_
                  have HO1127 := n3_
                  have BK1120 := n4_
                  have HB := n5_
                  clear n0_ n1_ n2_ n3_ n4_ n5_
                  clear hb ho14
                  obtain ⟨Ao15, co15, eo15⟩ := Kd.R_slice HO1127.out
                  (first | subst eo15 | (injection eo15 with f1_ f2_ f3_; have f4_ := f1_.symm; have f5_ := f3_.symm; clear f1_ f2_ f3_; subst f4_; subst f5_))
                  obtain ⟨Ao16, co16, eo16⟩ := Kd.R_slice HO1124.out
                  (first | subst eo16 | (injection eo16 with f1_ f2_ f3_; have f4_ := f1_.symm; have f5_ := f3_.symm; clear f1_ f2_ f3_; subst f4_; subst f5_))
                  refine hK.out _ _ trivial (fun hHeld => ?_)
                  clear hK K
                  refine norm_ (a' := ?_) ?_ ?_
                  rotate_left
                  · show Act.put _ (some 20) _ = _
                    simp only [Act.put, List.setIfInBounds_toArray, List.set_cons_zero, List.set_cons_succ, i64_w, i32_w]
                    rfl
                  refine pure_ (i := 5) (N := some 21) (v := ?_) (a' := ?_) #[true, true, true, true, true, true, false, false] rfl rfl (any_of HT_.out (by kernel_rfl)) (fun _ _ _ h => h) (Or.inl ⟨by rfl, ?_⟩) ?_ ?_
                  rotate_left
                  · intro w'
                    go_simp
                    with_reducible rfl
                  rotate_left
                  · simp only [Act.put, List.setIfInBounds_toArray, List.set_cons_zero, List.set_cons_succ, i64_w, i32_w]
                    rfl
                  exact norm_ (by first | (simp only [putAll, Act.put, List.setIfInBounds_toArray, List.set_cons_zero, List.set_cons_succ]; done) | (simp only [putAll, Act.put, List.setIfInBounds_toArray, List.set_cons_zero, List.set_cons_succ]; rfl)) (hJ2_4 (.slice Ao16 y1122.length co16, .slice Ao15 y1125.length co15) _ ⟨(by (with_reducible repeat (first | apply Kd.V_alloc | apply Kd.V_drewN | apply Kd.V_drew)); exact Kd.V_mono HO1.out (fun _ hk => ⟨hk.1.1, ⟨hk.1.2.1, ⟨hk.2, hk.1.2.2⟩⟩⟩)), (rs HO1124), (by (with_reducible repeat (first | apply Kd.R_alloc | apply Kd.R_drewN | apply Kd.R_drew)); exact Kd.R_mono HO1127.out (fun _ hk => ⟨hk.1.1, hk.2⟩)), (by (with_reducible repeat (first | apply Kd.V_alloc | apply Kd.V_drewN | apply Kd.V_drew)); exact Kd.V_mono HO2.out (fun _ hk => ⟨hk.1.1, ⟨hk.1.2.1, ⟨hk.2, hk.1.2.2⟩⟩⟩)), (by (with_reducible repeat (first | refine blk_drewN ?_ _ | refine blk_drew ?_ | refine blk_alloc ?_ _)); exact BK1120.out), (by repeat (first | (with_reducible first | exact HB.out | apply below_alloc | apply pw_below_drewN | apply below_drew1 | refine below_set ?_ GE1120.out) | exact HB.out))⟩)
                · skip
                  refine box_step ?hg (N := 11) ?hd (cs := #[.int .i64 0, .slice none 0 0, .slice none 0 0]) (t := 52) ?hr ?_; (case hd => rfl); (case hg => rfl); (case hr => first | (go_simp; done) | (go_simp; rfl))
                  intro gb1128 hg w13 hbox hb
                  have n0_ := Aside0.mk (Kd.V_below (Kd.V_elderB (by (with_reducible repeat (first | apply Kd.V_alloc | apply Kd.V_drewN | apply Kd.V_drew)); exact HO1.out) gb1128 (Nat.le_of_eq hg.symm)) hb)
                  have n1_ := Aside0.mk (Kd.V_below (Kd.V_elderB (by (with_reducible repeat (first | apply Kd.V_alloc | apply Kd.V_drewN | apply Kd.V_drew)); exact HO2.out) gb1128 (Nat.le_of_eq hg.symm)) hb)
                  have n2_ := Aside0.mk (Kd.R_below (rs HO1124) hb)
                  have n3_ := Aside0.mk (blk_below (g := gb1120) (o := .cells #[.int .i64 0, .slice none 0 0, .slice none 0 0] 52 (0, 0)) (by (with_reducible repeat (first | refine blk_drewN ?_ _ | refine blk_drew ?_ | refine blk_alloc ?_ _)); exact BK1120.out) hb)
                  have n4_ := Aside0.mk (below_step (by repeat (first | (with_reducible first | exact HB.out | apply below_alloc | apply pw_below_drewN | apply below_drew1 | refine below_set ?_ GE1120.out) | exact HB.out)) hb)
                  have n5_ := Aside0.mk (hbox)
                  have n6_ := Aside0.mk ((by rw [hg]; exact (below_size (by repeat (first | (with_reducible first | exact HB.out | apply below_alloc | apply pw_below_drewN | apply below_drew1 | refine below_set ?_ GE1120.out) | exact HB.out))) : w.heap.size ≤ gb1128))
                  have n7_ := Aside0.mk ((by rw [hg]; exact (below_size (by repeat (first | (with_reducible first | exact HB.out | apply below_alloc | apply pw_below_drewN | apply below_drew1 | refine below_set ?_ GE1120.out) | exact HB.out))) : w.heap.size ≤ gb1128))
                  have n8_ := Aside0.mk ((by rw [hg]; exact Nat.ne_of_lt (blk_lt (g := gb1120) (o := .cells #[.int .i64 0, .slice none 0 0, .slice none 0 0] 52 (0, 0)) (by (with_reducible repeat (first | refine blk_drewN ?_ _ | refine blk_drew ?_ | refine blk_alloc ?_ _)); exact BK1120.out)) : gb1120 ≠ gb1128))
                  have n9_ := Aside0.mk ((by rw [hg]; exact Nat.ne_of_gt (blk_lt (g := gb1120) (o := .cells #[.int .i64 0, .slice none 0 0, .slice none 0 0] 52 (0, 0)) (by (with_reducible repeat (first | refine blk_drewN ?_ _ | refine blk_drew ?_ | refine blk_alloc ?_ _)); exact BK1120.out)) : gb1128 ≠ gb1120))
                  clear HO1
                  clear HO2
                  clear HO1124
                  clear BK1120
                  clear HB
                  have HO1 := n0_
                  have HO2 := n1_
                  have HO1124 := n2_
                  have BK1120 := n3_
                  have HB := n4_
                  have BK1128 := n5_
                  have GW1128 := n6_
                  have GE1128 := n7_
                  have NB1120_1128 := n8_
                  have NB1128_1120 := n9_
                  clear n0_ n1_ n2_ n3_ n4_ n5_ n6_ n7_ n8_ n9_
                  clear hb hbox hg
                  refine hK.out _ _ trivial (fun hHeld => ?_)
                  clear hK K
                  refine norm_ (a' := ?_) ?_ ?_
                  rotate_left
                  · show Act.put _ (some 11) _ = _
                    simp only [Act.put, List.setIfInBounds_toArray, List.set_cons_zero, List.set_cons_succ, i64_w, i32_w]
                    rfl
                  exact norm_ (by first | (simp only [putAll, Act.put, List.setIfInBounds_toArray, List.set_cons_zero, List.set_cons_succ]; done) | (simp only [putAll, Act.put, List.setIfInBounds_toArray, List.set_cons_zero, List.set_cons_succ]; rfl)) (hJ2_6 (v1123, gb1128) _ ⟨(by (with_reducible repeat (first | apply Kd.V_alloc | apply Kd.V_drewN | apply Kd.V_drew)); exact Kd.V_mono HO1.out (fun _ hk => ⟨hk.1.1, ⟨hk.1.2.1, ⟨hk.1.2.2, hk.2⟩⟩⟩)), (rs HO1124), (by (with_reducible repeat (first | apply Kd.V_alloc | apply Kd.V_drewN | apply Kd.V_drew)); exact Kd.V_mono HO2.out (fun _ hk => ⟨hk.1.1, ⟨hk.1.2.1, ⟨hk.1.2.2, hk.2⟩⟩⟩)), (by (with_reducible repeat (first | refine blk_drewN ?_ _ | refine blk_drew ?_ | refine blk_alloc ?_ _)); exact BK1120.out), (by (with_reducible repeat (first | refine blk_drewN ?_ _ | refine blk_drew ?_ | refine blk_alloc ?_ _)); exact BK1128.out), GW1128.out, GE1128.out, NB1120_1128.out, NB1128_1120.out, (by repeat (first | (with_reducible first | exact HB.out | apply below_alloc | apply pw_below_drewN | apply below_drew1 | refine below_set ?_ GE1120.out | refine below_set ?_ GE1128.out) | exact HB.out))⟩)
            · skip
              rintro ⟨v1126, gb1128⟩ w13 ⟨h0_, h1_, h2_, h3_, h4_, h5_, h6_, h7_, h8_, h9_⟩
              have n0_ : Aside0 (Kd.V (Kd.int .i64) 2 w13 w.heap.size (fun k_ => ((P1_ k_ ∨ P2_ k_) ∨ w.heap.size ≤ k_) ∧ some k_ ≠ (v1126 : Value).ownBlock ∧ k_ ≠ gb1120 ∧ k_ ≠ gb1128) (.slice A1 l1.length c1) l1) := ⟨h0_⟩
              have n1_ : Aside0 (Kd.R (Kd.int .i64) 2 w13 w.heap.size (fun k_ => (w.heap.size ≤ k_)) v1126 y1125) := ⟨h1_⟩
              have n2_ : Aside0 (Kd.V (Kd.int .i64) 2 w13 w.heap.size (fun k_ => ((P1_ k_ ∨ P2_ k_) ∨ w.heap.size ≤ k_) ∧ some k_ ≠ (v1126 : Value).ownBlock ∧ k_ ≠ gb1120 ∧ k_ ≠ gb1128) (.slice A2 l2.length c2) l2) := ⟨h2_⟩
              have n3_ : Aside0 (w13.heap[gb1120]? = some (.cells #[.int .i64 0, .slice none 0 0, .slice none 0 0] 52 (0, 0))) := ⟨h3_⟩
              have n4_ : Aside0 (w13.heap[gb1128]? = some (.cells #[.int .i64 0, .slice none 0 0, .slice none 0 0] 52 (0, 0))) := ⟨h4_⟩
              have n5_ : Aside0 (w.heap.size ≤ gb1128) := ⟨h5_⟩
              have n6_ : Aside0 (w.heap.size ≤ gb1128) := ⟨h6_⟩
              have n7_ : Aside0 (gb1120 ≠ gb1128) := ⟨h7_⟩
              have n8_ : Aside0 (gb1128 ≠ gb1120) := ⟨h8_⟩
              have n9_ : Aside0 (Below w.heap.size w w13) := ⟨h9_⟩
              clear HO1
              clear HO2
              clear BK1120
              clear HB
              clear h0_ h1_ h2_ h3_ h4_ h5_ h6_ h7_ h8_ h9_
              have HO1 := n0_
              have HO1127 := n1_
              have HO2 := n2_
              have BK1120 := n3_
              have BK1128 := n4_
              have GW1128 := n5_
              have GE1128 := n6_
              have NB1120_1128 := n7_
              have NB1128_1120 := n8_
              have HB := n9_
              clear n0_ n1_ n2_ n3_ n4_ n5_ n6_ n7_ n8_ n9_
              have hHeld := trivial
              refine norm_ (a' := ?_) ?_ ?_
              rotate_left
              · simp only [putAll, Act.put, List.setIfInBounds_toArray, List.set_cons_zero, List.set_cons_succ]
                rfl
              refine one_ (i := 2) (N := some 18) #[true, true, true, true, true, false, true, false] rfl rfl (one_of HT_.out (by kernel_rfl)) (by decide) (fun K hK => ?_)
              refine Kd.R_make_step (Kd.int .i64) _ 2 (by rfl) (N := 18) rfl 22 _ _ rfl t1121 rfl rfl Try.underlying22 (.int .i64 0) 8 info2 rfl (by decide) (by omega) 0 (ok := fun _ => True) (okp := fun _ => True) rfl (fun _ hk => hk) trivial (of_decide_eq_true (by first | (with_reducible assumption) | assumption)) (Nat.le_trans (Nat.mul_le_mul_right _ (of_decide_eq_true (by first | (with_reducible assumption) | assumption) : t1121.toNat ≤ 35184372088832)) (by omega)) (Below.refl _ _) (Nat.le_refl _) ?_
              intro v1123 w14 ho15 hb hg_ hnew_
              clear hg_ hnew_
              (first | rw [← Ny1122.out] at ho15 | (simp only [Int.reduceToNat] at ho15; rw [← Ny1122.out] at ho15))
              have n0_ := Aside0.mk (Kd.V_elder' (by (with_reducible repeat (first | apply Kd.V_alloc | apply Kd.V_drewN | apply Kd.V_drew)); exact HO1.out) (Kd.R_base ho15) hb)
              have n1_ := Aside0.mk (Kd.V_elder' (by (with_reducible repeat (first | apply Kd.V_alloc | apply Kd.V_drewN | apply Kd.V_drew)); exact HO2.out) (Kd.R_base ho15) hb)
              have n2_ := Aside0.mk (Kd.R_elder' (rs HO1127) (Kd.R_base ho15) hb)
              have n3_ := Aside0.mk (Kd.R_lower (Kd.R_new' (Kd.R_newM (M := fun k_ => (w.heap.size ≤ k_)) ho15 (below_size (by repeat (first | (with_reducible first | exact HB.out | apply below_alloc | apply pw_below_drewN | apply below_drew1 | refine below_set ?_ GE1120.out | refine below_set ?_ GE1128.out) | exact HB.out))) (fun k_ h_ => h_)) (Kd.R_lt (rs HO1127))) (below_size (by repeat (first | (with_reducible first | exact HB.out | apply below_alloc | apply pw_below_drewN | apply below_drew1 | refine below_set ?_ GE1120.out | refine below_set ?_ GE1128.out) | exact HB.out))))
              have n4_ := Aside0.mk (blk_below (g := gb1120) (o := .cells #[.int .i64 0, .slice none 0 0, .slice none 0 0] 52 (0, 0)) (by (with_reducible repeat (first | refine blk_drewN ?_ _ | refine blk_drew ?_ | refine blk_alloc ?_ _)); exact BK1120.out) hb)
              have n5_ := Aside0.mk (blk_below (g := gb1128) (o := .cells #[.int .i64 0, .slice none 0 0, .slice none 0 0] 52 (0, 0)) (by (with_reducible repeat (first | refine blk_drewN ?_ _ | refine blk_drew ?_ | refine blk_alloc ?_ _)); exact BK1128.out) hb)
              have n6_ := Aside0.mk (below_step (by repeat (first | (with_reducible first | exact HB.out | apply below_alloc | apply pw_below_drewN | apply below_drew1 | refine below_set ?_ GE1120.out | refine below_set ?_ GE1128.out) | exact HB.out)) hb)
              clear HO1
              clear HO2
              clear HO1127
              clear BK1120
              clear BK1128
              clear HB
              have HO1 := n0_
              have HO2 := n1_
              have HO1127 := n2_
              have HO1124 := n3_
              have BK1120 := n4_
              have BK1128 := n5_
              have HB := n6_
              clear n0_ n1_ n2_ n3_ n4_ n5_ n6_
              clear hb ho15
              obtain ⟨Ao16, co16, eo16⟩ := Kd.R_slice HO1127.out
              (first | subst eo16 | (injection eo16 with f1_ f2_ f3_; have f4_ := f1_.symm; have f5_ := f3_.symm; clear f1_ f2_ f3_; subst f4_; subst f5_))
              obtain ⟨Ao17, co17, eo17⟩ := Kd.R_slice HO1124.out
              (first | subst eo17 | (injection eo17 with f1_ f2_ f3_; have f4_ := f1_.symm; have f5_ := f3_.symm; clear f1_ f2_ f3_; subst f4_; subst f5_))
              refine hK.out _ _ trivial (fun hHeld => ?_)
              clear hK K
              refine norm_ (a' := ?_) ?_ ?_
              rotate_left
              · show Act.put _ (some 18) _ = _
                simp only [Act.put, List.setIfInBounds_toArray, List.set_cons_zero, List.set_cons_succ, i64_w, i32_w]
                rfl
              refine pure_ (i := 5) (N := some 21) (v := ?_) (a' := ?_) #[true, true, true, true, true, true, true, false] rfl rfl (any_of HT_.out (by kernel_rfl)) (fun _ _ _ h => h) (Or.inl ⟨by rfl, ?_⟩) ?_ ?_
              rotate_left
              · intro w'
                go_simp
                with_reducible rfl
              rotate_left
              · simp only [Act.put, List.setIfInBounds_toArray, List.set_cons_zero, List.set_cons_succ, i64_w, i32_w]
                rfl
              exact norm_ (by first | (simp only [putAll, Act.put, List.setIfInBounds_toArray, List.set_cons_zero, List.set_cons_succ]; done) | (simp only [putAll, Act.put, List.setIfInBounds_toArray, List.set_cons_zero, List.set_cons_succ]; rfl)) (hJ2_4_6 (.slice Ao17 y1122.length co17, .slice Ao16 y1125.length co16, gb1128) _ ⟨(by (with_reducible repeat (first | apply Kd.V_alloc | apply Kd.V_drewN | apply Kd.V_drew)); exact Kd.V_mono HO1.out (fun _ hk => ⟨hk.1.1, ⟨hk.2, ⟨hk.1.2.1, ⟨hk.1.2.2.1, hk.1.2.2.2⟩⟩⟩⟩)), (by (with_reducible repeat (first | apply Kd.R_alloc | apply Kd.R_drewN | apply Kd.R_drew)); exact Kd.R_mono HO1124.out (fun _ hk => ⟨hk.1.1, hk.2⟩)), (rs HO1127), (by (with_reducible repeat (first | apply Kd.V_alloc | apply Kd.V_drewN | apply Kd.V_drew)); exact Kd.V_mono HO2.out (fun _ hk => ⟨hk.1.1, ⟨hk.2, ⟨hk.1.2.1, ⟨hk.1.2.2.1, hk.1.2.2.2⟩⟩⟩⟩)), (by (with_reducible repeat (first | refine blk_drewN ?_ _ | refine blk_drew ?_ | refine blk_alloc ?_ _)); exact BK1120.out), (by (with_reducible repeat (first | refine blk_drewN ?_ _ | refine blk_drew ?_ | refine blk_alloc ?_ _)); exact BK1128.out), GW1128.out, GE1128.out, NB1120_1128.out, NB1128_1120.out, (by repeat (first | (with_reducible first | exact HB.out | apply below_alloc | apply pw_below_drewN | apply below_drew1 | refine below_set ?_ GE1120.out | refine below_set ?_ GE1128.out) | exact HB.out))⟩)
          · skip
            rintro ⟨v1123, gb1128⟩ w13 ⟨h0_, h1_, h2_, h3_, h4_, h5_, h6_, h7_, h8_, h9_⟩
            have n0_ : Aside0 (Kd.V (Kd.int .i64) 2 w13 w.heap.size (fun k_ => ((P1_ k_ ∨ P2_ k_) ∨ w.heap.size ≤ k_) ∧ some k_ ≠ (v1123 : Value).ownBlock ∧ k_ ≠ gb1120 ∧ k_ ≠ gb1128) (.slice A1 l1.length c1) l1) := ⟨h0_⟩
            have n1_ : Aside0 (Kd.R (Kd.int .i64) 2 w13 w.heap.size (fun k_ => (w.heap.size ≤ k_)) v1123 y1122) := ⟨h1_⟩
            have n2_ : Aside0 (Kd.V (Kd.int .i64) 2 w13 w.heap.size (fun k_ => ((P1_ k_ ∨ P2_ k_) ∨ w.heap.size ≤ k_) ∧ some k_ ≠ (v1123 : Value).ownBlock ∧ k_ ≠ gb1120 ∧ k_ ≠ gb1128) (.slice A2 l2.length c2) l2) := ⟨h2_⟩
            have n3_ : Aside0 (w13.heap[gb1120]? = some (.cells #[.int .i64 0, .slice none 0 0, .slice none 0 0] 52 (0, 0))) := ⟨h3_⟩
            have n4_ : Aside0 (w13.heap[gb1128]? = some (.cells #[.int .i64 0, .slice none 0 0, .slice none 0 0] 52 (0, 0))) := ⟨h4_⟩
            have n5_ : Aside0 (w.heap.size ≤ gb1128) := ⟨h5_⟩
            have n6_ : Aside0 (w.heap.size ≤ gb1128) := ⟨h6_⟩
            have n7_ : Aside0 (gb1120 ≠ gb1128) := ⟨h7_⟩
            have n8_ : Aside0 (gb1128 ≠ gb1120) := ⟨h8_⟩
            have n9_ : Aside0 (Below w.heap.size w w13) := ⟨h9_⟩
            clear HO1
            clear HO2
            clear BK1120
            clear HB
            clear h0_ h1_ h2_ h3_ h4_ h5_ h6_ h7_ h8_ h9_
            have HO1 := n0_
            have HO1124 := n1_
            have HO2 := n2_
            have BK1120 := n3_
            have BK1128 := n4_
            have GW1128 := n5_
            have GE1128 := n6_
            have NB1120_1128 := n7_
            have NB1128_1120 := n8_
            have HB := n9_
            clear n0_ n1_ n2_ n3_ n4_ n5_ n6_ n7_ n8_ n9_
            have hHeld := trivial
            refine norm_ (a' := ?_) ?_ ?_
            rotate_left
            · simp only [putAll, Act.put, List.setIfInBounds_toArray, List.set_cons_zero, List.set_cons_succ]
              rfl
            refine one_ (i := 4) (N := some 20) #[true, true, true, true, true, false, true, false] rfl rfl (one_of HT_.out (by kernel_rfl)) (by decide) (fun K hK => ?_)
            refine Kd.R_make_step (Kd.int .i64) _ 2 (by rfl) (N := 20) rfl 22 _ _ rfl t1121 rfl rfl Try.underlying22 (.int .i64 0) 8 info2 rfl (by decide) (by omega) 0 (ok := fun _ => True) (okp := fun _ => True) rfl (fun _ hk => hk) trivial (of_decide_eq_true (by first | (with_reducible assumption) | assumption)) (Nat.le_trans (Nat.mul_le_mul_right _ (of_decide_eq_true (by first | (with_reducible assumption) | assumption) : t1121.toNat ≤ 35184372088832)) (by omega)) (Below.refl _ _) (Nat.le_refl _) ?_
            intro v1126 w14 ho15 hb hg_ hnew_
            clear hg_ hnew_
            (first | rw [← Ny1125.out] at ho15 | (simp only [Int.reduceToNat] at ho15; rw [← Ny1125.out] at ho15))
            have n0_ := Aside0.mk (Kd.V_elder' (by (with_reducible repeat (first | apply Kd.V_alloc | apply Kd.V_drewN | apply Kd.V_drew)); exact HO1.out) (Kd.R_base ho15) hb)
            have n1_ := Aside0.mk (Kd.V_elder' (by (with_reducible repeat (first | apply Kd.V_alloc | apply Kd.V_drewN | apply Kd.V_drew)); exact HO2.out) (Kd.R_base ho15) hb)
            have n2_ := Aside0.mk (Kd.R_elder' (rs HO1124) (Kd.R_base ho15) hb)
            have n3_ := Aside0.mk (Kd.R_lower (Kd.R_new' (Kd.R_newM (M := fun k_ => (w.heap.size ≤ k_)) ho15 (below_size (by repeat (first | (with_reducible first | exact HB.out | apply below_alloc | apply pw_below_drewN | apply below_drew1 | refine below_set ?_ GE1120.out | refine below_set ?_ GE1128.out) | exact HB.out))) (fun k_ h_ => h_)) (Kd.R_lt (rs HO1124))) (below_size (by repeat (first | (with_reducible first | exact HB.out | apply below_alloc | apply pw_below_drewN | apply below_drew1 | refine below_set ?_ GE1120.out | refine below_set ?_ GE1128.out) | exact HB.out))))
            have n4_ := Aside0.mk (blk_below (g := gb1120) (o := .cells #[.int .i64 0, .slice none 0 0, .slice none 0 0] 52 (0, 0)) (by (with_reducible repeat (first | refine blk_drewN ?_ _ | refine blk_drew ?_ | refine blk_alloc ?_ _)); exact BK1120.out) hb)
            have n5_ := Aside0.mk (blk_below (g := gb1128) (o := .cells #[.int .i64 0, .slice none 0 0, .slice none 0 0] 52 (0, 0)) (by (with_reducible repeat (first | refine blk_drewN ?_ _ | refine blk_drew ?_ | refine blk_alloc ?_ _)); exact BK1128.out) hb)
            have n6_ := Aside0.mk (below_step (by repeat (first | (with_reducible first | exact HB.out | apply below_alloc | apply pw_below_drewN | apply below_drew1 | refine below_set ?_ GE1120.out | refine below_set ?_ GE1128.out) | exact HB.out)) hb)
            clear HO1
            clear HO2
            clear HO1124
            clear BK1120
            clear BK1128
            clear HB
            have HO1 := n0_
            have HO2 := n1_
            have HO1124 := n2_
            have HO1127 := n3_
            have BK1120 := n4_
            have BK1128 := n5_
            have HB := n6_
            clear n0_ n1_ n2_ n3_ n4_ n5_ n6_
            clear hb ho15
            obtain ⟨Ao16, co16, eo16⟩ := Kd.R_slice HO1127.out
            (first | subst eo16 | (injection eo16 with f1_ f2_ f3_; have f4_ := f1_.symm; have f5_ := f3_.symm; clear f1_ f2_ f3_; subst f4_; subst f5_))
            obtain ⟨Ao17, co17, eo17⟩ := Kd.R_slice HO1124.out
            (first | subst eo17 | (injection eo17 with f1_ f2_ f3_; have f4_ := f1_.symm; have f5_ := f3_.symm; clear f1_ f2_ f3_; subst f4_; subst f5_))
            refine hK.out _ _ trivial (fun hHeld => ?_)
            clear hK K
            refine norm_ (a' := ?_) ?_ ?_
            rotate_left
            · show Act.put _ (some 20) _ = _
              simp only [Act.put, List.setIfInBounds_toArray, List.set_cons_zero, List.set_cons_succ, i64_w, i32_w]
              rfl
            refine pure_ (i := 5) (N := some 21) (v := ?_) (a' := ?_) #[true, true, true, true, true, true, true, false] rfl rfl (any_of HT_.out (by kernel_rfl)) (fun _ _ _ h => h) (Or.inl ⟨by rfl, ?_⟩) ?_ ?_
            rotate_left
            · intro w'
              go_simp
              with_reducible rfl
            rotate_left
            · simp only [Act.put, List.setIfInBounds_toArray, List.set_cons_zero, List.set_cons_succ, i64_w, i32_w]
              rfl
            exact norm_ (by first | (simp only [putAll, Act.put, List.setIfInBounds_toArray, List.set_cons_zero, List.set_cons_succ]; done) | (simp only [putAll, Act.put, List.setIfInBounds_toArray, List.set_cons_zero, List.set_cons_succ]; rfl)) (hJ2_4_6 (.slice Ao17 y1122.length co17, .slice Ao16 y1125.length co16, gb1128) _ ⟨(by (with_reducible repeat (first | apply Kd.V_alloc | apply Kd.V_drewN | apply Kd.V_drew)); exact Kd.V_mono HO1.out (fun _ hk => ⟨hk.1.1, ⟨hk.1.2.1, ⟨hk.2, ⟨hk.1.2.2.1, hk.1.2.2.2⟩⟩⟩⟩)), (rs HO1124), (by (with_reducible repeat (first | apply Kd.R_alloc | apply Kd.R_drewN | apply Kd.R_drew)); exact Kd.R_mono HO1127.out (fun _ hk => ⟨hk.1.1, hk.2⟩)), (by (with_reducible repeat (first | apply Kd.V_alloc | apply Kd.V_drewN | apply Kd.V_drew)); exact Kd.V_mono HO2.out (fun _ hk => ⟨hk.1.1, ⟨hk.1.2.1, ⟨hk.2, ⟨hk.1.2.2.1, hk.1.2.2.2⟩⟩⟩⟩)), (by (with_reducible repeat (first | refine blk_drewN ?_ _ | refine blk_drew ?_ | refine blk_alloc ?_ _)); exact BK1120.out), (by (with_reducible repeat (first | refine blk_drewN ?_ _ | refine blk_drew ?_ | refine blk_alloc ?_ _)); exact BK1128.out), GW1128.out, GE1128.out, NB1120_1128.out, NB1128_1120.out, (by repeat (first | (with_reducible first | exact HB.out | apply below_alloc | apply pw_below_drewN | apply below_drew1 | refine below_set ?_ GE1120.out | refine below_set ?_ GE1128.out) | exact HB.out))⟩)
        · skip
          rintro ⟨v1123, v1126⟩ w16 ⟨h0_, h1_, h2_, h3_, h4_, h5_⟩
          have n0_ : Aside0 (Kd.V (Kd.int .i64) 2 w16 w.heap.size (fun k_ => ((P1_ k_ ∨ P2_ k_) ∨ w.heap.size ≤ k_) ∧ some k_ ≠ (v1123 : Value).ownBlock ∧ some k_ ≠ (v1126 : Value).ownBlock ∧ k_ ≠ gb1120) (.slice A1 l1.length c1) l1) := ⟨h0_⟩
          have n1_ : Aside0 (Kd.R (Kd.int .i64) 2 w16 w.heap.size (fun k_ => (w.heap.size ≤ k_) ∧ some k_ ≠ (v1126 : Value).ownBlock) v1123 y1122) := ⟨h1_⟩
          have n2_ : Aside0 (Kd.R (Kd.int .i64) 2 w16 w.heap.size (fun k_ => (w.heap.size ≤ k_) ∧ some k_ ≠ (v1123 : Value).ownBlock) v1126 y1125) := ⟨h2_⟩
          have n3_ : Aside0 (Kd.V (Kd.int .i64) 2 w16 w.heap.size (fun k_ => ((P1_ k_ ∨ P2_ k_) ∨ w.heap.size ≤ k_) ∧ some k_ ≠ (v1123 : Value).ownBlock ∧ some k_ ≠ (v1126 : Value).ownBlock ∧ k_ ≠ gb1120) (.slice A2 l2.length c2) l2) := ⟨h3_⟩
          have n4_ : Aside0 (w16.heap[gb1120]? = some (.cells #[.int .i64 0, .slice none 0 0, .slice none 0 0] 52 (0, 0))) := ⟨h4_⟩
          have n5_ : Aside0 (Below w.heap.size w w16) := ⟨h5_⟩
          clear HO1
          clear HO2
          clear BK1120
          clear HB
          clear h0_ h1_ h2_ h3_ h4_ h5_
          have HO1 := n0_
          have HO1124 := n1_
          have HO1127 := n2_
          have HO2 := n3_
          have BK1120 := n4_
          have HB := n5_
          clear n0_ n1_ n2_ n3_ n4_ n5_
          have hHeld := trivial
          obtain ⟨Ao17, co17, eo17⟩ := Kd.R_slice HO1127.out
          (first | subst eo17 | (injection eo17 with f1_ f2_ f3_; have f4_ := f1_.symm; have f5_ := f3_.symm; clear f1_ f2_ f3_; subst f4_; subst f5_))
          obtain ⟨Ao18, co18, eo18⟩ := Kd.R_slice HO1124.out
          (first | subst eo18 | (injection eo18 with f1_ f2_ f3_; have f4_ := f1_.symm; have f5_ := f3_.symm; clear f1_ f2_ f3_; subst f4_; subst f5_))
          refine norm_ (a' := ?_) ?_ ?_
          rotate_left
          · simp only [putAll, Act.put, List.setIfInBounds_toArray, List.set_cons_zero, List.set_cons_succ]
            rfl
          refine one_ (i := 6) (N := some 11) #[true, true, true, true, true, true, true, false] rfl rfl (one_of HT_.out (by kernel_rfl)) (by decide) (fun K hK => ?_)
          refine box_step ?hg (N := 11) ?hd (cs := #[.int .i64 0, .slice none 0 0, .slice none 0 0]) (t := 52) ?hr ?_; (case hd => rfl); (case hg => rfl); (case hr => first | (go_simp; done) | (go_simp; rfl))
          intro gb1128 hg w19 hbox hb
          have n0_ := Aside0.mk (Kd.V_below (Kd.V_elderB (by (with_reducible repeat (first | apply Kd.V_alloc | apply Kd.V_drewN | apply Kd.V_drew)); exact HO1.out) gb1128 (Nat.le_of_eq hg.symm)) hb)
          have n1_ := Aside0.mk (Kd.V_below (Kd.V_elderB (by (with_reducible repeat (first | apply Kd.V_alloc | apply Kd.V_drewN | apply Kd.V_drew)); exact HO2.out) gb1128 (Nat.le_of_eq hg.symm)) hb)
          have n2_ := Aside0.mk (Kd.R_below (rs HO1124) hb)
          have n3_ := Aside0.mk (Kd.R_below (rs HO1127) hb)
          have n4_ := Aside0.mk (blk_below (g := gb1120) (o := .cells #[.int .i64 0, .slice none 0 0, .slice none 0 0] 52 (0, 0)) (by (with_reducible repeat (first | refine blk_drewN ?_ _ | refine blk_drew ?_ | refine blk_alloc ?_ _)); exact BK1120.out) hb)
          have n5_ := Aside0.mk (below_step (by repeat (first | (with_reducible first | exact HB.out | apply below_alloc | apply pw_below_drewN | apply below_drew1 | refine below_set ?_ GE1120.out) | exact HB.out)) hb)
          have n6_ := Aside0.mk (hbox)
          have n7_ := Aside0.mk ((by rw [hg]; exact (below_size (by repeat (first | (with_reducible first | exact HB.out | apply below_alloc | apply pw_below_drewN | apply below_drew1 | refine below_set ?_ GE1120.out) | exact HB.out))) : w.heap.size ≤ gb1128))
          have n8_ := Aside0.mk ((by rw [hg]; exact (below_size (by repeat (first | (with_reducible first | exact HB.out | apply below_alloc | apply pw_below_drewN | apply below_drew1 | refine below_set ?_ GE1120.out) | exact HB.out))) : w.heap.size ≤ gb1128))
          have n9_ := Aside0.mk ((by rw [hg]; exact Nat.ne_of_lt (blk_lt (g := gb1120) (o := .cells #[.int .i64 0, .slice none 0 0, .slice none 0 0] 52 (0, 0)) (by (with_reducible repeat (first | refine blk_drewN ?_ _ | refine blk_drew ?_ | refine blk_alloc ?_ _)); exact BK1120.out)) : gb1120 ≠ gb1128))
          have n10_ := Aside0.mk ((by rw [hg]; exact Nat.ne_of_gt (blk_lt (g := gb1120) (o := .cells #[.int .i64 0, .slice none 0 0, .slice none 0 0] 52 (0, 0)) (by (with_reducible repeat (first | refine blk_drewN ?_ _ | refine blk_drew ?_ | refine blk_alloc ?_ _)); exact BK1120.out)) : gb1128 ≠ gb1120))
          clear HO1
          clear HO2
          clear HO1124
          clear HO1127
          clear BK1120
          clear HB
          have HO1 := n0_
          have HO2 := n1_
          have HO1124 := n2_
          have HO1127 := n3_
          have BK1120 := n4_
          have HB := n5_
          have BK1128 := n6_
          have GW1128 := n7_
          have GE1128 := n8_
          have NB1120_1128 := n9_
          have NB1128_1120 := n10_
          clear n0_ n1_ n2_ n3_ n4_ n5_ n6_ n7_ n8_ n9_ n10_
          clear hb hbox hg
          refine hK.out _ _ trivial (fun hHeld => ?_)
          clear hK K
          refine norm_ (a' := ?_) ?_ ?_
          rotate_left
          · show Act.put _ (some 11) _ = _
            simp only [Act.put, List.setIfInBounds_toArray, List.set_cons_zero, List.set_cons_succ, i64_w, i32_w]
            rfl
          exact norm_ (by first | (simp only [putAll, Act.put, List.setIfInBounds_toArray, List.set_cons_zero, List.set_cons_succ]; done) | (simp only [putAll, Act.put, List.setIfInBounds_toArray, List.set_cons_zero, List.set_cons_succ]; rfl)) (hJ2_4_6 (.slice Ao18 y1122.length co18, .slice Ao17 y1125.length co17, gb1128) _ ⟨(by (with_reducible repeat (first | apply Kd.V_alloc | apply Kd.V_drewN | apply Kd.V_drew)); exact Kd.V_mono HO1.out (fun _ hk => ⟨hk.1.1, ⟨hk.1.2.1, ⟨hk.1.2.2.1, ⟨hk.1.2.2.2, hk.2⟩⟩⟩⟩)), (rs HO1124), (rs HO1127), (by (with_reducible repeat (first | apply Kd.V_alloc | apply Kd.V_drewN | apply Kd.V_drew)); exact Kd.V_mono HO2.out (fun _ hk => ⟨hk.1.1, ⟨hk.1.2.1, ⟨hk.1.2.2.1, ⟨hk.1.2.2.2, hk.2⟩⟩⟩⟩)), (by (with_reducible repeat (first | refine blk_drewN ?_ _ | refine blk_drew ?_ | refine blk_alloc ?_ _)); exact BK1120.out), (by (with_reducible repeat (first | refine blk_drewN ?_ _ | refine blk_drew ?_ | refine blk_alloc ?_ _)); exact BK1128.out), GW1128.out, GE1128.out, NB1120_1128.out, NB1128_1120.out, (by repeat (first | (with_reducible first | exact HB.out | apply below_alloc | apply pw_below_drewN | apply below_drew1 | refine below_set ?_ GE1120.out | refine below_set ?_ GE1128.out) | exact HB.out))⟩)
      rintro ⟨v1123, v1126, gb1128⟩ w17 ⟨h0_, h1_, h2_, h3_, h4_, h5_, h6_, h7_, h8_, h9_, h10_⟩
      have n0_ : Aside0 (Kd.V (Kd.int .i64) 2 w17 w.heap.size (fun k_ => ((P1_ k_ ∨ P2_ k_) ∨ w.heap.size ≤ k_) ∧ some k_ ≠ (v1123 : Value).ownBlock ∧ some k_ ≠ (v1126 : Value).ownBlock ∧ k_ ≠ gb1120 ∧ k_ ≠ gb1128) (.slice A1 l1.length c1) l1) := ⟨h0_⟩
      have n1_ : Aside0 (Kd.R (Kd.int .i64) 2 w17 w.heap.size (fun k_ => (w.heap.size ≤ k_) ∧ some k_ ≠ (v1126 : Value).ownBlock) v1123 y1122) := ⟨h1_⟩
      have n2_ : Aside0 (Kd.R (Kd.int .i64) 2 w17 w.heap.size (fun k_ => (w.heap.size ≤ k_) ∧ some k_ ≠ (v1123 : Value).ownBlock) v1126 y1125) := ⟨h2_⟩
      have n3_ : Aside0 (Kd.V (Kd.int .i64) 2 w17 w.heap.size (fun k_ => ((P1_ k_ ∨ P2_ k_) ∨ w.heap.size ≤ k_) ∧ some k_ ≠ (v1123 : Value).ownBlock ∧ some k_ ≠ (v1126 : Value).ownBlock ∧ k_ ≠ gb1120 ∧ k_ ≠ gb1128) (.slice A2 l2.length c2) l2) := ⟨h3_⟩
      have n4_ : Aside0 (w17.heap[gb1120]? = some (.cells #[.int .i64 0, .slice none 0 0, .slice none 0 0] 52 (0, 0))) := ⟨h4_⟩
      have n5_ : Aside0 (w17.heap[gb1128]? = some (.cells #[.int .i64 0, .slice none 0 0, .slice none 0 0] 52 (0, 0))) := ⟨h5_⟩
      have n6_ : Aside0 (w.heap.size ≤ gb1128) := ⟨h6_⟩
      have n7_ : Aside0 (w.heap.size ≤ gb1128) := ⟨h7_⟩
      have n8_ : Aside0 (gb1120 ≠ gb1128) := ⟨h8_⟩
      have n9_ : Aside0 (gb1128 ≠ gb1120) := ⟨h9_⟩
      have n10_ : Aside0 (Below w.heap.size w w17) := ⟨h10_⟩
      clear HO1
      clear HO2
      clear BK1120
      clear HB
      clear h0_ h1_ h2_ h3_ h4_ h5_ h6_ h7_ h8_ h9_ h10_
      have HO1 := n0_
      have HO1124 := n1_
      have HO1127 := n2_
      have HO2 := n3_
      have BK1120 := n4_
      have BK1128 := n5_
      have GW1128 := n6_
      have GE1128 := n7_
      have NB1120_1128 := n8_
      have NB1128_1120 := n9_
      have HB := n10_
      clear n0_ n1_ n2_ n3_ n4_ n5_ n6_ n7_ n8_ n9_ n10_
      have hHeld := trivial
      obtain ⟨Ao18, co18, eo18⟩ := Kd.R_slice HO1127.out
      (first | subst eo18 | (injection eo18 with f1_ f2_ f3_; have f4_ := f1_.symm; have f5_ := f3_.symm; clear f1_ f2_ f3_; subst f4_; subst f5_))
      obtain ⟨Ao19, co19, eo19⟩ := Kd.R_slice HO1124.out
      (first | subst eo19 | (injection eo19 with f1_ f2_ f3_; have f4_ := f1_.symm; have f5_ := f3_.symm; clear f1_ f2_ f3_; subst f4_; subst f5_))
      refine norm_ (a' := ?_) ?_ ?_
      rotate_left
      · simp only [putAll, Act.put, List.setIfInBounds_toArray, List.set_cons_zero, List.set_cons_succ]
        rfl
      refine one_ (i := 7) (N := none) #[true, true, true, true, true, true, true, true] rfl rfl (one_of HT_.out (by kernel_rfl)) (by decide) (fun K hK => ?_)
      have hs20 : w17.cell? ⟨gb1128, 0, none⟩ = some (.int .i64 0) := (blk_cell BK1128.out 0).trans rfl
      have hfs20 := blk_frozen BK1128.out 0
      have hns20_0 := NB1120_1128.out
      have hms20_0 := NB1128_1120.out
      have hs21 : w17.cell? ⟨gb1128, 1, none⟩ = some (.slice none 0 0) := (blk_cell BK1128.out 1).trans rfl
      have hfs21 := blk_frozen BK1128.out 1
      have hns21_0 := NB1120_1128.out
      have hms21_0 := NB1128_1120.out
      have hs22 : w17.cell? ⟨gb1128, 2, none⟩ = some (.slice none 0 0) := (blk_cell BK1128.out 2).trans rfl
      have hfs22 := blk_frozen BK1128.out 2
      have hns22_0 := NB1120_1128.out
      have hms22_0 := NB1128_1120.out
      refine skip_ (w1 := ?_) (by rfl) rfl ?_ ?_
      rotate_left
      · go_simp
        rfl
      refine hK.out _ _ trivial (fun hHeld => ?_)
      clear hK K
      refine done_ (done_of HT_.out (by kernel_rfl)) ?_
      try go_wp2
      go_loopg [1, 2, 12] k (fun kq v1 v2 v12 w' => ∃ (x1_1 : List Int) (x2_1 : List Int) (x12_1 : Int) (x1121000_1 : Int) (x1129001_1 : List Int) (x1129002_1 : List Int) (u1129001 : Value) (u1129002 : Value), v12 = .int .i64 x12_1 ∧ Aside0 (impl_field_find.l0 kq a0 x1_1 x2_1 a3 x12_1 a0 x1129001_1 x1129002_1 = some (r1, r2, r3, r4)) ∧ Aside0 (kq ≤ k) ∧ Aside0 (Kd.V (Kd.int .i64) 2 w' w.heap.size (fun k_ => ((P1_ k_ ∨ P2_ k_) ∨ w.heap.size ≤ k_) ∧ some k_ ≠ (u1129001 : Value).ownBlock ∧ some k_ ≠ (u1129002 : Value).ownBlock ∧ k_ ≠ gb1120 ∧ k_ ≠ gb1128) v1 x1_1) ∧ Aside0 (Kd.V (Kd.int .i64) 2 w' w.heap.size (fun k_ => ((P1_ k_ ∨ P2_ k_) ∨ w.heap.size ≤ k_) ∧ some k_ ≠ (u1129001 : Value).ownBlock ∧ some k_ ≠ (u1129002 : Value).ownBlock ∧ k_ ≠ gb1120 ∧ k_ ≠ gb1128) v2 x2_1) ∧ Aside0 (Kd.R (Kd.int .i64) 2 w' w.heap.size (fun k_ => (w.heap.size ≤ k_) ∧ some k_ ≠ (u1129002 : Value).ownBlock) u1129001 x1129001_1) ∧ Aside0 (Kd.R (Kd.int .i64) 2 w' w.heap.size (fun k_ => (w.heap.size ≤ k_) ∧ some k_ ≠ (u1129001 : Value).ownBlock) u1129002 x1129002_1) ∧ Aside0 (w'.heap[gb1120]? = some (.cells #[.int .i64 x1121000_1, (.slice none 0 0), (.slice none 0 0)] 52 (0, 0))) ∧ Aside0 (w'.heap[gb1128]? = some (.cells #[.int .i64 a0, u1129001, u1129002] 52 (0, 0))) ∧ Aside0 (Below w.heap.size w w'))
      case atStart => exact ⟨(l1), (l2), (wrap64 (t1121 - 1)), (0), (y1122), (y1125), (.slice Ao19 y1122.length co19), (.slice Ao18 y1125.length co18), ea_, H', ⟨Nat.le_refl _⟩, ⟨by (with_reducible repeat (first | apply Kd.V_alloc | apply Kd.V_drewN | apply Kd.V_drew)); exact Kd.V_mono (Kd.V_far (p := ⟨gb1128, 2, none⟩) (Kd.V_far (p := ⟨gb1128, 1, none⟩) (Kd.V_far (p := ⟨gb1128, 0, none⟩) (Kd.V_mono HO1.out (fun k_ hk => (⟨hk, hk.2.2.2.2⟩ : _ ∧ k_ ≠ gb1128))) (fun _ hk => hk.2) (.int .i64 a0)) (fun _ hk => hk.2) (.slice Ao19 y1122.length co19)) (fun _ hk => hk.2) (.slice Ao18 y1125.length co18)) (fun _ hk => ⟨hk.1.1, ⟨hk.1.2.1, ⟨hk.1.2.2.1, ⟨hk.1.2.2.2.1, hk.1.2.2.2.2⟩⟩⟩⟩)⟩, ⟨by (with_reducible repeat (first | apply Kd.V_alloc | apply Kd.V_drewN | apply Kd.V_drew)); exact Kd.V_mono (Kd.V_far (p := ⟨gb1128, 2, none⟩) (Kd.V_far (p := ⟨gb1128, 1, none⟩) (Kd.V_far (p := ⟨gb1128, 0, none⟩) (Kd.V_mono HO2.out (fun k_ hk => (⟨hk, hk.2.2.2.2⟩ : _ ∧ k_ ≠ gb1128))) (fun _ hk => hk.2) (.int .i64 a0)) (fun _ hk => hk.2) (.slice Ao19 y1122.length co19)) (fun _ hk => hk.2) (.slice Ao18 y1125.length co18)) (fun _ hk => ⟨hk.1.1, ⟨hk.1.2.1, ⟨hk.1.2.2.1, ⟨hk.1.2.2.2.1, hk.1.2.2.2.2⟩⟩⟩⟩)⟩, ⟨by (with_reducible repeat (first | apply Kd.R_alloc | apply Kd.R_drewN | apply Kd.R_drew)); exact Kd.R_mono (Kd.R_far (p := ⟨gb1128, 2, none⟩) (Kd.R_far (p := ⟨gb1128, 1, none⟩) (Kd.R_far (p := ⟨gb1128, 0, none⟩) (Kd.R_types HO1124.out BK1128.out (by decide)) (fun _ hk => hk.2) (.int .i64 a0)) (fun _ hk => hk.2) (.slice Ao19 y1122.length co19)) (fun _ hk => hk.2) (.slice Ao18 y1125.length co18)) (fun _ hk => ⟨hk.1.1, hk.1.2⟩)⟩, ⟨by (with_reducible repeat (first | apply Kd.R_alloc | apply Kd.R_drewN | apply Kd.R_drew)); exact Kd.R_mono (Kd.R_far (p := ⟨gb1128, 2, none⟩) (Kd.R_far (p := ⟨gb1128, 1, none⟩) (Kd.R_far (p := ⟨gb1128, 0, none⟩) (Kd.R_types HO1127.out BK1128.out (by decide)) (fun _ hk => hk.2) (.int .i64 a0)) (fun _ hk => hk.2) (.slice Ao19 y1122.length co19)) (fun _ hk => hk.2) (.slice Ao18 y1125.length co18)) (fun _ hk => ⟨hk.1.1, hk.1.2⟩)⟩, ⟨by (with_reducible repeat (first | refine blk_drewN ?_ _ | refine blk_drew ?_ | refine blk_alloc ?_ _)); refine blk_far ?_ NB1120_1128.out _; (with_reducible repeat (first | refine blk_drewN ?_ _ | refine blk_drew ?_ | refine blk_alloc ?_ _)); refine blk_far ?_ NB1120_1128.out _; (with_reducible repeat (first | refine blk_drewN ?_ _ | refine blk_drew ?_ | refine blk_alloc ?_ _)); refine blk_far ?_ NB1120_1128.out _; (with_reducible repeat (first | refine blk_drewN ?_ _ | refine blk_drew ?_ | refine blk_alloc ?_ _)); exact BK1120.out⟩, ⟨by (with_reducible repeat (first | refine blk_drewN ?_ _ | refine blk_drew ?_ | refine blk_alloc ?_ _)); refine blk_put (cs := #[.int .i64 a0, .slice Ao19 y1122.length co19, .slice none 0 0]) ?_ 2 _ rfl; (with_reducible repeat (first | refine blk_drewN ?_ _ | refine blk_drew ?_ | refine blk_alloc ?_ _)); refine blk_put (cs := #[.int .i64 a0, .slice none 0 0, .slice none 0 0]) ?_ 1 _ rfl; (with_reducible repeat (first | refine blk_drewN ?_ _ | refine blk_drew ?_ | refine blk_alloc ?_ _)); refine blk_put (cs := #[.int .i64 0, .slice none 0 0, .slice none 0 0]) ?_ 0 _ rfl; (with_reducible repeat (first | refine blk_drewN ?_ _ | refine blk_drew ?_ | refine blk_alloc ?_ _)); exact BK1128.out⟩, ⟨by repeat (first | (with_reducible first | exact HB.out | apply below_alloc | apply pw_below_drewN | apply below_drew1 | refine below_set ?_ GE1120.out | refine below_set ?_ GE1128.out) | exact HB.out)⟩⟩
      case round =>
        clear H'
        try clear c1
        try clear c2
        try clear p2
        try clear p6
        obtain ⟨x1_1, x2_1, x12_1, x1121000_1, x1129001_1, x1129002_1, u1129001, u1129002, rfl, HA, HK1, HO_1, HO_2, HO_1129001, HO_1129002, BK1120, BK1128, HB⟩ := hrel
        cases gk with
        | zero => exact absurd HA.out (by simp [impl_field_find.l0])
        | succ k1 =>
          have H := HA.out
          clear HA
          simp only [impl_field_find.l0] at H
          by_cases c23 : x12_1 ≥ 0
          · rw [if_pos c23] at H
            have c23b0 : decide (0 ≤ x12_1) = true := decide_eq_true c23
            clear c23
            obtain ⟨y1129, hy1129⟩ : ∃ y_ : List Int, y_ = (([0, 1] : List Int)) := ⟨_, rfl⟩
            replace H : ((impl_field_product.f k1 a0 y1129 x2_1).bind fun t1132 => ((impl_field_mod.f a0 (-1)).bind fun t1135 => ((impl_field_add.f k1 a0 x1_1 t1132 t1135).bind fun t1136 => ((impl_length_int64.f t1136).bind fun t1139 => (if t1139 > x12_1 then (if 0 ≤ x12_1 then (if x12_1 < (t1136.length : Int) then ((impl_field_mod.f a0 (wrap64 (-(rd t1136 x12_1)))).bind fun t1141 => (if x12_1 < (x1129001_1.length : Int) then (impl_field_find.j1 k1 a0 x2_1 a3 x12_1 t1136 a0 (x1129001_1.set (x12_1 : Int).toNat t1141) x1129002_1) else (none))) else (none)) else (none)) else (impl_field_find.j1 k1 a0 x2_1 a3 x12_1 t1136 a0 x1129001_1 x1129002_1)))))) = some (r1, r2, r3, r4) := by first | (rw [hy1129]; with_reducible exact H) | (have H2_ := (Option.bind_some _ _).symm.trans H; rw [hy1129]; with_reducible exact H2_) | (have H2_ := (Option.bind_some _ _).symm.trans H; with_reducible exact H2_) | with_reducible exact H | (rw [hy1129]; exact H) | exact H
            have Ny1129 := Aside0.mk hy1129
            clear hy1129
            replace H := Option.bind_eq_some_iff.mp H
            obtain ⟨t1132, A240, H⟩ := H
            have A24 := Aside0.mk A240
            clear A240
            replace H := Option.bind_eq_some_iff.mp H
            obtain ⟨t1135, A250, H⟩ := H
            have A25 := Aside0.mk A250
            clear A250
            replace H := Option.bind_eq_some_iff.mp H
            obtain ⟨t1136, A260, H⟩ := H
            have A26 := Aside0.mk A260
            clear A260
            replace H := Option.bind_eq_some_iff.mp H
            obtain ⟨t1139, A270, H⟩ := H
            have A27 := Aside0.mk A270
            clear A270
            have HC28 := Aside0.mk H
            clear H
            go_upto_if 40 with (first | ((with_reducible refine gate_dst (N := 31) rfl ?_); refine Kd.R_lit (Kd.int .i64) _ 2 ?hg (N := 31) ?hd (xs := ([0, 1] : List Int)) (inner := [.int .i64 0, .int .i64 1]) (ok := fun _ => True) (okp := fun _ => True) ?hr ?hp (fun _ hk => hk) trivial (Below.refl _ _) (Nat.le_refl _) (by simp) ?_; (case hd => rfl); (case hg => rfl); (case hr => first | (go_simp; done) | (go_simp; rfl)); (case hp => exact (Reps.one (show Kd.M (Kd.int .i64) _ _ _ 0 [.int .i64 0] from rfl) (Reps.one (show Kd.M (Kd.int .i64) _ _ _ 1 [.int .i64 1] from rfl) (Reps.none _ _)))); intro v1130 w29 ho30 hb hg_ hnew_; clear hg_ hnew_; (first | rw [← Ny1129.out] at ho30 | (simp only [Int.reduceToNat] at ho30; rw [← Ny1129.out] at ho30)); have n0_ := Aside0.mk (Kd.V_elder' (by (with_reducible repeat (first | apply Kd.V_alloc | apply Kd.V_drewN | apply Kd.V_drew)); exact HO_1.out) (Kd.R_base ho30) hb); have n1_ := Aside0.mk (Kd.V_elder' (by (with_reducible repeat (first | apply Kd.V_alloc | apply Kd.V_drewN | apply Kd.V_drew)); exact HO_2.out) (Kd.R_base ho30) hb); have n2_ := Aside0.mk (Kd.R_elder' (rs HO_1129001) (Kd.R_base ho30) hb); have n3_ := Aside0.mk (Kd.R_elder' (rs HO_1129002) (Kd.R_base ho30) hb); have n4_ := Aside0.mk (Kd.R_lower (Kd.R_new' (Kd.R_new' (Kd.R_newM (M := fun k_ => (w.heap.size ≤ k_)) ho30 (below_size (by repeat (first | (with_reducible first | exact HB.out | apply below_alloc | apply pw_below_drewN | apply below_drew1 | refine below_set ?_ GE1120.out | refine below_set ?_ GE1128.out) | exact HB.out))) (fun k_ h_ => h_)) (Kd.R_lt (rs HO_1129001))) (Kd.R_lt (rs HO_1129002))) (below_size (by repeat (first | (with_reducible first | exact HB.out | apply below_alloc | apply pw_below_drewN | apply below_drew1 | refine below_set ?_ GE1120.out | refine below_set ?_ GE1128.out) | exact HB.out)))); have n5_ := Aside0.mk (blk_below (g := gb1120) (o := .cells #[.int .i64 x1121000_1, .slice none 0 0, .slice none 0 0] 52 (0, 0)) (by (with_reducible repeat (first | refine blk_drewN ?_ _ | refine blk_drew ?_ | refine blk_alloc ?_ _)); exact BK1120.out) hb); have n6_ := Aside0.mk (blk_below (g := gb1128) (o := .cells #[.int .i64 a0, u1129001, u1129002] 52 (0, 0)) (by (with_reducible repeat (first | refine blk_drewN ?_ _ | refine blk_drew ?_ | refine blk_alloc ?_ _)); exact BK1128.out) hb); have n7_ := Aside0.mk (below_step (by repeat (first | (with_reducible first | exact HB.out | apply below_alloc | apply pw_below_drewN | apply below_drew1 | refine below_set ?_ GE1120.out | refine below_set ?_ GE1128.out) | exact HB.out)) hb); clear HO_1; clear HO_2; clear HO_1129001; clear HO_1129002; clear BK1120; clear BK1128; clear HB; have HO_1 := n0_; have HO_2 := n1_; have HO_1129001 := n2_; have HO_1129002 := n3_; have HO1131 := n4_; have BK1120 := n5_; have BK1128 := n6_; have HB := n7_; clear n0_ n1_ n2_ n3_ n4_ n5_ n6_ n7_; clear hb ho30; obtain ⟨Ao31, co31, eo31⟩ := Kd.R_slice HO1131.out; subst eo31; obtain ⟨Ao32, co32, eo32⟩ := Kd.V_slice HO_2.out; subst eo32) | ((with_reducible refine gate_callee (f := 71) rfl ?_); refine goesM_ (some 33) rfl rfl Try.func71 #[.int .i64 a0, .slice Ao31 y1129.length co31, .slice Ao32 x2_1.length co32] rfl ?_; (with_reducible refine (impl_field_product.calls k1 a0 _ _ y1129 _ _ x2_1 t1132 _ ?side1 ?side2 ?side3 ?side4 A24.out).mono ?_); (case side1 => exact cs ((Kd.R_reads' HO1131.out).2.2)); (case side2 => exact (Kd.R_reads' HO1131.out).2.1); (case side3 => exact cs ((Kd.V_reads' HO_2.out).2.2)); (case side4 => exact (Kd.V_reads' HO_2.out).2.1); rintro e w33 ⟨v1133, rfl, ho0, hb⟩; refine ⟨_, rfl, ?_⟩; have n0_ := Aside0.mk (Kd.V_elder' (by (with_reducible repeat (first | apply Kd.V_alloc | apply Kd.V_drewN | apply Kd.V_drew)); exact HO_1.out) (Kd.R_base ho0) hb); have n1_ := Aside0.mk (Kd.V_elder' (by (with_reducible repeat (first | apply Kd.V_alloc | apply Kd.V_drewN | apply Kd.V_drew)); exact HO_2.out) (Kd.R_base ho0) hb); have n2_ := Aside0.mk (Kd.R_elder' (rs HO_1129001) (Kd.R_base ho0) hb); have n3_ := Aside0.mk (Kd.R_elder' (rs HO_1129002) (Kd.R_base ho0) hb); have n4_ := Aside0.mk (Kd.R_elder' (rs HO1131) (Kd.R_base ho0) hb); have n5_ := Aside0.mk (Kd.R_lower (Kd.R_new' (Kd.R_new' (Kd.R_new' (Kd.R_newM (M := fun k_ => (w.heap.size ≤ k_)) ho0 (below_size (by repeat (first | (with_reducible first | exact HB.out | apply below_alloc | apply pw_below_drewN | apply below_drew1 | refine below_set ?_ GE1120.out | refine below_set ?_ GE1128.out) | exact HB.out))) (fun k_ h_ => h_)) (Kd.R_lt (rs HO_1129001))) (Kd.R_lt (rs HO_1129002))) (Kd.R_lt (rs HO1131))) (below_size (by repeat (first | (with_reducible first | exact HB.out | apply below_alloc | apply pw_below_drewN | apply below_drew1 | refine below_set ?_ GE1120.out | refine below_set ?_ GE1128.out) | exact HB.out)))); have n6_ := Aside0.mk (blk_below (g := gb1120) (o := .cells #[.int .i64 x1121000_1, .slice none 0 0, .slice none 0 0] 52 (0, 0)) (by (with_reducible repeat (first | refine blk_drewN ?_ _ | refine blk_drew ?_ | refine blk_alloc ?_ _)); exact BK1120.out) hb); have n7_ := Aside0.mk (blk_below (g := gb1128) (o := .cells #[.int .i64 a0, u1129001, u1129002] 52 (0, 0)) (by (with_reducible repeat (first | refine blk_drewN ?_ _ | refine blk_drew ?_ | refine blk_alloc ?_ _)); exact BK1128.out) hb); have n8_ := Aside0.mk (below_step (by repeat (first | (with_reducible first | exact HB.out | apply below_alloc | apply pw_below_drewN | apply below_drew1 | refine below_set ?_ GE1120.out | refine below_set ?_ GE1128.out) | exact HB.out)) hb); clear HO_1; clear HO_2; clear HO_1129001; clear HO_1129002; clear HO1131; clear BK1120; clear BK1128; clear HB; have HO_1 := n0_; have HO_2 := n1_; have HO_1129001 := n2_; have HO_1129002 := n3_; have HO1131 := n4_; have HO1134 := n5_; have BK1120 := n6_; have BK1128 := n7_; have HB := n8_; clear n0_ n1_ n2_ n3_ n4_ n5_ n6_ n7_ n8_; (try clear hb); (try clear hb2); (try clear hk); (try clear hi); (try clear ho0)) | ((with_reducible refine gate_callee (f := 108) rfl ?_); refine goesM_ (some 35) rfl rfl Try.func108 #[.int .i64 a0, .int .i64 (-1)] rfl ?_; (with_reducible refine (impl_field_mod.calls a0 (-1) t1135 _ A25.out).mono ?_); rintro e w' ⟨rfl, ⟨nd, rfl⟩⟩; refine ⟨_, rfl, ?_⟩; obtain ⟨Ao34, co34, eo34⟩ := Kd.V_slice HO_1.out; subst eo34; obtain ⟨Ao35, co35, eo35⟩ := Kd.R_slice HO1134.out; subst eo35) | ((with_reducible refine gate_callee (f := 73) rfl ?_); refine goesM_ (some 36) rfl rfl Try.func73 #[.int .i64 a0, .slice Ao34 x1_1.length co34, .slice Ao35 t1132.length co35, .int .i64 t1135] rfl ?_; (with_reducible refine (impl_field_add.calls k1 a0 _ _ x1_1 _ _ t1132 t1135 t1136 _ ?side1 ?side2 ?side3 ?side4 A26.out).mono ?_); (case side1 => exact cs ((Kd.V_reads' HO_1.out).2.2)); (case side2 => exact (Kd.V_reads' HO_1.out).2.1); (case side3 => exact cs ((Kd.R_reads' HO1134.out).2.2)); (case side4 => exact (Kd.R_reads' HO1134.out).2.1); rintro e w36 ⟨v1137, rfl, ho0, hb⟩; refine ⟨_, rfl, ?_⟩; have n0_ := Aside0.mk (Kd.V_elder' (by (with_reducible repeat (first | apply Kd.V_alloc | apply Kd.V_drewN | apply Kd.V_drew)); exact HO_1.out) (Kd.R_base ho0) hb); have n1_ := Aside0.mk (Kd.V_elder' (by (with_reducible repeat (first | apply Kd.V_alloc | apply Kd.V_drewN | apply Kd.V_drew)); exact HO_2.out) (Kd.R_base ho0) hb); have n2_ := Aside0.mk (Kd.R_elder' (rs HO_1129001) (Kd.R_base ho0) hb); have n3_ := Aside0.mk (Kd.R_elder' (rs HO_1129002) (Kd.R_base ho0) hb); have n4_ := Aside0.mk (Kd.R_elder' (rs HO1131) (Kd.R_base ho0) hb); have n5_ := Aside0.mk (Kd.R_elder' (rs HO1134) (Kd.R_base ho0) hb); have n6_ := Aside0.mk (Kd.R_lower (Kd.R_new' (Kd.R_new' (Kd.R_new' (Kd.R_new' (Kd.R_newM (M := fun k_ => (w.heap.size ≤ k_)) ho0 (below_size (by repeat (first | (with_reducible first | exact HB.out | apply below_alloc | apply pw_below_drewN | apply below_drew1 | refine below_set ?_ GE1120.out | refine below_set ?_ GE1128.out) | exact HB.out))) (fun k_ h_ => h_)) (Kd.R_lt (rs HO_1129001))) (Kd.R_lt (rs HO_1129002))) (Kd.R_lt (rs HO1131))) (Kd.R_lt (rs HO1134))) (below_size (by repeat (first | (with_reducible first | exact HB.out | apply below_alloc | apply pw_below_drewN | apply below_drew1 | refine below_set ?_ GE1120.out | refine below_set ?_ GE1128.out) | exact HB.out)))); have n7_ := Aside0.mk (blk_below (g := gb1120) (o := .cells #[.int .i64 x1121000_1, .slice none 0 0, .slice none 0 0] 52 (0, 0)) (by (with_reducible repeat (first | refine blk_drewN ?_ _ | refine blk_drew ?_ | refine blk_alloc ?_ _)); exact BK1120.out) hb); have n8_ := Aside0.mk (blk_below (g := gb1128) (o := .cells #[.int .i64 a0, u1129001, u1129002] 52 (0, 0)) (by (with_reducible repeat (first | refine blk_drewN ?_ _ | refine blk_drew ?_ | refine blk_alloc ?_ _)); exact BK1128.out) hb); have n9_ := Aside0.mk (below_step (by repeat (first | (with_reducible first | exact HB.out | apply below_alloc | apply pw_below_drewN | apply below_drew1 | refine below_set ?_ GE1120.out | refine below_set ?_ GE1128.out) | exact HB.out)) hb); clear HO_1; clear HO_2; clear HO_1129001; clear HO_1129002; clear HO1131; clear HO1134; clear BK1120; clear BK1128; clear HB; have HO_1 := n0_; have HO_2 := n1_; have HO_1129001 := n2_; have HO_1129002 := n3_; have HO1131 := n4_; have HO1134 := n5_; have HO1138 := n6_; have BK1120 := n7_; have BK1128 := n8_; have HB := n9_; clear n0_ n1_ n2_ n3_ n4_ n5_ n6_ n7_ n8_ n9_; (try clear hb); (try clear hb2); (try clear hk); (try clear hi); (try clear ho0); obtain ⟨Ao37, co37, eo37⟩ := Kd.R_slice HO1138.out; subst eo37) | ((with_reducible refine gate_callee (f := 120) rfl ?_); refine goesM_ (some 38) rfl rfl Try.func120 #[.slice Ao37 t1136.length co37] rfl ?_; (with_reducible refine (impl_length_int64.calls _ _ t1136 t1139 _ ?side1 ?side2 A27.out).mono ?_); (case side1 => exact cs ((Kd.R_reads' HO1138.out).2.2)); (case side2 => exact (Kd.R_reads' HO1138.out).2.1); rintro e w' ⟨rfl, ⟨nd, rfl⟩⟩; refine ⟨_, rfl, ?_⟩))
            have m0_ := Aside0.mk (Kd.V_drewN HO_1.out nd)
            have m1_ := Aside0.mk (Kd.V_drewN HO_2.out nd)
            have m2_ := Aside0.mk (Kd.R_drewN HO_1129001.out nd)
            have m3_ := Aside0.mk (Kd.R_drewN HO_1129002.out nd)
            have m4_ := Aside0.mk (Kd.R_drewN HO1131.out nd)
            have m5_ := Aside0.mk (Kd.R_drewN HO1134.out nd)
            have m6_ := Aside0.mk (Kd.R_drewN HO1138.out nd)
            have m7_ := Aside0.mk (blk_drewN BK1120.out nd)
            have m8_ := Aside0.mk (blk_drewN BK1128.out nd)
            have m9_ := Aside0.mk (pw_below_drewN HB.out nd)
            clear HB BK1128 BK1120 HO1138 HO1134 HO1131 HO_1129002 HO_1129001 HO_2 HO_1
            have HO_1 := m0_
            have HO_2 := m1_
            have HO_1129001 := m2_
            have HO_1129002 := m3_
            have HO1131 := m4_
            have HO1134 := m5_
            have HO1138 := m6_
            have BK1120 := m7_
            have BK1128 := m8_
            have HB := m9_
            clear m0_ m1_ m2_ m3_ m4_ m5_ m6_ m7_ m8_ m9_
            generalize World.drewN w36 nd = w36 at HO_1 HO_2 HO_1129001 HO_1129002 HO1131 HO1134 HO1138 BK1120 BK1128 HB ⊢
            (try simp only [Act.put, List.setIfInBounds_toArray, List.set_cons_zero, List.set_cons_succ])
            go_cut [] (fun wc => ∃ (kq : Nat) (x2_27 : List Int) (x13_27 : List Int) (x1129001_27 : List Int) (x1129002_27 : List Int) (u1129001 : Value) (u1129002 : Value), Aside0 (impl_field_find.j1 kq a0 x2_27 a3 x12_1 x13_27 a0 x1129001_27 x1129002_27 = some (r1, r2, r3, r4)) ∧ Aside0 (kq ≤ k1) ∧ Aside0 (Kd.V (Kd.int .i64) 2 wc w.heap.size (fun k_ => ((P1_ k_ ∨ P2_ k_) ∨ w.heap.size ≤ k_) ∧ some k_ ≠ ((.slice Ao37 t1136.length co37) : Value).ownBlock ∧ some k_ ≠ (u1129001 : Value).ownBlock ∧ some k_ ≠ (u1129002 : Value).ownBlock ∧ k_ ≠ gb1120 ∧ k_ ≠ gb1128) (.slice Ao32 x2_1.length co32) x2_27) ∧ Aside0 (Kd.R (Kd.int .i64) 2 wc w.heap.size (fun k_ => (w.heap.size ≤ k_) ∧ some k_ ≠ (u1129001 : Value).ownBlock ∧ some k_ ≠ (u1129002 : Value).ownBlock) (.slice Ao37 t1136.length co37) x13_27) ∧ Aside0 (Kd.R (Kd.int .i64) 2 wc w.heap.size (fun k_ => (w.heap.size ≤ k_) ∧ some k_ ≠ ((.slice Ao37 t1136.length co37) : Value).ownBlock ∧ some k_ ≠ (u1129002 : Value).ownBlock) u1129001 x1129001_27) ∧ Aside0 (Kd.R (Kd.int .i64) 2 wc w.heap.size (fun k_ => (w.heap.size ≤ k_) ∧ some k_ ≠ ((.slice Ao37 t1136.length co37) : Value).ownBlock ∧ some k_ ≠ (u1129001 : Value).ownBlock) u1129002 x1129002_27) ∧ Aside0 (wc.heap[gb1120]? = some (.cells #[.int .i64 x1121000_1, (.slice none 0 0), (.slice none 0 0)] 52 (0, 0))) ∧ Aside0 (wc.heap[gb1128]? = some (.cells #[.int .i64 a0, u1129001, u1129002] 52 (0, 0))) ∧ Aside0 (Below w.heap.size w wc))
            case first =>
              have H := HC28.out
              clear HC28
              by_cases c38 : t1139 > x12_1
              · rw [if_pos c38] at H
                have c38b0 : decide (x12_1 < t1139) = true := decide_eq_true c38
                clear c38
                (first | rw [c38b0] | (simp only [i64_w, i32_w]; rw [c38b0]) | skip)
                by_cases c39 : 0 ≤ x12_1
                · rw [if_pos c39] at H
                  have c39b0 : decide (0 ≤ x12_1) = true := decide_eq_true c39
                  clear c39
                  by_cases c40 : x12_1 < (t1136.length : Int)
                  · rw [if_pos c40] at H
                    have c40b0 : decide (x12_1 < (t1136.length : Int)) = true := decide_eq_true c40
                    clear c40
                    replace H := Option.bind_eq_some_iff.mp H
                    obtain ⟨t1141, A410, H⟩ := H
                    have A41 := Aside0.mk A410
                    clear A410
                    by_cases c42 : x12_1 < (x1129001_1.length : Int)
                    · rw [if_pos c42] at H
                      have c42b0 : decide (x12_1 < (x1129001_1.length : Int)) = true := decide_eq_true c42
                      clear c42
                      obtain ⟨y1142, hy1142⟩ : ∃ y_ : List Int, y_ = (x1129001_1.set (x12_1 : Int).toNat t1141) := ⟨_, rfl⟩
                      replace H : (impl_field_find.j1 k1 a0 x2_1 a3 x12_1 t1136 a0 y1142 x1129002_1) = some (r1, r2, r3, r4) := by first | (rw [hy1142]; with_reducible exact H) | (have H2_ := (Option.bind_some _ _).symm.trans H; rw [hy1142]; with_reducible exact H2_) | (have H2_ := (Option.bind_some _ _).symm.trans H; with_reducible exact H2_) | with_reducible exact H | (rw [hy1142]; exact H) | exact H
                      have Ny1142 := Aside0.mk hy1142
                      clear hy1142
                      have H' := Aside0.mk H
                      clear H
                      try go_wp2
                      have n0_ := Aside0.mk (Kd.V_drew HO_1.out)
                      have n1_ := Aside0.mk (Kd.V_drew HO_2.out)
                      have n2_ := Aside0.mk (Kd.R_drew HO_1129001.out)
                      have n3_ := Aside0.mk (Kd.R_drew HO_1129002.out)
                      have n4_ := Aside0.mk (Kd.R_drew HO1131.out)
                      have n5_ := Aside0.mk (Kd.R_drew HO1134.out)
                      have n6_ := Aside0.mk (Kd.R_drew HO1138.out)
                      have n7_ := Aside0.mk (blk_drew BK1120.out)
                      have n8_ := Aside0.mk (blk_drew BK1128.out)
                      have n9_ := Aside0.mk (below_drew1 HB.out)
                      clear HO_1
                      clear HO_2
                      clear HO_1129001
                      clear HO_1129002
                      clear HO1131
                      clear HO1134
                      clear HO1138
                      clear BK1120
                      clear BK1128
                      clear HB
                      have HO_1 := n0_
                      have HO_2 := n1_
                      have HO_1129001 := n2_
                      have HO_1129002 := n3_
                      have HO1131 := n4_
                      have HO1134 := n5_
                      have HO1138 := n6_
                      have BK1120 := n7_
                      have BK1128 := n8_
                      have HB := n9_
                      clear n0_ n1_ n2_ n3_ n4_ n5_ n6_ n7_ n8_ n9_
                      have p1140 : 0 ≤ (x12_1 : Int) := of_decide_eq_true (by first | (with_reducible assumption) | assumption)
                      have q1140 : x12_1 < (t1136.length : Int) := of_decide_eq_true (by first | (with_reducible assumption) | assumption)
                      obtain ⟨ad1140, e1140, hx1140_0⟩ := Kd.at_int (Kd.R_reads' HO1138.out).2.2 x12_1 p1140 q1140
                      cases e1140
                      replace p1140 := eq_true p1140
                      replace q1140 := eq_true q1140
                      refine start_ (n := 12) (S := fun w' => w'.cell? ⟨gb1128, 0, none⟩ = some (.int .i64 a0) ∧ w'.cell? ⟨gb1128, 1, none⟩ = some (u1129001) ∧ w'.cell? ⟨gb1128, 2, none⟩ = some (u1129002) ∧ w'.cell? (ad1140.add (x12_1).toNat) = some (.int .i64 (rd t1136 x12_1))) (ds := [11]) #[false, false, false, false, false, false, false, false, false, false, false, false] (by kernel_rfl) rfl rfl ⟨(blk_cell BK1128.out 0).trans rfl, (blk_cell BK1128.out 1).trans rfl, (blk_cell BK1128.out 2).trans rfl, hx1140_0⟩ (fun hHeld => ?_); refine with_tabW impl_field_find.tab8 impl_field_find.bits8 (fun HT_ HW_ => ?_)
                      generalize w36.drew = w44 at HO_1 HO_2 HO_1129001 HO_1129002 HO1131 HO1134 HO1138 BK1120 BK1128 HB hx1140_0 hHeld ⊢
                      refine pure_ (i := 0) (N := some 41) (v := ?_) (a' := ?_) #[true, false, false, false, false, false, false, false, false, false, false, false] rfl rfl (any_of HT_.out (by kernel_rfl)) (fun _ _ _ h => h) (Or.inl ⟨by rfl, ?_⟩) ?_ ?_
                      rotate_left
                      · intro w'
                        go_simp
                        with_reducible rfl
                      rotate_left
                      · simp only [Act.put, List.setIfInBounds_toArray, List.set_cons_zero, List.set_cons_succ, i64_w, i32_w]
                        rfl
                      refine pure_ (i := 2) (N := some 43) (v := ?_) (a' := ?_) #[true, false, true, false, false, false, false, false, false, false, false, false] rfl rfl (any_of HT_.out (by kernel_rfl)) (fun _ _ _ h => h) (Or.inl ⟨by rfl, ?_⟩) ?_ ?_
                      rotate_left
                      · intro w'
                        go_simp
                        with_reducible rfl
                      rotate_left
                      · simp only [Act.put, List.setIfInBounds_toArray, List.set_cons_zero, List.set_cons_succ, i64_w, i32_w]
                        rfl
                      refine pure_ (i := 3) (N := some 44) (v := ?_) (a' := ?_) #[true, false, true, true, false, false, false, false, false, false, false, false] rfl rfl (any_of HT_.out (by kernel_rfl)) (fun _ _ _ h => h) (Or.inl ⟨by rfl, ?_⟩) ?_ ?_
                      rotate_left
                      · intro w'
                        go_simp
                        with_reducible rfl
                      rotate_left
                      · simp only [Act.put, List.setIfInBounds_toArray, List.set_cons_zero, List.set_cons_succ, i64_w, i32_w]
                        rfl
                      refine pure_ (i := 4) (N := some 45) (v := ?_) (a' := ?_) #[true, false, true, true, true, false, false, false, false, false, false, false] rfl rfl (any_of HT_.out (by kernel_rfl)) (fun _ _ _ h => h) (Or.inl ⟨by rfl, ?_⟩) ?_ ?_
                      rotate_left
                      · intro w'
                        go_simp
                        with_reducible rfl
                      rotate_left
                      · simp only [Act.put, List.setIfInBounds_toArray, List.set_cons_zero, List.set_cons_succ, i64_w, i32_w]
                        rfl
                      refine pure_ (i := 5) (N := some 46) (v := ?_) (a' := ?_) #[true, false, true, true, true, true, false, false, false, false, false, false] rfl rfl (any_of HT_.out (by kernel_rfl)) (fun _ _ _ h => h) (Or.inl ⟨by rfl, ?_⟩) ?_ ?_
                      rotate_left
                      · intro w'
                        go_simp
                        with_reducible rfl
                      rotate_left
                      · simp only [Act.put, List.setIfInBounds_toArray, List.set_cons_zero, List.set_cons_succ, i64_w, i32_w]
                        rfl
                      refine pure_ (i := 6) (N := some 47) (v := ?_) (a' := ?_) #[true, false, true, true, true, true, true, false, false, false, false, false] rfl rfl (any_of HT_.out (by kernel_rfl)) (fun _ _ _ h => h) (Or.inl ⟨by rfl, ?_⟩) ?_ ?_
                      rotate_left
                      · intro w'
                        go_simp
                        with_reducible rfl
                      rotate_left
                      · simp only [Act.put, List.setIfInBounds_toArray, List.set_cons_zero, List.set_cons_succ, i64_w, i32_w]
                        rfl
                      refine take_ (i := 1) (N := some 42) (v := ?_) (a' := ?_) #[true, true, true, true, true, true, true, false, false, false, false, false] rfl rfl (take_ofW HT_.out HW_.out (by kernel_rfl)) (fun _ _ _ h => h) (Or.inl ⟨by rfl, ?_⟩) hHeld ?_ ?_
                      rotate_left
                      · rintro w' ⟨s0, s1, s2, s3⟩
                        go_simp
                        with_reducible rfl
                      rotate_left
                      · simp only [Act.put, List.setIfInBounds_toArray, List.set_cons_zero, List.set_cons_succ, i64_w, i32_w]
                        rfl
                      refine take_ (i := 7) (N := some 48) (v := ?_) (a' := ?_) #[true, true, true, true, true, true, true, true, false, false, false, false] rfl rfl (take_ofW HT_.out HW_.out (by kernel_rfl)) (fun _ _ _ h => h) (Or.inl ⟨by rfl, ?_⟩) hHeld ?_ ?_
                      rotate_left
                      · rintro w' ⟨s0, s1, s2, s3⟩
                        go_simp
                        with_reducible rfl
                      rotate_left
                      · simp only [Act.put, List.setIfInBounds_toArray, List.set_cons_zero, List.set_cons_succ, i64_w, i32_w]
                        rfl
                      refine pure_ (i := 8) (N := some 49) (v := ?_) (a' := ?_) #[true, true, true, true, true, true, true, true, true, false, false, false] rfl rfl (any_of HT_.out (by kernel_rfl)) (fun _ _ _ h => h) (Or.inl ⟨by rfl, ?_⟩) ?_ ?_
                      rotate_left
                      · intro w'
                        go_simp
                        with_reducible rfl
                      rotate_left
                      · simp only [Act.put, List.setIfInBounds_toArray, List.set_cons_zero, List.set_cons_succ, i64_w, i32_w]
                        rfl
                      refine one_ (i := 9) (N := some 50) #[true, true, true, true, true, true, true, true, true, true, false, false] rfl rfl (one_of HT_.out (by kernel_rfl)) (by decide) (fun K hK => ?_)
                      refine goes_ Try.func108 (by kernel_rfl) rfl #[.int .i64 a0, .int .i64 (wrap64 (-(rd t1136 x12_1)))] (by rfl) rfl rfl (by (try simp only [List.map_toArray, List.map_cons, List.map_nil]); first | done | rfl | (simp only [List.length_drop, List.length_take]; rfl)) ?_
                      with_reducible refine (impl_field_mod.calls a0 (wrap64 (-(rd t1136 x12_1))) t1141 _ A41.out).mono ?_
                      rintro e w' ⟨rfl, ⟨nd, rfl⟩⟩
                      refine ⟨_, rfl, ?_⟩
                      have p43 : 0 ≤ (x12_1 : Int) := of_decide_eq_true (by first | (with_reducible assumption) | assumption)
                      have q43 : (x12_1 : Int) < ((x1129001_1.length : Int) : Int) := of_decide_eq_true (by first | (with_reducible assumption) | assumption)
                      obtain ⟨go43, co43, eo43, gb43, gl43, cl43, HG43⟩ := Kd.R_form HO_1129001.out (by omega)
                      (first | cases eo43 | (injection eo43 with ea_ en_ ec_; (first | subst ea_ | (injection ea_ with ea_; subst ea_)); subst ec_; clear en_))
                      have GB43 := Aside0.mk gb43
                      have GG43 := Aside0.mk HG43
                      clear gb43 gl43 HG43
                      obtain ⟨hx43_0, hf43_0⟩ := Kd.R_celln 0 HO_1129001.out (x12_1 : Int) p43 q43
                      replace p43 := eq_true p43
                      replace q43 := eq_true q43
                      have HP45 := Kd.R_putn HO_1129001.out (x12_1 : Int) t1141
                      rw [← Ny1142.out] at HP45
                      have HQ45 := Aside0.mk HP45
                      clear HP45
                      refine hK.out _ _ ⟨(blk_cell BK1128.out 0).trans rfl, (blk_cell BK1128.out 1).trans rfl, (blk_cell BK1128.out 2).trans rfl, hHeld.2.2.2⟩ (fun hHeld => ?_)
                      clear hK K
                      refine norm_ (a' := ?_) ?_ ?_
                      rotate_left
                      · show Act.put _ (some 50) _ = _
                        simp only [Act.put, List.setIfInBounds_toArray, List.set_cons_zero, List.set_cons_succ, i64_w, i32_w]
                        rfl
                      refine pure_ (i := 10) (N := some 51) (v := ?_) (a' := ?_) #[true, true, true, true, true, true, true, true, true, true, true, false] rfl rfl (any_of HT_.out (by kernel_rfl)) (fun _ _ _ h => h) (Or.inl ⟨by rfl, ?_⟩) ?_ ?_
                      rotate_left
                      · intro w'
                        go_simp
                        with_reducible rfl
                      rotate_left
                      · simp only [Act.put, List.setIfInBounds_toArray, List.set_cons_zero, List.set_cons_succ, i64_w, i32_w]
                        rfl
                      refine last_ (i := 11) (N := none) #[true, true, true, true, true, true, true, true, true, true, true, true] rfl rfl (one_of HT_.out (by kernel_rfl)) (by decide) (fun K hK => ?_)
                      refine skip_ (w1 := ?_) (by rfl) rfl ?_ ?_
                      rotate_left
                      · go_simp
                        rfl
                      refine hK.out _ _ ?_
                      clear hK K
                      refine done_ (done_of HT_.out (by kernel_rfl)) ?_
                      try go_wp2
                      go_meet
                      case rel => exact ⟨_, (x2_1), (t1136), (y1142), (x1129002_1), (.slice (some ⟨go43, 0, none⟩) x1129001_1.length co43), (u1129002), H', ⟨by have := HK1.out; first | omega | exact Nat.le_refl _⟩, ⟨by (with_reducible repeat (first | apply Kd.V_alloc | apply Kd.V_drewN | apply Kd.V_drew)); exact Kd.V_mono (Kd.V_far (p := ⟨go43, (x12_1 : Int).toNat, none⟩) (Kd.V_mono HO_2.out (fun k_ hk => (⟨hk, fun e_ => hk.1.1.1.2.1 (by rw [e_]; rfl)⟩ : _ ∧ k_ ≠ go43))) (fun _ hk => hk.2) (.int .i64 t1141)) (fun _ hk => ⟨hk.1.1.1.1.1, ⟨hk.1.2, ⟨hk.1.1.1.1.2.1, ⟨hk.1.1.1.1.2.2.1, ⟨hk.1.1.1.1.2.2.2.1, hk.1.1.1.1.2.2.2.2⟩⟩⟩⟩⟩)⟩, ⟨by (with_reducible repeat (first | apply Kd.R_alloc | apply Kd.R_drewN | apply Kd.R_drew)); exact Kd.R_mono (Kd.R_far (p := ⟨go43, (x12_1 : Int).toNat, none⟩) (Kd.R_mono HO1138.out (fun k_ hk => (⟨hk, fun e_ => hk.1.1.1.2 (by rw [e_]; rfl)⟩ : _ ∧ k_ ≠ go43))) (fun _ hk => hk.2) (.int .i64 t1141)) (fun _ hk => ⟨hk.1.1.1.1.1.1, ⟨hk.1.1.1.1.2, hk.1.1.1.2⟩⟩)⟩, ⟨by (with_reducible repeat (first | apply Kd.R_alloc | apply Kd.R_drewN | apply Kd.R_drew)); exact Kd.R_mono HQ45.out (fun _ hk => ⟨hk.1.1.1.1, ⟨hk.2, hk.1.1.1.2⟩⟩)⟩, ⟨by (with_reducible repeat (first | apply Kd.R_alloc | apply Kd.R_drewN | apply Kd.R_drew)); exact Kd.R_mono (Kd.R_far (p := ⟨go43, (x12_1 : Int).toNat, none⟩) (Kd.R_mono HO_1129002.out (fun k_ hk => (⟨hk, fun e_ => hk.1.1.1.2 (by rw [e_]; rfl)⟩ : _ ∧ k_ ≠ go43))) (fun _ hk => hk.2) (.int .i64 t1141)) (fun _ hk => ⟨hk.1.1.1.1.1, ⟨hk.1.2, hk.1.1.1.1.2⟩⟩)⟩, ⟨by (with_reducible repeat (first | refine blk_drewN ?_ _ | refine blk_drew ?_ | refine blk_alloc ?_ _)); refine blk_far ?_ (by have h_ := Kd.R_ne HO_1129001.out BK1120.out (by decide); intro e_; exact h_ (by rw [e_]; rfl)) _; (with_reducible repeat (first | refine blk_drewN ?_ _ | refine blk_drew ?_ | refine blk_alloc ?_ _)); exact BK1120.out⟩, ⟨by (with_reducible repeat (first | refine blk_drewN ?_ _ | refine blk_drew ?_ | refine blk_alloc ?_ _)); refine blk_far ?_ (by have h_ := Kd.R_ne HO_1129001.out BK1128.out (by decide); intro e_; exact h_ (by rw [e_]; rfl)) _; (with_reducible repeat (first | refine blk_drewN ?_ _ | refine blk_drew ?_ | refine blk_alloc ?_ _)); exact BK1128.out⟩, ⟨by repeat (first | (with_reducible first | exact HB.out | apply below_alloc | apply pw_below_drewN | apply below_drew1 | refine below_set ?_ GB43.out | refine below_set ?_ GE1120.out | refine below_set ?_ GE1128.out) | exact HB.out)⟩⟩
                    · rw [if_neg c42] at H
                      exact absurd H (by simp)
                  · rw [if_neg c40] at H
                    exact absurd H (by simp)
                · rw [if_neg c39] at H
                  exact absurd H (by simp)
              · rw [if_neg c38] at H
                have c38b0 : decide (x12_1 < t1139) = false := decide_eq_false c38
                clear c38
                (first | rw [c38b0] | (simp only [i64_w, i32_w]; rw [c38b0]) | skip)
                have H' := Aside0.mk H
                clear H
                go_wp2
                go_meet
                case rel => exact ⟨_, (x2_1), (t1136), (x1129001_1), (x1129002_1), (u1129001), (u1129002), H', ⟨by have := HK1.out; first | omega | exact Nat.le_refl _⟩, ⟨by (with_reducible repeat (first | apply Kd.V_alloc | apply Kd.V_drewN | apply Kd.V_drew)); exact Kd.V_mono HO_2.out (fun _ hk => ⟨hk.1.1.1.1, ⟨hk.2, ⟨hk.1.1.1.2.1, ⟨hk.1.1.1.2.2.1, ⟨hk.1.1.1.2.2.2.1, hk.1.1.1.2.2.2.2⟩⟩⟩⟩⟩)⟩, ⟨by (with_reducible repeat (first | apply Kd.R_alloc | apply Kd.R_drewN | apply Kd.R_drew)); exact Kd.R_mono HO1138.out (fun _ hk => ⟨hk.1.1.1.1.1, ⟨hk.1.1.1.2, hk.1.1.2⟩⟩)⟩, ⟨by (with_reducible repeat (first | apply Kd.R_alloc | apply Kd.R_drewN | apply Kd.R_drew)); exact Kd.R_mono HO_1129001.out (fun _ hk => ⟨hk.1.1.1.1, ⟨hk.2, hk.1.1.1.2⟩⟩)⟩, ⟨by (with_reducible repeat (first | apply Kd.R_alloc | apply Kd.R_drewN | apply Kd.R_drew)); exact Kd.R_mono HO_1129002.out (fun _ hk => ⟨hk.1.1.1.1, ⟨hk.2, hk.1.1.1.2⟩⟩)⟩, ⟨by (with_reducible repeat (first | refine blk_drewN ?_ _ | refine blk_drew ?_ | refine blk_alloc ?_ _)); exact BK1120.out⟩, ⟨by (with_reducible repeat (first | refine blk_drewN ?_ _ | refine blk_drew ?_ | refine blk_alloc ?_ _)); exact BK1128.out⟩, ⟨by repeat (first | (with_reducible first | exact HB.out | apply below_alloc | apply pw_below_drewN | apply below_drew1 | refine below_set ?_ GE1120.out | refine below_set ?_ GE1128.out) | exact HB.out)⟩⟩
            case rest =>
              clear HC28
              try clear c1
              try clear p1
              try clear q1
              try clear hx1
              try clear c2
              try clear p2
              try clear c3
              try clear c4
              try clear p4
              try clear q4
              try clear hx4
              try clear hf4
              try clear p6
              try clear c7
              try clear c10
              try clear p11
              try clear q11
              try clear hx11
              try clear c12
              try clear c23
              try clear c23b0
              try clear c38
              try clear c38b0
              try clear c39
              try clear c39b0
              try clear c40
              try clear c40b0
              try clear c42
              try clear c42b0
              try clear p43
              try clear q43
              try clear hx43
              try clear hf43
              try clear hx1140_0
              try clear hx43_0
              try clear p1140
              try clear p2
              try clear p43
              try clear p6
              try clear q1140
              try clear q43
              obtain ⟨kq, x2_27, x13_27, x1129001_27, x1129002_27, u1129001, u1129002, HA, HJ27, HO_2, HO_13, HO_1129001, HO_1129002, BK1120, BK1128, HB⟩ := hcut
              have hl2_27 := (Kd.V_reads' HO_2.out).1
              rw [hl2_27] at HO_2
              (try simp only [hl2_27])
              (try simp only [hl2_27] at BK1120)
              (try simp only [hl2_27] at BK1128)
              (try simp only [hl2_27] at HO_13)
              (try simp only [hl2_27] at HO_1129001)
              (try simp only [hl2_27] at HO_1129002)
              have hl13_27 := (Kd.R_reads' HO_13.out).1
              rw [hl13_27] at HO_13
              (try simp only [hl13_27])
              (try simp only [hl13_27] at BK1120)
              (try simp only [hl13_27] at BK1128)
              (try simp only [hl13_27] at HO_2)
              (try simp only [hl13_27] at HO_1129001)
              (try simp only [hl13_27] at HO_1129002)
              cases kq with
              | zero => exact absurd HA.out (by simp [impl_field_find.j1])
              | succ kj27 =>
                have H := HA.out
                clear HA
                simp only [impl_field_find.j1] at H
                by_cases c46 : 0 ≤ x12_1
                · rw [if_pos c46] at H
                  have c46b0 : decide (0 ≤ x12_1) = true := decide_eq_true c46
                  clear c46
                  by_cases c47 : x12_1 < (x1129001_27.length : Int)
                  · rw [if_pos c47] at H
                    have c47b0 : decide (x12_1 < (x1129001_27.length : Int)) = true := decide_eq_true c47
                    clear c47
                    replace H := Option.bind_eq_some_iff.mp H
                    obtain ⟨t1144, A480, H⟩ := H
                    have A48 := Aside0.mk A480
                    clear A480
                    by_cases c49 : x12_1 = 0
                    · rw [if_pos c49] at H
                      have c49b0 : (x12_1 == 0) = true := beq_iff_eq.mpr c49
                      have c49b1 : (x12_1 != 0) = false := bne_eq_false_iff_eq.mpr c49
                      clear c49
                      by_cases c50 : 0 < (x1129002_27.length : Int)
                      · rw [if_pos c50] at H
                        have c50b0 : decide (0 < (x1129002_27.length : Int)) = true := decide_eq_true c50
                        have c50b1 : decide (0 < x1129002_27.length) = true := decide_eq_true (by omega)
                        clear c50
                        obtain ⟨y1147, hy1147⟩ : ∃ y_ : List Int, y_ = (x1129002_27.set (0 : Int).toNat a3) := ⟨_, rfl⟩
                        replace H : (some (a0, x1129001_27, y1147, ((t1144.length : Int) == 0))) = some (r1, r2, r3, r4) := by first | (rw [hy1147]; with_reducible exact H) | (have H2_ := (Option.bind_some _ _).symm.trans H; rw [hy1147]; with_reducible exact H2_) | (have H2_ := (Option.bind_some _ _).symm.trans H; with_reducible exact H2_) | with_reducible exact H | (rw [hy1147]; exact H) | exact H
                        have Ny1147 := Aside0.mk hy1147
                        clear hy1147
                        simp only [Option.some.injEq, Prod.mk.injEq] at H
                        obtain ⟨rfl, rfl, rfl, rfl⟩ := H
                        have hnb52 := NB1128_1120.out
                        have hnc52 := NB1120_1128.out
                        have hcz53_0 : wc.cell? ⟨gb1128, 0, none⟩ = some (.int .i64 a0) := (blk_cell BK1128.out 0).trans rfl
                        have hcz53_1 : wc.cell? ⟨gb1128, 1, none⟩ = some (u1129001) := (blk_cell BK1128.out 1).trans rfl
                        have hcz53_2 : wc.cell? ⟨gb1128, 2, none⟩ = some (u1129002) := (blk_cell BK1128.out 2).trans rfl
                        have hfz53_0 := blk_frozen BK1128.out 0
                        have hfz53_1 := blk_frozen BK1128.out 1
                        have hfz53_2 := blk_frozen BK1128.out 2
                        obtain ⟨Ao54, co54, eo54⟩ := Kd.R_slice HO_1129001.out
                        subst eo54
                        have p1143 : 0 ≤ (x12_1 : Int) := of_decide_eq_true (by first | (with_reducible assumption) | assumption)
                        have q1143 : x12_1 < (x1129001_27.length : Int) := of_decide_eq_true (by first | (with_reducible assumption) | assumption)
                        obtain ⟨ad1143, e1143, hx1143_0⟩ := Kd.at_int (Kd.R_reads' HO_1129001.out).2.2 x12_1 p1143 q1143
                        cases e1143
                        replace p1143 := eq_true p1143
                        replace q1143 := eq_true q1143
                        go_wp2_with (first | ((with_reducible refine gate_callee (f := 73) rfl ?_); refine goesM_ (some 60) rfl rfl Try.func73 #[.int .i64 a0, .slice Ao37 x13_27.length co37, .slice Ao32 x2_27.length co32, .int .i64 (rd x1129001_27 x12_1)] rfl ?_; (with_reducible refine (impl_field_add.calls kj27 a0 _ _ x13_27 _ _ x2_27 (rd x1129001_27 x12_1) t1144 _ ?side1 ?side2 ?side3 ?side4 A48.out).mono ?_); (case side1 => exact cs ((Kd.R_reads' HO_13.out).2.2)); (case side2 => exact (Kd.R_reads' HO_13.out).2.1); (case side3 => exact cs ((Kd.V_reads' HO_2.out).2.2)); (case side4 => exact (Kd.V_reads' HO_2.out).2.1); rintro e w55 ⟨v1145, rfl, ho0, hb⟩; refine ⟨_, rfl, ?_⟩; have n0_ := Aside0.mk (Kd.V_elder' (by (with_reducible repeat (first | apply Kd.V_alloc | apply Kd.V_drewN | apply Kd.V_drew)); exact HO_2.out) (Kd.R_base ho0) hb); have n1_ := Aside0.mk (Kd.R_elder' (rs HO_13) (Kd.R_base ho0) hb); have n2_ := Aside0.mk (Kd.R_elder' (rs HO_1129001) (Kd.R_base ho0) hb); have n3_ := Aside0.mk (Kd.R_elder' (rs HO_1129002) (Kd.R_base ho0) hb); have n4_ := Aside0.mk (Kd.R_lower (Kd.R_new' (Kd.R_new' (Kd.R_new' (Kd.R_newM (M := fun k_ => (w.heap.size ≤ k_)) ho0 (below_size (by repeat (first | (with_reducible first | exact HB.out | apply below_alloc | apply pw_below_drewN | apply below_drew1 | refine below_set ?_ GE1120.out | refine below_set ?_ GE1128.out) | exact HB.out))) (fun k_ h_ => h_)) (Kd.R_lt (rs HO_13))) (Kd.R_lt (rs HO_1129001))) (Kd.R_lt (rs HO_1129002))) (below_size (by repeat (first | (with_reducible first | exact HB.out | apply below_alloc | apply pw_below_drewN | apply below_drew1 | refine below_set ?_ GE1120.out | refine below_set ?_ GE1128.out) | exact HB.out)))); have n5_ := Aside0.mk (blk_below (g := gb1120) (o := .cells #[.int .i64 x1121000_1, .slice none 0 0, .slice none 0 0] 52 (0, 0)) (by (with_reducible repeat (first | refine blk_drewN ?_ _ | refine blk_drew ?_ | refine blk_alloc ?_ _)); exact BK1120.out) hb); have n6_ := Aside0.mk (blk_below (g := gb1128) (o := .cells #[.int .i64 a0, .slice (some ad1143) x1129001_27.length co54, u1129002] 52 (0, 0)) (by (with_reducible repeat (first | refine blk_drewN ?_ _ | refine blk_drew ?_ | refine blk_alloc ?_ _)); exact BK1128.out) hb); have n7_ := Aside0.mk (below_step (by repeat (first | (with_reducible first | exact HB.out | apply below_alloc | apply pw_below_drewN | apply below_drew1 | refine below_set ?_ GE1120.out | refine below_set ?_ GE1128.out) | exact HB.out)) hb); clear HO_2; clear HO_13; clear HO_1129001; clear HO_1129002; clear BK1120; clear BK1128; clear HB; have HO_2 := n0_; have HO_13 := n1_; have HO_1129001 := n2_; have HO_1129002 := n3_; have HO1146 := n4_; have BK1120 := n5_; have BK1128 := n6_; have HB := n7_; clear n0_ n1_ n2_ n3_ n4_ n5_ n6_ n7_; (try clear hb); (try clear hb2); (try clear hk); (try clear hi); (try clear ho0); have hcz56_0 : w55.cell? ⟨gb1128, 0, none⟩ = some (.int .i64 a0) := (blk_cell BK1128.out 0).trans rfl; have hcz56_1 : w55.cell? ⟨gb1128, 1, none⟩ = some (.slice (some ad1143) x1129001_27.length co54) := (blk_cell BK1128.out 1).trans rfl; have hcz56_2 : w55.cell? ⟨gb1128, 2, none⟩ = some (u1129002) := (blk_cell BK1128.out 2).trans rfl; have hfz56_0 := blk_frozen BK1128.out 0; have hfz56_1 := blk_frozen BK1128.out 1; have hfz56_2 := blk_frozen BK1128.out 2; have p51 : 0 ≤ (0 : Int) := (by omega); have q51 : (0 : Int) < ((x1129002_27.length : Int) : Int) := of_decide_eq_true (by first | (with_reducible assumption) | assumption); have qi51 : (0 < x1129002_27.length) = True := eq_true (by omega); obtain ⟨go51, co51, eo51, gb51, gl51, cl51, HG51⟩ := Kd.R_form HO_1129002.out (by omega); (first | cases eo51 | (injection eo51 with ea_ en_ ec_; (first | subst ea_ | (injection ea_ with ea_; subst ea_)); subst ec_; clear en_)); have GB51 := Aside0.mk gb51; have GG51 := Aside0.mk HG51; clear gb51 gl51 HG51; obtain ⟨hx51_0, hf51_0⟩ := Kd.R_celln 0 HO_1129002.out (0 : Int) p51 q51; (try rw [show ((0 : Int)).toNat = 0 from rfl] at hx51_0); (try simp only [Nat.reduceMul, Nat.zero_mul, Nat.zero_add, Nat.reduceAdd] at hx51_0); (try rw [show ((0 : Int)).toNat = 0 from rfl] at hf51_0); (try simp only [Nat.reduceMul, Nat.zero_mul, Nat.zero_add, Nat.reduceAdd] at hf51_0); replace p51 := eq_true p51; replace q51 := eq_true q51; have n_ := Aside0.mk (Kd.R_mono (ok' := (fun k_ => (w.heap.size ≤ k_) ∧ some k_ ≠ (.slice Ao37 x13_27.length co37 : Value).ownBlock ∧ some k_ ≠ (.slice (some ad1143) x1129001_27.length co54 : Value).ownBlock ∧ some k_ ≠ (v1145 : Value).ownBlock)) HO_1129002.out (fun k_ hk => ⟨hk.1.1, ⟨hk.1.2.1, ⟨hk.1.2.2, hk.2⟩⟩⟩)); clear HO_1129002; have HO_1129002 := n_; clear n_; obtain ⟨hy57_, hz57_⟩ := Kd.R_celln 0 HO_1129002.out (0 : Int) (by omega) (of_decide_eq_true (by first | (with_reducible assumption) | assumption)); (try simp only [Int.reduceToNat, Int.toNat_zero, Int.toNat_ofNat, Nat.reduceMul, Nat.zero_mul, Nat.zero_add] at hy57_ hz57_); (try rw [show ((0 : Int)).toNat = 0 from rfl] at hy57_); (try rw [show ((0 : Int)).toNat = 0 from rfl] at hz57_); have HP57 := Kd.R_putg HO_1129002.out (0 : Int) a3) | ((with_reducible refine gate_store (t := 2) (p := 66) rfl ?_); refine store_event (t := 2) (p := 66) (v := ?vo_w58) (w1 := (w55.setCell ⟨go51, (0 : Int).toNat, none⟩ (.int .i64 a3))) ?hg ?ho ?hn ?hr ?_; (case ho => rfl); (case hg => rfl); (case hn => rfl); (case hr => first | (go_simp; done) | (go_simp; rfl)); intro w58 hw; have hg : w55.grownBy w58 (some go51) := (by rw [hw]; exact HP57.2); have hp_ : Kd.R (Kd.int .i64) 2 w58 w.heap.size (fun k_ => (w.heap.size ≤ k_) ∧ some k_ ≠ (.slice Ao37 x13_27.length co37 : Value).ownBlock ∧ some k_ ≠ (.slice (some ad1143) x1129001_27.length co54 : Value).ownBlock ∧ some k_ ≠ (v1145 : Value).ownBlock) (.slice (some ⟨go51, 0, none⟩) x1129002_27.length co51) y1147 := (by rw [hw, Ny1147.out]; exact HP57.1); clear HP57; have n0_ := Aside0.mk (Kd.V_afterv (v := (.slice (some ⟨go51, 0, none⟩) x1129002_27.length co51)) (v1 := (.slice (some ⟨go51, 0, none⟩) x1129002_27.length co51)) (ok := (fun k_ => ((P1_ k_ ∨ P2_ k_) ∨ w.heap.size ≤ k_) ∧ some k_ ≠ (.slice Ao37 x13_27.length co37 : Value).ownBlock ∧ some k_ ≠ (.slice (some ad1143) x1129001_27.length co54 : Value).ownBlock ∧ some k_ ≠ (v1145 : Value).ownBlock ∧ k_ ≠ gb1120 ∧ k_ ≠ gb1128)) (by (with_reducible repeat (first | apply Kd.V_alloc | apply Kd.V_drewN | apply Kd.V_drew)); exact Kd.V_mono HO_2.out (fun _ hk => ⟨⟨hk.1.1, ⟨hk.1.2.1, ⟨hk.1.2.2.1, ⟨hk.2, ⟨hk.1.2.2.2.2.1, hk.1.2.2.2.2.2⟩⟩⟩⟩⟩, hk.1.2.2.2.1⟩)) hg (.inl rfl)); have n1_ := Aside0.mk (Kd.R_after (v := (.slice (some ⟨go51, 0, none⟩) x1129002_27.length co51)) (v1 := (.slice (some ⟨go51, 0, none⟩) x1129002_27.length co51)) (ok := (fun k_ => (w.heap.size ≤ k_) ∧ some k_ ≠ (.slice (some ad1143) x1129001_27.length co54 : Value).ownBlock ∧ some k_ ≠ (v1145 : Value).ownBlock)) (by (with_reducible repeat (first | apply Kd.R_alloc | apply Kd.R_drewN | apply Kd.R_drew)); exact Kd.R_mono HO_13.out (fun _ hk => ⟨⟨hk.1.1, ⟨hk.1.2.1, hk.2⟩⟩, hk.1.2.2⟩)) hg (.inl rfl)); have n2_ := Aside0.mk (Kd.R_after (v := (.slice (some ⟨go51, 0, none⟩) x1129002_27.length co51)) (v1 := (.slice (some ⟨go51, 0, none⟩) x1129002_27.length co51)) (ok := (fun k_ => (w.heap.size ≤ k_) ∧ some k_ ≠ (.slice Ao37 x13_27.length co37 : Value).ownBlock ∧ some k_ ≠ (v1145 : Value).ownBlock)) (by (with_reducible repeat (first | apply Kd.R_alloc | apply Kd.R_drewN | apply Kd.R_drew)); exact Kd.R_mono HO_1129001.out (fun _ hk => ⟨⟨hk.1.1, ⟨hk.1.2.1, hk.2⟩⟩, hk.1.2.2⟩)) hg (.inl rfl)); have n3_ := Aside0.mk (hp_); have n4_ := Aside0.mk (blk_grown (g := gb1120) (o := .cells #[.int .i64 x1121000_1, .slice none 0 0, .slice none 0 0] 52 (0, 0)) (by (with_reducible repeat (first | refine blk_drewN ?_ _ | refine blk_drew ?_ | refine blk_alloc ?_ _)); exact BK1120.out) hg (Kd.R_ne HO_1129002.out BK1120.out (by decide))); have n5_ := Aside0.mk (blk_grown (g := gb1128) (o := .cells #[.int .i64 a0, .slice (some ad1143) x1129001_27.length co54, .slice (some ⟨go51, 0, none⟩) x1129002_27.length co51] 52 (0, 0)) (by (with_reducible repeat (first | refine blk_drewN ?_ _ | refine blk_drew ?_ | refine blk_alloc ?_ _)); exact BK1128.out) hg (Kd.R_ne HO_1129002.out BK1128.out (by decide))); have n6_ := Aside0.mk (Kd.R_after (v := (.slice (some ⟨go51, 0, none⟩) x1129002_27.length co51)) (v1 := (.slice (some ⟨go51, 0, none⟩) x1129002_27.length co51)) (ok := (fun k_ => (w.heap.size ≤ k_) ∧ some k_ ≠ (.slice Ao37 x13_27.length co37 : Value).ownBlock ∧ some k_ ≠ (.slice (some ad1143) x1129001_27.length co54 : Value).ownBlock)) (by (with_reducible repeat (first | apply Kd.R_alloc | apply Kd.R_drewN | apply Kd.R_drew)); exact Kd.R_mono HO1146.out (fun _ hk => ⟨⟨hk.1.1.1.1, ⟨hk.1.1.2, hk.1.2⟩⟩, hk.2⟩)) hg (.inl rfl)); have n7_ := Aside0.mk ((by rw [hw]; exact below_set (HB.out) GB51.out : Below w.heap.size w w58)); clear HO_2; clear HO_13; clear HO_1129001; clear HO_1129002; clear BK1120; clear BK1128; clear HO1146; clear HB; have HO_2 := n0_; have HO_13 := n1_; have HO_1129001 := n2_; have HO_1129002 := n3_; have BK1120 := n4_; have BK1128 := n5_; have HO1146 := n6_; have HB := n7_; clear n0_ n1_ n2_ n3_ n4_ n5_ n6_ n7_; clear hg hw hp_; have hcz59_0 : w58.cell? ⟨gb1128, 0, none⟩ = some (.int .i64 a0) := (blk_cell BK1128.out 0).trans rfl; have hcz59_1 : w58.cell? ⟨gb1128, 1, none⟩ = some (.slice (some ad1143) x1129001_27.length co54) := (blk_cell BK1128.out 1).trans rfl; have hcz59_2 : w58.cell? ⟨gb1128, 2, none⟩ = some (.slice (some ⟨go51, 0, none⟩) x1129002_27.length co51) := (blk_cell BK1128.out 2).trans rfl; have hfz59_0 := blk_frozen BK1128.out 0; have hfz59_1 := blk_frozen BK1128.out 1; have hfz59_2 := blk_frozen BK1128.out 2; obtain ⟨Ao60, co60, eo60⟩ := Kd.R_slice HO1146.out; subst eo60; have hcz61_0 : w58.cell? ⟨gb1120, 0, none⟩ = some (.int .i64 x1121000_1) := (blk_cell BK1120.out 0).trans rfl; have hcz61_1 : w58.cell? ⟨gb1120, 1, none⟩ = some (.slice none 0 0) := (blk_cell BK1120.out 1).trans rfl; have hcz61_2 : w58.cell? ⟨gb1120, 2, none⟩ = some (.slice none 0 0) := (blk_cell BK1120.out 2).trans rfl; have hfz61_0 := blk_frozen BK1120.out 0; have hfz61_1 := blk_frozen BK1120.out 1; have hfz61_2 := blk_frozen BK1120.out 2))
                        refine bodyPost_ret (results_ct rfl _ _ gb1120 52 #[.int .i64 a0, .slice (some ad1143) x1129001_27.length co54, .slice (some ⟨go51, 0, none⟩) x1129002_27.length co51] (0, 0) _ rfl (by (with_reducible repeat (first | refine blk_drewN ?_ _ | refine blk_drew ?_ | refine blk_alloc ?_ _)); refine blk_put (cs := #[.int .i64 a0, .slice (some ad1143) x1129001_27.length co54, .slice none 0 0]) ?_ 2 _ rfl; (with_reducible repeat (first | refine blk_drewN ?_ _ | refine blk_drew ?_ | refine blk_alloc ?_ _)); refine blk_put (cs := #[.int .i64 a0, .slice none 0 0, .slice none 0 0]) ?_ 1 _ rfl; (with_reducible repeat (first | refine blk_drewN ?_ _ | refine blk_drew ?_ | refine blk_alloc ?_ _)); refine blk_put (cs := #[.int .i64 x1121000_1, .slice none 0 0, .slice none 0 0]) ?_ 0 _ rfl; (with_reducible repeat (first | refine blk_drewN ?_ _ | refine blk_drew ?_ | refine blk_alloc ?_ _)); exact BK1120.out) Try.underlying52 rfl (by kernel_rfl)) rfl ?_
                        exact ⟨_, _, by first | rfl | (simp [errW_none, errW_some] <;> rfl) | (simp [*, errW_none, errW_some] <;> rfl), by (with_reducible repeat (first | apply Kd.R_alloc | apply Kd.R_drewN | apply Kd.R_drew)); exact Kd.R_mono (Kd.R_far (p := ⟨gb1120, 2, none⟩) (Kd.R_far (p := ⟨gb1120, 1, none⟩) (Kd.R_far (p := ⟨gb1120, 0, none⟩) (Kd.R_types HO_1129001.out BK1120.out (by decide)) (fun _ hk => hk.2) (.int .i64 a0)) (fun _ hk => hk.2) (.slice (some ad1143) x1129001_27.length co54)) (fun _ hk => hk.2) (.slice (some ⟨go51, 0, none⟩) x1129002_27.length co51)) (fun _ hk => ⟨hk.1.1.1, hk.1.2⟩), by (with_reducible repeat (first | apply Kd.R_alloc | apply Kd.R_drewN | apply Kd.R_drew)); exact Kd.R_mono (Kd.R_far (p := ⟨gb1120, 2, none⟩) (Kd.R_far (p := ⟨gb1120, 1, none⟩) (Kd.R_far (p := ⟨gb1120, 0, none⟩) (Kd.R_types HO_1129002.out BK1120.out (by decide)) (fun _ hk => hk.2) (.int .i64 a0)) (fun _ hk => hk.2) (.slice (some ad1143) x1129001_27.length co54)) (fun _ hk => hk.2) (.slice (some ⟨go51, 0, none⟩) x1129002_27.length co51)) (fun _ hk => ⟨hk.1.1, hk.1.2.2.1⟩), by repeat (first | (with_reducible first | exact HB.out | apply below_alloc | apply pw_below_drewN | apply below_drew1 | refine below_set ?_ GE1120.out | refine below_set ?_ GE1128.out) | exact HB.out)⟩
                      · rw [if_neg c50] at H
                        exact absurd H (by simp)
                    · rw [if_neg c49] at H
                      have c49b0 : (x12_1 == 0) = false := beq_eq_false_iff_ne.mpr c49
                      have c49b1 : (x12_1 != 0) = true := bne_iff_ne.mpr c49
                      replace H := Option.bind_eq_some_iff.mp H
                      obtain ⟨t1148, A620, H⟩ := H
                      have A62 := Aside0.mk A620
                      clear A620
                      by_cases c63 : t1148 = (wrap64 (x12_1 - 1))
                      · rw [if_pos c63] at H
                        have c63b0 : (t1148 == (wrap64 (x12_1 - 1))) = true := beq_iff_eq.mpr c63
                        have c63b1 : (t1148 != (wrap64 (x12_1 - 1))) = false := bne_eq_false_iff_eq.mpr c63
                        clear c63
                        obtain ⟨ji64, hji64⟩ : ∃ j_ : Int, (wrap64 (x12_1 - 1)) = j_ := ⟨_, rfl⟩
                        replace H : (if 0 ≤ (ji64) then (if (ji64) < (t1144.length : Int) then ((impl_field_mod.f a0 (wrap64 (-(rd t1144 (ji64))))).bind fun t1150 => (if x12_1 < (x1129002_27.length : Int) then ((impl_field_monic.f kj27 a0 t1144).bind fun t1152 => (impl_field_find.l0 kj27 a0 x2_27 t1152 a3 ji64 a0 x1129001_27 (x1129002_27.set (x12_1 : Int).toNat t1150))) else (none))) else (none)) else (none)) = some (r1, r2, r3, r4) := by first | (rw [hji64] at H; exact H) | (simp only [hji64] at H ⊢; exact H)
                        (try rw [hji64] at c63b0)
                        (try rw [hji64] at c63b1)
                        (try rw [hji64] at A48)
                        (try rw [hji64] at A62)
                        have hji64w : (IntKind.i64.wrap (x12_1 - 1)) = ji64 := (i64_w _).trans hji64
                        by_cases c65 : 0 ≤ (ji64)
                        · rw [if_pos c65] at H
                          have c65b0 : decide (0 ≤ (ji64)) = true := decide_eq_true c65
                          clear c65
                          by_cases c66 : (ji64) < (t1144.length : Int)
                          · rw [if_pos c66] at H
                            have c66b0 : decide ((ji64) < (t1144.length : Int)) = true := decide_eq_true c66
                            clear c66
                            replace H := Option.bind_eq_some_iff.mp H
                            obtain ⟨t1150, A670, H⟩ := H
                            have A67 := Aside0.mk A670
                            clear A670
                            by_cases c68 : x12_1 < (x1129002_27.length : Int)
                            · rw [if_pos c68] at H
                              have c68b0 : decide (x12_1 < (x1129002_27.length : Int)) = true := decide_eq_true c68
                              clear c68
                              obtain ⟨y1151, hy1151⟩ : ∃ y_ : List Int, y_ = (x1129002_27.set (x12_1 : Int).toNat t1150) := ⟨_, rfl⟩
                              replace H : ((impl_field_monic.f kj27 a0 t1144).bind fun t1152 => (impl_field_find.l0 kj27 a0 x2_27 t1152 a3 ji64 a0 x1129001_27 y1151)) = some (r1, r2, r3, r4) := by first | (rw [hy1151]; with_reducible exact H) | (have H2_ := (Option.bind_some _ _).symm.trans H; rw [hy1151]; with_reducible exact H2_) | (have H2_ := (Option.bind_some _ _).symm.trans H; with_reducible exact H2_) | with_reducible exact H | (rw [hy1151]; exact H) | exact H
                              have Ny1151 := Aside0.mk hy1151
                              clear hy1151
                              replace H := Option.bind_eq_some_iff.mp H
                              obtain ⟨t1152, A700, H⟩ := H
                              have A70 := Aside0.mk A700
                              clear A700
                              have H' := Aside0.mk H
                              clear H
                              have hnb71 := NB1128_1120.out
                              have hnc71 := NB1120_1128.out
                              have hcz72_0 : wc.cell? ⟨gb1128, 0, none⟩ = some (.int .i64 a0) := (blk_cell BK1128.out 0).trans rfl
                              have hcz72_1 : wc.cell? ⟨gb1128, 1, none⟩ = some (u1129001) := (blk_cell BK1128.out 1).trans rfl
                              have hcz72_2 : wc.cell? ⟨gb1128, 2, none⟩ = some (u1129002) := (blk_cell BK1128.out 2).trans rfl
                              have hfz72_0 := blk_frozen BK1128.out 0
                              have hfz72_1 := blk_frozen BK1128.out 1
                              have hfz72_2 := blk_frozen BK1128.out 2
                              obtain ⟨Ao73, co73, eo73⟩ := Kd.R_slice HO_1129001.out
                              subst eo73
                              have p1143 : 0 ≤ (x12_1 : Int) := of_decide_eq_true (by first | (with_reducible assumption) | assumption)
                              have q1143 : x12_1 < (x1129001_27.length : Int) := of_decide_eq_true (by first | (with_reducible assumption) | assumption)
                              obtain ⟨ad1143, e1143, hx1143_0⟩ := Kd.at_int (Kd.R_reads' HO_1129001.out).2.2 x12_1 p1143 q1143
                              cases e1143
                              replace p1143 := eq_true p1143
                              replace q1143 := eq_true q1143
                              try go_wp2_with (first | ((with_reducible refine gate_callee (f := 73) rfl ?_); refine goesM_ (some 60) rfl rfl Try.func73 #[.int .i64 a0, .slice Ao37 x13_27.length co37, .slice Ao32 x2_27.length co32, .int .i64 (rd x1129001_27 x12_1)] rfl ?_; (with_reducible refine (impl_field_add.calls kj27 a0 _ _ x13_27 _ _ x2_27 (rd x1129001_27 x12_1) t1144 _ ?side1 ?side2 ?side3 ?side4 A48.out).mono ?_); (case side1 => exact cs ((Kd.R_reads' HO_13.out).2.2)); (case side2 => exact (Kd.R_reads' HO_13.out).2.1); (case side3 => exact cs ((Kd.V_reads' HO_2.out).2.2)); (case side4 => exact (Kd.V_reads' HO_2.out).2.1); rintro e w74 ⟨v1145, rfl, ho0, hb⟩; refine ⟨_, rfl, ?_⟩; have n0_ := Aside0.mk (Kd.V_elder' (by (with_reducible repeat (first | apply Kd.V_alloc | apply Kd.V_drewN | apply Kd.V_drew)); exact HO_2.out) (Kd.R_base ho0) hb); have n1_ := Aside0.mk (Kd.R_elder' (rs HO_13) (Kd.R_base ho0) hb); have n2_ := Aside0.mk (Kd.R_elder' (rs HO_1129001) (Kd.R_base ho0) hb); have n3_ := Aside0.mk (Kd.R_elder' (rs HO_1129002) (Kd.R_base ho0) hb); have n4_ := Aside0.mk (Kd.R_lower (Kd.R_new' (Kd.R_new' (Kd.R_new' (Kd.R_newM (M := fun k_ => (w.heap.size ≤ k_)) ho0 (below_size (by repeat (first | (with_reducible first | exact HB.out | apply below_alloc | apply pw_below_drewN | apply below_drew1 | refine below_set ?_ GE1120.out | refine below_set ?_ GE1128.out) | exact HB.out))) (fun k_ h_ => h_)) (Kd.R_lt (rs HO_13))) (Kd.R_lt (rs HO_1129001))) (Kd.R_lt (rs HO_1129002))) (below_size (by repeat (first | (with_reducible first | exact HB.out | apply below_alloc | apply pw_below_drewN | apply below_drew1 | refine below_set ?_ GE1120.out | refine below_set ?_ GE1128.out) | exact HB.out)))); have n5_ := Aside0.mk (blk_below (g := gb1120) (o := .cells #[.int .i64 x1121000_1, .slice none 0 0, .slice none 0 0] 52 (0, 0)) (by (with_reducible repeat (first | refine blk_drewN ?_ _ | refine blk_drew ?_ | refine blk_alloc ?_ _)); exact BK1120.out) hb); have n6_ := Aside0.mk (blk_below (g := gb1128) (o := .cells #[.int .i64 a0, .slice (some ad1143) x1129001_27.length co73, u1129002] 52 (0, 0)) (by (with_reducible repeat (first | refine blk_drewN ?_ _ | refine blk_drew ?_ | refine blk_alloc ?_ _)); exact BK1128.out) hb); have n7_ := Aside0.mk (below_step (by repeat (first | (with_reducible first | exact HB.out | apply below_alloc | apply pw_below_drewN | apply below_drew1 | refine below_set ?_ GE1120.out | refine below_set ?_ GE1128.out) | exact HB.out)) hb); clear HO_2; clear HO_13; clear HO_1129001; clear HO_1129002; clear BK1120; clear BK1128; clear HB; have HO_2 := n0_; have HO_13 := n1_; have HO_1129001 := n2_; have HO_1129002 := n3_; have HO1146 := n4_; have BK1120 := n5_; have BK1128 := n6_; have HB := n7_; clear n0_ n1_ n2_ n3_ n4_ n5_ n6_ n7_; (try clear hb); (try clear hb2); (try clear hk); (try clear hi); (try clear ho0); obtain ⟨Ao75, co75, eo75⟩ := Kd.R_slice HO1146.out; subst eo75) | ((with_reducible refine gate_callee (f := 85) rfl ?_); refine goesM_ (some 72) rfl rfl Try.func85 #[.slice Ao75 t1144.length co75] rfl ?_; (with_reducible refine (impl_degree.calls _ _ t1144 t1148 _ ?side1 ?side2 A62.out).mono ?_); (case side1 => exact cs ((Kd.R_reads' HO1146.out).2.2)); (case side2 => exact (Kd.R_reads' HO1146.out).2.1); rintro e w' ⟨rfl, ⟨nd, rfl⟩⟩; refine ⟨_, rfl, ?_⟩; have m0_ := Aside0.mk (Kd.R_drewN HO1146.out nd); have m1_ := Aside0.mk (Kd.R_drewN HO_1129001.out nd); have m2_ := Aside0.mk (Kd.R_drewN HO_1129002.out nd); have m3_ := Aside0.mk (Kd.R_drewN HO_13.out nd); have m4_ := Aside0.mk (Kd.V_drewN HO_2.out nd); have m5_ := Aside0.mk (blk_drewN BK1120.out nd); have m6_ := Aside0.mk (blk_drewN BK1128.out nd); have m7_ := Aside0.mk (pw_below_drewN HB.out nd); clear HB BK1128 BK1120 HO_2 HO_13 HO_1129002 HO_1129001 HO1146; have HO1146 := m0_; have HO_1129001 := m1_; have HO_1129002 := m2_; have HO_13 := m3_; have HO_2 := m4_; have BK1120 := m5_; have BK1128 := m6_; have HB := m7_; clear m0_ m1_ m2_ m3_ m4_ m5_ m6_ m7_; generalize World.drewN w74 nd = w74 at HO1146 HO_1129001 HO_1129002 HO_13 HO_2 BK1120 BK1128 HB ⊢))
                              have n0_ := Aside0.mk (Kd.V_drew HO_2.out)
                              have n1_ := Aside0.mk (Kd.R_drew HO_13.out)
                              have n2_ := Aside0.mk (Kd.R_drew HO_1129001.out)
                              have n3_ := Aside0.mk (Kd.R_drew HO_1129002.out)
                              have n4_ := Aside0.mk (Kd.R_drew HO1146.out)
                              have n5_ := Aside0.mk (blk_drew BK1120.out)
                              have n6_ := Aside0.mk (blk_drew BK1128.out)
                              have n7_ := Aside0.mk (below_drew1 HB.out)
                              clear HO_2
                              clear HO_13
                              clear HO_1129001
                              clear HO_1129002
                              clear HO1146
                              clear BK1120
                              clear BK1128
                              clear HB
                              have HO_2 := n0_
                              have HO_13 := n1_
                              have HO_1129001 := n2_
                              have HO_1129002 := n3_
                              have HO1146 := n4_
                              have BK1120 := n5_
                              have BK1128 := n6_
                              have HB := n7_
                              clear n0_ n1_ n2_ n3_ n4_ n5_ n6_ n7_
                              have p1149 : 0 ≤ ((ji64) : Int) := of_decide_eq_true (by first | (with_reducible assumption) | assumption)
                              have q1149 : (ji64) < (t1144.length : Int) := of_decide_eq_true (by first | (with_reducible assumption) | assumption)
                              obtain ⟨ad1149, e1149, hx1149_0⟩ := Kd.at_int (Kd.R_reads' HO1146.out).2.2 (ji64) p1149 q1149
                              cases e1149
                              replace p1149 := eq_true p1149
                              replace q1149 := eq_true q1149
                              refine start_ (n := 13) (S := fun w' => w'.cell? ⟨gb1128, 0, none⟩ = some (.int .i64 a0) ∧ w'.cell? ⟨gb1128, 1, none⟩ = some (.slice (some ad1143) x1129001_27.length co73) ∧ w'.cell? ⟨gb1128, 2, none⟩ = some (u1129002) ∧ w'.cell? (ad1149.add ((ji64)).toNat) = some (.int .i64 (rd t1144 (ji64)))) (ds := [12]) #[false, false, false, false, false, false, false, false, false, false, false, false, false] (by kernel_rfl) rfl rfl ⟨(blk_cell BK1128.out 0).trans rfl, (blk_cell BK1128.out 1).trans rfl, (blk_cell BK1128.out 2).trans rfl, hx1149_0⟩ (fun hHeld => ?_); refine with_tabW impl_field_find.tab15 impl_field_find.bits15 (fun HT_ HW_ => ?_)
                              generalize w74.drew = w76 at HO_2 HO_13 HO_1129001 HO_1129002 HO1146 BK1120 BK1128 HB hx1149_0 hHeld ⊢
                              refine pure_ (i := 0) (N := some 77) (v := ?_) (a' := ?_) #[true, false, false, false, false, false, false, false, false, false, false, false, false] rfl rfl (any_of HT_.out (by kernel_rfl)) (fun _ _ _ h => h) (Or.inl ⟨by rfl, ?_⟩) ?_ ?_
                              rotate_left
                              · intro w'
                                go_simp
                                with_reducible rfl
                              rotate_left
                              · simp only [Act.put, List.setIfInBounds_toArray, List.set_cons_zero, List.set_cons_succ, i64_w, i32_w]
                                rfl
                              refine pure_ (i := 2) (N := some 79) (v := ?_) (a' := ?_) #[true, false, true, false, false, false, false, false, false, false, false, false, false] rfl rfl (any_of HT_.out (by kernel_rfl)) (fun _ _ _ h => h) (Or.inl ⟨by rfl, ?_⟩) ?_ ?_
                              rotate_left
                              · intro w'
                                go_simp
                                with_reducible rfl
                              rotate_left
                              · simp only [Act.put, List.setIfInBounds_toArray, List.set_cons_zero, List.set_cons_succ, i64_w, i32_w]
                                rfl
                              refine pure_ (i := 3) (N := some 80) (v := ?_) (a' := ?_) #[true, false, true, true, false, false, false, false, false, false, false, false, false] rfl rfl (any_of HT_.out (by kernel_rfl)) (fun _ _ _ h => h) (Or.inl ⟨by rfl, ?_⟩) ?_ ?_
                              rotate_left
                              · intro w'
                                go_simp
                                with_reducible rfl
                              rotate_left
                              · simp only [Act.put, List.setIfInBounds_toArray, List.set_cons_zero, List.set_cons_succ, i64_w, i32_w]
                                rfl
                              refine pure_ (i := 4) (N := some 81) (v := ?_) (a' := ?_) #[true, false, true, true, true, false, false, false, false, false, false, false, false] rfl rfl (any_of HT_.out (by kernel_rfl)) (fun _ _ _ h => h) (Or.inl ⟨by rfl, ?_⟩) ?_ ?_
                              rotate_left
                              · intro w'
                                go_simp
                                with_reducible rfl
                              rotate_left
                              · simp only [Act.put, List.setIfInBounds_toArray, List.set_cons_zero, List.set_cons_succ, i64_w, i32_w]
                                rfl
                              refine pure_ (i := 5) (N := some 82) (v := ?_) (a' := ?_) #[true, false, true, true, true, true, false, false, false, false, false, false, false] rfl rfl (any_of HT_.out (by kernel_rfl)) (fun _ _ _ h => h) (Or.inl ⟨by rfl, ?_⟩) ?_ ?_
                              rotate_left
                              · intro w'
                                go_simp
                                with_reducible rfl
                              rotate_left
                              · simp only [Act.put, List.setIfInBounds_toArray, List.set_cons_zero, List.set_cons_succ, i64_w, i32_w]
                                rfl
                              refine pure_ (i := 6) (N := some 83) (v := ?_) (a' := ?_) #[true, false, true, true, true, true, true, false, false, false, false, false, false] rfl rfl (any_of HT_.out (by kernel_rfl)) (fun _ _ _ h => h) (Or.inl ⟨by rfl, ?_⟩) ?_ ?_
                              rotate_left
                              · intro w'
                                go_simp
                                with_reducible rfl
                              rotate_left
                              · simp only [Act.put, List.setIfInBounds_toArray, List.set_cons_zero, List.set_cons_succ, i64_w, i32_w]
                                rfl
                              refine pure_ (i := 7) (N := some 84) (v := ?_) (a' := ?_) #[true, false, true, true, true, true, true, true, false, false, false, false, false] rfl rfl (any_of HT_.out (by kernel_rfl)) (fun _ _ _ h => h) (Or.inl ⟨by rfl, ?_⟩) ?_ ?_
                              rotate_left
                              · intro w'
                                go_simp
                                with_reducible rfl
                              rotate_left
                              · simp only [Act.put, List.setIfInBounds_toArray, List.set_cons_zero, List.set_cons_succ, i64_w, i32_w]
                                rfl
                              refine take_ (i := 1) (N := some 78) (v := ?_) (a' := ?_) #[true, true, true, true, true, true, true, true, false, false, false, false, false] rfl rfl (take_ofW HT_.out HW_.out (by kernel_rfl)) (fun _ _ _ h => h) (Or.inl ⟨by rfl, ?_⟩) hHeld ?_ ?_
                              rotate_left
                              · rintro w' ⟨s0, s1, s2, s3⟩
                                go_simp
                                with_reducible rfl
                              rotate_left
                              · simp only [Act.put, List.setIfInBounds_toArray, List.set_cons_zero, List.set_cons_succ, i64_w, i32_w]
                                rfl
                              refine take_ (i := 8) (N := some 85) (v := ?_) (a' := ?_) #[true, true, true, true, true, true, true, true, true, false, false, false, false] rfl rfl (take_ofW HT_.out HW_.out (by kernel_rfl)) (fun _ _ _ h => h) (Or.inl ⟨by rfl, ?_⟩) hHeld ?_ ?_
                              rotate_left
                              · rintro w' ⟨s0, s1, s2, s3⟩
                                go_simp
                                with_reducible rfl
                              rotate_left
                              · simp only [Act.put, List.setIfInBounds_toArray, List.set_cons_zero, List.set_cons_succ, i64_w, i32_w]
                                rfl
                              refine pure_ (i := 9) (N := some 86) (v := ?_) (a' := ?_) #[true, true, true, true, true, true, true, true, true, true, false, false, false] rfl rfl (any_of HT_.out (by kernel_rfl)) (fun _ _ _ h => h) (Or.inl ⟨by rfl, ?_⟩) ?_ ?_
                              rotate_left
                              · intro w'
                                go_simp
                                with_reducible rfl
                              rotate_left
                              · simp only [Act.put, List.setIfInBounds_toArray, List.set_cons_zero, List.set_cons_succ, i64_w, i32_w]
                                rfl
                              refine one_ (i := 10) (N := some 87) #[true, true, true, true, true, true, true, true, true, true, true, false, false] rfl rfl (one_of HT_.out (by kernel_rfl)) (by decide) (fun K hK => ?_)
                              refine goes_ Try.func108 (by kernel_rfl) rfl #[.int .i64 a0, .int .i64 (wrap64 (-(rd t1144 (ji64))))] (by rfl) rfl rfl (by (try simp only [List.map_toArray, List.map_cons, List.map_nil]); first | done | (simp only [hji64]; rfl) | rfl | (simp only [List.length_drop, List.length_take]; rfl)) ?_
                              with_reducible refine (impl_field_mod.calls a0 (wrap64 (-(rd t1144 (ji64)))) t1150 _ A67.out).mono ?_
                              rintro e w' ⟨rfl, ⟨nd, rfl⟩⟩
                              refine ⟨_, rfl, ?_⟩
                              have m0_ := Aside0.mk (Kd.V_drewN HO_2.out nd)
                              have m1_ := Aside0.mk (Kd.R_drewN HO_13.out nd)
                              have m2_ := Aside0.mk (Kd.R_drewN HO_1129001.out nd)
                              have m3_ := Aside0.mk (Kd.R_drewN HO_1129002.out nd)
                              have m4_ := Aside0.mk (Kd.R_drewN HO1146.out nd)
                              have m5_ := Aside0.mk (blk_drewN BK1120.out nd)
                              have m6_ := Aside0.mk (blk_drewN BK1128.out nd)
                              have m7_ := Aside0.mk (pw_below_drewN HB.out nd)
                              clear HB BK1128 BK1120 HO1146 HO_1129002 HO_1129001 HO_13 HO_2
                              have HO_2 := m0_
                              have HO_13 := m1_
                              have HO_1129001 := m2_
                              have HO_1129002 := m3_
                              have HO1146 := m4_
                              have BK1120 := m5_
                              have BK1128 := m6_
                              have HB := m7_
                              clear m0_ m1_ m2_ m3_ m4_ m5_ m6_ m7_
                              rw [show w76.cell? = (World.drewN w76 nd).cell? from rfl] at hHeld
                              generalize World.drewN w76 nd = w76 at HO_2 HO_13 HO_1129001 HO_1129002 HO1146 BK1120 BK1128 HB hHeld ⊢
                              have p69 : 0 ≤ (x12_1 : Int) := of_decide_eq_true (by first | (with_reducible assumption) | assumption)
                              have q69 : (x12_1 : Int) < ((x1129002_27.length : Int) : Int) := of_decide_eq_true (by first | (with_reducible assumption) | assumption)
                              obtain ⟨go69, co69, eo69, gb69, gl69, cl69, HG69⟩ := Kd.R_form HO_1129002.out (by omega)
                              (first | cases eo69 | (injection eo69 with ea_ en_ ec_; (first | subst ea_ | (injection ea_ with ea_; subst ea_)); subst ec_; clear en_))
                              have GB69 := Aside0.mk gb69
                              have GG69 := Aside0.mk HG69
                              clear gb69 gl69 HG69
                              obtain ⟨hx69_0, hf69_0⟩ := Kd.R_celln 0 HO_1129002.out (x12_1 : Int) p69 q69
                              replace p69 := eq_true p69
                              replace q69 := eq_true q69
                              have HP77 := Kd.R_putn HO_1129002.out (x12_1 : Int) t1150
                              rw [← Ny1151.out] at HP77
                              have HQ77 := Aside0.mk HP77
                              clear HP77
                              refine hK.out _ _ ⟨(blk_cell BK1128.out 0).trans rfl, (blk_cell BK1128.out 1).trans rfl, (blk_cell BK1128.out 2).trans rfl, hHeld.2.2.2⟩ (fun hHeld => ?_)
                              clear hK K
                              refine norm_ (a' := ?_) ?_ ?_
                              rotate_left
                              · show Act.put _ (some 87) _ = _
                                simp only [Act.put, List.setIfInBounds_toArray, List.set_cons_zero, List.set_cons_succ, i64_w, i32_w]
                                rfl
                              refine pure_ (i := 11) (N := some 88) (v := ?_) (a' := ?_) #[true, true, true, true, true, true, true, true, true, true, true, true, false] rfl rfl (any_of HT_.out (by kernel_rfl)) (fun _ _ _ h => h) (Or.inl ⟨by rfl, ?_⟩) ?_ ?_
                              rotate_left
                              · intro w'
                                go_simp
                                with_reducible rfl
                              rotate_left
                              · simp only [Act.put, List.setIfInBounds_toArray, List.set_cons_zero, List.set_cons_succ, i64_w, i32_w]
                                rfl
                              refine last_ (i := 12) (N := none) #[true, true, true, true, true, true, true, true, true, true, true, true, true] rfl rfl (one_of HT_.out (by kernel_rfl)) (by decide) (fun K hK => ?_)
                              refine skip_ (w1 := ?_) (by rfl) rfl ?_ ?_
                              rotate_left
                              · go_simp
                                rfl
                              refine hK.out _ _ ?_
                              clear hK K
                              refine done_ (done_of HT_.out (by kernel_rfl)) ?_
                              try go_wp2_with (first | ((with_reducible refine gate_callee (f := 87) rfl ?_); refine goesM_ (some 92) rfl rfl Try.func87 #[.int .i64 a0, .slice (some ad1149) t1144.length co75] rfl ?_; (with_reducible refine (impl_field_monic.calls kj27 a0 _ _ t1144 t1152 _ ?side1 ?side2 A70.out).mono ?_); (case side1 => refine (Kd.R_reads' (e := 2) (base := w.heap.size) (ok := fun k_ => (((((w.heap.size ≤ k_) ∧ True) ∧ some k_ ≠ (.slice Ao37 x13_27.length co37 : Value).ownBlock) ∧ some k_ ≠ (.slice (some ad1143) x1129001_27.length co73 : Value).ownBlock) ∧ some k_ ≠ (.slice (some ⟨go69, 0, none⟩) x1129002_27.length co69 : Value).ownBlock)) (n := t1144.length) (c := co75) ?_).2.2; exact (by (with_reducible repeat (first | apply Kd.R_alloc | apply Kd.R_drewN | apply Kd.R_drew)); exact (Kd.R_mono (Kd.R_far (p := ⟨go69, (x12_1 : Int).toNat, none⟩) (Kd.R_mono HO1146.out (fun k_ hk => (⟨hk, fun e_ => hk.2 (by rw [e_]; rfl)⟩ : _ ∧ k_ ≠ go69))) (fun _ hk => hk.2) (.int .i64 t1150)) (fun _ h_ => h_.1)))); (case side2 => exact (Kd.R_reads' HO1146.out).2.1); rintro e w78 ⟨v1153, rfl, ho0, hb⟩; refine ⟨_, rfl, ?_⟩; have n0_ := Aside0.mk (Kd.V_elder' (by (with_reducible repeat (first | apply Kd.V_alloc | apply Kd.V_drewN | apply Kd.V_drew)); exact (Kd.V_mono (Kd.V_far (p := ⟨go69, (x12_1 : Int).toNat, none⟩) (Kd.V_mono HO_2.out (fun k_ hk => (⟨hk, fun e_ => hk.1.2.2.2.1 (by rw [e_]; rfl)⟩ : _ ∧ k_ ≠ go69))) (fun _ hk => hk.2) (.int .i64 t1150)) (fun _ h_ => h_.1))) (Kd.R_base ho0) hb); have n1_ := Aside0.mk (Kd.R_elder' (by (with_reducible repeat (first | apply Kd.R_alloc | apply Kd.R_drewN | apply Kd.R_drew)); exact (Kd.R_mono (Kd.R_far (p := ⟨go69, (x12_1 : Int).toNat, none⟩) (Kd.R_mono HO_13.out (fun k_ hk => (⟨hk, fun e_ => hk.1.2.2 (by rw [e_]; rfl)⟩ : _ ∧ k_ ≠ go69))) (fun _ hk => hk.2) (.int .i64 t1150)) (fun _ h_ => h_.1))) (Kd.R_base ho0) hb); have n2_ := Aside0.mk (Kd.R_elder' (by (with_reducible repeat (first | apply Kd.R_alloc | apply Kd.R_drewN | apply Kd.R_drew)); exact (Kd.R_mono (Kd.R_far (p := ⟨go69, (x12_1 : Int).toNat, none⟩) (Kd.R_mono HO_1129001.out (fun k_ hk => (⟨hk, fun e_ => hk.1.2.2 (by rw [e_]; rfl)⟩ : _ ∧ k_ ≠ go69))) (fun _ hk => hk.2) (.int .i64 t1150)) (fun _ h_ => h_.1))) (Kd.R_base ho0) hb); have n3_ := Aside0.mk (Kd.R_elder' (rs HQ77) (Kd.R_base ho0) hb); have n4_ := Aside0.mk (Kd.R_elder' (by (with_reducible repeat (first | apply Kd.R_alloc | apply Kd.R_drewN | apply Kd.R_drew)); exact (Kd.R_mono (Kd.R_far (p := ⟨go69, (x12_1 : Int).toNat, none⟩) (Kd.R_mono HO1146.out (fun k_ hk => (⟨hk, fun e_ => hk.2 (by rw [e_]; rfl)⟩ : _ ∧ k_ ≠ go69))) (fun _ hk => hk.2) (.int .i64 t1150)) (fun _ h_ => h_.1))) (Kd.R_base ho0) hb); have n5_ := Aside0.mk (Kd.R_lower (Kd.R_new' (Kd.R_new' (Kd.R_new' (Kd.R_new' (Kd.R_newM (M := fun k_ => (w.heap.size ≤ k_)) ho0 (below_size (by repeat (first | (with_reducible first | exact HB.out | apply below_alloc | apply pw_below_drewN | apply below_drew1 | refine below_set ?_ GB69.out | refine below_set ?_ GE1120.out | refine below_set ?_ GE1128.out) | exact HB.out))) (fun k_ h_ => h_)) (Kd.R_lt (by (with_reducible repeat (first | apply Kd.R_alloc | apply Kd.R_drewN | apply Kd.R_drew)); exact (Kd.R_mono (Kd.R_far (p := ⟨go69, (x12_1 : Int).toNat, none⟩) (Kd.R_mono HO_13.out (fun k_ hk => (⟨hk, fun e_ => hk.1.2.2 (by rw [e_]; rfl)⟩ : _ ∧ k_ ≠ go69))) (fun _ hk => hk.2) (.int .i64 t1150)) (fun _ h_ => h_.1))))) (Kd.R_lt (by (with_reducible repeat (first | apply Kd.R_alloc | apply Kd.R_drewN | apply Kd.R_drew)); exact (Kd.R_mono (Kd.R_far (p := ⟨go69, (x12_1 : Int).toNat, none⟩) (Kd.R_mono HO_1129001.out (fun k_ hk => (⟨hk, fun e_ => hk.1.2.2 (by rw [e_]; rfl)⟩ : _ ∧ k_ ≠ go69))) (fun _ hk => hk.2) (.int .i64 t1150)) (fun _ h_ => h_.1))))) (Kd.R_lt (rs HQ77))) (Kd.R_lt (by (with_reducible repeat (first | apply Kd.R_alloc | apply Kd.R_drewN | apply Kd.R_drew)); exact (Kd.R_mono (Kd.R_far (p := ⟨go69, (x12_1 : Int).toNat, none⟩) (Kd.R_mono HO1146.out (fun k_ hk => (⟨hk, fun e_ => hk.2 (by rw [e_]; rfl)⟩ : _ ∧ k_ ≠ go69))) (fun _ hk => hk.2) (.int .i64 t1150)) (fun _ h_ => h_.1))))) (below_size (by repeat (first | (with_reducible first | exact HB.out | apply below_alloc | apply pw_below_drewN | apply below_drew1 | refine below_set ?_ GB69.out | refine below_set ?_ GE1120.out | refine below_set ?_ GE1128.out) | exact HB.out)))); have n6_ := Aside0.mk (blk_below (g := gb1120) (o := .cells #[.int .i64 x1121000_1, .slice none 0 0, .slice none 0 0] 52 (0, 0)) (by (with_reducible repeat (first | refine blk_drewN ?_ _ | refine blk_drew ?_ | refine blk_alloc ?_ _)); refine blk_far ?_ (by have h_ := Kd.R_ne HO_1129002.out BK1120.out (by decide); intro e_; exact h_ (by rw [e_]; rfl)) _; (with_reducible repeat (first | refine blk_drewN ?_ _ | refine blk_drew ?_ | refine blk_alloc ?_ _)); exact BK1120.out) hb); have n7_ := Aside0.mk (blk_below (g := gb1128) (o := .cells #[.int .i64 a0, .slice (some ad1143) x1129001_27.length co73, .slice (some ⟨go69, 0, none⟩) x1129002_27.length co69] 52 (0, 0)) (by (with_reducible repeat (first | refine blk_drewN ?_ _ | refine blk_drew ?_ | refine blk_alloc ?_ _)); refine blk_far ?_ (by have h_ := Kd.R_ne HO_1129002.out BK1128.out (by decide); intro e_; exact h_ (by rw [e_]; rfl)) _; (with_reducible repeat (first | refine blk_drewN ?_ _ | refine blk_drew ?_ | refine blk_alloc ?_ _)); exact BK1128.out) hb); have n8_ := Aside0.mk (below_step (by repeat (first | (with_reducible first | exact HB.out | apply below_alloc | apply pw_below_drewN | apply below_drew1 | refine below_set ?_ GB69.out | refine below_set ?_ GE1120.out | refine below_set ?_ GE1128.out) | exact HB.out)) hb); clear HO_2; clear HO_13; clear HO_1129001; clear HO_1129002; clear HO1146; clear BK1120; clear BK1128; clear HB; have HO_2 := n0_; have HO_13 := n1_; have HO_1129001 := n2_; have HO_1129002 := n3_; have HO1146 := n4_; have HO1154 := n5_; have BK1120 := n6_; have BK1128 := n7_; have HB := n8_; clear n0_ n1_ n2_ n3_ n4_ n5_ n6_ n7_ n8_; (try clear hb); (try clear hb2); (try clear hk); (try clear hi); (try clear ho0)) | (go_at_call 87; (with_reducible refine (impl_field_monic.calls kj27 a0 _ _ t1144 t1152 _ ?side1 ?side2 A70.out).mono ?_); (case side1 => refine (Kd.R_reads' (e := 2) (base := w.heap.size) (ok := fun k_ => (((((w.heap.size ≤ k_) ∧ True) ∧ some k_ ≠ (.slice Ao37 x13_27.length co37 : Value).ownBlock) ∧ some k_ ≠ (.slice (some ad1143) x1129001_27.length co73 : Value).ownBlock) ∧ some k_ ≠ (.slice (some ⟨go69, 0, none⟩) x1129002_27.length co69 : Value).ownBlock)) (n := t1144.length) (c := co75) ?_).2.2; exact (by (with_reducible repeat (first | apply Kd.R_alloc | apply Kd.R_drewN | apply Kd.R_drew)); exact (Kd.R_mono (Kd.R_far (p := ⟨go69, (x12_1 : Int).toNat, none⟩) (Kd.R_mono HO1146.out (fun k_ hk => (⟨hk, fun e_ => hk.2 (by rw [e_]; rfl)⟩ : _ ∧ k_ ≠ go69))) (fun _ hk => hk.2) (.int .i64 t1150)) (fun _ h_ => h_.1)))); (case side2 => exact (Kd.R_reads' HO1146.out).2.1); rintro e w78 ⟨v1153, rfl, ho0, hb⟩; have n0_ := Aside0.mk (Kd.V_elder' (by (with_reducible repeat (first | apply Kd.V_alloc | apply Kd.V_drewN | apply Kd.V_drew)); exact (Kd.V_mono (Kd.V_far (p := ⟨go69, (x12_1 : Int).toNat, none⟩) (Kd.V_mono HO_2.out (fun k_ hk => (⟨hk, fun e_ => hk.1.2.2.2.1 (by rw [e_]; rfl)⟩ : _ ∧ k_ ≠ go69))) (fun _ hk => hk.2) (.int .i64 t1150)) (fun _ h_ => h_.1))) (Kd.R_base ho0) hb); have n1_ := Aside0.mk (Kd.R_elder' (by (with_reducible repeat (first | apply Kd.R_alloc | apply Kd.R_drewN | apply Kd.R_drew)); exact (Kd.R_mono (Kd.R_far (p := ⟨go69, (x12_1 : Int).toNat, none⟩) (Kd.R_mono HO_13.out (fun k_ hk => (⟨hk, fun e_ => hk.1.2.2 (by rw [e_]; rfl)⟩ : _ ∧ k_ ≠ go69))) (fun _ hk => hk.2) (.int .i64 t1150)) (fun _ h_ => h_.1))) (Kd.R_base ho0) hb); have n2_ := Aside0.mk (Kd.R_elder' (by (with_reducible repeat (first | apply Kd.R_alloc | apply Kd.R_drewN | apply Kd.R_drew)); exact (Kd.R_mono (Kd.R_far (p := ⟨go69, (x12_1 : Int).toNat, none⟩) (Kd.R_mono HO_1129001.out (fun k_ hk => (⟨hk, fun e_ => hk.1.2.2 (by rw [e_]; rfl)⟩ : _ ∧ k_ ≠ go69))) (fun _ hk => hk.2) (.int .i64 t1150)) (fun _ h_ => h_.1))) (Kd.R_base ho0) hb); have n3_ := Aside0.mk (Kd.R_elder' (rs HQ77) (Kd.R_base ho0) hb); have n4_ := Aside0.mk (Kd.R_elder' (by (with_reducible repeat (first | apply Kd.R_alloc | apply Kd.R_drewN | apply Kd.R_drew)); exact (Kd.R_mono (Kd.R_far (p := ⟨go69, (x12_1 : Int).toNat, none⟩) (Kd.R_mono HO1146.out (fun k_ hk => (⟨hk, fun e_ => hk.2 (by rw [e_]; rfl)⟩ : _ ∧ k_ ≠ go69))) (fun _ hk => hk.2) (.int .i64 t1150)) (fun _ h_ => h_.1))) (Kd.R_base ho0) hb); have n5_ := Aside0.mk (Kd.R_lower (Kd.R_new' (Kd.R_new' (Kd.R_new' (Kd.R_new' (Kd.R_newM (M := fun k_ => (w.heap.size ≤ k_)) ho0 (below_size (by repeat (first | (with_reducible first | exact HB.out | apply below_alloc | apply pw_below_drewN | apply below_drew1 | refine below_set ?_ GB69.out | refine below_set ?_ GE1120.out | refine below_set ?_ GE1128.out) | exact HB.out))) (fun k_ h_ => h_)) (Kd.R_lt (by (with_reducible repeat (first | apply Kd.R_alloc | apply Kd.R_drewN | apply Kd.R_drew)); exact (Kd.R_mono (Kd.R_far (p := ⟨go69, (x12_1 : Int).toNat, none⟩) (Kd.R_mono HO_13.out (fun k_ hk => (⟨hk, fun e_ => hk.1.2.2 (by rw [e_]; rfl)⟩ : _ ∧ k_ ≠ go69))) (fun _ hk => hk.2) (.int .i64 t1150)) (fun _ h_ => h_.1))))) (Kd.R_lt (by (with_reducible repeat (first | apply Kd.R_alloc | apply Kd.R_drewN | apply Kd.R_drew)); exact (Kd.R_mono (Kd.R_far (p := ⟨go69, (x12_1 : Int).toNat, none⟩) (Kd.R_mono HO_1129001.out (fun k_ hk => (⟨hk, fun e_ => hk.1.2.2 (by rw [e_]; rfl)⟩ : _ ∧ k_ ≠ go69))) (fun _ hk => hk.2) (.int .i64 t1150)) (fun _ h_ => h_.1))))) (Kd.R_lt (rs HQ77))) (Kd.R_lt (by (with_reducible repeat (first | apply Kd.R_alloc | apply Kd.R_drewN | apply Kd.R_drew)); exact (Kd.R_mono (Kd.R_far (p := ⟨go69, (x12_1 : Int).toNat, none⟩) (Kd.R_mono HO1146.out (fun k_ hk => (⟨hk, fun e_ => hk.2 (by rw [e_]; rfl)⟩ : _ ∧ k_ ≠ go69))) (fun _ hk => hk.2) (.int .i64 t1150)) (fun _ h_ => h_.1))))) (below_size (by repeat (first | (with_reducible first | exact HB.out | apply below_alloc | apply pw_below_drewN | apply below_drew1 | refine below_set ?_ GB69.out | refine below_set ?_ GE1120.out | refine below_set ?_ GE1128.out) | exact HB.out)))); have n6_ := Aside0.mk (blk_below (g := gb1120) (o := .cells #[.int .i64 x1121000_1, .slice none 0 0, .slice none 0 0] 52 (0, 0)) (by (with_reducible repeat (first | refine blk_drewN ?_ _ | refine blk_drew ?_ | refine blk_alloc ?_ _)); refine blk_far ?_ (by have h_ := Kd.R_ne HO_1129002.out BK1120.out (by decide); intro e_; exact h_ (by rw [e_]; rfl)) _; (with_reducible repeat (first | refine blk_drewN ?_ _ | refine blk_drew ?_ | refine blk_alloc ?_ _)); exact BK1120.out) hb); have n7_ := Aside0.mk (blk_below (g := gb1128) (o := .cells #[.int .i64 a0, .slice (some ad1143) x1129001_27.length co73, .slice (some ⟨go69, 0, none⟩) x1129002_27.length co69] 52 (0, 0)) (by (with_reducible repeat (first | refine blk_drewN ?_ _ | refine blk_drew ?_ | refine blk_alloc ?_ _)); refine blk_far ?_ (by have h_ := Kd.R_ne HO_1129002.out BK1128.out (by decide); intro e_; exact h_ (by rw [e_]; rfl)) _; (with_reducible repeat (first | refine blk_drewN ?_ _ | refine blk_drew ?_ | refine blk_alloc ?_ _)); exact BK1128.out) hb); have n8_ := Aside0.mk (below_step (by repeat (first | (with_reducible first | exact HB.out | apply below_alloc | apply pw_below_drewN | apply below_drew1 | refine below_set ?_ GB69.out | refine below_set ?_ GE1120.out | refine below_set ?_ GE1128.out) | exact HB.out)) hb); clear HO_2; clear HO_13; clear HO_1129001; clear HO_1129002; clear HO1146; clear BK1120; clear BK1128; clear HB; have HO_2 := n0_; have HO_13 := n1_; have HO_1129001 := n2_; have HO_1129002 := n3_; have HO1146 := n4_; have HO1154 := n5_; have BK1120 := n6_; have BK1128 := n7_; have HB := n8_; clear n0_ n1_ n2_ n3_ n4_ n5_ n6_ n7_ n8_; (try clear hb); (try clear hb2); (try clear hk); (try clear hi); (try clear ho0)))
                              (try simp only [← hl2_27, ← hl13_27])
                              go_roundg kj27
                              case measure => have := HK1.out; have := HJ27.out; omega
                              case rel => exact ⟨(x2_27), (t1152), (ji64), (x1121000_1), (x1129001_27), (y1151), (.slice (some ad1143) x1129001_27.length co73), (.slice (some ⟨go69, 0, none⟩) x1129002_27.length co69), (by first | rfl | (simp; done) | (simp only [← hji64] <;> (first | rfl | simp)) | (simp [*]; done)), H', ⟨by have := HK1.out; have := HJ27.out; omega⟩, ⟨by (try simp only [hl2_27]); (try simp only [hl13_27]); (with_reducible repeat (first | apply Kd.V_alloc | apply Kd.V_drewN | apply Kd.V_drew)); exact Kd.V_mono HO_2.out (fun _ hk => ⟨hk.1.1.1, ⟨hk.1.1.2.2.1, ⟨hk.1.1.2.2.2.1, ⟨hk.1.1.2.2.2.2.1, hk.1.1.2.2.2.2.2⟩⟩⟩⟩)⟩, ⟨Kd.V_mono (Kd.R_V (by (try simp only [hl2_27]); (try simp only [hl13_27]); (with_reducible repeat (first | apply Kd.R_alloc | apply Kd.R_drewN | apply Kd.R_drew)); exact Kd.R_mono (ok' := fun k_ => (w.heap.size ≤ k_) ∧ some k_ ≠ Value.ownBlock _ ∧ some k_ ≠ Value.ownBlock _ ∧ k_ ≠ _ ∧ k_ ≠ _) (Kd.R_types (Kd.R_types HO1154.out BK1120.out (by decide)) BK1128.out (by decide)) (fun _ hk => ⟨hk.1.1.1.1.1.1.1, ⟨hk.1.1.1.1.2, ⟨hk.1.1.1.2, ⟨hk.1.2, hk.2⟩⟩⟩⟩))) (fun k_ hk => by first | exact ⟨(.inr (hk.1)), hk.2⟩ | exact (.inr (hk)))⟩, ⟨by (try simp only [hl2_27]); (try simp only [hl13_27]); (with_reducible repeat (first | apply Kd.R_alloc | apply Kd.R_drewN | apply Kd.R_drew)); exact Kd.R_mono HO_1129001.out (fun _ hk => ⟨hk.1.1.1, hk.1.1.2.2⟩)⟩, ⟨by (try simp only [hl2_27]); (try simp only [hl13_27]); (with_reducible repeat (first | apply Kd.R_alloc | apply Kd.R_drewN | apply Kd.R_drew)); exact Kd.R_mono HO_1129002.out (fun _ hk => ⟨hk.1.1.1, hk.1.1.2.2⟩)⟩, ⟨by (try simp only [hl2_27]); (try simp only [hl13_27]); (with_reducible repeat (first | refine blk_drewN ?_ _ | refine blk_drew ?_ | refine blk_alloc ?_ _)); exact BK1120.out⟩, ⟨by (try simp only [hl2_27]); (try simp only [hl13_27]); (with_reducible repeat (first | refine blk_drewN ?_ _ | refine blk_drew ?_ | refine blk_alloc ?_ _)); exact BK1128.out⟩, ⟨by repeat (first | (with_reducible first | exact HB.out | apply below_alloc | apply pw_below_drewN | apply below_drew1 | refine below_set ?_ GE1120.out | refine below_set ?_ GE1128.out) | exact HB.out)⟩⟩
                            · rw [if_neg c68] at H
                              exact absurd H (by simp)
                          · rw [if_neg c66] at H
                            exact absurd H (by simp)
                        · rw [if_neg c65] at H
                          exact absurd H (by simp)
                      · rw [if_neg c63] at H
                        have c63b0 : (t1148 == (wrap64 (x12_1 - 1))) = false := beq_eq_false_iff_ne.mpr c63
                        have c63b1 : (t1148 != (wrap64 (x12_1 - 1))) = true := bne_iff_ne.mpr c63
                        simp only [Option.some.injEq, Prod.mk.injEq] at H
                        obtain ⟨rfl, rfl, rfl, rfl⟩ := H
                        have hnb79 := NB1128_1120.out
                        have hnc79 := NB1120_1128.out
                        have hcz80_0 : wc.cell? ⟨gb1128, 0, none⟩ = some (.int .i64 a0) := (blk_cell BK1128.out 0).trans rfl
                        have hcz80_1 : wc.cell? ⟨gb1128, 1, none⟩ = some (u1129001) := (blk_cell BK1128.out 1).trans rfl
                        have hcz80_2 : wc.cell? ⟨gb1128, 2, none⟩ = some (u1129002) := (blk_cell BK1128.out 2).trans rfl
                        have hfz80_0 := blk_frozen BK1128.out 0
                        have hfz80_1 := blk_frozen BK1128.out 1
                        have hfz80_2 := blk_frozen BK1128.out 2
                        obtain ⟨Ao81, co81, eo81⟩ := Kd.R_slice HO_1129001.out
                        subst eo81
                        have p1143 : 0 ≤ (x12_1 : Int) := of_decide_eq_true (by first | (with_reducible assumption) | assumption)
                        have q1143 : x12_1 < (x1129001_27.length : Int) := of_decide_eq_true (by first | (with_reducible assumption) | assumption)
                        obtain ⟨ad1143, e1143, hx1143_0⟩ := Kd.at_int (Kd.R_reads' HO_1129001.out).2.2 x12_1 p1143 q1143
                        cases e1143
                        replace p1143 := eq_true p1143
                        replace q1143 := eq_true q1143
                        go_wp2_with (first | ((with_reducible refine gate_callee (f := 73) rfl ?_); refine goesM_ (some 60) rfl rfl Try.func73 #[.int .i64 a0, .slice Ao37 x13_27.length co37, .slice Ao32 x2_27.length co32, .int .i64 (rd x1129001_27 x12_1)] rfl ?_; (with_reducible refine (impl_field_add.calls kj27 a0 _ _ x13_27 _ _ x2_27 (rd x1129001_27 x12_1) t1144 _ ?side1 ?side2 ?side3 ?side4 A48.out).mono ?_); (case side1 => exact cs ((Kd.R_reads' HO_13.out).2.2)); (case side2 => exact (Kd.R_reads' HO_13.out).2.1); (case side3 => exact cs ((Kd.V_reads' HO_2.out).2.2)); (case side4 => exact (Kd.V_reads' HO_2.out).2.1); rintro e w82 ⟨v1145, rfl, ho0, hb⟩; refine ⟨_, rfl, ?_⟩; have n0_ := Aside0.mk (Kd.V_elder' (by (with_reducible repeat (first | apply Kd.V_alloc | apply Kd.V_drewN | apply Kd.V_drew)); exact HO_2.out) (Kd.R_base ho0) hb); have n1_ := Aside0.mk (Kd.R_elder' (rs HO_13) (Kd.R_base ho0) hb); have n2_ := Aside0.mk (Kd.R_elder' (rs HO_1129001) (Kd.R_base ho0) hb); have n3_ := Aside0.mk (Kd.R_elder' (rs HO_1129002) (Kd.R_base ho0) hb); have n4_ := Aside0.mk (Kd.R_lower (Kd.R_new' (Kd.R_new' (Kd.R_new' (Kd.R_newM (M := fun k_ => (w.heap.size ≤ k_)) ho0 (below_size (by repeat (first | (with_reducible first | exact HB.out | apply below_alloc | apply pw_below_drewN | apply below_drew1 | refine below_set ?_ GE1120.out | refine below_set ?_ GE1128.out) | exact HB.out))) (fun k_ h_ => h_)) (Kd.R_lt (rs HO_13))) (Kd.R_lt (rs HO_1129001))) (Kd.R_lt (rs HO_1129002))) (below_size (by repeat (first | (with_reducible first | exact HB.out | apply below_alloc | apply pw_below_drewN | apply below_drew1 | refine below_set ?_ GE1120.out | refine below_set ?_ GE1128.out) | exact HB.out)))); have n5_ := Aside0.mk (blk_below (g := gb1120) (o := .cells #[.int .i64 x1121000_1, .slice none 0 0, .slice none 0 0] 52 (0, 0)) (by (with_reducible repeat (first | refine blk_drewN ?_ _ | refine blk_drew ?_ | refine blk_alloc ?_ _)); exact BK1120.out) hb); have n6_ := Aside0.mk (blk_below (g := gb1128) (o := .cells #[.int .i64 a0, .slice (some ad1143) x1129001_27.length co81, u1129002] 52 (0, 0)) (by (with_reducible repeat (first | refine blk_drewN ?_ _ | refine blk_drew ?_ | refine blk_alloc ?_ _)); exact BK1128.out) hb); have n7_ := Aside0.mk (below_step (by repeat (first | (with_reducible first | exact HB.out | apply below_alloc | apply pw_below_drewN | apply below_drew1 | refine below_set ?_ GE1120.out | refine below_set ?_ GE1128.out) | exact HB.out)) hb); clear HO_2; clear HO_13; clear HO_1129001; clear HO_1129002; clear BK1120; clear BK1128; clear HB; have HO_2 := n0_; have HO_13 := n1_; have HO_1129001 := n2_; have HO_1129002 := n3_; have HO1146 := n4_; have BK1120 := n5_; have BK1128 := n6_; have HB := n7_; clear n0_ n1_ n2_ n3_ n4_ n5_ n6_ n7_; (try clear hb); (try clear hb2); (try clear hk); (try clear hi); (try clear ho0); obtain ⟨Ao83, co83, eo83⟩ := Kd.R_slice HO1146.out; subst eo83) | ((with_reducible refine gate_callee (f := 85) rfl ?_); refine goesM_ (some 72) rfl rfl Try.func85 #[.slice Ao83 t1144.length co83] rfl ?_; (with_reducible refine (impl_degree.calls _ _ t1144 t1148 _ ?side1 ?side2 A62.out).mono ?_); (case side1 => exact cs ((Kd.R_reads' HO1146.out).2.2)); (case side2 => exact (Kd.R_reads' HO1146.out).2.1); rintro e w' ⟨rfl, ⟨nd, rfl⟩⟩; refine ⟨_, rfl, ?_⟩; have m0_ := Aside0.mk (Kd.R_drewN HO1146.out nd); have m1_ := Aside0.mk (Kd.R_drewN HO_1129001.out nd); have m2_ := Aside0.mk (Kd.R_drewN HO_1129002.out nd); have m3_ := Aside0.mk (Kd.R_drewN HO_13.out nd); have m4_ := Aside0.mk (Kd.V_drewN HO_2.out nd); have m5_ := Aside0.mk (blk_drewN BK1120.out nd); have m6_ := Aside0.mk (blk_drewN BK1128.out nd); have m7_ := Aside0.mk (pw_below_drewN HB.out nd); clear HB BK1128 BK1120 HO_2 HO_13 HO_1129002 HO_1129001 HO1146; have HO1146 := m0_; have HO_1129001 := m1_; have HO_1129002 := m2_; have HO_13 := m3_; have HO_2 := m4_; have BK1120 := m5_; have BK1128 := m6_; have HB := m7_; clear m0_ m1_ m2_ m3_ m4_ m5_ m6_ m7_; generalize World.drewN w82 nd = w82 at HO1146 HO_1129001 HO_1129002 HO_13 HO_2 BK1120 BK1128 HB ⊢; have hcz84_0 : w82.cell? ⟨gb1120, 0, none⟩ = some (.int .i64 x1121000_1) := (blk_cell BK1120.out 0).trans rfl; have hcz84_1 : w82.cell? ⟨gb1120, 1, none⟩ = some (.slice none 0 0) := (blk_cell BK1120.out 1).trans rfl; have hcz84_2 : w82.cell? ⟨gb1120, 2, none⟩ = some (.slice none 0 0) := (blk_cell BK1120.out 2).trans rfl; have hfz84_0 := blk_frozen BK1120.out 0; have hfz84_1 := blk_frozen BK1120.out 1; have hfz84_2 := blk_frozen BK1120.out 2))
                        refine bodyPost_ret (results_ct rfl _ _ gb1120 52 #[.int .i64 0, .slice none 0 0, .slice none 0 0] (0, 0) _ rfl (by (with_reducible repeat (first | refine blk_drewN ?_ _ | refine blk_drew ?_ | refine blk_alloc ?_ _)); refine blk_put (cs := #[.int .i64 0, .slice none 0 0, .slice none 0 0]) ?_ 2 _ rfl; (with_reducible repeat (first | refine blk_drewN ?_ _ | refine blk_drew ?_ | refine blk_alloc ?_ _)); refine blk_put (cs := #[.int .i64 0, .slice none 0 0, .slice none 0 0]) ?_ 1 _ rfl; (with_reducible repeat (first | refine blk_drewN ?_ _ | refine blk_drew ?_ | refine blk_alloc ?_ _)); refine blk_put (cs := #[.int .i64 x1121000_1, .slice none 0 0, .slice none 0 0]) ?_ 0 _ rfl; (with_reducible repeat (first | refine blk_drewN ?_ _ | refine blk_drew ?_ | refine blk_alloc ?_ _)); exact BK1120.out) Try.underlying52 rfl (by kernel_rfl)) rfl ?_
                        exact ⟨_, _, by first | rfl | (simp [errW_none, errW_some] <;> rfl) | (simp [*, errW_none, errW_some] <;> rfl), by first | exact Kd.R_nil _ _ _ _ _ | exact Kd.N_nil _ _ _ _ _ | exact Kd.V_nil _ _ _ _ _ | exact Kd.Q_nil _ _ _ _ _ | exact Kd.S_nil _ _ _ _ _, by first | exact Kd.R_nil _ _ _ _ _ | exact Kd.N_nil _ _ _ _ _ | exact Kd.V_nil _ _ _ _ _ | exact Kd.Q_nil _ _ _ _ _ | exact Kd.S_nil _ _ _ _ _, by repeat (first | (with_reducible first | exact HB.out | apply below_alloc | apply pw_below_drewN | apply below_drew1 | refine below_set ?_ GE1120.out | refine below_set ?_ GE1128.out) | exact HB.out)⟩
                  · rw [if_neg c47] at H
                    exact absurd H (by simp)
                · rw [if_neg c46] at H
                  exact absurd H (by simp)
          · rw [if_neg c23] at H
            have c23b0 : decide (0 ≤ x12_1) = false := decide_eq_false c23
            clear c23
            simp only [Option.some.injEq, Prod.mk.injEq] at H
            obtain ⟨rfl, rfl, rfl, rfl⟩ := H
            have hnb85 := NB1128_1120.out
            have hnc85 := NB1120_1128.out
            have hcz86_0 : wr.cell? ⟨gb1128, 0, none⟩ = some (.int .i64 a0) := (blk_cell BK1128.out 0).trans rfl
            have hcz86_1 : wr.cell? ⟨gb1128, 1, none⟩ = some (u1129001) := (blk_cell BK1128.out 1).trans rfl
            have hcz86_2 : wr.cell? ⟨gb1128, 2, none⟩ = some (u1129002) := (blk_cell BK1128.out 2).trans rfl
            have hfz86_0 := blk_frozen BK1128.out 0
            have hfz86_1 := blk_frozen BK1128.out 1
            have hfz86_2 := blk_frozen BK1128.out 2
            have hcz87_0 : wr.cell? ⟨gb1120, 0, none⟩ = some (.int .i64 x1121000_1) := (blk_cell BK1120.out 0).trans rfl
            have hcz87_1 : wr.cell? ⟨gb1120, 1, none⟩ = some (.slice none 0 0) := (blk_cell BK1120.out 1).trans rfl
            have hcz87_2 : wr.cell? ⟨gb1120, 2, none⟩ = some (.slice none 0 0) := (blk_cell BK1120.out 2).trans rfl
            have hfz87_0 := blk_frozen BK1120.out 0
            have hfz87_1 := blk_frozen BK1120.out 1
            have hfz87_2 := blk_frozen BK1120.out 2
            obtain ⟨Ao88, co88, eo88⟩ := Kd.R_slice HO_1129001.out
            subst eo88
            obtain ⟨Ao89, co89, eo89⟩ := Kd.R_slice HO_1129002.out
            subst eo89
            go_wp2
            refine bodyPost_ret (results_ct rfl _ _ gb1120 52 #[.int .i64 a0, .slice Ao88 x1129001_1.length co88, .slice Ao89 x1129002_1.length co89] (0, 0) _ rfl (by (with_reducible repeat (first | refine blk_drewN ?_ _ | refine blk_drew ?_ | refine blk_alloc ?_ _)); refine blk_put (cs := #[.int .i64 a0, .slice Ao88 x1129001_1.length co88, .slice none 0 0]) ?_ 2 _ rfl; (with_reducible repeat (first | refine blk_drewN ?_ _ | refine blk_drew ?_ | refine blk_alloc ?_ _)); refine blk_put (cs := #[.int .i64 a0, .slice none 0 0, .slice none 0 0]) ?_ 1 _ rfl; (with_reducible repeat (first | refine blk_drewN ?_ _ | refine blk_drew ?_ | refine blk_alloc ?_ _)); refine blk_put (cs := #[.int .i64 x1121000_1, .slice none 0 0, .slice none 0 0]) ?_ 0 _ rfl; (with_reducible repeat (first | refine blk_drewN ?_ _ | refine blk_drew ?_ | refine blk_alloc ?_ _)); exact BK1120.out) Try.underlying52 rfl (by kernel_rfl)) rfl ?_
            exact ⟨_, _, by first | rfl | (simp [errW_none, errW_some] <;> rfl) | (simp [*, errW_none, errW_some] <;> rfl), by (with_reducible repeat (first | apply Kd.R_alloc | apply Kd.R_drewN | apply Kd.R_drew)); exact Kd.R_mono (Kd.R_far (p := ⟨gb1120, 2, none⟩) (Kd.R_far (p := ⟨gb1120, 1, none⟩) (Kd.R_far (p := ⟨gb1120, 0, none⟩) (Kd.R_types HO_1129001.out BK1120.out (by decide)) (fun _ hk => hk.2) (.int .i64 a0)) (fun _ hk => hk.2) (.slice Ao88 x1129001_1.length co88)) (fun _ hk => hk.2) (.slice Ao89 x1129002_1.length co89)) (fun _ hk => ⟨hk.1.1, hk.1.2⟩), by (with_reducible repeat (first | apply Kd.R_alloc | apply Kd.R_drewN | apply Kd.R_drew)); exact Kd.R_mono (Kd.R_far (p := ⟨gb1120, 2, none⟩) (Kd.R_far (p := ⟨gb1120, 1, none⟩) (Kd.R_far (p := ⟨gb1120, 0, none⟩) (Kd.R_types HO_1129002.out BK1120.out (by decide)) (fun _ hk => hk.2) (.int .i64 a0)) (fun _ hk => hk.2) (.slice Ao88 x1129001_1.length co88)) (fun _ hk => hk.2) (.slice Ao89 x1129002_1.length co89)) (fun _ hk => ⟨hk.1.1, hk.1.2⟩), by repeat (first | (with_reducible first | exact HB.out | apply below_alloc | apply pw_below_drewN | apply below_drew1 | refine below_set ?_ GE1120.out | refine below_set ?_ GE1128.out) | exact HB.out)⟩
    · rw [if_neg c7] at H
      exact absurd H (by simp)
  · rw [if_neg c6] at H
    exact absurd H (by simp)
end Go.Proofs.Ytiffnigjblbakaa.H
