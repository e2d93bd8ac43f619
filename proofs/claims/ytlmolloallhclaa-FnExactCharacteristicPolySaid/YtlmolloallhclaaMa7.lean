/- Joined texts of a claim: the printed functions and what is proved of them. -/
import Derived.Test.YtlmolloallhclaaYHx0
import Derived.Test.YtlmolloallhclaaMa6
import Derived.Test.YtlmolloallhclaaMa1
import Derived.Test.YtlmolloallhclaaMa5
namespace Go.Proofs.Ytlmolloallhclaa.H
open Go.RowKit Go.Proofs.YtlmolloallhclaaW.PrintWords Go.Proofs.YtlmolloallhclaaW.PrintLast Go.Proofs.YtlmolloallhclaaW.PrintMore
attribute [local go_sem] max2_int min2_int max_two min_two max_three min_three max_four min_four   -- for this text's walks alone
set_option linter.unusedVariables false
set_option linter.unusedSimpArgs false
mutual
def impl_field_characteristic.l0 : Nat → Int → List (List Int) → List Int → Int → Option (List Int)
 | 0, _, _, _, _ => none
 | k + 1, x0, x1, x5, x6 => if x6 ≥ 0 then (if 0 ≤ x6 then (if x6 < (x1.length : Int) then (if x6 < ((rd_L1 x1 x6).length : Int) then ((impl_field_mod.f x0 (wrap64 (-(rd (rd_L1 x1 x6) x6)))).bind fun t421 => (if 0 ≤ (wrap64 ((wrap64 ((x1.length : Int) - x6)) - 1)) then (if (wrap64 ((wrap64 ((x1.length : Int) - x6)) - 1) : Int).toNat ≤ 35184372088832 then ((some (List.replicate (wrap64 ((wrap64 ((x1.length : Int) - x6)) - 1) : Int).toNat 0 : List Int)).bind fun y425 => (impl_field_characteristic.l1 k x0 x1 x5 x6 (wrap64 ((x1.length : Int) - x6)) (([1, t421] : List Int)) y425 (y425.length : Int) 0)) else (none)) else (none))) else (none)) else (none)) else (none)) else ((slices_Reverse_int64_int64.f k x5).bind fun t418 => (some t418))
def impl_field_characteristic.l1 : Nat → Int → List (List Int) → List Int → Int → Int → List Int → List Int → Int → Int → Option (List Int)
 | 0, _, _, _, _, _, _, _, _, _ => none
 | k + 1, x0, x1, x5, x6, x7, x8, x9, x45, x46 => if x46 < x45 then (if 0 ≤ (wrap64 ((wrap64 (x6 + 1)) + x46)) then (if (wrap64 ((wrap64 (x6 + 1)) + x46)) < (x1.length : Int) then (if 0 ≤ x6 then (if x6 < ((rd_L1 x1 (wrap64 ((wrap64 (x6 + 1)) + x46))).length : Int) then (if 0 ≤ x46 then (if x46 < (x9.length : Int) then (impl_field_characteristic.l1 k x0 x1 x5 x6 x7 x8 (x9.set (x46 : Int).toNat (rd (rd_L1 x1 (wrap64 ((wrap64 (x6 + 1)) + x46))) x6)) x45 (wrap64 (x46 + 1))) else (none)) else (none)) else (none)) else (none)) else (none)) else (none)) else (impl_field_characteristic.l2 k x0 x1 x5 x6 x7 x8 x9 (wrap64 (x7 - 1)) 0)
def impl_field_characteristic.l2 : Nat → Int → List (List Int) → List Int → Int → Int → List Int → List Int → Int → Int → Option (List Int)
 | 0, _, _, _, _, _, _, _, _, _ => none
 | k + 1, x0, x1, x5, x6, x7, x8, x9, x64, x65 => if x65 < x64 then (impl_field_characteristic.l3 k x0 x1 x5 x6 x7 x8 x9 0 x64 x65 x9 (x9.length : Int) 0) else (if 0 ≤ (wrap64 (x7 + 1)) then (if (wrap64 (x7 + 1) : Int).toNat ≤ 35184372088832 then ((some (List.replicate (wrap64 (x7 + 1) : Int).toNat 0 : List Int)).bind fun y442 => (impl_field_characteristic.l4 k x0 x1 x5 x6 x8 y442 (y442.length : Int) 0)) else (none)) else (none))
def impl_field_characteristic.l3 : Nat → Int → List (List Int) → List Int → Int → Int → List Int → List Int → Int → Int → Int → List Int → Int → Int → Option (List Int)
 | 0, _, _, _, _, _, _, _, _, _, _, _, _, _ => none
 | k + 1, x0, x1, x5, x6, x7, x8, x9, x11, x64, x65, x67, x68, x69 => if x69 < x68 then (if 0 ≤ x69 then (if x69 < (x67.length : Int) then (if 0 ≤ x6 then (if x6 < (x1.length : Int) then (if 0 ≤ (wrap64 ((wrap64 (x6 + 1)) + x69)) then (if (wrap64 ((wrap64 (x6 + 1)) + x69)) < ((rd_L1 x1 x6).length : Int) then ((impl_field_mod.f x0 (wrap64 (x11 + (wrap64 ((rd (rd_L1 x1 x6) (wrap64 ((wrap64 (x6 + 1)) + x69))) * (rd x67 x69)))))).bind fun t434 => (impl_field_characteristic.l3 k x0 x1 x5 x6 x7 x8 x9 t434 x64 x65 x67 x68 (wrap64 (x69 + 1)))) else (none)) else (none)) else (none)) else (none)) else (none)) else (none)) else ((impl_field_mod.f x0 (wrap64 (-x11))).bind fun t435 => (if x8.length < 17592186044416 then ((impl_field_apply.f k x0 x1 (wrap64 (x6 + 1)) x9).bind fun t439 => (impl_field_characteristic.l2 k x0 x1 x5 x6 x7 (x8 ++ [t435]) t439 x64 (wrap64 (x65 + 1)))) else (none)))
def impl_field_characteristic.l4 : Nat → Int → List (List Int) → List Int → Int → List Int → List Int → Int → Int → Option (List Int)
 | 0, _, _, _, _, _, _, _, _ => none
 | k + 1, x0, x1, x5, x6, x8, x14, x109, x110 => if x110 < x109 then (impl_field_characteristic.l5 k x0 x1 x5 x6 x8 x14 x110 x109 x110 x5 (x5.length : Int) 0) else (impl_field_characteristic.l0 k x0 x1 x14 (wrap64 (x6 - 1)))
def impl_field_characteristic.l5 : Nat → Int → List (List Int) → List Int → Int → List Int → List Int → Int → Int → Int → List Int → Int → Int → Option (List Int)
 | 0, _, _, _, _, _, _, _, _, _, _, _, _ => none
 | k + 1, x0, x1, x5, x6, x8, x14, x15, x109, x110, x113, x114, x115 => if x115 < x114 then (if 0 ≤ x115 then (if x115 < (x113.length : Int) then (if x15 ≥ x115 then (if 0 ≤ x15 then (if x15 < (x14.length : Int) then (if 0 ≤ (wrap64 (x15 - x115)) then (if (wrap64 (x15 - x115)) < (x8.length : Int) then ((impl_field_mod.f x0 (wrap64 ((rd x14 x15) + (wrap64 ((rd x8 (wrap64 (x15 - x115))) * (rd x113 x115)))))).bind fun t448 => (impl_field_characteristic.l5 k x0 x1 x5 x6 x8 (x14.set (x15 : Int).toNat t448) x15 x109 x110 x113 x114 (wrap64 (x115 + 1)))) else (none)) else (none)) else (none)) else (none)) else (impl_field_characteristic.l5 k x0 x1 x5 x6 x8 x14 x15 x109 x110 x113 x114 (wrap64 (x115 + 1)))) else (none)) else (none)) else (impl_field_characteristic.l4 k x0 x1 x5 x6 x8 x14 x109 (wrap64 (x110 + 1)))
end
def impl_field_characteristic.f (k : Nat) (a0 : Int) (l1 : List (List Int)) : Option (List Int) := impl_field_characteristic.l0 k a0 l1 (([1] : List Int)) (wrap64 ((l1.length : Int) - 1))
def impl_field_characteristic.T32 : Bool × List (List Nat × List Nat) := (true, [([], []), ([], []), ([], []), ([], []), ([], []), ([3, 4], [3, 4]), ([5], [5]), ([], []), ([], []), ([], []), ([8, 9], [8, 9]), ([7, 10], [7, 10]), ([11], [11]), ([], []), ([12, 13], [12, 13]), ([6, 14], [6, 14]), ([2, 15], [2, 15]), ([0, 1, 0, 1, 2, 3, 4, 5, 6, 7, 8, 9, 10, 11, 12, 13, 14, 15, 16], [0, 1]), ([17, 16, 16, 0, 1, 2, 3, 4, 5, 6, 7, 8, 9, 10, 11, 12, 13, 14, 15, 16], [16, 17])])
def impl_field_characteristic.B32 : List Nat := [0, 0, 0, 0, 0, 24, 56, 0, 0, 0, 768, 1920, 3968, 0, 16256, 32760, 65532, 131071, 262143]
theorem impl_field_characteristic.tab32 : rtab .any (opsOf Try.f69 32) = impl_field_characteristic.T32 := by kernel_rfl
theorem impl_field_characteristic.bits32 : waitsOk impl_field_characteristic.T32.2 impl_field_characteristic.B32 = true := by kernel_rfl
set_option maxHeartbeats 8000000 in
set_option maxRecDepth 100000 in
theorem impl_field_characteristic.calls (k : Nat) (a0 : Int) (A1 : Option Addr) (c1 : Nat) (l1 : List (List Int)) (r : List Int) (w : World) (hr1 : Kd.C (Kd.slice 2 (Kd.int .i64)) w A1 l1.length l1) (hc1 : l1.length ≤ c1) (h : impl_field_characteristic.f k a0 l1 = some r) :
  Calls Try.prog 69 #[.int .i64 a0, .slice A1 l1.length c1] w fun e w' => ∃ v0_ : Value, e = .returned (v0_) ∧ Kd.R (Kd.int .i64) 2 w' w.heap.size (fun _ => True) v0_ r ∧ Below w.heap.size w w' := by
 have HR1 := as0 hr1
 have HC1 := as0 hc1
 clear hr1 hc1
 have HB := as0 (Below.refl w.heap.size w)
 have H : (impl_field_characteristic.l0 k a0 l1 (([1] : List Int)) (wrap64 ((l1.length : Int) - 1))) = some r := h
 clear h
 obtain ⟨y415, hy415⟩ : ∃ y_ : List Int, y_ = (([1] : List Int)) := ⟨_, rfl⟩
 replace H : (impl_field_characteristic.l0 k a0 l1 y415 (wrap64 ((l1.length : Int) - 1))) = some r := by first | (rw [hy415]; with_reducible exact H) | (have H2_ := (Option.bind_some _ _).symm.trans H; rw [hy415]; with_reducible exact H2_) | (have H2_ := (Option.bind_some _ _).symm.trans H; with_reducible exact H2_) | with_reducible exact H | (rw [hy415]; exact H) | exact H
 have Ny415 := as0 hy415
 clear hy415
 have H' := as0 H
 clear H
 go_enter Try.func69, Try.ntmps69
 go_wp2_with (first | ((with_reducible refine gate_dst (N := 18) rfl ?_); refine Kd.R_lit (Kd.int .i64) _ 2 ?hg (N := 18) ?hd (xs := ([1] : List Int)) (inner := [.int .i64 1]) (ok := fun _ => True) (okp := fun _ => True) ?hr ?hp (fun _ hk => hk) trivial (Below.refl _ _) (Nat.le_refl _) (by simp) ?_; (case hd => rfl); (case hg => rfl); (case hr => first | (go_simp; done) | (go_simp; rfl)); (case hp => exact (Reps.one (show Kd.M (Kd.int .i64) _ _ _ 1 [.int .i64 1] from rfl) (Reps.none _ _))); intro v416 w3 ho4 hb hg_ hnew_; clear hg_ hnew_; (first | rw [← Ny415.out] at ho4 | (simp only [Int.reduceToNat] at ho4; rw [← Ny415.out] at ho4)); have n0_ := as0 (Kd.R_lower ho4 (below_size (bs HB))); have n1_ := as0 (below_step (bs HB) hb); clear HB; have HO417 := n0_; have HB := n1_; clear n0_ n1_; clear hb ho4))
 go_loopg [5, 6] k (fun kq v5 v6 w' => ∃ (x5_1 : List Int) (x6_1 : Int), v6 = .int .i64 x6_1 ∧ Aside0 (impl_field_characteristic.l0 kq a0 l1 x5_1 x6_1 = some r) ∧ Aside0 (kq ≤ k) ∧ Aside0 (Kd.R (Kd.int .i64) 2 w' w.heap.size (fun _ => True) v5 x5_1) ∧ Aside0 (Below w.heap.size w w'))
 case atStart => exact ⟨(y415), (wrap64 ((l1.length : Int) - 1)), ea_, H', ⟨Nat.le_refl _⟩, ⟨rs HO417⟩, ⟨bs HB⟩⟩
 case round =>
  clear H'
  try clear c1
  try clear p2
  obtain ⟨x5_1, x6_1, rfl, HA, HK1, HO_5, HB⟩ := hrel
  cases gk with
  | zero => exact absurd HA.out (by simp [impl_field_characteristic.l0])
  | succ k1 =>
   have H := HA.out
   clear HA
   simp only [impl_field_characteristic.l0] at H
   by_cases c5 : x6_1 ≥ 0
   ·
    rw [if_pos c5] at H
    have c5b0 : decide (0 ≤ x6_1) = true := decide_eq_true c5
    clear c5
    by_cases c6 : 0 ≤ x6_1
    ·
     rw [if_pos c6] at H
     have c6b0 : decide (0 ≤ x6_1) = true := decide_eq_true c6
     clear c6
     by_cases c7 : x6_1 < (l1.length : Int)
     ·
      rw [if_pos c7] at H
      have c7b0 : decide (x6_1 < (l1.length : Int)) = true := decide_eq_true c7
      clear c7
      by_cases c8 : x6_1 < ((rd_L1 l1 x6_1).length : Int)
      ·
       rw [if_pos c8] at H
       have c8b0 : decide (x6_1 < ((rd_L1 l1 x6_1).length : Int)) = true := decide_eq_true c8
       clear c8
       replace H := Option.bind_eq_some_iff.mp H
       obtain ⟨t421, A90, H⟩ := H
       have A9 := as0 A90
       clear A90
       obtain ⟨y422, hy422⟩ : ∃ y_ : List Int, y_ = (([1, t421] : List Int)) := ⟨_, rfl⟩
       replace H : (if 0 ≤ (wrap64 ((wrap64 ((l1.length : Int) - x6_1)) - 1)) then (if (wrap64 ((wrap64 ((l1.length : Int) - x6_1)) - 1) : Int).toNat ≤ 35184372088832 then ((some (List.replicate (wrap64 ((wrap64 ((l1.length : Int) - x6_1)) - 1) : Int).toNat 0 : List Int)).bind fun y425 => (impl_field_characteristic.l1 k1 a0 l1 x5_1 x6_1 (wrap64 ((l1.length : Int) - x6_1)) y422 y425 (y425.length : Int) 0)) else (none)) else (none)) = some r := by first | (rw [hy422]; with_reducible exact H) | (have H2_ := (Option.bind_some _ _).symm.trans H; rw [hy422]; with_reducible exact H2_) | (have H2_ := (Option.bind_some _ _).symm.trans H; with_reducible exact H2_) | with_reducible exact H | (rw [hy422]; exact H) | exact H
       have Ny422 := as0 hy422
       clear hy422
       obtain ⟨ji10, hji10⟩ : ∃ j_ : Int, (wrap64 ((wrap64 ((l1.length : Int) - x6_1)) - 1)) = j_ := ⟨_, rfl⟩
       replace H : (if 0 ≤ (ji10) then (if (ji10 : Int).toNat ≤ 35184372088832 then ((some (List.replicate (ji10 : Int).toNat 0 : List Int)).bind fun y425 => (impl_field_characteristic.l1 k1 a0 l1 x5_1 x6_1 (wrap64 ((l1.length : Int) - x6_1)) y422 y425 (y425.length : Int) 0)) else (none)) else (none)) = some r := by first | (rw [hji10] at H; exact H) | (simp only [hji10] at H ⊢; exact H)
       (try rw [hji10] at A9)
       have hji10w : (IntKind.i64.wrap ((wrap64 ((l1.length : Int) - x6_1)) - 1)) = ji10 := (i64_w _).trans hji10
       by_cases c11 : 0 ≤ (ji10)
       ·
        rw [if_pos c11] at H
        have c11b0 := eq_true c11
        have c11b1 : decide (0 ≤ (ji10)) = true := decide_eq_true c11
        clear c11
        by_cases c12 : (ji10 : Int).toNat ≤ 35184372088832
        ·
         rw [if_pos c12] at H
         have c12b0 := eq_true c12
         have c12b1 : decide ((ji10 : Int).toNat ≤ 35184372088832) = true := decide_eq_true c12
         clear c12
         obtain ⟨y425, hy425⟩ : ∃ y_ : List Int, y_ = (List.replicate (ji10 : Int).toNat 0) := ⟨_, rfl⟩
         replace H : (impl_field_characteristic.l1 k1 a0 l1 x5_1 x6_1 (wrap64 ((l1.length : Int) - x6_1)) y422 y425 (y425.length : Int) 0) = some r := by first | (rw [hy425]; with_reducible exact H) | (have H2_ := (Option.bind_some _ _).symm.trans H; rw [hy425]; with_reducible exact H2_) | (have H2_ := (Option.bind_some _ _).symm.trans H; with_reducible exact H2_) | with_reducible exact H | (rw [hy425]; exact H) | exact H
         have Ny425 := as0 hy425
         clear hy425
         have H' := as0 H
         clear H
         have p419 : 0 ≤ (x6_1 : Int) := oa_
         have q419 : x6_1 < (l1.length : Int) := oa_
         obtain ⟨ad419, A419_0, c419_0, e419, hx419_0, hl419_0, hi419_0⟩ := at_L1 HR1.out x6_1 p419 q419
         cases e419
         replace hx419_0 := (HB.out.cell (World.block_lt_of_cell? w _ hx419_0)).trans hx419_0
         have HR419_0 := as0 hi419_0
         have HC419_0 := as0 hl419_0
         clear hi419_0 hl419_0
         replace p419 := eq_true p419
         replace q419 := eq_true q419
         have p420 : 0 ≤ (x6_1 : Int) := oa_
         have q420 : x6_1 < ((rd_L1 l1 x6_1).length : Int) := oa_
         obtain ⟨ad420, e420, hx420_0⟩ := Kd.at_int HR419_0.out x6_1 p420 q420
         cases e420
         replace hx420_0 := (HB.out.cell (World.block_lt_of_cell? w _ hx420_0)).trans hx420_0
         replace p420 := eq_true p420
         replace q420 := eq_true q420
         go_wp2_with (first | ((with_reducible refine gate_callee (f := 64) rfl ?_); refine goesM_ (some 39) rfl rfl Try.func64 #[.int .i64 a0, .int .i64 (wrap64 (-(rd (rd_L1 l1 x6_1) x6_1)))] rfl ?_; (with_reducible refine (impl_field_mod.calls a0 (wrap64 (-(rd (rd_L1 l1 x6_1) x6_1))) t421 _ A9.out).mono ?_); rintro e w' ⟨rfl, ⟨nd, rfl⟩⟩; refine ⟨_, rfl, ?_⟩) | ((with_reducible refine gate_dst (N := 40) rfl ?_); refine Kd.R_lit (Kd.int .i64) _ 2 ?hg (N := 40) ?hd (xs := ([1, t421] : List Int)) (inner := [.int .i64 1, .int .i64 t421]) (ok := fun _ => True) (okp := fun _ => True) ?hr ?hp (fun _ hk => hk) trivial (Below.refl _ _) (Nat.le_refl _) (by simp) ?_; (case hd => rfl); (case hg => rfl); (case hr => first | (go_simp; done) | (go_simp; rfl)); (case hp => exact (Reps.one (show Kd.M (Kd.int .i64) _ _ _ 1 [.int .i64 1] from rfl) (Reps.one (show Kd.M (Kd.int .i64) _ _ _ t421 [.int .i64 t421] from rfl) (Reps.none _ _)))); intro v423 w13 ho14 hb hg_ hnew_; clear hg_ hnew_; (first | rw [← Ny422.out] at ho14 | (simp only [Int.reduceToNat] at ho14; rw [← Ny422.out] at ho14)); have n0_ := as0 (Kd.R_elder' (rs HO_5) (Kd.R_base ho14) hb); have n1_ := as0 (Kd.R_lower (Kd.R_new' ho14 (Kd.R_lt (rs HO_5))) (below_size (bs HB))); have n2_ := as0 (below_step (bs HB) hb); clear HO_5; clear HB; have HO_5 := n0_; have HO424 := n1_; have HB := n2_; clear n0_ n1_ n2_; clear hb ho14) | ((with_reducible refine gate_dst (N := 43) rfl ?_); refine Kd.R_make (Kd.int .i64) _ 2 rfl (N := 43) rfl 22 _ _ rfl ji10 rfl rfl Try.underlying22 (.int .i64 0) 8 info2 rfl (by decide) (by omega) 0 (ok := fun _ => True) (okp := fun _ => True) rfl (fun _ hk => hk) trivial (oa_) (Nat.le_trans (Nat.mul_le_mul_right _ (oa_ : ji10.toNat ≤ 35184372088832)) (by omega)) (Below.refl _ _) (Nat.le_refl _) ?_; intro v426 w15 ho16 hb hg_ hnew_; clear hg_ hnew_; (first | rw [← Ny425.out] at ho16 | (simp only [Int.reduceToNat] at ho16; rw [← Ny425.out] at ho16)); have n0_ := as0 (Kd.R_elder' (rs HO_5) (Kd.R_base ho16) hb); have n1_ := as0 (Kd.R_elder' (rs HO424) (Kd.R_base ho16) hb); have n2_ := as0 (Kd.R_lower (Kd.R_new' (Kd.R_new' ho16 (Kd.R_lt (rs HO_5))) (Kd.R_lt (rs HO424))) (below_size (bs HB))); have n3_ := as0 (below_step (bs HB) hb); clear HO_5; clear HO424; clear HB; have HO_5 := n0_; have HO424 := n1_; have HO427 := n2_; have HB := n3_; clear n0_ n1_ n2_ n3_; clear hb ho16; obtain ⟨Ao17, co17, eo17⟩ := Kd.R_slice HO427.out; subst eo17))
         obtain ⟨N425, hN425⟩ : ∃ n_ : Int, n_ = (y425.length : Int) := ⟨_, rfl⟩
         rw [← hN425] at H' ⊢
         clear hN425
         go_loopg [46] k1 (fun kq v46 w' => ∃ (x9_2 : List Int) (x46_2 : Int), v46 = .int .i64 x46_2 ∧ Aside0 (impl_field_characteristic.l1 kq a0 l1 x5_1 x6_1 (wrap64 ((l1.length : Int) - x6_1)) y422 x9_2 N425 x46_2 = some r) ∧ Aside0 (kq ≤ k1) ∧ Aside0 (Kd.R (Kd.int .i64) 2 w' w.heap.size (fun k_ => some k_ ≠ (v423 : Value).ownBlock ∧ some k_ ≠ ((.slice Ao17 y425.length co17) : Value).ownBlock) u5 x5_1) ∧ Aside0 (Kd.R (Kd.int .i64) 2 w' w.heap.size (fun k_ => some k_ ≠ (u5 : Value).ownBlock ∧ some k_ ≠ ((.slice Ao17 y425.length co17) : Value).ownBlock) v423 y422) ∧ Aside0 (Kd.R (Kd.int .i64) 2 w' w.heap.size (fun k_ => some k_ ≠ (u5 : Value).ownBlock ∧ some k_ ≠ (v423 : Value).ownBlock) (.slice Ao17 y425.length co17) x9_2) ∧ Aside0 (Below w.heap.size w w'))
         case atStart => exact ⟨(y425), (0), ea_, H', ⟨Nat.le_refl _⟩, ⟨by (with_reducible repeat (first | apply Kd.R_alloc | apply Kd.R_drewN | apply Kd.R_drew)); exact Kd.R_mono HO_5.out (fun _ hk => ⟨hk.1.2, hk.2⟩)⟩, ⟨by (with_reducible repeat (first | apply Kd.R_alloc | apply Kd.R_drewN | apply Kd.R_drew)); exact Kd.R_mono HO424.out (fun _ hk => ⟨hk.1.2, hk.2⟩)⟩, ⟨by (with_reducible repeat (first | apply Kd.R_alloc | apply Kd.R_drewN | apply Kd.R_drew)); exact Kd.R_mono HO427.out (fun _ hk => ⟨hk.1.2, hk.2⟩)⟩, ⟨bs HB⟩⟩
         case round =>
          clear H'
          try clear c1
          try clear p2
          try clear c4
          try clear p4
          try clear q4
          try clear hx4
          try clear c5
          try clear c5b0
          try clear c6
          try clear c6b0
          try clear p6
          try clear c7
          try clear c7b0
          try clear c8
          try clear c8b0
          try clear c11
          try clear c11b0
          try clear c11b1
          try clear c12
          try clear c12b0
          try clear c12b1
          try clear hx419_0
          try clear hx420_0
          try clear p2
          try clear p419
          try clear p420
          try clear q419
          try clear q420
          obtain ⟨x9_2, x46_2, rfl, HA, HK2, HO_5, HO_8, HO_9, HB⟩ := hrel
          have hl9_2 := (Kd.R_reads' HO_9.out).1
          rw [hl9_2] at HO_9
          (try simp only [hl9_2])
          (try simp only [hl9_2] at HO_5)
          (try simp only [hl9_2] at HO_8)
          cases gk with
          | zero => exact absurd HA.out (by simp [impl_field_characteristic.l1])
          | succ k2 =>
           have H := HA.out
           clear HA
           simp only [impl_field_characteristic.l1] at H
           by_cases c18 : x46_2 < N425
           ·
            rw [if_pos c18] at H
            have c18b0 : decide (x46_2 < N425) = true := decide_eq_true c18
            clear c18
            obtain ⟨ji19, hji19⟩ : ∃ j_ : Int, (wrap64 ((wrap64 (x6_1 + 1)) + x46_2)) = j_ := ⟨_, rfl⟩
            replace H : (if 0 ≤ (ji19) then (if (ji19) < (l1.length : Int) then (if 0 ≤ x6_1 then (if x6_1 < ((rd_L1 l1 (ji19)).length : Int) then (if 0 ≤ x46_2 then (if x46_2 < (x9_2.length : Int) then (impl_field_characteristic.l1 k2 a0 l1 x5_1 x6_1 (wrap64 ((l1.length : Int) - x6_1)) y422 (x9_2.set (x46_2 : Int).toNat (rd (rd_L1 l1 (ji19)) x6_1)) N425 (wrap64 (x46_2 + 1))) else (none)) else (none)) else (none)) else (none)) else (none)) else (none)) = some r := by first | (rw [hji19] at H; exact H) | (simp only [hji19] at H ⊢; exact H)
            have hji19w : (IntKind.i64.wrap ((wrap64 (x6_1 + 1)) + x46_2)) = ji19 := (i64_w _).trans hji19
            by_cases c20 : 0 ≤ (ji19)
            ·
             rw [if_pos c20] at H
             have c20b0 : decide (0 ≤ (ji19)) = true := decide_eq_true c20
             clear c20
             by_cases c21 : (ji19) < (l1.length : Int)
             ·
              rw [if_pos c21] at H
              have c21b0 : decide ((ji19) < (l1.length : Int)) = true := decide_eq_true c21
              clear c21
              by_cases c22 : 0 ≤ x6_1
              ·
               rw [if_pos c22] at H
               have c22b0 : decide (0 ≤ x6_1) = true := decide_eq_true c22
               clear c22
               by_cases c23 : x6_1 < ((rd_L1 l1 (ji19)).length : Int)
               ·
                rw [if_pos c23] at H
                have c23b0 : decide (x6_1 < ((rd_L1 l1 (ji19)).length : Int)) = true := decide_eq_true c23
                clear c23
                by_cases c24 : 0 ≤ x46_2
                ·
                 rw [if_pos c24] at H
                 have c24b0 : decide (0 ≤ x46_2) = true := decide_eq_true c24
                 clear c24
                 by_cases c25 : x46_2 < (x9_2.length : Int)
                 ·
                  rw [if_pos c25] at H
                  have c25b0 : decide (x46_2 < (x9_2.length : Int)) = true := decide_eq_true c25
                  clear c25
                  obtain ⟨y430, hy430⟩ : ∃ y_ : List Int, y_ = (x9_2.set (x46_2 : Int).toNat (rd (rd_L1 l1 (ji19)) x6_1)) := ⟨_, rfl⟩
                  replace H : (impl_field_characteristic.l1 k2 a0 l1 x5_1 x6_1 (wrap64 ((l1.length : Int) - x6_1)) y422 y430 N425 (wrap64 (x46_2 + 1))) = some r := by first | (rw [hy430]; with_reducible exact H) | (have H2_ := (Option.bind_some _ _).symm.trans H; rw [hy430]; with_reducible exact H2_) | (have H2_ := (Option.bind_some _ _).symm.trans H; with_reducible exact H2_) | with_reducible exact H | (rw [hy430]; exact H) | exact H
                  have Ny430 := as0 hy430
                  clear hy430
                  have H' := as0 H
                  clear H
                  have p428 : 0 ≤ ((ji19) : Int) := oa_
                  have q428 : (ji19) < (l1.length : Int) := oa_
                  obtain ⟨ad428, A428_0, c428_0, e428, hx428_0, hl428_0, hi428_0⟩ := at_L1 HR1.out (ji19) p428 q428
                  obtain rfl : ad419 = ad428 := (by injection e428)
                  replace hx428_0 := (HB.out.cell (World.block_lt_of_cell? w _ hx428_0)).trans hx428_0
                  have HR428_0 := as0 hi428_0
                  have HC428_0 := as0 hl428_0
                  clear hi428_0 hl428_0
                  replace p428 := eq_true p428
                  replace q428 := eq_true q428
                  have p429 : 0 ≤ (x6_1 : Int) := oa_
                  have q429 : x6_1 < ((rd_L1 l1 (ji19)).length : Int) := oa_
                  obtain ⟨ad429, e429, hx429_0⟩ := Kd.at_int HR428_0.out x6_1 p429 q429
                  cases e429
                  replace hx429_0 := (HB.out.cell (World.block_lt_of_cell? w _ hx429_0)).trans hx429_0
                  replace p429 := eq_true p429
                  replace q429 := eq_true q429
                  have p26 : 0 ≤ (x46_2 : Int) := oa_
                  have q26 : (x46_2 : Int) < ((x9_2.length : Int) : Int) := oa_
                  obtain ⟨go26, co26, eo26, gb26, gl26, cl26, HG26⟩ := Kd.R_form HO_9.out (by omega)
                  (first | cases eo26 | (injection eo26 with ea_ en_ ec_; (first | subst ea_ | (injection ea_ with ea_; subst ea_)); subst ec_; clear en_))
                  have GB26 := as0 gb26
                  have GG26 := as0 HG26
                  clear gb26 gl26 HG26
                  obtain ⟨hx26_0, hf26_0⟩ := Kd.R_celln 0 HO_9.out (x46_2 : Int) p26 q26
                  replace p26 := eq_true p26
                  replace q26 := eq_true q26
                  have HP27 := Kd.R_putg HO_9.out (x46_2 : Int) (rd (rd_L1 l1 (ji19)) x6_1)
                  go_wp2_with (first | ((with_reducible refine gate_store (t := 2) (p := 61) rfl ?_); refine store_event (t := 2) (p := 61) (v := ?vo_w28) (w1 := (wr.setCell ⟨go26, (x46_2 : Int).toNat, none⟩ (.int .i64 (rd (rd_L1 l1 (ji19)) x6_1)))) ?hg ?ho ?hn ?hr ?_; (case ho => rfl); (case hg => rfl); (case hn => rfl); (case hr => first | (go_simp; done) | (go_simp; rfl)); intro w28 hw; have hg : wr.grownBy w28 (some go26) := (by rw [hw]; exact HP27.2); have hp_ : Kd.R (Kd.int .i64) 2 w28 w.heap.size (fun k_ => some k_ ≠ (u5 : Value).ownBlock ∧ some k_ ≠ (v423 : Value).ownBlock) (.slice (some ⟨go26, 0, none⟩) x9_2.length co17) y430 := (by rw [hw, Ny430.out]; exact HP27.1); clear HP27; have n0_ := as0 (Kd.R_after (v := (.slice (some ⟨go26, 0, none⟩) x9_2.length co17)) (v1 := (.slice (some ⟨go26, 0, none⟩) x9_2.length co17)) (ok := (fun k_ => some k_ ≠ (v423 : Value).ownBlock)) (rs HO_5) hg (.inl rfl)); have n1_ := as0 (Kd.R_after (v := (.slice (some ⟨go26, 0, none⟩) x9_2.length co17)) (v1 := (.slice (some ⟨go26, 0, none⟩) x9_2.length co17)) (ok := (fun k_ => some k_ ≠ (u5 : Value).ownBlock)) (rs HO_8) hg (.inl rfl)); have n2_ := as0 (hp_); have n3_ := as0 ((by rw [hw]; exact below_set (HB.out) GB26.out : Below w.heap.size w w28)); clear HO_5; clear HO_8; clear HO_9; clear HB; have HO_5 := n0_; have HO_8 := n1_; have HO_9 := n2_; have HB := n3_; clear n0_ n1_ n2_ n3_; clear hg hw hp_))
                  (try simp only [← hl9_2])
                  go_roundg k2
                  case measure => have := HK1.out; have := HK2.out; omega
                  case rel => exact ⟨(y430), (wrap64 (x46_2 + 1)), ea_, H', ⟨by have := HK1.out; have := HK2.out; omega⟩, ⟨by (try simp only [hl9_2]); (with_reducible repeat (first | apply Kd.R_alloc | apply Kd.R_drewN | apply Kd.R_drew)); exact HO_5.out⟩, ⟨by (try simp only [hl9_2]); (with_reducible repeat (first | apply Kd.R_alloc | apply Kd.R_drewN | apply Kd.R_drew)); exact HO_8.out⟩, ⟨by (try simp only [hl9_2]); (with_reducible repeat (first | apply Kd.R_alloc | apply Kd.R_drewN | apply Kd.R_drew)); exact HO_9.out⟩, ⟨bs HB⟩⟩
                 ·
                  rw [if_neg c25] at H
                  exact absurd H (by simp)
                ·
                 rw [if_neg c24] at H
                 exact absurd H (by simp)
               ·
                rw [if_neg c23] at H
                exact absurd H (by simp)
              ·
               rw [if_neg c22] at H
               exact absurd H (by simp)
             ·
              rw [if_neg c21] at H
              exact absurd H (by simp)
            ·
             rw [if_neg c20] at H
             exact absurd H (by simp)
           ·
            rw [if_neg c18] at H
            have c18b0 : decide (x46_2 < N425) = false := decide_eq_false c18
            clear c18
            have H' := as0 H
            clear H
            go_wp2
            go_loopg [8, 9, 65] k2 (fun kq v8 v9 v65 w' => ∃ (x8_3 : List Int) (x9_3 : List Int) (x65_3 : Int), v65 = .int .i64 x65_3 ∧ Aside0 (impl_field_characteristic.l2 kq a0 l1 x5_1 x6_1 (wrap64 ((l1.length : Int) - x6_1)) x8_3 x9_3 (wrap64 ((wrap64 ((l1.length : Int) - x6_1)) - 1)) x65_3 = some r) ∧ Aside0 (kq ≤ k2) ∧ Aside0 (Kd.R (Kd.int .i64) 2 w' w.heap.size (fun k_ => some k_ ≠ (v8 : Value).ownBlock ∧ some k_ ≠ (v9 : Value).ownBlock) u5 x5_1) ∧ Aside0 (Kd.R (Kd.int .i64) 2 w' w.heap.size (fun k_ => some k_ ≠ (u5 : Value).ownBlock ∧ some k_ ≠ (v9 : Value).ownBlock) v8 x8_3) ∧ Aside0 (Kd.R (Kd.int .i64) 2 w' w.heap.size (fun k_ => some k_ ≠ (u5 : Value).ownBlock ∧ some k_ ≠ (v8 : Value).ownBlock) v9 x9_3) ∧ Aside0 (Below w.heap.size w w'))
            case atStart => exact ⟨(y422), (x9_2), (0), ea_, H', ⟨Nat.le_refl _⟩, ⟨by (try simp only [hl9_2]); (with_reducible repeat (first | apply Kd.R_alloc | apply Kd.R_drewN | apply Kd.R_drew)); exact HO_5.out⟩, ⟨by (try simp only [hl9_2]); (with_reducible repeat (first | apply Kd.R_alloc | apply Kd.R_drewN | apply Kd.R_drew)); exact HO_8.out⟩, ⟨by (try simp only [hl9_2]); (with_reducible repeat (first | apply Kd.R_alloc | apply Kd.R_drewN | apply Kd.R_drew)); exact HO_9.out⟩, ⟨bs HB⟩⟩
            case round =>
             clear H'
             try clear c1
             try clear c2
             try clear p2
             try clear q2
             try clear hx2
             try clear hf2
             try clear c4
             try clear p4
             try clear q4
             try clear hx4
             try clear c5
             try clear c5b0
             try clear c6
             try clear c6b0
             try clear p6
             try clear c7
             try clear c7b0
             try clear c8
             try clear c8b0
             try clear c11
             try clear c11b0
             try clear c11b1
             try clear c12
             try clear c12b0
             try clear c12b1
             try clear c18
             try clear c18b0
             try clear c20
             try clear c20b0
             try clear c21
             try clear c21b0
             try clear c22
             try clear c22b0
             try clear c23
             try clear c23b0
             try clear c24
             try clear c24b0
             try clear c25
             try clear c25b0
             try clear p26
             try clear q26
             try clear hx26
             try clear hf26
             try clear hx26_0
             try clear hx419_0
             try clear hx420_0
             try clear hx428_0
             try clear hx429_0
             try clear p2
             try clear p26
             try clear p4
             try clear p419
             try clear p420
             try clear p428
             try clear p429
             try clear p6
             try clear q26
             try clear q4
             try clear q419
             try clear q420
             try clear q428
             try clear q429
             obtain ⟨x8_3, x9_3, x65_3, rfl, HA, HK3, HO_5, HO_8, HO_9, HB⟩ := hrel
             cases gk with
             | zero => exact absurd HA.out (by simp [impl_field_characteristic.l2])
             | succ k3 =>
              have H := HA.out
              clear HA
              simp only [impl_field_characteristic.l2] at H
              by_cases c29 : x65_3 < (wrap64 ((wrap64 ((l1.length : Int) - x6_1)) - 1))
              ·
               rw [if_pos c29] at H
               have c29b0 : decide (x65_3 < (wrap64 ((wrap64 ((l1.length : Int) - x6_1)) - 1))) = true := decide_eq_true c29
               have c29b0j : decide (x65_3 < ji10) = true := by first | (rw [← hji10]; exact c29b0) | exact c29b0
               clear c29
               have H' := as0 H
               clear H
               obtain ⟨Ao30, co30, eo30⟩ := Kd.R_slice HO_9.out
               subst eo30
               go_wp2
               go_loopg [11, 69] k3 (fun kq v11 v69 w' => ∃ (x11_4 : Int) (x69_4 : Int), v11 = .int .i64 x11_4 ∧ v69 = .int .i64 x69_4 ∧ Aside0 (impl_field_characteristic.l3 kq a0 l1 x5_1 x6_1 (wrap64 ((l1.length : Int) - x6_1)) x8_3 x9_3 x11_4 (wrap64 ((wrap64 ((l1.length : Int) - x6_1)) - 1)) x65_3 x9_3 (x9_3.length : Int) x69_4 = some r) ∧ Aside0 (kq ≤ k3) ∧ Aside0 (Kd.R (Kd.int .i64) 2 w' w.heap.size (fun k_ => some k_ ≠ (u8 : Value).ownBlock ∧ some k_ ≠ ((.slice Ao30 x9_3.length co30) : Value).ownBlock ∧ some k_ ≠ ((.slice Ao30 x9_3.length co30) : Value).ownBlock) u5 x5_1) ∧ Aside0 (Kd.R (Kd.int .i64) 2 w' w.heap.size (fun k_ => some k_ ≠ (u5 : Value).ownBlock ∧ some k_ ≠ ((.slice Ao30 x9_3.length co30) : Value).ownBlock ∧ some k_ ≠ ((.slice Ao30 x9_3.length co30) : Value).ownBlock) u8 x8_3) ∧ Aside0 (Kd.R (Kd.int .i64) 2 w' w.heap.size (fun k_ => some k_ ≠ (u5 : Value).ownBlock ∧ some k_ ≠ (u8 : Value).ownBlock) (.slice Ao30 x9_3.length co30) x9_3) ∧ Aside0 (Kd.R (Kd.int .i64) 2 w' w.heap.size (fun k_ => some k_ ≠ (u5 : Value).ownBlock ∧ some k_ ≠ (u8 : Value).ownBlock) (.slice Ao30 x9_3.length co30) x9_3) ∧ Aside0 (Below w.heap.size w w'))
               case atStart => exact ⟨(0), (0), ea_, ea_, H', ⟨Nat.le_refl _⟩, ⟨by (try simp only [hl9_2]); (with_reducible repeat (first | apply Kd.R_alloc | apply Kd.R_drewN | apply Kd.R_drew)); exact Kd.R_mono HO_5.out (fun _ hk => ⟨hk.1, ⟨hk.2, hk.2⟩⟩)⟩, ⟨by (try simp only [hl9_2]); (with_reducible repeat (first | apply Kd.R_alloc | apply Kd.R_drewN | apply Kd.R_drew)); exact Kd.R_mono HO_8.out (fun _ hk => ⟨hk.1, ⟨hk.2, hk.2⟩⟩)⟩, ⟨by (try simp only [hl9_2]); (with_reducible repeat (first | apply Kd.R_alloc | apply Kd.R_drewN | apply Kd.R_drew)); exact HO_9.out⟩, ⟨by (try simp only [hl9_2]); (with_reducible repeat (first | apply Kd.R_alloc | apply Kd.R_drewN | apply Kd.R_drew)); exact HO_9.out⟩, ⟨bs HB⟩⟩
               case round =>
                clear H'
                try clear c1
                try clear c2
                try clear p2
                try clear q2
                try clear hx2
                try clear hf2
                try clear c4
                try clear p4
                try clear q4
                try clear hx4
                try clear c5
                try clear c5b0
                try clear c6
                try clear c6b0
                try clear p6
                try clear c7
                try clear c7b0
                try clear c8
                try clear c8b0
                try clear c11
                try clear c11b0
                try clear c11b1
                try clear c12
                try clear c12b0
                try clear c12b1
                try clear c18
                try clear c18b0
                try clear c20
                try clear c20b0
                try clear c21
                try clear c21b0
                try clear c22
                try clear c22b0
                try clear c23
                try clear c23b0
                try clear c24
                try clear c24b0
                try clear c25
                try clear c25b0
                try clear p26
                try clear q26
                try clear hx26
                try clear hf26
                try clear c29
                try clear c29b0
                try clear hx26_0
                try clear hx419_0
                try clear hx420_0
                try clear hx428_0
                try clear hx429_0
                try clear p2
                try clear p26
                try clear p4
                try clear p419
                try clear p420
                try clear p428
                try clear p429
                try clear p6
                try clear q2
                try clear q26
                try clear q4
                try clear q419
                try clear q420
                try clear q428
                try clear q429
                obtain ⟨x11_4, x69_4, rfl, rfl, HA, HK4, HO_5, HO_8, HO_9, HO_67, HB⟩ := hrel
                cases gk with
                | zero => exact absurd HA.out (by simp [impl_field_characteristic.l3])
                | succ k4 =>
                 have H := HA.out
                 clear HA
                 simp only [impl_field_characteristic.l3] at H
                 by_cases c31 : x69_4 < (x9_3.length : Int)
                 ·
                  rw [if_pos c31] at H
                  have c31b0 : decide (x69_4 < (x9_3.length : Int)) = true := decide_eq_true c31
                  clear c31
                  by_cases c32 : 0 ≤ x69_4
                  ·
                   rw [if_pos c32] at H
                   have c32b0 : decide (0 ≤ x69_4) = true := decide_eq_true c32
                   clear c32
                   by_cases c33 : x69_4 < (x9_3.length : Int)
                   ·
                    rw [if_pos c33] at H
                    have c33b0 : decide (x69_4 < (x9_3.length : Int)) = true := decide_eq_true c33
                    clear c33
                    by_cases c34 : 0 ≤ x6_1
                    ·
                     rw [if_pos c34] at H
                     have c34b0 : decide (0 ≤ x6_1) = true := decide_eq_true c34
                     clear c34
                     by_cases c35 : x6_1 < (l1.length : Int)
                     ·
                      rw [if_pos c35] at H
                      have c35b0 : decide (x6_1 < (l1.length : Int)) = true := decide_eq_true c35
                      clear c35
                      obtain ⟨ji36, hji36⟩ : ∃ j_ : Int, (wrap64 ((wrap64 (x6_1 + 1)) + x69_4)) = j_ := ⟨_, rfl⟩
                      replace H : (if 0 ≤ (ji36) then (if (ji36) < ((rd_L1 l1 x6_1).length : Int) then ((impl_field_mod.f a0 (wrap64 (x11_4 + (wrap64 ((rd (rd_L1 l1 x6_1) (ji36)) * (rd x9_3 x69_4)))))).bind fun t434 => (impl_field_characteristic.l3 k4 a0 l1 x5_1 x6_1 (wrap64 ((l1.length : Int) - x6_1)) x8_3 x9_3 t434 (wrap64 ((wrap64 ((l1.length : Int) - x6_1)) - 1)) x65_3 x9_3 (x9_3.length : Int) (wrap64 (x69_4 + 1)))) else (none)) else (none)) = some r := by first | (rw [hji36] at H; exact H) | (simp only [hji36] at H ⊢; exact H)
                      have hji36w : (IntKind.i64.wrap ((wrap64 (x6_1 + 1)) + x69_4)) = ji36 := (i64_w _).trans hji36
                      by_cases c37 : 0 ≤ (ji36)
                      ·
                       rw [if_pos c37] at H
                       have c37b0 : decide (0 ≤ (ji36)) = true := decide_eq_true c37
                       clear c37
                       by_cases c38 : (ji36) < ((rd_L1 l1 x6_1).length : Int)
                       ·
                        rw [if_pos c38] at H
                        have c38b0 : decide ((ji36) < ((rd_L1 l1 x6_1).length : Int)) = true := decide_eq_true c38
                        clear c38
                        replace H := Option.bind_eq_some_iff.mp H
                        obtain ⟨t434, A390, H⟩ := H
                        have A39 := as0 A390
                        clear A390
                        have H' := as0 H
                        clear H
                        have p431 : 0 ≤ (x69_4 : Int) := oa_
                        have q431 : x69_4 < (x9_3.length : Int) := oa_
                        obtain ⟨ad431, e431, hx431_0⟩ := Kd.at_int (Kd.R_reads' HO_67.out).2.2 x69_4 p431 q431
                        cases e431
                        replace p431 := eq_true p431
                        replace q431 := eq_true q431
                        have p432 : 0 ≤ (x6_1 : Int) := oa_
                        have q432 : x6_1 < (l1.length : Int) := oa_
                        obtain ⟨ad432, A432_0, c432_0, e432, hx432_0, hl432_0, hi432_0⟩ := at_L1 HR1.out x6_1 p432 q432
                        obtain rfl : ad419 = ad432 := (by injection e432)
                        replace hx432_0 := (HB.out.cell (World.block_lt_of_cell? w _ hx432_0)).trans hx432_0
                        have HR432_0 := as0 hi432_0
                        have HC432_0 := as0 hl432_0
                        clear hi432_0 hl432_0
                        replace p432 := eq_true p432
                        replace q432 := eq_true q432
                        have p433 : 0 ≤ ((ji36) : Int) := oa_
                        have q433 : (ji36) < ((rd_L1 l1 x6_1).length : Int) := oa_
                        obtain ⟨ad433, e433, hx433_0⟩ := Kd.at_int HR432_0.out (ji36) p433 q433
                        cases e433
                        replace hx433_0 := (HB.out.cell (World.block_lt_of_cell? w _ hx433_0)).trans hx433_0
                        replace p433 := eq_true p433
                        replace q433 := eq_true q433
                        go_wp2_with (first | ((with_reducible refine gate_callee (f := 64) rfl ?_); refine goesL_ (some 89) rfl rfl Try.func64 (by kernel_rfl) rfl #[.int .i64 a0, .int .i64 (wrap64 (x11_4 + (wrap64 ((rd (rd_L1 l1 x6_1) (ji36)) * (rd x9_3 x69_4)))))] rfl (by (try simp only [List.map_toArray, List.map_cons, List.map_nil]); first | done | (simp only [hji36]; rfl) | rfl | (simp only [List.length_drop, List.length_take]; rfl)) ?_; (with_reducible refine (impl_field_mod.calls a0 (wrap64 (x11_4 + (wrap64 ((rd (rd_L1 l1 x6_1) (ji36)) * (rd x9_3 x69_4))))) t434 _ A39.out).mono ?_); rintro e w' ⟨rfl, ⟨nd, rfl⟩⟩; refine ⟨_, rfl, ?_⟩))
                        go_roundg k4
                        case measure => have := HK1.out; have := HK2.out; have := HK3.out; have := HK4.out; omega
                        case rel => exact ⟨(t434), (wrap64 (x69_4 + 1)), ea_, ea_, H', ⟨by have := HK1.out; have := HK2.out; have := HK3.out; have := HK4.out; omega⟩, ⟨by (try simp only [hl9_2]); (with_reducible repeat (first | apply Kd.R_alloc | apply Kd.R_drewN | apply Kd.R_drew)); exact HO_5.out⟩, ⟨by (try simp only [hl9_2]); (with_reducible repeat (first | apply Kd.R_alloc | apply Kd.R_drewN | apply Kd.R_drew)); exact HO_8.out⟩, ⟨by (try simp only [hl9_2]); (with_reducible repeat (first | apply Kd.R_alloc | apply Kd.R_drewN | apply Kd.R_drew)); exact HO_9.out⟩, ⟨by (try simp only [hl9_2]); (with_reducible repeat (first | apply Kd.R_alloc | apply Kd.R_drewN | apply Kd.R_drew)); exact HO_67.out⟩, ⟨bs HB⟩⟩
                       ·
                        rw [if_neg c38] at H
                        exact absurd H (by simp)
                      ·
                       rw [if_neg c37] at H
                       exact absurd H (by simp)
                     ·
                      rw [if_neg c35] at H
                      exact absurd H (by simp)
                    ·
                     rw [if_neg c34] at H
                     exact absurd H (by simp)
                   ·
                    rw [if_neg c33] at H
                    exact absurd H (by simp)
                  ·
                   rw [if_neg c32] at H
                   exact absurd H (by simp)
                 ·
                  rw [if_neg c31] at H
                  have c31b0 : decide (x69_4 < (x9_3.length : Int)) = false := decide_eq_false c31
                  clear c31
                  replace H := Option.bind_eq_some_iff.mp H
                  obtain ⟨t435, A400, H⟩ := H
                  have A40 := as0 A400
                  clear A400
                  by_cases c41 : x8_3.length < 17592186044416
                  ·
                   rw [if_pos c41] at H
                   have LMc41 := as0 c41
                   clear c41
                   obtain ⟨y436, hy436⟩ : ∃ y_ : List Int, y_ = (x8_3 ++ [t435]) := ⟨_, rfl⟩
                   replace H : ((impl_field_apply.f k4 a0 l1 (wrap64 (x6_1 + 1)) x9_3).bind fun t439 => (impl_field_characteristic.l2 k4 a0 l1 x5_1 x6_1 (wrap64 ((l1.length : Int) - x6_1)) y436 t439 (wrap64 ((wrap64 ((l1.length : Int) - x6_1)) - 1)) (wrap64 (x65_3 + 1)))) = some r := by first | (rw [hy436]; with_reducible exact H) | (have H2_ := (Option.bind_some _ _).symm.trans H; rw [hy436]; with_reducible exact H2_) | (have H2_ := (Option.bind_some _ _).symm.trans H; with_reducible exact H2_) | with_reducible exact H | (rw [hy436]; exact H) | exact H
                   have Ny436 := as0 hy436
                   clear hy436
                   replace H := Option.bind_eq_some_iff.mp H
                   obtain ⟨t439, A420, H⟩ := H
                   have A42 := as0 A420
                   clear A420
                   have H' := as0 H
                   clear H
                   go_wp2_with (first | ((with_reducible refine gate_callee (f := 64) rfl ?_); refine goesM_ (some 95) rfl rfl Try.func64 #[.int .i64 a0, .int .i64 (wrap64 (-x11_4))] rfl ?_; (with_reducible refine (impl_field_mod.calls a0 (wrap64 (-x11_4)) t435 _ A40.out).mono ?_); rintro e w' ⟨rfl, ⟨nd, rfl⟩⟩; refine ⟨_, rfl, ?_⟩) | ((with_reducible refine gate_builtin (b := .append) (xs := #[.tmp 91, .tmp 96]) rfl ?_); at_builtin; refine Kd.R_append (Kd.int .i64) (w0 := w) w.heap.size rfl (.tmp 91) (.tmp 96) 22 2 (.int .i64 0) 8 rfl Try.underlying22 info2 rfl (by decide) (by omega) u8 x8_3 t435 [.int .i64 t435] (fun k_ => some k_ ≠ (u5 : Value).ownBlock ∧ some k_ ≠ (.slice Ao30 x9_3.length co30 : Value).ownBlock ∧ some k_ ≠ (.slice Ao30 x9_3.length co30 : Value).ownBlock) (fun _ => False) rfl rfl ?aP (fun _ hk => hk.elim) ?aF ?aO ?aB ?aS ?aL ?_; (case aP => exact rfl); (case aB => exact (bs HB)); (case aF => exact (fun k_ hk => ⟨Kd.fresh' (Kd.R_lt (rs HO_5)) k_ hk, Kd.fresh' (Kd.R_lt (rs HO_9)) k_ hk, Kd.fresh' (Kd.R_lt (rs HO_67)) k_ hk⟩)); (case aO => exact (rs HO_8)); (case aS => exact (below_size (bs HB))); (case aL => have := LMc41.out; omega); intro v437 w43 ho hb hg hat; rw [← Ny436.out] at ho; have n0_ := as0 (Kd.R_after (ok := (fun k_ => some k_ ≠ (.slice Ao30 x9_3.length co30 : Value).ownBlock ∧ some k_ ≠ (.slice Ao30 x9_3.length co30 : Value).ownBlock)) (by (with_reducible repeat (first | apply Kd.R_alloc | apply Kd.R_drewN | apply Kd.R_drew)); exact Kd.R_mono HO_5.out (fun _ hk => ⟨⟨hk.2.1, hk.2.2⟩, hk.1⟩)) hg hat); have n1_ := as0 (Kd.R_after (ok := (fun k_ => some k_ ≠ (u5 : Value).ownBlock)) (rs HO_9) hg hat); have n2_ := as0 (Kd.R_after (ok := (fun k_ => some k_ ≠ (u5 : Value).ownBlock)) (rs HO_67) hg hat); have n3_ := as0 (hb); have n4_ := as0 (ho); clear HO_5; clear HO_9; clear HO_67; clear HB; clear HO_8; have HO_5 := n0_; have HO_9 := n1_; have HO_67 := n2_; have HB := n3_; have HO438 := n4_; clear n0_ n1_ n2_ n3_ n4_; clear ho hb hg hat) | ((with_reducible refine gate_callee (f := 102) rfl ?_); refine goesM_ (some 103) rfl rfl Try.func102 #[.int .i64 a0, .slice (some ad419) l1.length c1, .int .i64 (wrap64 (x6_1 + 1)), .slice Ao30 x9_3.length co30] rfl ?_; (with_reducible refine (impl_field_apply.calls k4 a0 _ _ l1 (wrap64 (x6_1 + 1)) _ _ x9_3 t439 _ ?side1 ?side2 ?side3 ?side4 A42.out).mono ?_); (case side1 => exact cs ((Kd.C_below HR1.out HB.out))); (case side2 => exact HC1.out); (case side3 => exact cs ((Kd.R_reads' HO_9.out).2.2)); (case side4 => exact (Kd.R_reads' HO_9.out).2.1); rintro e w44 ⟨v440, rfl, ho0, hb⟩; refine ⟨_, rfl, ?_⟩; have n0_ := as0 (Kd.R_elder' (rs HO_5) (Kd.R_base ho0) hb); have n1_ := as0 (Kd.R_elder' (rs HO_9) (Kd.R_base ho0) hb); have n2_ := as0 (Kd.R_elder' (rs HO_67) (Kd.R_base ho0) hb); have n3_ := as0 (Kd.R_elder' (rs HO438) (Kd.R_base ho0) hb); have n4_ := as0 (Kd.R_lower (Kd.R_new' (Kd.R_new' (Kd.R_new' (Kd.R_new' ho0 (Kd.R_lt (rs HO_5))) (Kd.R_lt (rs HO_9))) (Kd.R_lt (rs HO_67))) (Kd.R_lt (rs HO438))) (below_size (bs HB))); have n5_ := as0 (below_step (bs HB) hb); clear HO_5; clear HO_9; clear HO_67; clear HO438; clear HB; have HO_5 := n0_; have HO_9 := n1_; have HO_67 := n2_; have HO438 := n3_; have HO441 := n4_; have HB := n5_; clear n0_ n1_ n2_ n3_ n4_ n5_; (try clear hb); (try clear hb2); (try clear hk); (try clear hi); (try clear ho0)))
                   go_roundg k4
                   case measure => have := HK1.out; have := HK2.out; have := HK3.out; have := HK4.out; omega
                   case rel => exact ⟨(y436), (t439), (wrap64 (x65_3 + 1)), ea_, H', ⟨by have := HK1.out; have := HK2.out; have := HK3.out; have := HK4.out; omega⟩, ⟨by (try simp only [hl9_2]); (with_reducible repeat (first | apply Kd.R_alloc | apply Kd.R_drewN | apply Kd.R_drew)); exact Kd.R_mono HO_5.out (fun _ hk => ⟨hk.1.2, hk.2⟩)⟩, ⟨by (try simp only [hl9_2]); (with_reducible repeat (first | apply Kd.R_alloc | apply Kd.R_drewN | apply Kd.R_drew)); exact Kd.R_mono HO438.out (fun _ hk => ⟨hk.1.1, hk.2⟩)⟩, ⟨by (try simp only [hl9_2]); (with_reducible repeat (first | apply Kd.R_alloc | apply Kd.R_drewN | apply Kd.R_drew)); exact Kd.R_mono HO441.out (fun _ hk => ⟨hk.1.1.1.2, hk.2⟩)⟩, ⟨bs HB⟩⟩
                  ·
                   rw [if_neg c41] at H
                   exact absurd H (by simp)
              ·
               rw [if_neg c29] at H
               have c29b0 : decide (x65_3 < (wrap64 ((wrap64 ((l1.length : Int) - x6_1)) - 1))) = false := decide_eq_false c29
               have c29b0j : decide (x65_3 < ji10) = false := by first | (rw [← hji10]; exact c29b0) | exact c29b0
               clear c29
               obtain ⟨ji45, hji45⟩ : ∃ j_ : Int, (wrap64 ((wrap64 ((l1.length : Int) - x6_1)) + 1)) = j_ := ⟨_, rfl⟩
               replace H : (if 0 ≤ (ji45) then (if (ji45 : Int).toNat ≤ 35184372088832 then ((some (List.replicate (ji45 : Int).toNat 0 : List Int)).bind fun y442 => (impl_field_characteristic.l4 k3 a0 l1 x5_1 x6_1 x8_3 y442 (y442.length : Int) 0)) else (none)) else (none)) = some r := by first | (rw [hji45] at H; exact H) | (simp only [hji45] at H ⊢; exact H)
               have hji45w : (IntKind.i64.wrap ((wrap64 ((l1.length : Int) - x6_1)) + 1)) = ji45 := (i64_w _).trans hji45
               by_cases c46 : 0 ≤ (ji45)
               ·
                rw [if_pos c46] at H
                have c46b0 := eq_true c46
                have c46b1 : decide (0 ≤ (ji45)) = true := decide_eq_true c46
                clear c46
                by_cases c47 : (ji45 : Int).toNat ≤ 35184372088832
                ·
                 rw [if_pos c47] at H
                 have c47b0 := eq_true c47
                 have c47b1 : decide ((ji45 : Int).toNat ≤ 35184372088832) = true := decide_eq_true c47
                 clear c47
                 obtain ⟨y442, hy442⟩ : ∃ y_ : List Int, y_ = (List.replicate (ji45 : Int).toNat 0) := ⟨_, rfl⟩
                 replace H : (impl_field_characteristic.l4 k3 a0 l1 x5_1 x6_1 x8_3 y442 (y442.length : Int) 0) = some r := by first | (rw [hy442]; with_reducible exact H) | (have H2_ := (Option.bind_some _ _).symm.trans H; rw [hy442]; with_reducible exact H2_) | (have H2_ := (Option.bind_some _ _).symm.trans H; with_reducible exact H2_) | with_reducible exact H | (rw [hy442]; exact H) | exact H
                 have Ny442 := as0 hy442
                 clear hy442
                 have H' := as0 H
                 clear H
                 go_wp2_with (first | ((with_reducible refine gate_dst (N := 107) rfl ?_); refine Kd.R_make (Kd.int .i64) _ 2 rfl (N := 107) rfl 22 _ _ rfl ji45 rfl rfl Try.underlying22 (.int .i64 0) 8 info2 rfl (by decide) (by omega) 0 (ok := fun _ => True) (okp := fun _ => True) rfl (fun _ hk => hk) trivial (oa_) (Nat.le_trans (Nat.mul_le_mul_right _ (oa_ : ji45.toNat ≤ 35184372088832)) (by omega)) (Below.refl _ _) (Nat.le_refl _) ?_; intro v443 w48 ho49 hb hg_ hnew_; clear hg_ hnew_; (first | rw [← Ny442.out] at ho49 | (simp only [Int.reduceToNat] at ho49; rw [← Ny442.out] at ho49)); have n0_ := as0 (Kd.R_elder' (rs HO_5) (Kd.R_base ho49) hb); have n1_ := as0 (Kd.R_elder' (rs HO_8) (Kd.R_base ho49) hb); have n2_ := as0 (Kd.R_elder' (rs HO_9) (Kd.R_base ho49) hb); have n3_ := as0 (Kd.R_lower (Kd.R_new' (Kd.R_new' (Kd.R_new' ho49 (Kd.R_lt (rs HO_5))) (Kd.R_lt (rs HO_8))) (Kd.R_lt (rs HO_9))) (below_size (bs HB))); have n4_ := as0 (below_step (bs HB) hb); clear HO_5; clear HO_8; clear HO_9; clear HB; have HO_5 := n0_; have HO_8 := n1_; have HO_9 := n2_; have HO444 := n3_; have HB := n4_; clear n0_ n1_ n2_ n3_ n4_; clear hb ho49; obtain ⟨Ao50, co50, eo50⟩ := Kd.R_slice HO444.out; subst eo50))
                 obtain ⟨N442, hN442⟩ : ∃ n_ : Int, n_ = (y442.length : Int) := ⟨_, rfl⟩
                 rw [← hN442] at H' ⊢
                 clear hN442
                 go_loopg [110] k3 (fun kq v110 w' => ∃ (x14_4 : List Int) (x110_4 : Int), v110 = .int .i64 x110_4 ∧ Aside0 (impl_field_characteristic.l4 kq a0 l1 x5_1 x6_1 x8_3 x14_4 N442 x110_4 = some r) ∧ Aside0 (kq ≤ k3) ∧ Aside0 (Kd.R (Kd.int .i64) 2 w' w.heap.size (fun k_ => some k_ ≠ (u8 : Value).ownBlock ∧ some k_ ≠ ((.slice Ao50 y442.length co50) : Value).ownBlock) u5 x5_1) ∧ Aside0 (Kd.R (Kd.int .i64) 2 w' w.heap.size (fun k_ => some k_ ≠ (u5 : Value).ownBlock ∧ some k_ ≠ ((.slice Ao50 y442.length co50) : Value).ownBlock) u8 x8_3) ∧ Aside0 (Kd.R (Kd.int .i64) 2 w' w.heap.size (fun k_ => some k_ ≠ (u5 : Value).ownBlock ∧ some k_ ≠ (u8 : Value).ownBlock) (.slice Ao50 y442.length co50) x14_4) ∧ Aside0 (Below w.heap.size w w'))
                 case atStart => exact ⟨(y442), (0), ea_, H', ⟨Nat.le_refl _⟩, ⟨by (try simp only [hl9_2]); (with_reducible repeat (first | apply Kd.R_alloc | apply Kd.R_drewN | apply Kd.R_drew)); exact Kd.R_mono HO_5.out (fun _ hk => ⟨hk.1.1, hk.2⟩)⟩, ⟨by (try simp only [hl9_2]); (with_reducible repeat (first | apply Kd.R_alloc | apply Kd.R_drewN | apply Kd.R_drew)); exact Kd.R_mono HO_8.out (fun _ hk => ⟨hk.1.1, hk.2⟩)⟩, ⟨by (try simp only [hl9_2]); (with_reducible repeat (first | apply Kd.R_alloc | apply Kd.R_drewN | apply Kd.R_drew)); exact Kd.R_mono HO444.out (fun _ hk => ⟨hk.1.1.2, hk.1.2⟩)⟩, ⟨bs HB⟩⟩
                 case round =>
                  clear H'
                  try clear c1
                  try clear c2
                  try clear p2
                  try clear q2
                  try clear hx2
                  try clear hf2
                  try clear c3
                  try clear c4
                  try clear p4
                  try clear q4
                  try clear hx4
                  try clear c5
                  try clear c5b0
                  try clear c6
                  try clear c6b0
                  try clear p6
                  try clear c7
                  try clear c7b0
                  try clear c8
                  try clear c8b0
                  try clear c10
                  try clear c11
                  try clear c11b0
                  try clear c11b1
                  try clear c12
                  try clear c12b0
                  try clear c12b1
                  try clear c18
                  try clear c18b0
                  try clear c20
                  try clear c20b0
                  try clear c21
                  try clear c21b0
                  try clear c22
                  try clear c22b0
                  try clear c23
                  try clear c23b0
                  try clear c24
                  try clear c24b0
                  try clear c25
                  try clear c25b0
                  try clear p26
                  try clear q26
                  try clear hx26
                  try clear hf26
                  try clear c29
                  try clear c29b0
                  try clear c31
                  try clear c31b0
                  try clear c32
                  try clear c32b0
                  try clear c33
                  try clear c33b0
                  try clear c34
                  try clear c34b0
                  try clear c35
                  try clear c35b0
                  try clear c37
                  try clear c37b0
                  try clear c38
                  try clear c38b0
                  try clear c41
                  try clear p41
                  try clear q41
                  try clear hx41
                  try clear c42
                  try clear p42
                  try clear q42
                  try clear hx42
                  try clear c43
                  try clear p43
                  try clear q43
                  try clear hx43
                  try clear c46
                  try clear c46b0
                  try clear c46b1
                  try clear c47
                  try clear c47b0
                  try clear c47b1
                  try clear hx26_0
                  try clear hx419_0
                  try clear hx420_0
                  try clear hx428_0
                  try clear hx429_0
                  try clear hx431_0
                  try clear hx432_0
                  try clear hx433_0
                  try clear p2
                  try clear p26
                  try clear p4
                  try clear p419
                  try clear p420
                  try clear p428
                  try clear p429
                  try clear p431
                  try clear p432
                  try clear p433
                  try clear p6
                  try clear q2
                  try clear q26
                  try clear q4
                  try clear q419
                  try clear q420
                  try clear q428
                  try clear q429
                  try clear q431
                  try clear q432
                  try clear q433
                  obtain ⟨x14_4, x110_4, rfl, HA, HK4, HO_5, HO_8, HO_14, HB⟩ := hrel
                  have hl14_4 := (Kd.R_reads' HO_14.out).1
                  rw [hl14_4] at HO_14
                  (try simp only [hl14_4])
                  (try simp only [hl14_4] at HO_5)
                  (try simp only [hl14_4] at HO_8)
                  cases gk with
                  | zero => exact absurd HA.out (by simp [impl_field_characteristic.l4])
                  | succ k4 =>
                   have H := HA.out
                   clear HA
                   simp only [impl_field_characteristic.l4] at H
                   by_cases c51 : x110_4 < N442
                   ·
                    rw [if_pos c51] at H
                    have c51b0 : decide (x110_4 < N442) = true := decide_eq_true c51
                    clear c51
                    have H' := as0 H
                    clear H
                    obtain ⟨Ao52, co52, eo52⟩ := Kd.R_slice HO_5.out
                    subst eo52
                    go_wp2
                    go_loopg [115] k4 (fun kq v115 w' => ∃ (x14_5 : List Int) (x115_5 : Int), v115 = .int .i64 x115_5 ∧ Aside0 (impl_field_characteristic.l5 kq a0 l1 x5_1 x6_1 x8_3 x14_5 x110_4 N442 x110_4 x5_1 (x5_1.length : Int) x115_5 = some r) ∧ Aside0 (kq ≤ k4) ∧ Aside0 (Kd.R (Kd.int .i64) 2 w' w.heap.size (fun k_ => some k_ ≠ (u8 : Value).ownBlock ∧ some k_ ≠ ((.slice Ao50 x14_4.length co50) : Value).ownBlock) (.slice Ao52 x5_1.length co52) x5_1) ∧ Aside0 (Kd.R (Kd.int .i64) 2 w' w.heap.size (fun k_ => some k_ ≠ ((.slice Ao52 x5_1.length co52) : Value).ownBlock ∧ some k_ ≠ ((.slice Ao50 x14_4.length co50) : Value).ownBlock ∧ some k_ ≠ ((.slice Ao52 x5_1.length co52) : Value).ownBlock) u8 x8_3) ∧ Aside0 (Kd.R (Kd.int .i64) 2 w' w.heap.size (fun k_ => some k_ ≠ ((.slice Ao52 x5_1.length co52) : Value).ownBlock ∧ some k_ ≠ (u8 : Value).ownBlock ∧ some k_ ≠ ((.slice Ao52 x5_1.length co52) : Value).ownBlock) (.slice Ao50 x14_4.length co50) x14_5) ∧ Aside0 (Kd.R (Kd.int .i64) 2 w' w.heap.size (fun k_ => some k_ ≠ (u8 : Value).ownBlock ∧ some k_ ≠ ((.slice Ao50 x14_4.length co50) : Value).ownBlock) (.slice Ao52 x5_1.length co52) x5_1) ∧ Aside0 (Below w.heap.size w w'))
                    case atStart => exact ⟨(x14_4), (0), ea_, H', ⟨Nat.le_refl _⟩, ⟨by (try simp only [hl9_2]); (try simp only [hl14_4]); (with_reducible repeat (first | apply Kd.R_alloc | apply Kd.R_drewN | apply Kd.R_drew)); exact HO_5.out⟩, ⟨by (try simp only [hl9_2]); (try simp only [hl14_4]); (with_reducible repeat (first | apply Kd.R_alloc | apply Kd.R_drewN | apply Kd.R_drew)); exact Kd.R_mono HO_8.out (fun _ hk => ⟨hk.1, ⟨hk.2, hk.1⟩⟩)⟩, ⟨by (try simp only [hl9_2]); (try simp only [hl14_4]); (with_reducible repeat (first | apply Kd.R_alloc | apply Kd.R_drewN | apply Kd.R_drew)); exact Kd.R_mono HO_14.out (fun _ hk => ⟨hk.1, ⟨hk.2, hk.1⟩⟩)⟩, ⟨by (try simp only [hl9_2]); (try simp only [hl14_4]); (with_reducible repeat (first | apply Kd.R_alloc | apply Kd.R_drewN | apply Kd.R_drew)); exact HO_5.out⟩, ⟨bs HB⟩⟩
                    case round =>
                     clear H'
                     try clear c1
                     try clear c2
                     try clear p2
                     try clear q2
                     try clear hx2
                     try clear hf2
                     try clear c3
                     try clear c4
                     try clear p4
                     try clear q4
                     try clear hx4
                     try clear c5
                     try clear c5b0
                     try clear c6
                     try clear c6b0
                     try clear p6
                     try clear c7
                     try clear c7b0
                     try clear c8
                     try clear c8b0
                     try clear c10
                     try clear c11
                     try clear c11b0
                     try clear c11b1
                     try clear c12
                     try clear c12b0
                     try clear c12b1
                     try clear c18
                     try clear c18b0
                     try clear c20
                     try clear c20b0
                     try clear c21
                     try clear c21b0
                     try clear c22
                     try clear c22b0
                     try clear c23
                     try clear c23b0
                     try clear c24
                     try clear c24b0
                     try clear c25
                     try clear c25b0
                     try clear p26
                     try clear q26
                     try clear hx26
                     try clear hf26
                     try clear c29
                     try clear c29b0
                     try clear c31
                     try clear c31b0
                     try clear c32
                     try clear c32b0
                     try clear c33
                     try clear c33b0
                     try clear c34
                     try clear c34b0
                     try clear c35
                     try clear c35b0
                     try clear c37
                     try clear c37b0
                     try clear c38
                     try clear c38b0
                     try clear c41
                     try clear p41
                     try clear q41
                     try clear hx41
                     try clear c42
                     try clear p42
                     try clear q42
                     try clear hx42
                     try clear c43
                     try clear p43
                     try clear q43
                     try clear hx43
                     try clear c46
                     try clear c46b0
                     try clear c46b1
                     try clear c47
                     try clear c47b0
                     try clear c47b1
                     try clear c51
                     try clear c51b0
                     try clear hx26_0
                     try clear hx419_0
                     try clear hx420_0
                     try clear hx428_0
                     try clear hx429_0
                     try clear hx431_0
                     try clear hx432_0
                     try clear hx433_0
                     try clear p2
                     try clear p26
                     try clear p4
                     try clear p41
                     try clear p419
                     try clear p42
                     try clear p420
                     try clear p428
                     try clear p429
                     try clear p43
                     try clear p431
                     try clear p432
                     try clear p433
                     try clear p6
                     try clear q2
                     try clear q26
                     try clear q4
                     try clear q41
                     try clear q419
                     try clear q42
                     try clear q420
                     try clear q428
                     try clear q429
                     try clear q43
                     try clear q431
                     try clear q432
                     try clear q433
                     obtain ⟨x14_5, x115_5, rfl, HA, HK5, HO_5, HO_8, HO_14, HO_113, HB⟩ := hrel
                     have hl14_5 := (Kd.R_reads' HO_14.out).1
                     rw [hl14_5] at HO_14
                     (try simp only [hl14_5])
                     (try simp only [hl14_5] at HO_5)
                     (try simp only [hl14_5] at HO_8)
                     (try simp only [hl14_5] at HO_113)
                     cases gk with
                     | zero => exact absurd HA.out (by simp [impl_field_characteristic.l5])
                     | succ k5 =>
                      have H := HA.out
                      clear HA
                      simp only [impl_field_characteristic.l5] at H
                      by_cases c53 : x115_5 < (x5_1.length : Int)
                      ·
                       rw [if_pos c53] at H
                       have c53b0 : decide (x115_5 < (x5_1.length : Int)) = true := decide_eq_true c53
                       clear c53
                       by_cases c54 : 0 ≤ x115_5
                       ·
                        rw [if_pos c54] at H
                        have c54b0 : decide (0 ≤ x115_5) = true := decide_eq_true c54
                        clear c54
                        by_cases c55 : x115_5 < (x5_1.length : Int)
                        ·
                         rw [if_pos c55] at H
                         have c55b0 : decide (x115_5 < (x5_1.length : Int)) = true := decide_eq_true c55
                         clear c55
                         by_cases c56 : x110_4 ≥ x115_5
                         ·
                          rw [if_pos c56] at H
                          have c56b0 : decide (x115_5 ≤ x110_4) = true := decide_eq_true c56
                          clear c56
                          by_cases c57 : 0 ≤ x110_4
                          ·
                           rw [if_pos c57] at H
                           have c57b0 : decide (0 ≤ x110_4) = true := decide_eq_true c57
                           clear c57
                           by_cases c58 : x110_4 < (x14_5.length : Int)
                           ·
                            rw [if_pos c58] at H
                            have c58b0 : decide (x110_4 < (x14_5.length : Int)) = true := decide_eq_true c58
                            clear c58
                            obtain ⟨ji59, hji59⟩ : ∃ j_ : Int, (wrap64 (x110_4 - x115_5)) = j_ := ⟨_, rfl⟩
                            replace H : (if 0 ≤ (ji59) then (if (ji59) < (x8_3.length : Int) then ((impl_field_mod.f a0 (wrap64 ((rd x14_5 x110_4) + (wrap64 ((rd x8_3 (ji59)) * (rd x5_1 x115_5)))))).bind fun t448 => (impl_field_characteristic.l5 k5 a0 l1 x5_1 x6_1 x8_3 (x14_5.set (x110_4 : Int).toNat t448) x110_4 N442 x110_4 x5_1 (x5_1.length : Int) (wrap64 (x115_5 + 1)))) else (none)) else (none)) = some r := by first | (rw [hji59] at H; exact H) | (simp only [hji59] at H ⊢; exact H)
                            have hji59w : (IntKind.i64.wrap (x110_4 - x115_5)) = ji59 := (i64_w _).trans hji59
                            by_cases c60 : 0 ≤ (ji59)
                            ·
                             rw [if_pos c60] at H
                             have c60b0 : decide (0 ≤ (ji59)) = true := decide_eq_true c60
                             clear c60
                             by_cases c61 : (ji59) < (x8_3.length : Int)
                             ·
                              rw [if_pos c61] at H
                              have c61b0 : decide ((ji59) < (x8_3.length : Int)) = true := decide_eq_true c61
                              clear c61
                              replace H := Option.bind_eq_some_iff.mp H
                              obtain ⟨t448, A620, H⟩ := H
                              have A62 := as0 A620
                              clear A620
                              obtain ⟨y449, hy449⟩ : ∃ y_ : List Int, y_ = (x14_5.set (x110_4 : Int).toNat t448) := ⟨_, rfl⟩
                              replace H : (impl_field_characteristic.l5 k5 a0 l1 x5_1 x6_1 x8_3 y449 x110_4 N442 x110_4 x5_1 (x5_1.length : Int) (wrap64 (x115_5 + 1))) = some r := by first | (rw [hy449]; with_reducible exact H) | (have H2_ := (Option.bind_some _ _).symm.trans H; rw [hy449]; with_reducible exact H2_) | (have H2_ := (Option.bind_some _ _).symm.trans H; with_reducible exact H2_) | with_reducible exact H | (rw [hy449]; exact H) | exact H
                              have Ny449 := as0 hy449
                              clear hy449
                              have H' := as0 H
                              clear H
                              have p445 : 0 ≤ (x115_5 : Int) := oa_
                              have q445 : x115_5 < (x5_1.length : Int) := oa_
                              obtain ⟨ad445, e445, hx445_0⟩ := Kd.at_int (Kd.R_reads' HO_113.out).2.2 x115_5 p445 q445
                              cases e445
                              replace p445 := eq_true p445
                              replace q445 := eq_true q445
                              try go_wp2
                              have n0_ := as0 (Kd.R_drew HO_5.out)
                              have n1_ := as0 (Kd.R_drew HO_8.out)
                              have n2_ := as0 (Kd.R_drew HO_14.out)
                              have n3_ := as0 (Kd.R_drew HO_113.out)
                              have n4_ := as0 (below_drew1 HB.out)
                              clear HO_5
                              clear HO_8
                              clear HO_14
                              clear HO_113
                              clear HB
                              have HO_5 := n0_
                              have HO_8 := n1_
                              have HO_14 := n2_
                              have HO_113 := n3_
                              have HB := n4_
                              clear n0_ n1_ n2_ n3_ n4_
                              have p446 : 0 ≤ (x110_4 : Int) := oa_
                              have q446 : x110_4 < (x14_5.length : Int) := oa_
                              obtain ⟨ad446, e446, hx446_0⟩ := Kd.at_int (Kd.R_reads' HO_14.out).2.2 x110_4 p446 q446
                              cases e446
                              replace p446 := eq_true p446
                              replace q446 := eq_true q446
                              obtain ⟨Ao65, co65, eo65⟩ := Kd.R_slice HO_8.out
                              (first | subst eo65 | (injection eo65 with f1_ f2_ f3_; have f4_ := f1_.symm; have f5_ := f3_.symm; clear f1_ f2_ f3_; subst f4_; subst f5_))
                              have p447 : 0 ≤ ((ji59) : Int) := oa_
                              have q447 : (ji59) < (x8_3.length : Int) := oa_
                              obtain ⟨ad447, e447, hx447_0⟩ := Kd.at_int (Kd.R_reads' HO_8.out).2.2 (ji59) p447 q447
                              cases e447
                              replace p447 := eq_true p447
                              replace q447 := eq_true q447
                              refine start_ (n := 19) (S := fun w' => w'.cell? (ad446.add (x110_4).toNat) = some (.int .i64 (rd x14_5 x110_4)) ∧ w'.cell? (ad447.add ((ji59)).toNat) = some (.int .i64 (rd x8_3 (ji59)))) (ds := [18]) #[false, false, false, false, false, false, false, false, false, false, false, false, false, false, false, false, false, false, false] (by kernel_rfl) rfl rfl ⟨hx446_0, hx447_0⟩ (fun hHeld => ?_); refine with_tabW impl_field_characteristic.tab32 impl_field_characteristic.bits32 (fun HT_ HW_ => ?_)
                              generalize wr.drew = w64 at HO_5 HO_8 HO_14 HO_113 HB hx446_0 hx447_0 hHeld ⊢
                              refine pm_ HT_ (i := 0) (N := some 123) ?_
                              refine pm_ HT_ (i := 1) (N := some 124) ?_
                              refine pm_ HT_ (i := 2) (N := some 125) ?_
                              refine pm_ HT_ (i := 3) (N := some 126) ?_
                              refine pm_ HT_ (i := 4) (N := some 127) ?_
                              refine pm_ HT_ (i := 5) (N := some 128) ?_
                              refine pm_ HT_ (i := 7) (N := some 130) ?_
                              refine pm_ HT_ (i := 8) (N := some 131) ?_
                              refine pm_ HT_ (i := 9) (N := some 132) ?_
                              refine pm_ HT_ (i := 10) (N := some 133) ?_
                              refine pm_ HT_ (i := 11) (N := some 134) ?_
                              refine pm_ HT_ (i := 13) (N := some 136) ?_
                              refine tm2_ HT_ HW_ (i := 6) (N := some 129) hHeld ?_
                              refine tm2_ HT_ HW_ (i := 12) (N := some 135) hHeld ?_
                              refine pm_ HT_ (i := 14) (N := some 137) ?_
                              refine pm_ HT_ (i := 15) (N := some 138) ?_
                              refine one_ (i := 16) (N := some 139) #[true, true, true, true, true, true, true, true, true, true, true, true, true, true, true, true, true, false, false] rfl rfl (one_of HT_.out (by kernel_rfl)) (by decide) (fun K hK => ?_)
                              refine goes_ Try.func64 (by kernel_rfl) rfl #[.int .i64 a0, .int .i64 (wrap64 ((rd x14_5 x110_4) + (wrap64 ((rd x8_3 (ji59)) * (rd x5_1 x115_5)))))] (by rfl) rfl rfl (by (try simp only [List.map_toArray, List.map_cons, List.map_nil]); first | done | (simp only [hji59]; rfl) | rfl | (simp only [List.length_drop, List.length_take]; rfl)) ?_
                              with_reducible refine (impl_field_mod.calls a0 (wrap64 ((rd x14_5 x110_4) + (wrap64 ((rd x8_3 (ji59)) * (rd x5_1 x115_5))))) t448 _ A62.out).mono ?_
                              rintro e w' ⟨rfl, ⟨nd, rfl⟩⟩
                              refine ⟨_, rfl, ?_⟩
                              have p63 : 0 ≤ (x110_4 : Int) := oa_
                              have q63 : (x110_4 : Int) < ((x14_5.length : Int) : Int) := oa_
                              obtain ⟨go63, co63, eo63, gb63, gl63, cl63, HG63⟩ := Kd.R_form HO_14.out (by omega)
                              (first | cases eo63 | (injection eo63 with ea_ en_ ec_; (first | subst ea_ | (injection ea_ with ea_; subst ea_)); subst ec_; clear en_))
                              have GB63 := as0 gb63
                              have GG63 := as0 HG63
                              clear gb63 gl63 HG63
                              (first | simp only [add_plain] at hx446_0 | skip)
                              obtain ⟨hx63_0, hf63_0⟩ := Kd.R_celln 0 HO_14.out (x110_4 : Int) p63 q63
                              replace p63 := eq_true p63
                              replace q63 := eq_true q63
                              have HP66 := Kd.R_putn HO_14.out (x110_4 : Int) t448
                              rw [← Ny449.out] at HP66
                              have HQ66 := as0 HP66
                              clear HP66
                              refine hK.out _ _ ⟨hHeld.1, hHeld.2⟩ (fun hHeld => ?_)
                              clear hK K
                              refine nm_ (some 139) ?_
                              refine pm_ HT_ (i := 17) (N := some 140) ?_
                              refine last_ (i := 18) (N := none) #[true, true, true, true, true, true, true, true, true, true, true, true, true, true, true, true, true, true, true] rfl rfl (one_of HT_.out (by kernel_rfl)) (by decide) (fun K hK => ?_)
                              refine skip_ (w1 := ?_) (by rfl) rfl ?_ ?_
                              rotate_left
                              ·
                               go_simp
                               rfl
                              refine hK.out _ _ ?_
                              clear hK K
                              refine done_ (done_of HT_.out (by kernel_rfl)) ?_
                              try go_wp2
                              (try simp only [← hl14_5])
                              go_roundg k5
                              case measure => have := HK1.out; have := HK2.out; have := HK3.out; have := HK4.out; have := HK5.out; omega
                              case rel => exact ⟨(y449), (wrap64 (x115_5 + 1)), ea_, H', ⟨by have := HK1.out; have := HK2.out; have := HK3.out; have := HK4.out; have := HK5.out; omega⟩, ⟨by (try simp only [hl9_2]); (try simp only [hl14_4]); (try simp only [hl14_5]); (with_reducible repeat (first | apply Kd.R_alloc | apply Kd.R_drewN | apply Kd.R_drew)); exact Kd.R_mono (Kd.R_far (p := ⟨go63, (x110_4 : Int).toNat, none⟩) (Kd.R_mono HO_5.out (fun k_ hk => (⟨hk, fun e_ => hk.2 (by rw [e_]; rfl)⟩ : _ ∧ k_ ≠ go63))) (fun _ hk => hk.2) (.int .i64 t448)) (fun _ hk => ⟨hk.1.1, hk.1.2⟩)⟩, ⟨by (try simp only [hl9_2]); (try simp only [hl14_4]); (try simp only [hl14_5]); (with_reducible repeat (first | apply Kd.R_alloc | apply Kd.R_drewN | apply Kd.R_drew)); exact Kd.R_mono (Kd.R_far (p := ⟨go63, (x110_4 : Int).toNat, none⟩) (Kd.R_mono HO_8.out (fun k_ hk => (⟨hk, fun e_ => hk.2.1 (by rw [e_]; rfl)⟩ : _ ∧ k_ ≠ go63))) (fun _ hk => hk.2) (.int .i64 t448)) (fun _ hk => ⟨hk.1.1, ⟨hk.1.2.1, hk.1.2.2⟩⟩)⟩, ⟨by (try simp only [hl9_2]); (try simp only [hl14_4]); (try simp only [hl14_5]); (with_reducible repeat (first | apply Kd.R_alloc | apply Kd.R_drewN | apply Kd.R_drew)); exact HQ66.out⟩, ⟨by (try simp only [hl9_2]); (try simp only [hl14_4]); (try simp only [hl14_5]); (with_reducible repeat (first | apply Kd.R_alloc | apply Kd.R_drewN | apply Kd.R_drew)); exact Kd.R_mono (Kd.R_far (p := ⟨go63, (x110_4 : Int).toNat, none⟩) (Kd.R_mono HO_113.out (fun k_ hk => (⟨hk, fun e_ => hk.2 (by rw [e_]; rfl)⟩ : _ ∧ k_ ≠ go63))) (fun _ hk => hk.2) (.int .i64 t448)) (fun _ hk => ⟨hk.1.1, hk.1.2⟩)⟩, ⟨by repeat (first | (with_reducible first | exact HB.out | apply below_alloc | apply pw_below_drewN | apply below_drew1 | refine below_set ?_ GB63.out) | exact HB.out)⟩⟩
                             ·
                              rw [if_neg c61] at H
                              exact absurd H (by simp)
                            ·
                             rw [if_neg c60] at H
                             exact absurd H (by simp)
                           ·
                            rw [if_neg c58] at H
                            exact absurd H (by simp)
                          ·
                           rw [if_neg c57] at H
                           exact absurd H (by simp)
                         ·
                          rw [if_neg c56] at H
                          have c56b0 : decide (x115_5 ≤ x110_4) = false := decide_eq_false c56
                          clear c56
                          have H' := as0 H
                          clear H
                          have p445 : 0 ≤ (x115_5 : Int) := oa_
                          have q445 : x115_5 < (x5_1.length : Int) := oa_
                          obtain ⟨ad445, e445, hx445_0⟩ := Kd.at_int (Kd.R_reads' HO_113.out).2.2 x115_5 p445 q445
                          cases e445
                          replace p445 := eq_true p445
                          replace q445 := eq_true q445
                          go_wp2
                          (try simp only [← hl14_5])
                          go_roundg k5
                          case measure => have := HK1.out; have := HK2.out; have := HK3.out; have := HK4.out; have := HK5.out; omega
                          case rel => exact ⟨(x14_5), (wrap64 (x115_5 + 1)), ea_, H', ⟨by have := HK1.out; have := HK2.out; have := HK3.out; have := HK4.out; have := HK5.out; omega⟩, ⟨by (try simp only [hl9_2]); (try simp only [hl14_4]); (try simp only [hl14_5]); (with_reducible repeat (first | apply Kd.R_alloc | apply Kd.R_drewN | apply Kd.R_drew)); exact HO_5.out⟩, ⟨by (try simp only [hl9_2]); (try simp only [hl14_4]); (try simp only [hl14_5]); (with_reducible repeat (first | apply Kd.R_alloc | apply Kd.R_drewN | apply Kd.R_drew)); exact HO_8.out⟩, ⟨by (try simp only [hl9_2]); (try simp only [hl14_4]); (try simp only [hl14_5]); (with_reducible repeat (first | apply Kd.R_alloc | apply Kd.R_drewN | apply Kd.R_drew)); exact HO_14.out⟩, ⟨by (try simp only [hl9_2]); (try simp only [hl14_4]); (try simp only [hl14_5]); (with_reducible repeat (first | apply Kd.R_alloc | apply Kd.R_drewN | apply Kd.R_drew)); exact HO_113.out⟩, ⟨bs HB⟩⟩
                        ·
                         rw [if_neg c55] at H
                         exact absurd H (by simp)
                       ·
                        rw [if_neg c54] at H
                        exact absurd H (by simp)
                      ·
                       rw [if_neg c53] at H
                       have c53b0 : decide (x115_5 < (x5_1.length : Int)) = false := decide_eq_false c53
                       clear c53
                       have H' := as0 H
                       clear H
                       go_wp2
                       (try simp only [← hl14_4, ← hl14_5])
                       go_roundg k5
                       case measure => have := HK1.out; have := HK2.out; have := HK3.out; have := HK4.out; have := HK5.out; omega
                       case rel => exact ⟨(x14_5), (wrap64 (x110_4 + 1)), ea_, H', ⟨by have := HK1.out; have := HK2.out; have := HK3.out; have := HK4.out; have := HK5.out; omega⟩, ⟨by (try simp only [hl9_2]); (try simp only [hl14_4]); (try simp only [hl14_5]); (with_reducible repeat (first | apply Kd.R_alloc | apply Kd.R_drewN | apply Kd.R_drew)); exact HO_5.out⟩, ⟨by (try simp only [hl9_2]); (try simp only [hl14_4]); (try simp only [hl14_5]); (with_reducible repeat (first | apply Kd.R_alloc | apply Kd.R_drewN | apply Kd.R_drew)); exact Kd.R_mono HO_8.out (fun _ hk => ⟨hk.1, hk.2.1⟩)⟩, ⟨by (try simp only [hl9_2]); (try simp only [hl14_4]); (try simp only [hl14_5]); (with_reducible repeat (first | apply Kd.R_alloc | apply Kd.R_drewN | apply Kd.R_drew)); exact Kd.R_mono HO_14.out (fun _ hk => ⟨hk.1, hk.2.1⟩)⟩, ⟨bs HB⟩⟩
                   ·
                    rw [if_neg c51] at H
                    have c51b0 : decide (x110_4 < N442) = false := decide_eq_false c51
                    clear c51
                    have H' := as0 H
                    clear H
                    go_wp2
                    (try simp only [← hl9_2, ← hl14_4])
                    go_roundg k4
                    case measure => have := HK1.out; have := HK2.out; have := HK3.out; have := HK4.out; omega
                    case rel => exact ⟨(x14_4), (wrap64 (x6_1 - 1)), ea_, H', ⟨by have := HK1.out; have := HK2.out; have := HK3.out; have := HK4.out; omega⟩, ⟨by (try simp only [hl9_2]); (try simp only [hl14_4]); (with_reducible repeat (first | apply Kd.R_alloc | apply Kd.R_drewN | apply Kd.R_drew)); exact Kd.R_mono HO_14.out (fun _ hk => trivial)⟩, ⟨bs HB⟩⟩
                ·
                 rw [if_neg c47] at H
                 exact absurd H (by simp)
               ·
                rw [if_neg c46] at H
                exact absurd H (by simp)
        ·
         rw [if_neg c12] at H
         exact absurd H (by simp)
       ·
        rw [if_neg c11] at H
        exact absurd H (by simp)
      ·
       rw [if_neg c8] at H
       exact absurd H (by simp)
     ·
      rw [if_neg c7] at H
      exact absurd H (by simp)
    ·
     rw [if_neg c6] at H
     exact absurd H (by simp)
   ·
    rw [if_neg c5] at H
    have c5b0 : decide (0 ≤ x6_1) = false := decide_eq_false c5
    clear c5
    replace H := Option.bind_eq_some_iff.mp H
    obtain ⟨t418, A670, H⟩ := H
    have A67 := as0 A670
    clear A670
    obtain rfl := Option.some.inj H
    obtain ⟨Ao68, co68, eo68⟩ := Kd.R_slice HO_5.out
    subst eo68
    go_wp2_with (first | ((with_reducible refine gate_callee (f := 94) rfl ?_); refine goesM_ (some 145) rfl rfl Try.func94 #[.slice Ao68 x5_1.length co68] rfl ?_; (with_reducible refine (slices_Reverse_int64_int64.calls k1 (fun k_ => some k_ = (.slice Ao68 x5_1.length co68 : Value).ownBlock) (.slice Ao68 x5_1.length co68) x5_1 t418 w _ ?side1 ?side2 A67.out).mono ?_); (case side1 => exact bs HB); (case side2 => exact Kd.R_tight rfl HO_5.out); rintro e w69 ⟨rfl, hy0, hb, hkp⟩; refine ⟨_, rfl, ?_⟩; have n0_ := as0 (Kd.R_reok rfl hy0 (fun k_ e_ => HO_5.out.1 k_ e_)); have n1_ := as0 (hb); clear HO_5; clear HB; have HO_5 := n0_; have HB := n1_; clear n0_ n1_; (try clear hb); (try clear hkp); (try clear hy0)))
    go_ret
    exact ⟨_, er_, rs HO_5, bs HB⟩
end Go.Proofs.Ytlmolloallhclaa.H
set_option linter.unusedVariables false
set_option linter.unusedSimpArgs false
namespace Go.Proofs.Ytlmolloallhclaa.H
open Go.RowKit Go.Proofs.YtlmolloallhclaaW.PrintWords Go.Proofs.YtlmolloallhclaaW.PrintLast Go.Proofs.YtlmolloallhclaaW.PrintMore Go.Proofs.Ytlmolloallhclaa.Num
def tabL (n : Nat) (f : Nat → Int) : List Int := (List.range n).map f
theorem tabL_len (n : Nat) (f : Nat → Int) : (tabL n f).length = n := by simp [tabL]
theorem tabL_get {n : Nat} (f : Nat → Int) {i : Nat} (h : i < n) : (tabL n f)[i]? = some (f i) := by
 unfold tabL
 rw [List.getElem?_map, List.getElem?_range h]; rfl
theorem rd_tabL {n : Nat} (f : Nat → Int) {i : Nat} (h : i < n) : rd (tabL n f) (i : Int) = f i := by
 rw [rd_n, List.getD_eq_getElem?_getD, tabL_get f h]; rfl
theorem tabL_congr {n : Nat} {f g : Nat → Int} (h : ∀ i, i < n → f i = g i) : tabL n f = tabL n g :=
 List.map_congr_left fun i hi => h i (List.mem_range.1 hi)
theorem tabL_set {n : Nat} (f : Nat → Int) {i : Nat} (h : i < n) (v : Int) : (tabL n f).set i v = tabL n fun j => if j = i then v else f j := by
 refine List.ext_getElem? fun j => ?_
 by_cases hj : j < n
 ·
  rw [tabL_get _ hj]
  by_cases e : j = i
  ·
   subst e
   rw [List.getElem?_set_self (by rw [tabL_len]; exact h), if_pos rfl]
  ·
   rw [List.getElem?_set_ne (fun h => e h.symm), if_neg e, tabL_get f hj]
 ·
  rw [List.getElem?_eq_none (by rw [List.length_set, tabL_len]; omega), List.getElem?_eq_none (by rw [tabL_len]; omega)]
theorem tabL_rep (n : Nat) : List.replicate n (0 : Int) = tabL n fun _ => 0 := by
 refine List.ext_getElem? fun j => ?_
 by_cases hj : j < n
 ·
  rw [tabL_get _ hj, List.getElem?_replicate, if_pos hj]
 ·
  rw [List.getElem?_eq_none (by simp; omega), List.getElem?_eq_none (by rw [tabL_len]; omega)]
theorem tabL_snoc (n : Nat) (f : Nat → Int) : tabL n f ++ [f n] = tabL (n + 1) f := by
 unfold tabL; rw [List.range_succ, List.map_append]; rfl
theorem rd_mx (l : List (List Int)) (i j : Nat) : rd (rd_L1 l (i : Int)) (j : Int) = mx l i j := by rw [rd_ro, rd_n]; rfl
theorem su_succ (f : Nat → Int) (n : Nat) : su f (n + 1) = su f n + f n := rfl
theorem wpp {a b : Nat} (h : a + b ≤ 1000000000000) : wrap64 ((a : Int) + (b : Int)) = ((a + b : Nat) : Int) := by rw [w64 (by omega) (by omega)]; omega
section
variable {p : Int} {n : Nat} {l : List (List Int)}
theorem mod_step (hp : 2 ≤ p) (hp2 : p ≤ 10007) {A x y : Int} (hA : 0 ≤ A ∧ A < p) (hx : 0 ≤ x ∧ x < p) (hy : 0 ≤ y ∧ y < p) : impl_field_mod.f p (wrap64 (A + wrap64 (x * y))) = some ((A + x * y) % p) := by
 have := mul_bd2 hp2 hx (y := y) (by omega)
 rw [impl_mod (by omega) (by omega), w64 (x := x * y) (by omega) (by omega), w64 (by omega) (by omega)]
set_option maxHeartbeats 2000000 in
theorem apply_says (hp : 2 ≤ p) (hp2 : p ≤ 10007) (sq : Sq p n l) (hn : n ≤ 12) {a m : Nat} (ha : a + m = n) {C : Nat → Int} (hC : ∀ i, i < m → 0 ≤ C i ∧ C i < p) :
  Ev (fun k => impl_field_apply.f k p l (a : Int) (tabL m C)) (tabL m fun i => su (fun j => mx l (a + i) (a + j) * C j) m % p) := by
 obtain ⟨S, hS⟩ : ∃ S : Nat → Nat → Int, S = fun i j => su (fun t => mx l (a + i) (a + t) * C t) j % p := ⟨_, rfl⟩
 have S0 : ∀ i, S i 0 = 0 := fun i => by rw [hS]; show (0 : Int) % p = 0; exact Int.zero_emod p
 have Sb : ∀ i j, 0 ≤ S i j ∧ S i j < p := fun i j => by rw [hS]; exact emod_bd (by omega)
 have Ss : ∀ i j, S i (j + 1) = (S i j + mx l (a + i) (a + j) * C j) % p := fun i j => by
  rw [hS]
  show su _ (j + 1) % p = _
  rw [su_succ]
  exact ((cg.mod p _).symm.add (cg.refl _)).emod
 obtain ⟨x3, hx3⟩ : ∃ x3, x3 = tabL m C := ⟨_, rfl⟩
 have hl3 : x3.length = m := by rw [hx3]; exact tabL_len _ _
 have hr3 : ∀ j, j < m → rd x3 (j : Int) = C j := fun j hj => by rw [hx3]; exact rd_tabL C hj
 have hlen : l.length = n := sq.len
 have hrow : ∀ i, i < n → (rd_L1 l (i : Int)).length = n := fun i hi => by rw [rd_ro]; exact sq.row i hi
 have goal : tabL m (fun i => su (fun j => mx l (a + i) (a + j) * C j) m % p) = tabL m fun r => S r m := by rw [hS]
 rw [goal, ← hx3]
 clear goal
 obtain ⟨st, hst⟩ : ∃ st : Nat → Nat → Nat → Int, st = fun i j r => if r < i then S r m else if r = i then S i j else 0 := ⟨_, rfl⟩
 have outer : ∀ d i, i + d = m → Ev (fun k => impl_field_apply.l0 k p l (a : Int) x3 (tabL m (st i 0)) (m : Int) (i : Int)) (tabL m fun r => S r m) := by
  intro d
  induction d with
  | zero =>
   intro i hi
   have q : ¬ ((i : Int) < (m : Int)) := by omega
   refine Ev.succ ?_
   simp only [impl_field_apply.l0, if_neg q]
   refine Ev_to (Ev.now _) (tabL_congr fun r hr => ?_)
   rw [hst]
   show (if r < i then S r m else _) = _
   rw [if_pos (by omega)]
  | succ d ih =>
   intro i hi
   have q : (i : Int) < (m : Int) := by omega
   have inner : ∀ e j, j + e = m → Ev (fun k => impl_field_apply.l1 k p l (a : Int) x3 (tabL m (st i j)) (i : Int) (m : Int) (i : Int) x3 (m : Int) (j : Int)) (tabL m fun r => S r m) := by
    intro e
    induction e with
    | zero =>
     intro j hj
     have q1 : ¬ ((j : Int) < (m : Int)) := by omega
     refine Ev.succ ?_
     simp only [impl_field_apply.l1, if_neg q1, wp1 (show i ≤ 1000000000000 by omega)]
     have e1 : tabL m (st i j) = tabL m (st (i + 1) 0) := tabL_congr fun r hr => by
      rw [hst]
      show (if r < i then S r m else if r = i then S i j else 0) = (if r < i + 1 then S r m else if r = i + 1 then S (i + 1) 0 else 0)
      rw [S0, ite_self]
      by_cases h1 : r < i
      ·
       rw [if_pos h1, if_pos (by omega)]
      ·
       rw [if_neg h1]
       by_cases h2 : r = i
       ·
        rw [if_pos h2, if_pos (by omega), h2, show j = m by omega]
       ·
        rw [if_neg h2, if_neg (by omega)]
     rw [e1]
     exact ih (i + 1) (by omega)
    | succ e ih2 =>
     intro j hj
     have h1 := ih2 (j + 1) (by omega)
     have q1 : (j : Int) < (m : Int) := by omega
     have q2 : (0 : Int) ≤ (j : Int) := by omega
     have q3 : (j : Int) < (x3.length : Int) := by omega
     have q4 : (0 : Int) ≤ (i : Int) := by omega
     have b1 : a + i ≤ 1000000000000 := by omega
     have b2 : a + j ≤ 1000000000000 := by omega
     have b3 : j ≤ 1000000000000 := by omega
     have b4 : a + i < n := by omega
     have b5 : a + j < n := by omega
     have b6 : j < m := by omega
     have b7 : i < m := by omega
     have q6 : (0 : Int) ≤ ((a + i : Nat) : Int) := by omega
     have q7 : ((a + i : Nat) : Int) < (l.length : Int) := by omega
     have q8 : (0 : Int) ≤ ((a + j : Nat) : Int) := by omega
     have q9 : ((a + j : Nat) : Int) < ((rd_L1 l ((a + i : Nat) : Int)).length : Int) := by rw [hrow _ b4]; omega
     have q5 : (i : Int) < ((tabL m (st i j)).length : Int) := by rw [tabL_len]; exact q
     have e1 : rd (tabL m (st i j)) (i : Int) = S i j := by
      rw [rd_tabL _ b7, hst]
      show (if i < i then S i m else if i = i then S i j else 0) = _
      rw [if_neg (Nat.lt_irrefl i), if_pos rfl]
     have e2 : (tabL m (st i j)).set i (S i (j + 1)) = tabL m (st i (j + 1)) := by
      rw [tabL_set _ b7]
      refine tabL_congr fun r hr => ?_
      rw [hst]
      show (if r = i then S i (j + 1) else if r < i then S r m else if r = i then S i j else 0) = (if r < i then S r m else if r = i then S i (j + 1) else 0)
      by_cases h2 : r = i
      ·
       rw [if_pos h2, if_neg (by rw [h2]; exact Nat.lt_irrefl i), if_pos h2]
      ·
       rw [if_neg h2, if_neg h2, if_neg h2]
     refine Ev.succ ?_
     simp only [impl_field_apply.l1, if_pos q1, if_pos q2, if_pos q3, if_pos q4, if_pos q5, wpp b1, wpp b2, if_pos q6, if_pos q7, if_pos q8, if_pos q9, e1, rd_mx, hr3 j b6, mod_step hp hp2 (Sb i j) (sq.bd b4 b5) (hC j b6), ← Ss, Option.bind_some, Int.toNat_natCast, e2, wp1 b3]
     exact h1
   refine Ev.succ ?_
   simp only [impl_field_apply.l0, if_pos q, hl3]
   exact inner m 0 (by omega)
 have h := outer m 0 (by omega)
 simp only [impl_field_apply.f, hl3, Int.toNat_natCast, if_pos (show (0 : Int) ≤ (m : Int) by omega), if_pos (show m ≤ 35184372088832 by omega), tabL_rep]
 have e0 : tabL m (fun _ => (0 : Int)) = tabL m (st 0 0) := tabL_congr fun r hr => by
  rw [hst]
  show (0 : Int) = (if r < 0 then S r m else if r = 0 then S 0 0 else 0)
  rw [S0, ite_self, if_neg (by omega)]
 rw [e0]
 exact h
theorem neg_step (hp : 2 ≤ p) (hp2 : p ≤ 10007) {x : Int} (hx : 0 ≤ x ∧ x < p) : impl_field_mod.f p (wrap64 (-x)) = some ((-x) % p) := by
 rw [impl_mod (by omega) (by omega), w64 (by omega) (by omega)]
theorem char_own (sq : Sq p n l) (hn : n ≤ 12) {a m : Nat} (ha : a + 1 + m = n) {x5 x8 r : List Int} {s : Int}
  (h : Ev (fun k => impl_field_characteristic.l2 k p l x5 (a : Int) s x8 (tabL m fun i => mx l (a + 1 + i) a) (wrap64 (s - 1)) 0) r) :
  ∀ d i, i + d = m → Ev (fun k => impl_field_characteristic.l1 k p l x5 (a : Int) s x8 (tabL m fun r => if r < i then mx l (a + 1 + r) a else 0) (m : Int) (i : Int)) r := by
 have hlen : l.length = n := sq.len
 intro d
 induction d with
 | zero =>
  intro i hi
  have q : ¬ ((i : Int) < (m : Int)) := by omega
  refine Ev.succ ?_
  simp only [impl_field_characteristic.l1, if_neg q]
  have e : tabL m (fun r => if r < i then mx l (a + 1 + r) a else 0) = tabL m fun i => mx l (a + 1 + i) a := tabL_congr fun r hr => if_pos (by omega)
  rw [e]
  exact h
 | succ d ih =>
  intro i hi
  have h1 := ih (i + 1) (by omega)
  have q1 : (i : Int) < (m : Int) := by omega
  have q2 : (0 : Int) ≤ (i : Int) := by omega
  have q3 : (0 : Int) ≤ (a : Int) := by omega
  have b1 : a ≤ 1000000000000 := by omega
  have b2 : a + 1 + i ≤ 1000000000000 := by omega
  have b3 : i ≤ 1000000000000 := by omega
  have b4 : a + 1 + i < n := by omega
  have b5 : i < m := by omega
  have q4 : (0 : Int) ≤ ((a + 1 + i : Nat) : Int) := by omega
  have q5 : ((a + 1 + i : Nat) : Int) < (l.length : Int) := by omega
  have q6 : (a : Int) < ((rd_L1 l ((a + 1 + i : Nat) : Int)).length : Int) := by rw [rd_ro, sq.row _ b4]; omega
  have q7 : (i : Int) < ((tabL m fun r => if r < i then mx l (a + 1 + r) a else 0).length : Int) := by rw [tabL_len]; exact q1
  have e2 : (tabL m fun r => if r < i then mx l (a + 1 + r) a else 0).set i (mx l (a + 1 + i) a) = tabL m fun r => if r < i + 1 then mx l (a + 1 + r) a else 0 := by
   rw [tabL_set _ b5]
   refine tabL_congr fun r hr => ?_
   by_cases h2 : r = i
   ·
    rw [if_pos h2, if_pos (by omega), h2]
   ·
    rw [if_neg h2]
    by_cases h3 : r < i
    ·
     rw [if_pos h3, if_pos (by omega)]
    ·
     rw [if_neg h3, if_neg (by omega)]
  refine Ev.succ ?_
  simp only [impl_field_characteristic.l1, if_pos q1, wp1 b1, wpp b2, if_pos q4, if_pos q5, if_pos q3, if_pos q6, if_pos q2, if_pos q7, rd_mx, Int.toNat_natCast, e2, wp1 b3]
  exact h1
theorem char_sum (hp : 2 ≤ p) (hp2 : p ≤ 10007) (sq : Sq p n l) (hn : n ≤ 12) {a m : Nat} (ha : a + 1 + m = n) {x5 x8 r : List Int} {s x64 x65 : Int} {V : Nat → Int} (hV : ∀ i, i < m → 0 ≤ V i ∧ V i < p) (hl8 : x8.length < 17592186044416)
  (h : Ev (fun k => impl_field_characteristic.l2 k p l x5 (a : Int) s (x8 ++ [(-(su (fun i => mx l a (a + 1 + i) * V i) m)) % p]) (tabL m fun i => su (fun j => mx l (a + 1 + i) (a + 1 + j) * V j) m % p) x64 (wrap64 (x65 + 1))) r) :
  ∀ d i, i + d = m → Ev (fun k => impl_field_characteristic.l3 k p l x5 (a : Int) s x8 (tabL m V) (su (fun i => mx l a (a + 1 + i) * V i) i % p) x64 x65 (tabL m V) (m : Int) (i : Int)) r := by
 have hlen : l.length = n := sq.len
 have hap := apply_says hp hp2 sq hn (a := a + 1) (m := m) ha hV
 obtain ⟨S, hS⟩ : ∃ S : Nat → Int, S = fun j => su (fun t => mx l a (a + 1 + t) * V t) j % p := ⟨_, rfl⟩
 have Sb : ∀ j, 0 ≤ S j ∧ S j < p := fun j => by rw [hS]; exact emod_bd (by omega)
 have Ss : ∀ j, S (j + 1) = (S j + mx l a (a + 1 + j) * V j) % p := fun j => by
  rw [hS]
  show su _ (j + 1) % p = _
  rw [su_succ]
  exact ((cg.mod p _).symm.add (cg.refl _)).emod
 have Se : ∀ j, su (fun i => mx l a (a + 1 + i) * V i) j % p = S j := fun j => by rw [hS]
 obtain ⟨x9, hx9⟩ : ∃ x9, x9 = tabL m V := ⟨_, rfl⟩
 have hl9 : x9.length = m := by rw [hx9]; exact tabL_len _ _
 have hr9 : ∀ j, j < m → rd x9 (j : Int) = V j := fun j hj => by rw [hx9]; exact rd_tabL V hj
 rw [← hx9] at hap ⊢
 intro d
 induction d with
 | zero =>
  intro i hi
  rw [Se]
  have e : i = m := by omega
  have q : ¬ ((i : Int) < (m : Int)) := by omega
  have b1 : a ≤ 1000000000000 := by omega
  refine Ev.succ ?_
  simp only [impl_field_characteristic.l3, if_neg q, neg_step hp hp2 (Sb i), Option.bind_some, if_pos hl8, wp1 b1]
  refine Ev.bind hap ?_
  have e1 : (-S i) % p = (-(su (fun i => mx l a (a + 1 + i) * V i) m)) % p := by
   rw [hS, e]; exact (cg.mod p _).neg.emod
  rw [e1]
  exact h
 | succ d ih =>
  intro i hi
  have h1 := ih (i + 1) (by omega)
  rw [Se] at h1 ⊢
  have q1 : (i : Int) < (m : Int) := by omega
  have q2 : (0 : Int) ≤ (i : Int) := by omega
  have q3 : (0 : Int) ≤ (a : Int) := by omega
  have q4 : (i : Int) < (x9.length : Int) := by omega
  have q5 : (a : Int) < (l.length : Int) := by omega
  have b1 : a ≤ 1000000000000 := by omega
  have b2 : a + 1 + i ≤ 1000000000000 := by omega
  have b3 : i ≤ 1000000000000 := by omega
  have b4 : a + 1 + i < n := by omega
  have b5 : i < m := by omega
  have b6 : a < n := by omega
  have q6 : (0 : Int) ≤ ((a + 1 + i : Nat) : Int) := by omega
  have q7 : ((a + 1 + i : Nat) : Int) < ((rd_L1 l (a : Int)).length : Int) := by rw [rd_ro, sq.row _ b6]; omega
  refine Ev.succ ?_
  simp only [impl_field_characteristic.l3, if_pos q1, if_pos q2, if_pos q4, if_pos q3, if_pos q5, wp1 b1, wpp b2, if_pos q6, if_pos q7, rd_mx, hr9 i b5, mod_step hp hp2 (Sb i) (sq.bd b6 b4) (hV i b5), ← Ss, Option.bind_some, wp1 b3]
  exact h1
theorem char_col (hp : 2 ≤ p) (hp2 : p ≤ 10007) (sq : Sq p n l) (hn : n ≤ 12) {a m : Nat} (ha : a + 1 + m = n) {x5 r : List Int}
  (h : Ev (fun k => impl_field_characteristic.l4 k p l x5 (a : Int) (tabL (m + 2) fun t => colB m (fun i j => mx l (a + i) (a + j)) t % p) (tabL (m + 2) fun _ => 0) ((m + 2 : Nat) : Int) 0) r) :
  ∀ d t, t + d = m → Ev (fun k => impl_field_characteristic.l2 k p l x5 (a : Int) ((m + 1 : Nat) : Int) (tabL (t + 2) fun t => colB m (fun i j => mx l (a + i) (a + j)) t % p) (tabL m fun i => vB m (fun i j => mx l (a + (i + 1)) (a + (j + 1))) (fun i => mx l (a + (i + 1)) (a + 0)) t i % p) (m : Int) (t : Int)) r := by
 obtain ⟨cl, hcl⟩ : ∃ cl : Nat → Int, cl = fun t => colB m (fun i j => mx l (a + i) (a + j)) t % p := ⟨_, rfl⟩
 obtain ⟨W, hW⟩ : ∃ W : Nat → Nat → Int, W = vB m (fun i j => mx l (a + (i + 1)) (a + (j + 1))) (fun i => mx l (a + (i + 1)) (a + 0)) := ⟨_, rfl⟩
 have hcs : ∀ t, cl (t + 2) = (-(su (fun i => mx l a (a + 1 + i) * (W t i % p)) m)) % p := fun t => by
  rw [hcl, hW]
  show colB m _ (t + 2) % p = _
  unfold colB
  rw [if_neg (by omega), if_neg (by omega)]
  refine (cg.neg (cg.su fun i _ => ?_)).emod
  show cg p (mx l (a + 0) (a + (i + 1)) * vB m _ _ (t + 2 - 2) i) _
  rw [show a + (i + 1) = a + 1 + i by omega]
  exact (cg.refl _).mul (cg.mod p _).symm
 have hWs : ∀ t i, W (t + 1) i % p = su (fun j => mx l (a + 1 + i) (a + 1 + j) * (W t j % p)) m % p := fun t i => by
  rw [hW]
  show (su (fun j => mx l (a + (i + 1)) (a + (j + 1)) * vB m _ _ t j) m) % p = _
  refine (cg.su fun j _ => ?_).emod
  rw [show a + (i + 1) = a + 1 + i by omega, show a + (j + 1) = a + 1 + j by omega]
  exact (cg.refl _).mul (cg.mod p _).symm
 have ec : (fun t => colB m (fun i j => mx l (a + i) (a + j)) t % p) = cl := hcl.symm
 rw [ec] at h ⊢
 rw [← hW]
 clear hcl hW ec
 intro d
 induction d with
 | zero =>
  intro t ht
  obtain rfl : t = m := by omega
  have q : ¬ ((t : Int) < (t : Int)) := by omega
  have b1 : t + 1 ≤ 1000000000000 := by omega
  have q2 : (0 : Int) ≤ ((t + 1 + 1 : Nat) : Int) := by omega
  have q3 : t + 1 + 1 ≤ 35184372088832 := by omega
  refine Ev.succ ?_
  simp only [impl_field_characteristic.l2, if_neg q, wp1 b1, if_pos q2, Int.toNat_natCast, if_pos q3, Option.bind_some, tabL_rep, tabL_len]
  exact h
 | succ d ih =>
  intro t ht
  have h1 := ih (t + 1) (by omega)
  have q1 : (t : Int) < (m : Int) := by omega
  have b1 : t ≤ 1000000000000 := by omega
  have h2 := char_sum hp hp2 sq hn ha (x5 := x5) (x8 := tabL (t + 2) cl) (r := r) (s := ((m + 1 : Nat) : Int)) (x64 := (m : Int)) (x65 := (t : Int)) (V := fun i => W t i % p) (fun i _ => emod_bd (by omega)) (by rw [tabL_len]; omega) (by
   rw [← hcs, wp1 b1, tabL_snoc, tabL_congr (g := fun i => W (t + 1) i % p) fun i _ => (hWs t i).symm]
   exact h1) m 0 (by omega)
  rw [show su (fun i => mx l a (a + 1 + i) * (W t i % p)) 0 = 0 from rfl, Int.zero_emod] at h2
  refine Ev.succ ?_
  simp only [impl_field_characteristic.l2, if_pos q1, tabL_len]
  exact h2
theorem char_next (hp : 2 ≤ p) (hp2 : p ≤ 10007) {a m : Nat} (hm : m ≤ 100) {K D : Nat → Int} (hK : ∀ i, i < m + 2 → 0 ≤ K i ∧ K i < p) (hD : ∀ i, i < m + 1 → 0 ≤ D i ∧ D i < p) {r : List Int}
  (h : Ev (fun k => impl_field_characteristic.l0 k p l (tabL (m + 2) fun i => su (fun j => if j ≤ i then K (i - j) * D j else 0) (m + 1) % p) (wrap64 ((a : Int) - 1))) r) :
  Ev (fun k => impl_field_characteristic.l4 k p l (tabL (m + 1) D) (a : Int) (tabL (m + 2) K) (tabL (m + 2) fun _ => 0) ((m + 2 : Nat) : Int) 0) r := by
 obtain ⟨S, hS⟩ : ∃ S : Nat → Nat → Int, S = fun i k => su (fun j => if j ≤ i then K (i - j) * D j else 0) k % p := ⟨_, rfl⟩
 have S0 : ∀ i, S i 0 = 0 := fun i => by rw [hS]; show (0 : Int) % p = 0; exact Int.zero_emod p
 have Sb : ∀ i j, 0 ≤ S i j ∧ S i j < p := fun i j => by rw [hS]; exact emod_bd (by omega)
 have Ss : ∀ i j, j ≤ i → S i (j + 1) = (S i j + K (i - j) * D j) % p := fun i j hj => by
  rw [hS]
  show su _ (j + 1) % p = _
  rw [su_succ, if_pos hj]
  exact ((cg.mod p _).symm.add (cg.refl _)).emod
 have Sn : ∀ i j, ¬ j ≤ i → S i (j + 1) = S i j := fun i j hj => by
  rw [hS]
  show su _ (j + 1) % p = _
  rw [su_succ, if_neg hj, Int.add_zero]
 have eg : tabL (m + 2) (fun i => su (fun j => if j ≤ i then K (i - j) * D j else 0) (m + 1) % p) = tabL (m + 2) fun i => S i (m + 1) := by rw [hS]
 rw [eg] at h
 clear eg hS
 obtain ⟨x5, hx5⟩ : ∃ x5, x5 = tabL (m + 1) D := ⟨_, rfl⟩
 have hl5 : x5.length = m + 1 := by rw [hx5]; exact tabL_len _ _
 have hr5 : ∀ j, j < m + 1 → rd x5 (j : Int) = D j := fun j hj => by rw [hx5]; exact rd_tabL D hj
 obtain ⟨x8, hx8⟩ : ∃ x8, x8 = tabL (m + 2) K := ⟨_, rfl⟩
 have hl8 : x8.length = m + 2 := by rw [hx8]; exact tabL_len _ _
 have hr8 : ∀ j, j < m + 2 → rd x8 (j : Int) = K j := fun j hj => by rw [hx8]; exact rd_tabL K hj
 rw [← hx5, ← hx8]
 clear hx5 hx8
 obtain ⟨st, hst⟩ : ∃ st : Nat → Nat → Nat → Int, st = fun i j r => if r < i then S r (m + 1) else if r = i then S i j else 0 := ⟨_, rfl⟩
 have outer : ∀ d i, i + d = m + 2 → Ev (fun k => impl_field_characteristic.l4 k p l x5 (a : Int) x8 (tabL (m + 2) (st i 0)) ((m + 2 : Nat) : Int) (i : Int)) r := by
  intro d
  induction d with
  | zero =>
   intro i hi
   have q : ¬ ((i : Int) < ((m + 2 : Nat) : Int)) := by omega
   refine Ev.succ ?_
   simp only [impl_field_characteristic.l4, if_neg q]
   have e : tabL (m + 2) (st i 0) = tabL (m + 2) fun i => S i (m + 1) := tabL_congr fun r hr => by
    rw [hst]
    show (if r < i then S r (m + 1) else _) = _
    rw [if_pos (by omega)]
   rw [e]
   exact h
  | succ d ih =>
   intro i hi
   have q : (i : Int) < ((m + 2 : Nat) : Int) := by omega
   have inner : ∀ e j, j + e = m + 1 → Ev (fun k => impl_field_characteristic.l5 k p l x5 (a : Int) x8 (tabL (m + 2) (st i j)) (i : Int) ((m + 2 : Nat) : Int) (i : Int) x5 ((m + 1 : Nat) : Int) (j : Int)) r := by
    intro e
    induction e with
    | zero =>
     intro j hj
     have q1 : ¬ ((j : Int) < ((m + 1 : Nat) : Int)) := by omega
     have b1 : i ≤ 1000000000000 := by omega
     have hi' := ih (i + 1) (by omega)
     refine Ev.succ ?_
     simp only [impl_field_characteristic.l5, if_neg q1, wp1 b1]
     have e1 : tabL (m + 2) (st i j) = tabL (m + 2) (st (i + 1) 0) := tabL_congr fun r hr => by
      rw [hst]
      show (if r < i then S r (m + 1) else if r = i then S i j else 0) = (if r < i + 1 then S r (m + 1) else if r = i + 1 then S (i + 1) 0 else 0)
      rw [S0, ite_self]
      by_cases h1 : r < i
      ·
       rw [if_pos h1, if_pos (by omega)]
      ·
       rw [if_neg h1]
       by_cases h2 : r = i
       ·
        rw [if_pos h2, if_pos (by omega), h2, show j = m + 1 by omega]
       ·
        rw [if_neg h2, if_neg (by omega)]
     rw [e1]
     exact hi'
    | succ e ih2 =>
     intro j hj
     have h1 := ih2 (j + 1) (by omega)
     have q1 : (j : Int) < ((m + 1 : Nat) : Int) := by omega
     have q2 : (0 : Int) ≤ (j : Int) := by omega
     have q3 : (j : Int) < (x5.length : Int) := by omega
     have b3 : j ≤ 1000000000000 := by omega
     have b4 : j < m + 1 := by omega
     have b5 : i < m + 2 := by omega
     by_cases hij : j ≤ i
     ·
      have q4 : (i : Int) ≥ (j : Int) := by omega
      have q5 : (0 : Int) ≤ (i : Int) := by omega
      have q6 : (i : Int) < ((tabL (m + 2) (st i j)).length : Int) := by rw [tabL_len]; exact q
      have b6 : i - j < m + 2 := by omega
      have q7 : (0 : Int) ≤ ((i - j : Nat) : Int) := by omega
      have q8 : ((i - j : Nat) : Int) < (x8.length : Int) := by omega
      have w1 : wrap64 ((i : Int) - (j : Int)) = ((i - j : Nat) : Int) := by rw [w64 (by omega) (by omega)]; omega
      have e1 : rd (tabL (m + 2) (st i j)) (i : Int) = S i j := by
       rw [rd_tabL _ b5, hst]
       show (if i < i then S i (m + 1) else if i = i then S i j else 0) = _
       rw [if_neg (Nat.lt_irrefl i), if_pos rfl]
      have e2 : (tabL (m + 2) (st i j)).set i (S i (j + 1)) = tabL (m + 2) (st i (j + 1)) := by
       rw [tabL_set _ b5]
       refine tabL_congr fun r hr => ?_
       rw [hst]
       show (if r = i then S i (j + 1) else if r < i then S r (m + 1) else if r = i then S i j else 0) = (if r < i then S r (m + 1) else if r = i then S i (j + 1) else 0)
       by_cases h2 : r = i
       ·
        rw [if_pos h2, if_neg (by rw [h2]; exact Nat.lt_irrefl i), if_pos h2]
       ·
        rw [if_neg h2, if_neg h2, if_neg h2]
      refine Ev.succ ?_
      simp only [impl_field_characteristic.l5, if_pos q1, if_pos q2, if_pos q3, if_pos q4, if_pos q5, if_pos q6, w1, if_pos q7, if_pos q8, e1, hr8 _ b6, hr5 j b4, mod_step hp hp2 (Sb i j) (hK _ b6) (hD j b4), ← Ss i j hij, Option.bind_some, Int.toNat_natCast, e2, wp1 b3]
      exact h1
     ·
      have q4 : ¬ ((i : Int) ≥ (j : Int)) := by omega
      have e2 : tabL (m + 2) (st i j) = tabL (m + 2) (st i (j + 1)) := tabL_congr fun r hr => by
       rw [hst]
       show (if r < i then S r (m + 1) else if r = i then S i j else 0) = (if r < i then S r (m + 1) else if r = i then S i (j + 1) else 0)
       rw [Sn i j hij]
      refine Ev.succ ?_
      simp only [impl_field_characteristic.l5, if_pos q1, if_pos q2, if_pos q3, if_neg q4, wp1 b3, e2]
      exact h1
   refine Ev.succ ?_
   simp only [impl_field_characteristic.l4, if_pos q, hl5]
   exact inner (m + 1) 0 (by omega)
 have hz := outer (m + 2) 0 (by omega)
 have e0 : tabL (m + 2) (fun _ => (0 : Int)) = tabL (m + 2) (st 0 0) := tabL_congr fun r hr => by
  rw [hst]
  show (0 : Int) = (if r < 0 then S r (m + 1) else if r = 0 then S 0 0 else 0)
  rw [S0, ite_self, if_neg (by omega)]
 rw [e0]
 exact hz
theorem berk_mod (A : Nat → Nat → Int) {m i : Nat} (hi : i < m + 2) : su (fun j => if j ≤ i then colB m A (i - j) % p * (Dy m (fun a b => A (a + 1) (b + 1)) j % p) else 0) (m + 1) % p = Dy (m + 1) A i % p := by
 rw [Dy_berk, cv_comm]
 obtain ⟨D, hD⟩ : ∃ D, D = Dy m fun a b => A (a + 1) (b + 1) := ⟨_, rfl⟩
 have hz : ∀ j, m < j → D j = 0 := fun j hj => by rw [hD]; exact Dy_deg _ hj
 rw [← hD]
 refine cg.emod ?_
 have h1 : cg p (su (fun j => if j ≤ i then colB m A (i - j) % p * (D j % p) else 0) (m + 1)) (su (fun j => if j ≤ i then D j * colB m A (i - j) else 0) (m + 1)) := cg.su fun j _ => by
  by_cases h : j ≤ i
  ·
   rw [if_pos h, if_pos h, Int.mul_comm (D j)]
   exact (cg.mod p _).mul (cg.mod p _)
  ·
   rw [if_neg h, if_neg h]; exact cg.refl _
 refine h1.trans (cg.of_eq ?_)
 show _ = su (fun j => D j * colB m A (i - j)) (i + 1)
 have h2 : su (fun j => D j * colB m A (i - j)) (i + 1) = su (fun j => if j ≤ i then D j * colB m A (i - j) else 0) (i + 1) := su_congr fun j hj => by rw [if_pos (by omega)]
 rw [h2]
 rcases Nat.lt_or_ge i (m + 1) with h | h
 ·
  exact su_ext (by omega) fun j h1 h2 => by rw [if_neg (by omega)]
 ·
  exact (su_ext (by omega) fun j h1 h2 => by rw [hz j (by omega), Int.zero_mul, ite_self]).symm
theorem impl_char (hp : IsP p) (sq : Sq p n l) (hn : n ≤ 12) : Ev (fun k => impl_field_characteristic.f k p l) (dL p n (Dy n (mx l))) := by
 have hp1 := hp.1
 have hp2 := hp.2.1
 have hlen : l.length = n := sq.len
 have main : ∀ a m, a + m = n → Ev (fun k => impl_field_characteristic.l0 k p l (tabL (m + 1) fun t => Dy m (fun i j => mx l (a + i) (a + j)) t % p) ((a : Int) - 1)) (dL p n (Dy n (mx l))) := by
  intro a
  induction a with
  | zero =>
   intro m hm
   obtain rfl : m = n := by omega
   have q : ¬ (((0 : Nat) : Int) - 1 ≥ 0) := by omega
   refine Ev.succ ?_
   simp only [impl_field_characteristic.l0, if_neg q]
   refine Ev.bind (impl_reverse _ (by rw [tabL_len]; omega)) ?_
   refine Ev_to (Ev.now _) ?_
   have e1 : (fun i j => mx l (0 + i) (0 + j)) = mx l := funext fun i => funext fun j => by rw [Nat.zero_add, Nat.zero_add]
   rw [e1]
   refine List.ext_getElem? fun j => ?_
   by_cases hj : j < m + 1
   ·
    rw [List.getElem?_reverse (by rw [tabL_len]; exact hj), tabL_len, tabL_get _ (by omega)]
    unfold dL
    rw [List.getElem?_map, List.getElem?_range hj]
    show some (Dy m (mx l) (m + 1 - 1 - j) % p) = some (Dy m (mx l) (m - j) % p)
    rw [show m + 1 - 1 - j = m - j by omega]
   ·
    rw [List.getElem?_eq_none (by rw [List.length_reverse, tabL_len]; omega), List.getElem?_eq_none (by rw [dL_len]; omega)]
  | succ a ih =>
   intro m hm
   have hi := ih (m + 1) (by omega)
   have e0 : ((a + 1 : Nat) : Int) - 1 = (a : Int) := by omega
   rw [e0]
   have ha : a + 1 + m = n := by omega
   have b1 : a ≤ 1000000000000 := by omega
   have b2 : a < n := by omega
   have b3 : m ≤ 100 := by omega
   have b4 : m + 1 ≤ 1000000000000 := by omega
   have q1 : (a : Int) ≥ 0 := by omega
   have q2 : (0 : Int) ≤ (a : Int) := by omega
   have q3 : (a : Int) < (l.length : Int) := by omega
   have q4 : (a : Int) < ((rd_L1 l (a : Int)).length : Int) := by rw [rd_ro, sq.row _ b2]; omega
   have q5 : (0 : Int) ≤ (m : Int) := by omega
   have q6 : m ≤ 35184372088832 := by omega
   have b5 : m ≤ 1000000000000 := by omega
   have w1 : wrap64 ((l.length : Int) - (a : Int)) = ((m + 1 : Nat) : Int) := by rw [w64 (by omega) (by omega)]; omega
   have w2 : wrap64 (((m + 1 : Nat) : Int) - 1) = (m : Int) := by rw [wm1 b4]; exact ws1
   have hb : 0 ≤ mx l a a ∧ mx l a a < p := sq.bd b2 b2
   have h4 := char_next (l := l) hp1 hp2 (a := a) b3 (K := fun t => colB m (fun i j => mx l (a + i) (a + j)) t % p) (D := fun t => Dy m (fun i j => mx l (a + 1 + i) (a + 1 + j)) t % p) (fun i _ => emod_bd (by omega)) (fun i _ => emod_bd (by omega)) (r := dL p n (Dy n (mx l))) (by
    rw [wm1 b1]
    have e : tabL (m + 2) (fun i => su (fun j => if j ≤ i then colB m (fun i j => mx l (a + i) (a + j)) (i - j) % p * (Dy m (fun i j => mx l (a + 1 + i) (a + 1 + j)) j % p) else 0) (m + 1) % p) = tabL (m + 1 + 1) fun t => Dy (m + 1) (fun i j => mx l (a + i) (a + j)) t % p := tabL_congr fun i hi => by
     have e2 : (fun i j => mx l (a + 1 + i) (a + 1 + j)) = fun x y => (fun i j => mx l (a + i) (a + j)) (x + 1) (y + 1) := funext fun x => funext fun y => by
      show mx l (a + 1 + x) (a + 1 + y) = mx l (a + (x + 1)) (a + (y + 1))
      rw [show a + (x + 1) = a + 1 + x by omega, show a + (y + 1) = a + 1 + y by omega]
     rw [e2]
     exact berk_mod (fun i j => mx l (a + i) (a + j)) hi
    rw [e]
    exact hi)
   have h2 := char_col hp1 hp2 sq hn ha h4 m 0 (by omega)
   have e8 : tabL (0 + 2) (fun t => colB m (fun i j => mx l (a + i) (a + j)) t % p) = [1, (-(mx l a a)) % p] := by
    show [1 % p, (-(mx l (a + 0) (a + 0))) % p] = _
    rw [Int.emod_eq_of_lt (a := 1) (by omega) (by omega), Nat.add_zero]
   have e9 : tabL m (fun i => vB m (fun i j => mx l (a + (i + 1)) (a + (j + 1))) (fun i => mx l (a + (i + 1)) (a + 0)) 0 i % p) = tabL m fun i => mx l (a + 1 + i) a := tabL_congr fun i hi => by
    show mx l (a + (i + 1)) (a + 0) % p = _
    rw [show a + (i + 1) = a + 1 + i by omega, Nat.add_zero]
    have := sq.bd (show a + 1 + i < n by omega) b2
    exact Int.emod_eq_of_lt this.1 this.2
   rw [e8, e9] at h2
   have h1 := char_own sq hn ha (x5 := tabL (m + 1) fun t => Dy m (fun i j => mx l (a + 1 + i) (a + 1 + j)) t % p) (x8 := [1, (-(mx l a a)) % p]) (r := dL p n (Dy n (mx l))) (s := ((m + 1 : Nat) : Int)) (by rw [w2]; exact h2) m 0 (by omega)
   have e7 : tabL m (fun r => if r < 0 then mx l (a + 1 + r) a else 0) = tabL m fun _ => 0 := tabL_congr fun r _ => if_neg (by omega)
   rw [e7] at h1
   refine Ev.succ ?_
   simp only [impl_field_characteristic.l0, if_pos q1, if_pos q2, if_pos q3, if_pos q4, rd_mx, neg_step hp1 hp2 hb, Option.bind_some, w1, w2, if_pos q5, Int.toNat_natCast, if_pos q6, tabL_rep, tabL_len]
   exact h1
 have h := main n 0 (by omega)
 simp only [impl_field_characteristic.f, hlen, wm1 (show n ≤ 1000000000000 by omega)]
 have e : tabL (0 + 1) (fun t => Dy 0 (fun i j => mx l (n + i) (n + j)) t % p) = [1] := by
  show [1 % p] = [1]
  rw [Int.emod_eq_of_lt (a := 1) (by omega) (by omega)]
 rw [e] at h
 exact h
end
end Go.Proofs.Ytlmolloallhclaa.H
namespace Go.Proofs.Ytlmolloallhclaa.H
open Go.RowKit Go.Proofs.YtlmolloallhclaaW.PrintWords Go.Proofs.YtlmolloallhclaaW.PrintLast Go.Proofs.YtlmolloallhclaaW.PrintMore
attribute [local go_sem] max2_int min2_int max_two min_two max_three min_three max_four min_four   -- for this text's walks alone
set_option linter.unusedVariables false
set_option linter.unusedSimpArgs false
def laws_toInt64SS.l0 : Nat → List (List Int) → List (List Int) → Int → Option ((List (List Int)))
 | 0, _, _, _ => none
 | k + 1, x0, x3, x4 => if x4 < (x0.length : Int) then (if 0 ≤ x4 then ((laws_toInt64S.f k (rd_L1 x0 x4)).bind fun t259 => (if x4 < (x3.length : Int) then (laws_toInt64SS.l0 k x0 (x3.set (x4 : Int).toNat t259) (wrap64 (x4 + 1))) else (none))) else (none)) else (some x3)
def laws_toInt64SS.f (k : Nat) (l0 : List (List Int)) : Option ((List (List Int))) := if 0 ≤ (l0.length : Int) then (if ((l0.length : Int) : Int).toNat ≤ 11728124029610 then (laws_toInt64SS.l0 k l0 (List.replicate ((l0.length : Int) : Int).toNat []) 0) else (none)) else (none)
set_option maxHeartbeats 8000000 in
set_option maxRecDepth 100000 in
theorem laws_toInt64SS.calls (k : Nat) (A0 : Option Addr) (c0 : Nat) (l0 : List (List Int)) (r : List (List Int)) (w : World) (hr0 : Kd.C (Kd.slice 2 (Kd.int .i64)) w A0 l0.length l0) (hc0 : l0.length ≤ c0) (h : laws_toInt64SS.f k l0 = some r) :
  Calls Try.prog 19 #[.slice A0 l0.length c0] w fun e w' => ∃ v0_ : Value, e = .returned (v0_) ∧ Kd.S (Kd.slice 2 (Kd.int .i64)) 22 w' w.heap.size (fun _ => True) v0_ r ∧ Below w.heap.size w w' := by
 have HR0 := as0 hr0
 have HC0 := as0 hc0
 clear hr0 hc0
 have HB := as0 (Below.refl w.heap.size w)
 have H : (if 0 ≤ (l0.length : Int) then (if ((l0.length : Int) : Int).toNat ≤ 11728124029610 then (laws_toInt64SS.l0 k l0 (List.replicate ((l0.length : Int) : Int).toNat []) 0) else (none)) else (none)) = some r := h
 clear h
 by_cases c2 : 0 ≤ (l0.length : Int)
 ·
  rw [if_pos c2] at H
  have c2b0 := eq_true c2
  have c2b1 : decide (0 ≤ (l0.length : Int)) = true := decide_eq_true c2
  clear c2
  by_cases c3 : ((l0.length : Int) : Int).toNat ≤ 11728124029610
  ·
   rw [if_pos c3] at H
   have c3b0 := eq_true c3
   have c3b1 : decide (((l0.length : Int) : Int).toNat ≤ 11728124029610) = true := decide_eq_true c3
   clear c3
   obtain ⟨y255, hy255⟩ : ∃ y_ : List (List Int), y_ = (List.replicate ((l0.length : Int) : Int).toNat []) := ⟨_, rfl⟩
   replace H : (laws_toInt64SS.l0 k l0 y255 0) = some r := by first | (rw [hy255]; with_reducible exact H) | (have H2_ := (Option.bind_some _ _).symm.trans H; rw [hy255]; with_reducible exact H2_) | (have H2_ := (Option.bind_some _ _).symm.trans H; with_reducible exact H2_) | with_reducible exact H | (rw [hy255]; exact H) | exact H
   have Ny255 := as0 hy255
   clear hy255
   have H' := as0 H
   clear H
   go_enter Try.func19, Try.ntmps19
   go_wp2_with (first | ((with_reducible refine gate_dst (N := 7) rfl ?_); refine Kd.S_make (Kd.slice 2 (Kd.int .i64)) _ 22 rfl (N := 7) rfl 23 _ _ rfl (l0.length : Int) rfl rfl Try.underlying23 (.slice none 0 0) 24 info22 rfl (by decide) (by omega) [] (ok := fun _ => True) (okp := fun _ => True) ⟨_, rfl, Kd.R_nil _ _ _ _ _⟩ (fun _ hk => hk) trivial (oa_) (Nat.le_trans (Nat.mul_le_mul_right _ (oa_ : (l0.length : Int).toNat ≤ 11728124029610)) (by omega)) (Below.refl _ _) (Nat.le_refl _) ?_; intro v256 w4 ho5 hb hg_ hnew_; clear hg_ hnew_; (first | rw [← Ny255.out] at ho5 | (simp only [Int.reduceToNat] at ho5; rw [← Ny255.out] at ho5)); have n0_ := as0 (Kd.S_lower ho5 (below_size (bs HB))); have n1_ := as0 (below_step (bs HB) hb); clear HB; have HO257 := n0_; have HB := n1_; clear n0_ n1_; clear hb ho5))
   go_loopg [4] k (fun kq v4 w' => ∃ (x3_1 : List (List Int)) (x4_1 : Int), v4 = .int .i64 x4_1 ∧ Aside0 (laws_toInt64SS.l0 kq l0 x3_1 x4_1 = some r) ∧ Aside0 (kq ≤ k) ∧ Aside0 (Kd.S (Kd.slice 2 (Kd.int .i64)) 22 w' w.heap.size (fun _ => True) v256 x3_1) ∧ Aside0 (Below w.heap.size w w'))
   case atStart => exact ⟨(y255), (0), ea_, H', ⟨Nat.le_refl _⟩, ⟨by (with_reducible repeat (first | apply Kd.S_alloc | apply Kd.S_drewN | apply Kd.S_drew)); exact HO257.out⟩, ⟨bs HB⟩⟩
   case round =>
    clear H'
    try clear c1
    try clear c2
    try clear c2b0
    try clear c2b1
    try clear p2
    try clear c3
    try clear c3b0
    try clear c3b1
    obtain ⟨x3_1, x4_1, rfl, HA, HK1, HO_3, HB⟩ := hrel
    cases gk with
    | zero => exact absurd HA.out (by simp [laws_toInt64SS.l0])
    | succ k1 =>
     have H := HA.out
     clear HA
     simp only [laws_toInt64SS.l0] at H
     by_cases c6 : x4_1 < (l0.length : Int)
     ·
      rw [if_pos c6] at H
      have c6b0 : decide (x4_1 < (l0.length : Int)) = true := decide_eq_true c6
      clear c6
      by_cases c7 : 0 ≤ x4_1
      ·
       rw [if_pos c7] at H
       have c7b0 : decide (0 ≤ x4_1) = true := decide_eq_true c7
       clear c7
       replace H := Option.bind_eq_some_iff.mp H
       obtain ⟨t259, A80, H⟩ := H
       have A8 := as0 A80
       clear A80
       by_cases c9 : x4_1 < (x3_1.length : Int)
       ·
        rw [if_pos c9] at H
        have c9b0 : decide (x4_1 < (x3_1.length : Int)) = true := decide_eq_true c9
        clear c9
        obtain ⟨y262, hy262⟩ : ∃ y_ : List (List Int), y_ = (x3_1.set (x4_1 : Int).toNat t259) := ⟨_, rfl⟩
        replace H : (laws_toInt64SS.l0 k1 l0 y262 (wrap64 (x4_1 + 1))) = some r := by first | (rw [hy262]; with_reducible exact H) | (have H2_ := (Option.bind_some _ _).symm.trans H; rw [hy262]; with_reducible exact H2_) | (have H2_ := (Option.bind_some _ _).symm.trans H; with_reducible exact H2_) | with_reducible exact H | (rw [hy262]; exact H) | exact H
        have Ny262 := as0 hy262
        clear hy262
        have H' := as0 H
        clear H
        have p258 : 0 ≤ (x4_1 : Int) := oa_
        have q258 : x4_1 < (l0.length : Int) := oa_
        obtain ⟨ad258, A258_0, c258_0, e258, hx258_0, hl258_0, hi258_0⟩ := at_L1 HR0.out x4_1 p258 q258
        cases e258
        replace hx258_0 := (HB.out.cell (World.block_lt_of_cell? w _ hx258_0)).trans hx258_0
        have HR258_0 := as0 hi258_0
        have HC258_0 := as0 hl258_0
        clear hi258_0 hl258_0
        replace p258 := eq_true p258
        replace q258 := eq_true q258
        go_wp2_with fail
        (with_reducible refine (laws_toInt64S.calls k1 _ _ (rd_L1 l0 x4_1) t259 _ ?side1 ?side2 A8.out).mono ?_)
        (case side1 => exact cs ((Kd.C_below HR258_0.out HB.out)))
        (case side2 => exact HC258_0.out)
        rintro e w11 ⟨v260, rfl, ho0, hb⟩
        obtain ⟨Av260, cv260, ev260⟩ := Kd.R_slice ho0
        subst ev260
        have n0_ := as0 (Kd.S_elder' (by (with_reducible repeat (first | apply Kd.S_alloc | apply Kd.S_drewN | apply Kd.S_drew)); exact HO_3.out) (Kd.R_base ho0) hb)
        have n1_ := as0 (Kd.R_lower ho0 (below_size (bs HB)))
        have n2_ := as0 (below_step (bs HB) hb)
        clear HO_3
        clear HB
        have HO_3 := n0_
        have HO261 := n1_
        have HB := n2_
        clear n0_ n1_ n2_
        (try clear hb)
        (try clear hb2)
        (try clear hk)
        (try clear hi)
        (try clear ho0)
        have p10 : 0 ≤ (x4_1 : Int) := oa_
        have q10 : (x4_1 : Int) < ((x3_1.length : Int) : Int) := oa_
        obtain ⟨go10, co10, eo10, gb10, gl10, cl10, HG10⟩ := Kd.S_form HO_3.out (by omega)
        (first | cases eo10 | (injection eo10 with ea_ en_ ec_; (first | subst ea_ | (injection ea_ with ea_; subst ea_)); subst ec_; clear en_))
        have GB10 := as0 gb10
        have GG10 := as0 HG10
        clear gb10 gl10 HG10
        obtain ⟨_, ce10, hcl10, hM10, hcc10, hfr10, _, _⟩ := Kd.S_elem HO_3.out [] (x4_1 : Int) p10 q10
        obtain ⟨ve10_0, rfl, ge10_0⟩ := hM10
        have hx10_0 := hcc10 0 _ rfl
        have hf10_0 := hfr10 0
        (try simp only [show ((Kd.slice 2 (Kd.int .i64))).sz = 1 from rfl, Nat.mul_one, Nat.add_zero] at hx10_0)
        (try simp only [show ((Kd.slice 2 (Kd.int .i64))).sz = 1 from rfl, Nat.mul_one, Nat.add_zero] at hf10_0)
        clear hcl10 hcc10 hfr10 
        try clear hM10
        replace p10 := eq_true p10
        replace q10 := eq_true q10
        have n_ := as0 (Kd.S_mono (ok' := (fun k_ => some k_ ≠ ((Value.slice Av260 (List.length t259) cv260) : Value).ownBlock)) HO_3.out (fun k_ hk => hk.2))
        clear HO_3
        have HO_3 := n_
        clear n_
        have HX12 := as0 (show Kd.S (Kd.slice 2 (Kd.int .i64)) 22 w11 w.heap.size (fun k_ => ((fun _ => True)) k_ ∧ ¬ ((fun k_ => some k_ = ((Value.slice Av260 (List.length t259) cv260) : Value).ownBlock)) k_) (.slice (some ⟨go10, 0, none⟩) x3_1.length co10) x3_1 from (by (with_reducible repeat (first | apply Kd.S_alloc | apply Kd.S_drewN | apply Kd.S_drew)); exact Kd.S_mono HO_3.out (fun k_ hk => ⟨trivial, fun e_ => hk e_⟩)))
        obtain ⟨oki12, ce12, hcl12, hM12, hcc12, hfr12, hoki12, hH12⟩ := Kd.S_elem HX12.out [] (x4_1 : Int) (oa_) (by have h_ : (x4_1 : Int) < ((x3_1.length : Int) : Int) := oa_; first | exact h_ | (have e_ := (Kd.S_reads' HO_3.out).1; omega) | simpa using h_)
        obtain ⟨ve12_0, rfl, ge12_0⟩ := hM12
        have HP12 := Kd.S_seg hH12 (oa_) (by have h_ : (x4_1 : Int) < ((x3_1.length : Int) : Int) := oa_; first | exact h_ | (have e_ := (Kd.S_reads' HO_3.out).1; omega) | simpa using h_) (seg := [(Value.slice Av260 (List.length t259) cv260)]) (j := 0) (show 1 ≤ 1 from by decide) (x' := t259) (Kd.M_row (Kd.R_mono (Kd.R_tight rfl (Kd.R_mono (ok' := fun k_ => ((fun _ => True)) k_ ∧ k_ ≠ go10) (Kd.R_apart' (HO261.out) (Kd.S_typed HO_3.out) (by decide)) (fun k_ hk => ⟨trivial, fun e_ => (hk.2) (by rw [e_]; rfl)⟩))) (fun _ h_ => Or.inr (h_)))) (fun _ hk => hk) (fun k_ hk_ => ((Kd.R_mono (ok' := fun k_ => ((fun _ => True)) k_ ∧ k_ ≠ go10) (Kd.R_apart' (HO261.out) (Kd.S_typed HO_3.out) (by decide)) (fun k_ hk => ⟨trivial, fun e_ => (hk.2) (by rw [e_]; rfl)⟩))).1 k_ hk_.symm)
        have hx12_0 := hcc12 0 _ rfl
        (try simp only [show ((Kd.slice 2 (Kd.int .i64))).sz = 1 from rfl, Nat.mul_one, Nat.add_zero] at hx12_0)
        have hf12_0 := hfr12 0
        (try simp only [show ((Kd.slice 2 (Kd.int .i64))).sz = 1 from rfl, Nat.mul_one, Nat.add_zero] at hf12_0)
        clear hcl12 hcc12 hfr12  hoki12 hH12
        try clear hM12
        (try simp only [show ((Kd.slice 2 (Kd.int .i64))).sz = 1 from rfl, Nat.mul_one, Nat.add_zero] at HP12)
        go_wp2
        have hp_ : Kd.S (Kd.slice 2 (Kd.int .i64)) 22 (w11.setCell ⟨go10, (x4_1 : Int).toNat, none⟩ (Value.slice Av260 (List.length t259) cv260)) w.heap.size (fun _ => True) (.slice (some ⟨go10, 0, none⟩) x3_1.length co10) y262 := (by rw [Ny262.out]; exact HP12.1)
        clear HP12
        have n0_ := as0 hp_
        have n1_ := as0 (below_set (j := (x4_1 : Int).toNat) (v := (Value.slice Av260 (List.length t259) cv260)) HB.out GB10.out)
        clear HO_3 HB HO261
        have HO_3 := n0_
        have HB := n1_
        clear n0_ n1_ hp_
        go_roundg k1
        case measure => have := HK1.out; omega
        case rel => exact ⟨(y262), (wrap64 (x4_1 + 1)), ea_, H', ⟨by have := HK1.out; omega⟩, ⟨by (with_reducible repeat (first | apply Kd.S_alloc | apply Kd.S_drewN | apply Kd.S_drew)); exact HO_3.out⟩, ⟨bs HB⟩⟩
       ·
        rw [if_neg c9] at H
        exact absurd H (by simp)
      ·
       rw [if_neg c7] at H
       exact absurd H (by simp)
     ·
      rw [if_neg c6] at H
      have c6b0 : decide (x4_1 < (l0.length : Int)) = false := decide_eq_false c6
      clear c6
      obtain rfl := Option.some.inj H
      go_wp2
      go_ret
      exact ⟨_, er_, by (with_reducible repeat (first | apply Kd.S_alloc | apply Kd.S_drewN | apply Kd.S_drew)); exact HO_3.out, bs HB⟩
  ·
   rw [if_neg c3] at H
   exact absurd H (by simp)
 ·
  rw [if_neg c2] at H
  exact absurd H (by simp)
def laws_szInt64S.f (l0 : List Int) (a1 : Int) : Option (Int) := if (wrap64 (a1 - (l0.length : Int))) < 0 then (some (-1)) else (some (wrap64 (a1 - (l0.length : Int))))
set_option maxHeartbeats 8000000 in
set_option maxRecDepth 100000 in
theorem laws_szInt64S.calls (A0 : Option Addr) (c0 : Nat) (l0 : List Int) (a1 : Int) (r : Int) (w : World) (hr0 : Kd.C (Kd.int .i64) w A0 l0.length l0) (hc0 : l0.length ≤ c0) (h : laws_szInt64S.f l0 a1 = some r) :
  Calls Try.prog 46 #[.slice A0 l0.length c0, .int .i64 a1] w fun e w' => e = .returned (.int .i64 r) ∧ Drawn0 w w' := by
 have HR0 := as0 hr0
 have HC0 := as0 hc0
 clear hr0 hc0
 have H : (if (wrap64 (a1 - (l0.length : Int))) < 0 then (some (-1)) else (some (wrap64 (a1 - (l0.length : Int))))) = some r := h
 clear h
 by_cases c3 : (wrap64 (a1 - (l0.length : Int))) < 0
 ·
  rw [if_pos c3] at H
  have c3b0 : decide ((wrap64 (a1 - (l0.length : Int))) < 0) = true := decide_eq_true c3
  clear c3
  obtain rfl := Option.some.inj H
  go_enter Try.func46, Try.ntmps46
  go_wp2
  go_ret
  exact ⟨ea_, dr_⟩
 ·
  rw [if_neg c3] at H
  have c3b0 : decide ((wrap64 (a1 - (l0.length : Int))) < 0) = false := decide_eq_false c3
  clear c3
  obtain rfl := Option.some.inj H
  go_enter Try.func46, Try.ntmps46
  go_wp2
  go_ret
  exact ⟨ea_, dr_⟩
end Go.Proofs.Ytlmolloallhclaa.H
