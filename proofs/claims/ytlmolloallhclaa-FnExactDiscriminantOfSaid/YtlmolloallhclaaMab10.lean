/- Joined texts of a claim: the printed functions and what is proved of them. -/
import Derived.Test.YtlmolloallhclaaYHx0
import Derived.Test.YtlmolloallhclaaMab5
import Derived.Test.YtlmolloallhclaaMab2
import Derived.Test.YtlmolloallhclaaMab8
namespace Go.Proofs.Ytlmolloallhclaa.H
open Go.RowKit Go.Proofs.YtlmolloallhclaaW.PrintWords Go.Proofs.YtlmolloallhclaaW.PrintLast Go.Proofs.YtlmolloallhclaaW.PrintMore
attribute [local go_sem] max2_int min2_int max_two min_two max_three min_three max_four min_four   -- for this text's walks alone
set_option linter.unusedVariables false
set_option linter.unusedSimpArgs false
def slices_Reverse_int64_int64.l0 : Nat → List Int → Int → Int → Option (List Int)
 | 0, _, _, _ => none
 | k + 1, x0, x2, x3 => if x2 < x3 then (if 0 ≤ x3 then (if x3 < (x0.length : Int) then (if 0 ≤ x2 then (if x2 < (x0.length : Int) then (slices_Reverse_int64_int64.l0 k ((x0.set (x2 : Int).toNat (rd x0 x3)).set (x3 : Int).toNat (rd x0 x2)) (wrap64 (x2 + 1)) (wrap64 (x3 - 1))) else (none)) else (none)) else (none)) else (none)) else (some x0)
def slices_Reverse_int64_int64.f (k : Nat) (l0 : List Int) : Option (List Int) := slices_Reverse_int64_int64.l0 k l0 0 (wrap64 ((l0.length : Int) - 1))
def slices_Reverse_int64_int64.T3 : Bool × List (List Nat × List Nat) := (true, [([], []), ([], []), ([], []), ([], []), ([], []), ([], []), ([4, 5], [4, 5]), ([6], [6]), ([], []), ([], []), ([8, 9], [8, 9]), ([10], [10]), ([0, 1, 0, 1, 4, 5, 6, 7, 11], [0, 1]), ([12, 7, 0, 1, 4, 5, 6, 7, 11], [7, 12]), ([2, 3, 0, 1, 2, 3, 4, 5, 6, 7, 8, 9, 10, 11, 12, 13], [2, 3]), ([14, 11, 13, 0, 1, 2, 3, 4, 5, 6, 7, 8, 9, 10, 11, 12, 13], [11, 14])])
def slices_Reverse_int64_int64.B3 : List Nat := [0, 0, 0, 0, 0, 0, 48, 112, 0, 0, 768, 1792, 4083, 8179, 16383, 32767]
theorem slices_Reverse_int64_int64.tab3 : rtab .any (opsOf Try.f94 3) = slices_Reverse_int64_int64.T3 := by kernel_rfl
theorem slices_Reverse_int64_int64.bits3 : waitsOk slices_Reverse_int64_int64.T3.2 slices_Reverse_int64_int64.B3 = true := by kernel_rfl
set_option maxHeartbeats 8000000 in
set_option maxRecDepth 100000 in
theorem slices_Reverse_int64_int64.calls (k : Nat) (P0_ : Nat → Prop) (u9000_ : Value) (l0 : List Int) (r : List Int) (w0 w : World) (hB : Below w0.heap.size w0 w) (ho0 : Kd.R (Kd.int .i64) 2 w w0.heap.size P0_ u9000_ l0) (h : slices_Reverse_int64_int64.f k l0 = some r) :
  Calls Try.prog 94 #[u9000_] w fun e w' => e = .returned (.tuple #[]) ∧ Kd.R (Kd.int .i64) 2 w' w0.heap.size (fun k_ => (P0_ k_ ∨ w.heap.size ≤ k_)) u9000_ r ∧ Below w0.heap.size w0 w' ∧ Kept w w' (fun k_ => P0_ k_) := by
 have HO0 := Aside0.mk (show Kd.R (Kd.int .i64) 2 w w0.heap.size (fun k_ => (P0_ k_ ∨ w.heap.size ≤ k_)) u9000_ l0 from Kd.R_mono ho0 (fun k_ hk => (.inl hk)))
 have HK := Aside0.mk (Kept.refl w (fun k_ => P0_ k_))
 have HW0 := Aside0.mk hB.size
 have HB := Aside0.mk hB
 clear hB
 have H : (slices_Reverse_int64_int64.l0 k l0 0 (wrap64 ((l0.length : Int) - 1))) = some r := h
 clear h
 have H' := Aside0.mk H
 clear H
 obtain ⟨Ao2, co2, eo2⟩ := Kd.R_slice HO0.out
 subst eo2
 go_enter Try.func94, Try.ntmps94
 go_wp2
 go_loopg [2, 3] k (fun kq v2 v3 w' => ∃ (x0_1 : List Int) (x2_1 : Int) (x3_1 : Int), v2 = .int .i64 x2_1 ∧ v3 = .int .i64 x3_1 ∧ Aside0 (slices_Reverse_int64_int64.l0 kq x0_1 x2_1 x3_1 = some r) ∧ Aside0 (kq ≤ k) ∧ Aside0 (Kd.R (Kd.int .i64) 2 w' w0.heap.size (fun k_ => (P0_ k_ ∨ w.heap.size ≤ k_)) (.slice Ao2 l0.length co2) x0_1) ∧ Aside0 (Kept w w' (fun k_ => P0_ k_)) ∧ Aside0 (Below w0.heap.size w0 w'))
 case atStart => exact ⟨(l0), (0), (wrap64 ((l0.length : Int) - 1)), ea_, ea_, H', ⟨Nat.le_refl _⟩, ⟨by (with_reducible repeat (first | apply Kd.R_alloc | apply Kd.R_drewN | apply Kd.R_drew)); exact HO0.out⟩, ⟨by repeat (first | (with_reducible first | exact HK.out | apply Kept.alloc | apply Kept.drewN | apply Kept.drew) | exact HK.out)⟩, ⟨by repeat (first | (with_reducible first | exact HB.out | apply below_alloc | apply pw_below_drewN | apply below_drew1) | exact HB.out)⟩⟩
 case round =>
  clear H'
  try clear p2
  obtain ⟨x0_1, x2_1, x3_1, rfl, rfl, HA, HK1, HO_0, HK, HB⟩ := hrel
  have hl0_1 := (Kd.R_reads' HO_0.out).1
  rw [hl0_1] at HO_0
  (try simp only [hl0_1])
  cases gk with
  | zero => exact absurd HA.out (by simp [slices_Reverse_int64_int64.l0])
  | succ k1 =>
   have H := HA.out
   clear HA
   simp only [slices_Reverse_int64_int64.l0] at H
   by_cases c3 : x2_1 < x3_1
   ·
    rw [if_pos c3] at H
    have c3b0 : decide (x2_1 < x3_1) = true := decide_eq_true c3
    clear c3
    by_cases c4 : 0 ≤ x3_1
    ·
     rw [if_pos c4] at H
     have c4b0 : decide (0 ≤ x3_1) = true := decide_eq_true c4
     clear c4
     by_cases c5 : x3_1 < (x0_1.length : Int)
     ·
      rw [if_pos c5] at H
      have c5b0 : decide (x3_1 < (x0_1.length : Int)) = true := decide_eq_true c5
      clear c5
      by_cases c6 : 0 ≤ x2_1
      ·
       rw [if_pos c6] at H
       have c6b0 : decide (0 ≤ x2_1) = true := decide_eq_true c6
       clear c6
       by_cases c7 : x2_1 < (x0_1.length : Int)
       ·
        rw [if_pos c7] at H
        have c7b0 : decide (x2_1 < (x0_1.length : Int)) = true := decide_eq_true c7
        clear c7
        obtain ⟨y368, hy368⟩ : ∃ y_ : List Int, y_ = (x0_1.set (x2_1 : Int).toNat (rd x0_1 x3_1)) := ⟨_, rfl⟩
        replace H : (slices_Reverse_int64_int64.l0 k1 (y368.set (x3_1 : Int).toNat (rd x0_1 x2_1)) (wrap64 (x2_1 + 1)) (wrap64 (x3_1 - 1))) = some r := by first | (rw [hy368]; with_reducible exact H) | (have H2_ := (Option.bind_some _ _).symm.trans H; rw [hy368]; with_reducible exact H2_) | (have H2_ := (Option.bind_some _ _).symm.trans H; with_reducible exact H2_) | with_reducible exact H | (rw [hy368]; exact H) | exact H
        have Ny368 := Aside0.mk hy368
        clear hy368
        obtain ⟨y369, hy369⟩ : ∃ y_ : List Int, y_ = (y368.set (x3_1 : Int).toNat (rd x0_1 x2_1)) := ⟨_, rfl⟩
        replace H : (slices_Reverse_int64_int64.l0 k1 y369 (wrap64 (x2_1 + 1)) (wrap64 (x3_1 - 1))) = some r := by first | (rw [hy369]; with_reducible exact H) | (have H2_ := (Option.bind_some _ _).symm.trans H; rw [hy369]; with_reducible exact H2_) | (have H2_ := (Option.bind_some _ _).symm.trans H; with_reducible exact H2_) | with_reducible exact H | (rw [hy369]; exact H) | exact H
        have Ny369 := Aside0.mk hy369
        clear hy369
        have H' := Aside0.mk H
        clear H
        try go_wp2
        have n0_ := Aside0.mk (Kd.R_drew HO_0.out)
        have n1_ := Aside0.mk (Kept.drew HK.out)
        have n2_ := Aside0.mk (below_drew1 HB.out)
        clear HO_0
        clear HK
        clear HB
        have HO_0 := n0_
        have HK := n1_
        have HB := n2_
        clear n0_ n1_ n2_
        have p366 : 0 ≤ (x3_1 : Int) := of_decide_eq_true (by first | (with_reducible assumption) | assumption)
        have q366 : x3_1 < (x0_1.length : Int) := of_decide_eq_true (by first | (with_reducible assumption) | assumption)
        obtain ⟨ad366, e366, hx366_0⟩ := Kd.at_int (Kd.R_reads' HO_0.out).2.2 x3_1 p366 q366
        cases e366
        replace p366 := eq_true p366
        replace q366 := eq_true q366
        have p367 : 0 ≤ (x2_1 : Int) := of_decide_eq_true (by first | (with_reducible assumption) | assumption)
        have q367 : x2_1 < (x0_1.length : Int) := of_decide_eq_true (by first | (with_reducible assumption) | assumption)
        obtain ⟨ad367, e367, hx367_0⟩ := Kd.at_int (Kd.R_reads' HO_0.out).2.2 x2_1 p367 q367
        obtain rfl : ad366 = ad367 := (by injection e367)
        replace p367 := eq_true p367
        replace q367 := eq_true q367
        have p8 : 0 ≤ (x2_1 : Int) := of_decide_eq_true (by first | (with_reducible assumption) | assumption)
        have q8 : (x2_1 : Int) < ((x0_1.length : Int) : Int) := of_decide_eq_true (by first | (with_reducible assumption) | assumption)
        obtain ⟨go8, co8, eo8, gb8, gl8, cl8, HG8⟩ := Kd.R_form HO_0.out (by omega)
        (first | cases eo8 | (injection eo8 with ea_ en_ ec_; (first | subst ea_ | (injection ea_ with ea_; subst ea_)); subst ec_; clear en_))
        have GB8 := Aside0.mk gb8
        have GG8 := Aside0.mk HG8
        clear gb8 gl8 HG8
        have HMgo8 := Aside0.mk (show (P0_ go8 ∨ w.heap.size ≤ go8) from (HO_0.out.1 _ rfl))
        (first | simp only [add_plain] at hx366_0 | skip)
        (first | simp only [add_plain] at hx367_0 | skip)
        obtain ⟨hx8_0, hf8_0⟩ := Kd.R_celln 0 HO_0.out (x2_1 : Int) p8 q8
        replace p8 := eq_true p8
        replace q8 := eq_true q8
        have HP11 := Kd.R_putn HO_0.out (x2_1 : Int) (rd x0_1 x3_1)
        rw [← Ny368.out] at HP11
        have HQ11 := Aside0.mk HP11
        clear HP11
        have p9 : 0 ≤ (x3_1 : Int) := of_decide_eq_true (by first | (with_reducible assumption) | assumption)
        have q9 : (x3_1 : Int) < ((x0_1.length : Int) : Int) := of_decide_eq_true (by first | (with_reducible assumption) | assumption)
        obtain ⟨hx9_0, hf9_0⟩ := Kd.R_celln 0 HQ11.out (x3_1 : Int) p9 q9
        replace p9 := eq_true p9
        replace q9 := eq_true q9
        have HP12 := Kd.R_putn HQ11.out (x3_1 : Int) (rd x0_1 x2_1)
        rw [← Ny369.out] at HP12
        have HQ12 := Aside0.mk HP12
        clear HP12
        refine start_ (n := 16) (S := fun w' => w'.cell? ⟨go8, (x3_1).toNat, none⟩ = some (.int .i64 (rd x0_1 x3_1)) ∧ w'.cell? ⟨go8, (x2_1).toNat, none⟩ = some (.int .i64 (rd x0_1 x2_1))) (ds := [13, 15]) #[false, false, false, false, false, false, false, false, false, false, false, false, false, false, false, false] (by kernel_rfl) rfl rfl ⟨hx366_0, hx367_0⟩ (fun hHeld => ?_); refine with_tabW slices_Reverse_int64_int64.tab3 slices_Reverse_int64_int64.bits3 (fun HT_ HW_ => ?_)
        generalize wr.drew = w10 at HO_0 HK HB GG8 HQ11 HQ12 hf8_0 hf9_0 hx366_0 hx367_0 hx8_0 hx9_0 hHeld ⊢
        refine pure_ (i := 0) (N := some 14) (v := ?_) (a' := ?_) #[true, false, false, false, false, false, false, false, false, false, false, false, false, false, false, false] rfl rfl (any_of HT_.out (by kernel_rfl)) (fun _ _ _ h => h) (Or.inl ⟨by rfl, ?_⟩) ?_ ?_
        rotate_left
        ·
         intro w'
         go_simp
         with_reducible rfl
        rotate_left
        ·
         simp only [Act.put, List.setIfInBounds_toArray, List.set_cons_zero, List.set_cons_succ, i64_w, i32_w]
         rfl
        refine pure_ (i := 1) (N := some 15) (v := ?_) (a' := ?_) #[true, true, false, false, false, false, false, false, false, false, false, false, false, false, false, false] rfl rfl (any_of HT_.out (by kernel_rfl)) (fun _ _ _ h => h) (Or.inl ⟨by rfl, ?_⟩) ?_ ?_
        rotate_left
        ·
         intro w'
         go_simp
         with_reducible rfl
        rotate_left
        ·
         simp only [Act.put, List.setIfInBounds_toArray, List.set_cons_zero, List.set_cons_succ, i64_w, i32_w]
         rfl
        refine pure_ (i := 2) (N := some 16) (v := ?_) (a' := ?_) #[true, true, true, false, false, false, false, false, false, false, false, false, false, false, false, false] rfl rfl (any_of HT_.out (by kernel_rfl)) (fun _ _ _ h => h) (Or.inl ⟨by rfl, ?_⟩) ?_ ?_
        rotate_left
        ·
         intro w'
         go_simp
         with_reducible rfl
        rotate_left
        ·
         simp only [Act.put, List.setIfInBounds_toArray, List.set_cons_zero, List.set_cons_succ, i64_w, i32_w]
         rfl
        refine pure_ (i := 3) (N := some 17) (v := ?_) (a' := ?_) #[true, true, true, true, false, false, false, false, false, false, false, false, false, false, false, false] rfl rfl (any_of HT_.out (by kernel_rfl)) (fun _ _ _ h => h) (Or.inl ⟨by rfl, ?_⟩) ?_ ?_
        rotate_left
        ·
         intro w'
         go_simp
         with_reducible rfl
        rotate_left
        ·
         simp only [Act.put, List.setIfInBounds_toArray, List.set_cons_zero, List.set_cons_succ, i64_w, i32_w]
         rfl
        refine pure_ (i := 4) (N := some 18) (v := ?_) (a' := ?_) #[true, true, true, true, true, false, false, false, false, false, false, false, false, false, false, false] rfl rfl (any_of HT_.out (by kernel_rfl)) (fun _ _ _ h => h) (Or.inl ⟨by rfl, ?_⟩) ?_ ?_
        rotate_left
        ·
         intro w'
         go_simp
         with_reducible rfl
        rotate_left
        ·
         simp only [Act.put, List.setIfInBounds_toArray, List.set_cons_zero, List.set_cons_succ, i64_w, i32_w]
         rfl
        refine pure_ (i := 5) (N := some 19) (v := ?_) (a' := ?_) #[true, true, true, true, true, true, false, false, false, false, false, false, false, false, false, false] rfl rfl (any_of HT_.out (by kernel_rfl)) (fun _ _ _ h => h) (Or.inl ⟨by rfl, ?_⟩) ?_ ?_
        rotate_left
        ·
         intro w'
         go_simp
         with_reducible rfl
        rotate_left
        ·
         simp only [Act.put, List.setIfInBounds_toArray, List.set_cons_zero, List.set_cons_succ, i64_w, i32_w]
         rfl
        refine pure_ (i := 6) (N := some 20) (v := ?_) (a' := ?_) #[true, true, true, true, true, true, true, false, false, false, false, false, false, false, false, false] rfl rfl (any_of HT_.out (by kernel_rfl)) (fun _ _ _ h => h) (Or.inl ⟨by rfl, ?_⟩) ?_ ?_
        rotate_left
        ·
         intro w'
         go_simp
         with_reducible rfl
        rotate_left
        ·
         simp only [Act.put, List.setIfInBounds_toArray, List.set_cons_zero, List.set_cons_succ, i64_w, i32_w]
         rfl
        refine pure_ (i := 8) (N := some 22) (v := ?_) (a' := ?_) #[true, true, true, true, true, true, true, false, true, false, false, false, false, false, false, false] rfl rfl (any_of HT_.out (by kernel_rfl)) (fun _ _ _ h => h) (Or.inl ⟨by rfl, ?_⟩) ?_ ?_
        rotate_left
        ·
         intro w'
         go_simp
         with_reducible rfl
        rotate_left
        ·
         simp only [Act.put, List.setIfInBounds_toArray, List.set_cons_zero, List.set_cons_succ, i64_w, i32_w]
         rfl
        refine pure_ (i := 9) (N := some 23) (v := ?_) (a' := ?_) #[true, true, true, true, true, true, true, false, true, true, false, false, false, false, false, false] rfl rfl (any_of HT_.out (by kernel_rfl)) (fun _ _ _ h => h) (Or.inl ⟨by rfl, ?_⟩) ?_ ?_
        rotate_left
        ·
         intro w'
         go_simp
         with_reducible rfl
        rotate_left
        ·
         simp only [Act.put, List.setIfInBounds_toArray, List.set_cons_zero, List.set_cons_succ, i64_w, i32_w]
         rfl
        refine pure_ (i := 10) (N := some 24) (v := ?_) (a' := ?_) #[true, true, true, true, true, true, true, false, true, true, true, false, false, false, false, false] rfl rfl (any_of HT_.out (by kernel_rfl)) (fun _ _ _ h => h) (Or.inl ⟨by rfl, ?_⟩) ?_ ?_
        rotate_left
        ·
         intro w'
         go_simp
         with_reducible rfl
        rotate_left
        ·
         simp only [Act.put, List.setIfInBounds_toArray, List.set_cons_zero, List.set_cons_succ, i64_w, i32_w]
         rfl
        refine take_ (i := 7) (N := some 21) (v := ?_) (a' := ?_) #[true, true, true, true, true, true, true, true, true, true, true, false, false, false, false, false] rfl rfl (take_ofW HT_.out HW_.out (by kernel_rfl)) (fun _ _ _ h => h) (Or.inl ⟨by rfl, ?_⟩) hHeld ?_ ?_
        rotate_left
        ·
         rintro w' ⟨s0, s1⟩
         go_simp
         with_reducible rfl
        rotate_left
        ·
         simp only [Act.put, List.setIfInBounds_toArray, List.set_cons_zero, List.set_cons_succ, i64_w, i32_w]
         rfl
        refine take_ (i := 11) (N := some 25) (v := ?_) (a' := ?_) #[true, true, true, true, true, true, true, true, true, true, true, true, false, false, false, false] rfl rfl (take_ofW HT_.out HW_.out (by kernel_rfl)) (fun _ _ _ h => h) (Or.inl ⟨by rfl, ?_⟩) hHeld ?_ ?_
        rotate_left
        ·
         rintro w' ⟨s0, s1⟩
         go_simp
         with_reducible rfl
        rotate_left
        ·
         simp only [Act.put, List.setIfInBounds_toArray, List.set_cons_zero, List.set_cons_succ, i64_w, i32_w]
         rfl
        refine pure_ (i := 12) (N := some 26) (v := ?_) (a' := ?_) #[true, true, true, true, true, true, true, true, true, true, true, true, true, false, false, false] rfl rfl (any_of HT_.out (by kernel_rfl)) (fun _ _ _ h => h) (Or.inl ⟨by rfl, ?_⟩) ?_ ?_
        rotate_left
        ·
         intro w'
         go_simp
         with_reducible rfl
        rotate_left
        ·
         simp only [Act.put, List.setIfInBounds_toArray, List.set_cons_zero, List.set_cons_succ, i64_w, i32_w]
         rfl
        refine last_ (i := 13) (N := none) #[true, true, true, true, true, true, true, true, true, true, true, true, true, true, false, false] rfl rfl (one_of HT_.out (by kernel_rfl)) (by decide) (fun K hK => ?_)
        refine skip_ (w1 := ?_) (by rfl) rfl ?_ ?_
        rotate_left
        ·
         go_simp
         rfl
        refine hK.out _ _ ?_
        clear hK K
        refine pure_ (i := 14) (N := some 27) (v := ?_) (a' := ?_) #[true, true, true, true, true, true, true, true, true, true, true, true, true, true, true, false] rfl rfl (any_of HT_.out (by kernel_rfl)) (fun _ _ _ h => h) (Or.inl ⟨by rfl, ?_⟩) ?_ ?_
        rotate_left
        ·
         intro w'
         go_simp
         with_reducible rfl
        rotate_left
        ·
         simp only [Act.put, List.setIfInBounds_toArray, List.set_cons_zero, List.set_cons_succ, i64_w, i32_w]
         rfl
        refine last_ (i := 15) (N := none) #[true, true, true, true, true, true, true, true, true, true, true, true, true, true, true, true] rfl rfl (one_of HT_.out (by kernel_rfl)) (by decide) (fun K hK => ?_)
        refine skip_ (w1 := ?_) (by rfl) rfl ?_ ?_
        rotate_left
        ·
         go_simp
         rfl
        refine hK.out _ _ ?_
        clear hK K
        refine done_ (done_of HT_.out (by kernel_rfl)) ?_
        try go_wp2
        (try simp only [← hl0_1])
        go_roundg k1
        case measure => have := HK1.out; omega
        case rel => exact ⟨(y369), (wrap64 (x2_1 + 1)), (wrap64 (x3_1 - 1)), ea_, ea_, H', ⟨by have := HK1.out; omega⟩, ⟨by (try simp only [hl0_1]); (with_reducible repeat (first | apply Kd.R_alloc | apply Kd.R_drewN | apply Kd.R_drew)); exact HQ12.out⟩, ⟨by repeat (first | (with_reducible first | exact HK.out | apply Kept.alloc | apply Kept.drewN | apply Kept.drew | refine Kept.setCell ?_ HMgo8.out _ | refine Kept.setCell ?_ HMgo8.out _) | exact HK.out)⟩, ⟨by repeat (first | (with_reducible first | exact HB.out | apply below_alloc | apply pw_below_drewN | apply below_drew1 | refine below_set ?_ GB8.out | refine below_set ?_ GB8.out) | exact HB.out)⟩⟩
       ·
        rw [if_neg c7] at H
        exact absurd H (by simp)
      ·
       rw [if_neg c6] at H
       exact absurd H (by simp)
     ·
      rw [if_neg c5] at H
      exact absurd H (by simp)
    ·
     rw [if_neg c4] at H
     exact absurd H (by simp)
   ·
    rw [if_neg c3] at H
    have c3b0 : decide (x2_1 < x3_1) = false := decide_eq_false c3
    clear c3
    obtain rfl := Option.some.inj H
    go_wp2
    first | go_end0 | ((try simp only [Exit.inBlock, Exit.then]); refine bodyPost_ret (results_none rfl _ _ _) rfl ?_)
    exact ⟨by first | rfl | (simp [errW_none, errW_some] <;> rfl) | (simp [*, errW_none, errW_some] <;> rfl), (by first | exact (rs HO_0) | (simp only [hl0_1]; exact (rs HO_0))), by repeat (first | (with_reducible first | exact HB.out | apply below_alloc | apply pw_below_drewN | apply below_drew1) | exact HB.out), by repeat (first | (with_reducible first | exact HK.out | apply Kept.alloc | apply Kept.drewN | apply Kept.drew) | exact HK.out)⟩
end Go.Proofs.Ytlmolloallhclaa.H
namespace Go.Proofs.Ytlmolloallhclaa.H
open Go.RowKit Go.Proofs.YtlmolloallhclaaW.PrintWords Go.Proofs.YtlmolloallhclaaW.PrintLast Go.Proofs.YtlmolloallhclaaW.PrintMore
attribute [local go_sem] max2_int min2_int max_two min_two max_three min_three max_four min_four   -- for this text's walks alone
set_option linter.unusedVariables false
set_option linter.unusedSimpArgs false
def impl_reversed.f (k : Nat) (l0 : List Int) : Option (List Int) := (slices_Clone_int64_int64.f l0).bind fun t370 => ((slices_Reverse_int64_int64.f k t370).bind fun t373 => (some t373))
set_option maxHeartbeats 8000000 in
set_option maxRecDepth 100000 in
theorem impl_reversed.calls (k : Nat) (A0 : Option Addr) (c0 : Nat) (l0 : List Int) (r : List Int) (w : World) (hr0 : Kd.C (Kd.int .i64) w A0 l0.length l0) (hc0 : l0.length ≤ c0) (h : impl_reversed.f k l0 = some r) :
  Calls Try.prog 58 #[.slice A0 l0.length c0] w fun e w' => ∃ v0_ : Value, e = .returned (v0_) ∧ Kd.R (Kd.int .i64) 2 w' w.heap.size (fun _ => True) v0_ r ∧ Below w.heap.size w w' := by
 have HR0 := Aside0.mk hr0
 have HC0 := Aside0.mk hc0
 clear hr0 hc0
 have HB := Aside0.mk (Below.refl w.heap.size w)
 have H : ((slices_Clone_int64_int64.f l0).bind fun t370 => ((slices_Reverse_int64_int64.f k t370).bind fun t373 => (some t373))) = some r := h
 clear h
 replace H := Option.bind_eq_some_iff.mp H
 obtain ⟨t370, A20, H⟩ := H
 have A2 := Aside0.mk A20
 clear A20
 replace H := Option.bind_eq_some_iff.mp H
 obtain ⟨t373, A30, H⟩ := H
 have A3 := Aside0.mk A30
 clear A30
 obtain rfl := Option.some.inj H
 go_enter Try.func58, Try.ntmps58
 go_wp2_with (first | ((with_reducible refine gate_callee (f := 87) rfl ?_); refine goesM_ (some 5) rfl rfl Try.func87 #[.slice A0 l0.length c0] rfl ?_; (with_reducible refine (slices_Clone_int64_int64.calls _ _ l0 t370 _ ?side1 ?side2 A2.out).mono ?_); (case side1 => exact cs (HR0.out)); (case side2 => exact HC0.out); rintro e w4 ⟨v371, rfl, ho0, hb⟩; refine ⟨_, rfl, ?_⟩; have n0_ := Aside0.mk (Kd.R_lower ho0 (below_size (bs HB))); have n1_ := Aside0.mk (below_step (bs HB) hb); clear HB; have HO372 := n0_; have HB := n1_; clear n0_ n1_; (try clear hb); (try clear hb2); (try clear hk); (try clear hi); (try clear ho0); obtain ⟨Ao5, co5, eo5⟩ := Kd.R_slice HO372.out; subst eo5) | ((with_reducible refine gate_callee (f := 94) rfl ?_); refine goesM_ (some 7) rfl rfl Try.func94 #[.slice Ao5 t370.length co5] rfl ?_; (with_reducible refine (slices_Reverse_int64_int64.calls k (fun k_ => some k_ = (.slice Ao5 t370.length co5 : Value).ownBlock) (.slice Ao5 t370.length co5) t370 t373 w _ ?side1 ?side2 A3.out).mono ?_); (case side1 => exact bs HB); (case side2 => exact Kd.R_tight rfl HO372.out); rintro e w6 ⟨rfl, hy0, hb, hkp⟩; refine ⟨_, rfl, ?_⟩; have n0_ := Aside0.mk (Kd.R_reok rfl hy0 (fun k_ e_ => HO372.out.1 k_ e_)); have n1_ := Aside0.mk (hb); clear HO372; clear HB; have HO372 := n0_; have HB := n1_; clear n0_ n1_; (try clear hb); (try clear hkp); (try clear hy0)))
 go_ret
 exact ⟨_, by first | rfl | (simp [errW_none, errW_some] <;> rfl) | (simp [*, errW_none, errW_some] <;> rfl), by (with_reducible repeat (first | apply Kd.R_alloc | apply Kd.R_drewN | apply Kd.R_drew)); exact HO372.out, by repeat (first | (with_reducible first | exact HB.out | apply below_alloc | apply pw_below_drewN | apply below_drew1) | exact HB.out)⟩
end Go.Proofs.Ytlmolloallhclaa.H
namespace Go.Proofs.Ytlmolloallhclaa.H
open Go.RowKit Go.Proofs.YtlmolloallhclaaW.PrintWords Go.Proofs.YtlmolloallhclaaW.PrintLast Go.Proofs.YtlmolloallhclaaW.PrintMore
attribute [local go_sem] max2_int min2_int max_two min_two max_three min_three max_four min_four   -- for this text's walks alone
set_option linter.unusedVariables false
set_option linter.unusedSimpArgs false
def spec_l06Code.l0 : Nat → List (List Int) → Int → Option (Int)
 | 0, _, _ => none
 | k + 1, x1, x6 => if x6 < (x1.length : Int) then (if 0 ≤ x6 then (if ((rd_L1 x1 x6).length : Int) = 0 then (some 5) else (spec_l06Code.l0 k x1 (wrap64 (x6 + 1)))) else (none)) else (some 0)
def spec_l06Code.f (k : Nat) (a0 : Int) (l1 : List (List Int)) : Option (Int) := (spec_l01Code.f k a0 l1).bind fun t339 => (if t339 = 0 then (spec_l06Code.l0 k l1 0) else (some t339))
set_option maxHeartbeats 8000000 in
set_option maxRecDepth 100000 in
theorem spec_l06Code.calls (k : Nat) (a0 : Int) (A1 : Option Addr) (c1 : Nat) (l1 : List (List Int)) (r : Int) (w : World) (hr1 : Kd.C (Kd.slice 2 (Kd.int .i64)) w A1 l1.length l1) (hc1 : l1.length ≤ c1) (h : spec_l06Code.f k a0 l1 = some r) :
  Calls Try.prog 54 #[.int .i64 a0, .slice A1 l1.length c1] w fun e w' => e = .returned (.int .i64 r) ∧ Drawn0 w w' := by
 have HR1 := Aside0.mk hr1
 have HC1 := Aside0.mk hc1
 clear hr1 hc1
 have H : ((spec_l01Code.f k a0 l1).bind fun t339 => (if t339 = 0 then (spec_l06Code.l0 k l1 0) else (some t339))) = some r := h
 clear h
 replace H := Option.bind_eq_some_iff.mp H
 obtain ⟨t339, A30, H⟩ := H
 have A3 := Aside0.mk A30
 clear A30
 by_cases c4 : t339 = 0
 ·
  rw [if_pos c4] at H
  have c4b0 : (t339 == 0) = true := beq_iff_eq.mpr c4
  have c4b1 : (t339 != 0) = false := bne_eq_false_iff_eq.mpr c4
  clear c4
  have H' := Aside0.mk H
  clear H
  go_enter Try.func54, Try.ntmps54
  go_wp2_with (first | ((with_reducible refine gate_callee (f := 41) rfl ?_); refine goesM_ (some 9) rfl rfl Try.func41 #[.int .i64 a0, .slice A1 l1.length c1] rfl ?_; (with_reducible refine (spec_l01Code.calls k a0 _ _ l1 t339 _ ?side1 ?side2 A3.out).mono ?_); (case side1 => exact cs (HR1.out)); (case side2 => exact HC1.out); rintro e w' ⟨rfl, ⟨nd, rfl⟩⟩; refine ⟨_, rfl, ?_⟩))
  go_loopg [6] k (fun kq v6 w' => ∃ (x6_1 : Int), v6 = .int .i64 x6_1 ∧ Aside0 (spec_l06Code.l0 kq l1 x6_1 = some r) ∧ Aside0 (kq ≤ k) ∧ Drawn0 w w')
  case atStart => exact ⟨(0), ea_, H', ⟨Nat.le_refl _⟩, by repeat (first | exact Drawn0.refl _ | apply Drawn0.step)⟩
  case round =>
   clear H'
   try clear c1
   try clear p2
   try clear c4
   try clear c4b0
   try clear c4b1
   obtain ⟨x6_1, rfl, HA, HK1, ⟨m1, rfl⟩⟩ := hrel
   cases gk with
   | zero => exact absurd HA.out (by simp [spec_l06Code.l0])
   | succ k1 =>
    have H := HA.out
    clear HA
    simp only [spec_l06Code.l0] at H
    by_cases c5 : x6_1 < (l1.length : Int)
    ·
     rw [if_pos c5] at H
     have c5b0 : decide (x6_1 < (l1.length : Int)) = true := decide_eq_true c5
     clear c5
     by_cases c6 : 0 ≤ x6_1
     ·
      rw [if_pos c6] at H
      have c6b0 : decide (0 ≤ x6_1) = true := decide_eq_true c6
      clear c6
      by_cases c7 : ((rd_L1 l1 x6_1).length : Int) = 0
      ·
       rw [if_pos c7] at H
       have c7b0 : (((rd_L1 l1 x6_1).length : Int) == 0) = true := beq_iff_eq.mpr c7
       have c7b1 : (((rd_L1 l1 x6_1).length : Int) != 0) = false := bne_eq_false_iff_eq.mpr c7
       clear c7
       obtain rfl := Option.some.inj H
       have p340 : 0 ≤ (x6_1 : Int) := of_decide_eq_true (by first | (with_reducible assumption) | assumption)
       have q340 : x6_1 < (l1.length : Int) := of_decide_eq_true (by first | (with_reducible assumption) | assumption)
       obtain ⟨ad340, A340_0, c340_0, e340, hx340_0, hl340_0, hi340_0⟩ := at_L1 HR1.out x6_1 p340 q340
       cases e340
       have HR340_0 := Aside0.mk hi340_0
       have HC340_0 := Aside0.mk hl340_0
       clear hi340_0 hl340_0
       replace p340 := eq_true p340
       replace q340 := eq_true q340
       go_wp2
       go_ret
       exact ⟨by first | rfl | (simp; done) | (simp [*]; done), by repeat (first | exact Drawn0.refl _ | apply Drawn0.step)⟩
      ·
       rw [if_neg c7] at H
       have c7b0 : (((rd_L1 l1 x6_1).length : Int) == 0) = false := beq_eq_false_iff_ne.mpr c7
       have c7b1 : (((rd_L1 l1 x6_1).length : Int) != 0) = true := bne_iff_ne.mpr c7
       have c7b2 : ¬ ((rd_L1 l1 x6_1) = []) := fun h_ => c7 (by rw [h_]; rfl)
       have H' := Aside0.mk H
       clear H
       have p340 : 0 ≤ (x6_1 : Int) := of_decide_eq_true (by first | (with_reducible assumption) | assumption)
       have q340 : x6_1 < (l1.length : Int) := of_decide_eq_true (by first | (with_reducible assumption) | assumption)
       obtain ⟨ad340, A340_0, c340_0, e340, hx340_0, hl340_0, hi340_0⟩ := at_L1 HR1.out x6_1 p340 q340
       cases e340
       have HR340_0 := Aside0.mk hi340_0
       have HC340_0 := Aside0.mk hl340_0
       clear hi340_0 hl340_0
       replace p340 := eq_true p340
       replace q340 := eq_true q340
       go_wp2
       go_roundg k1
       case measure => have := HK1.out; omega
       case rel => exact ⟨(wrap64 (x6_1 + 1)), ea_, H', ⟨by have := HK1.out; omega⟩, by repeat (first | exact Drawn0.refl _ | apply Drawn0.step)⟩
     ·
      rw [if_neg c6] at H
      exact absurd H (by simp)
    ·
     rw [if_neg c5] at H
     have c5b0 : decide (x6_1 < (l1.length : Int)) = false := decide_eq_false c5
     clear c5
     obtain rfl := Option.some.inj H
     go_wp2
     go_ret
     exact ⟨by first | rfl | (simp; done) | (simp [*]; done), by repeat (first | exact Drawn0.refl _ | apply Drawn0.step)⟩
 ·
  rw [if_neg c4] at H
  have c4b0 : (t339 == 0) = false := beq_eq_false_iff_ne.mpr c4
  have c4b1 : (t339 != 0) = true := bne_iff_ne.mpr c4
  obtain rfl := Option.some.inj H
  go_enter Try.func54, Try.ntmps54
  go_wp2_with (first | ((with_reducible refine gate_callee (f := 41) rfl ?_); refine goesM_ (some 9) rfl rfl Try.func41 #[.int .i64 a0, .slice A1 l1.length c1] rfl ?_; (with_reducible refine (spec_l01Code.calls k a0 _ _ l1 t339 _ ?side1 ?side2 A3.out).mono ?_); (case side1 => exact cs (HR1.out)); (case side2 => exact HC1.out); rintro e w' ⟨rfl, ⟨nd, rfl⟩⟩; refine ⟨_, rfl, ?_⟩))
  go_ret
  exact ⟨by first | rfl | (simp; done) | (simp [*]; done), by repeat (first | exact Drawn0.refl _ | apply Drawn0.step)⟩
end Go.Proofs.Ytlmolloallhclaa.H
namespace Go.Proofs.Ytlmolloallhclaa.H
open Go.RowKit Go.Proofs.YtlmolloallhclaaW.PrintWords Go.Proofs.YtlmolloallhclaaW.PrintLast Go.Proofs.YtlmolloallhclaaW.PrintMore
attribute [local go_sem] max2_int min2_int max_two min_two max_three min_three max_four min_four   -- for this text's walks alone
set_option linter.unusedVariables false
set_option linter.unusedSimpArgs false
theorem N_putrow {W : World} {base g n cap : Nat} {ok okp : Nat → Prop} {xs : List (List Int)} (h : Kd.N (Kd.slice 2 (Kd.int .i64)) 22 W base ok (.slice (some ⟨g, 0, none⟩) n cap) xs) (i : Nat) (hi : i < n) {A : Option Addr} {c : Nat} {x' : List Int} (hlc : x'.length ≤ c)
  (hF : Kd.F (Kd.int .i64) W okp A x'.length x') (hokp : ∀ k, okp k → ok k ∧ k ≠ g) :
  Kd.N (Kd.slice 2 (Kd.int .i64)) 22 (W.setCell ⟨g, i, none⟩ (.slice A x'.length c)) base ok (.slice (some ⟨g, 0, none⟩) n cap) (xs.set i x') ∧ W.grownBy (W.setCell ⟨g, i, none⟩ (.slice A x'.length c)) (some g) := by
 obtain ⟨cs, hcl, hK, hcc, _⟩ := Kd.N_elem h [] (i : Int) (by omega) (by omega)
 have hsz : (Kd.slice 2 (Kd.int .i64)).sz = 1 := rfl
 have hd : cs.drop (0 + [Value.slice A x'.length c].length) = [] := List.drop_of_length_le (by rw [hcl, hsz]; simp)
 have hM : Kd.FK (Kd.slice 2 (Kd.int .i64)) W okp x' (cs.take 0 ++ [Value.slice A x'.length c] ++ cs.drop (0 + [Value.slice A x'.length c].length)) := by
  rw [hd]
  exact fun W' hW => ⟨A, c, rfl, hlc, hF W' hW⟩
 have h2 := Kd.N_seg h (i : Int) (by omega) (by omega) (seg := [Value.slice A x'.length c]) (j := 0) hcl hcc (by rw [hsz]; simp) hM hokp
 have e : ((i : Int).toNat * (Kd.slice 2 (Kd.int .i64)).sz + 0) = i := by rw [hsz]; simp
 rw [e] at h2
 simpa [World.setCells] using h2
def spec_l02Det.T24 : Bool × List (List Nat × List Nat) := (true, [([], []), ([], []), ([], []), ([], []), ([2, 3], [2, 3]), ([4], [4]), ([], []), ([5, 6], [5, 6]), ([7], [7]), ([], []), ([], []), ([], []), ([10, 11], [10, 11]), ([12], [12]), ([9, 13], [9, 13]), ([8, 14], [8, 14]), ([1, 15], [1, 15]), ([16], [16]), ([0, 17, 16], [0, 17]), ([18, 18, 0, 1, 2, 3, 4, 5, 6, 7, 8, 9, 10, 11, 12, 13, 14, 15, 16, 17, 18], [0, 18])])
def spec_l02Det.B24 : List Nat := [0, 0, 0, 0, 12, 28, 0, 124, 252, 0, 0, 0, 3072, 7168, 15872, 32764, 65534, 131070, 262143, 524287]
theorem spec_l02Det.tab24 : rtab .any (opsOf Try.f90 24) = spec_l02Det.T24 := by kernel_rfl
theorem spec_l02Det.bits24 : waitsOk spec_l02Det.T24.2 spec_l02Det.B24 = true := by kernel_rfl
open Classical in
noncomputable def spec_l02Det.f (a0 : Int) (l1 : List (List Int)) : Option Int := if Num.IsP a0 ∧ Sq a0 l1.length l1 ∧ l1.length ≤ 1000 then some (zdt l1.length (sb l1 0) % a0) else none
set_option maxHeartbeats 8000000 in
set_option maxRecDepth 100000 in
theorem spec_l02Det.calls (a0 : Int) (P_ : Nat → Prop) (u : Value) (l1 : List (List Int)) (r : Int) (w0 w : World) (hB : Below w0.heap.size w0 w) (ho : Kd.N (Kd.slice 2 (Kd.int .i64)) 22 w w0.heap.size P_ u l1) (h : spec_l02Det.f a0 l1 = some r) :
  Calls Try.prog 90 #[.int .i64 a0, u] w fun e w' => e = .returned (.int .i64 r) ∧ Below w0.heap.size w0 w' := by
 unfold spec_l02Det.f at h
 split at h
 case isFalse => cases h
 rename_i hcond
 obtain ⟨hp, hsq, hn⟩ := hcond
 have hr := Option.some.inj h
 clear h
 obtain ⟨D, hD⟩ : ∃ D, D = zdt l1.length (sb l1 0) := ⟨_, rfl⟩
 rw [← hD] at hr
 obtain ⟨n, hnl⟩ : ∃ n, n = l1.length := ⟨_, rfl⟩
 rw [← hnl] at hsq hn hD
 have hp2 := hp.1
 have hpm := hp.2.1
 have HP := Aside0.mk hp
 have HD := Aside0.mk (show Num.cg a0 (1 * zdt (n - 0) (sb l1 0)) D by rw [Int.one_mul, Nat.sub_zero, hD]; exact Num.cg.refl _)
 have HR := Aside0.mk hr
 have HSQ := Aside0.mk hsq
 have HN := Aside0.mk hn
 have HB := Aside0.mk hB
 have HO := Aside0.mk (Kd.N_mono ho (ok' := fun k_ => P_ k_ ∨ w.heap.size ≤ k_) (fun k_ hk => .inl hk))
 have HW := Aside0.mk hB.size
 clear hB ho hr hD hsq hn hp
 obtain ⟨Au, cu, eu⟩ := Kd.N_slice HO.out
 subst eu
 rw [← hnl] at HO ⊢
 clear hnl
 have hn1 := HN.out
 go_enter Try.func90, Try.ntmps90
 go_wp2
 go_loopg [5, 7] n (fun kq v5 v7 w' => ∃ (out : Int) (c : Nat) (rows : List (List Int)), v5 = .int .i64 out ∧ v7 = .int .i64 (c : Int) ∧ Aside0 (c + kq = n) ∧ Aside0 (0 ≤ out ∧ out < a0) ∧ Aside0 (Sq a0 n rows) ∧ Aside0 (Num.cg a0 (out * zdt (n - c) (sb rows c)) D) ∧ Aside0 (Kd.N (Kd.slice 2 (Kd.int .i64)) 22 w' w0.heap.size (fun k_ => P_ k_ ∨ w.heap.size ≤ k_) (.slice Au n cu) rows) ∧ Aside0 (w.heap.size ≤ w'.heap.size) ∧ Aside0 (Below w0.heap.size w0 w'))
 case atStart => exact ⟨1, 0, l1, rfl, rfl, ⟨by omega⟩, ⟨by omega⟩, HSQ, HD, HO, ⟨Nat.le_refl _⟩, HB⟩
 case round =>
  clear HD HSQ HO HB HW
  obtain ⟨out, c, rows, rfl, rfl, HG, HOUT, HSQ, HD, HO, HW, HB⟩ := hrel
  have hg := HG.out
  by_cases hc : c < n
  ·
   have hcb : decide ((c : Int) < (n : Int)) = true := decide_eq_true (by omega)
   obtain ⟨G, rfl⟩ : ∃ G, gk = G + 1 := ⟨gk - 1, by omega⟩
   go_wp2
   go_loopg [8] (n - c) (fun kq v8 w' => ∃ (b : Nat), v8 = .int .i64 (b : Int) ∧ Aside0 (b + kq = n) ∧ Aside0 (c ≤ b) ∧ Aside0 (∀ i, c ≤ i → i < b → co (ro rows i) c = 0) ∧ w' = wr)
   case atStart => exact ⟨c, rfl, ⟨by omega⟩, ⟨Nat.le_refl _⟩, ⟨fun i h1 h2 => by omega⟩, rfl⟩
   case round =>
    obtain ⟨b, rfl, HGb, HCb, HZ, rfl⟩ := hrel
    have hgb := HGb.out
    have hcb2 := HCb.out
    by_cases hbn : b < n
    ·
     have hrd : rd_L1 rows (b : Int) = ro rows b := by unfold rd_L1 ro; rw [Int.toNat_natCast]
     have hrl := HSQ.out.row b hbn
     have hin := (HSQ.out.inR b hbn).co (show 0 < a0 by omega) c
     obtain ⟨adb, Ab, cb, eb, hcellb, hlb, hCb⟩ := at_L1 (Kd.N_reads' HO.out).2.2 (b : Int) (by omega) (by rw [HSQ.out.len]; omega)
     rw [hrd, hrl] at hcellb hCb hlb
     obtain ⟨adc, ec, hcellc⟩ := Kd.at_int hCb (c : Int) (by omega) (by omega)
     subst eb
     subst ec
     have hx : rd (ro rows b) (c : Int) = co (ro rows b) c := rd_n _ _
     rw [hx] at hcellc
     rw [Int.toNat_natCast] at hcellb hcellc
     obtain ⟨x, hxe⟩ : ∃ x, x = co (ro rows b) c := ⟨_, rfl⟩
     rw [← hxe] at hcellc hin
     have hcb := Aside0.mk hCb
     have HX := Aside0.mk hxe
     have HIN := Aside0.mk hin
     have HLB := Aside0.mk hlb
     have p1 := eq_true (show (0 : Int) ≤ (b : Int) by omega)
     have p2 := eq_true (show (b : Int) < (n : Int) by omega)
     have p3 := eq_true (show (0 : Int) ≤ (c : Int) by omega)
     have p4 := eq_true (show (c : Int) < (n : Int) by omega)
     have d1 : decide (b < n) = true := decide_eq_true (by omega)
     have hbn0 := Aside0.mk hbn
     have hc0 := Aside0.mk hc
     clear hxe hrd hrl hCb hlb hin hgb hcb2 hbn hc
     by_cases hz : x = 0
     ·
      have z1 : (x == 0) = true := beq_iff_eq.mpr hz
      have HZ0 := Aside0.mk hz
      clear hz
      obtain ⟨m, rfl⟩ : ∃ m, gk = m + 1 := ⟨gk - 1, by have := HGb.out; have := hbn0.out; omega⟩
      go_wp2
      go_roundg m
      case measure => omega
      case rel =>
       refine ⟨b + 1, ?_, ⟨by have := HGb.out; omega⟩, ⟨by have := HCb.out; omega⟩, ⟨fun i h1 h2 => ?_⟩, rfl⟩
       ·
        rw [wp1 (show b ≤ 1000000000000 by have := HGb.out; omega)]
       ·
        by_cases e : i = b
        ·
         rw [e, ← HX.out, HZ0.out]
        ·
         exact HZ.out i h1 (by omega)
     ·
      have z1 : (x == 0) = false := beq_eq_false_iff_ne.mpr hz
      have HZ0 := Aside0.mk hz
      clear hz
      have d2 : ((b : Int) == (n : Int)) = false := beq_eq_false_iff_ne.mpr (by have := hbn0.out; omega)
      -- the pivot's row
      obtain ⟨own, hown⟩ : ∃ own, own = ro rows b := ⟨_, rfl⟩
      have HOWN := Aside0.mk hown
      clear hown
      have hlen0 : 0 < rows.length := by have := HSQ.out.len; have := hbn0.out; omega
      obtain ⟨g, cap, eu, hbg, hgl, _⟩ := Kd.N_form HO.out hlen0
      have hgv : adb = ⟨g, 0, none⟩ := by injection eu with h1; injection h1
      subst hgv
      rw [add_plain] at hcellb
      clear eu hlen0
      have FOWN := Aside0.mk (show Kd.F (Kd.int .i64) wr (fun k_ => (P_ k_ ∨ w.heap.size ≤ k_) ∧ k_ ≠ g) (some adc) n own by
       obtain ⟨cs, hcl, hK, hcc, _⟩ := Kd.N_elem HO.out [] (b : Int) (by omega) (by have := hbn0.out; omega)
       obtain ⟨A', c', ecs, _, hF⟩ := Kd.FK_slice_open hK
       subst ecs
       have h1 := hcc 0 _ rfl
       rw [show (b : Int).toNat * (Kd.slice 2 (Kd.int .i64)).sz + 0 = b by simp [Kd.slice]] at h1
       rw [hcellb] at h1
       injection h1 with h1
       injection h1 with h1 h2 h3
       subst h1
       have e : rows.getD (b : Int).toNat [] = own := by rw [Int.toNat_natCast]; exact HOWN.out.symm
       rw [e] at hF h2
       rw [h2]; exact hF)
      have HGl := Aside0.mk hgl
      have HBg := Aside0.mk hbg
      clear hgl hbg
      go_upto_if 47 with (fail)
      go_cut [5] (fun v5 wc => ∃ (out1 : Int) (rows1 : List (List Int)), v5 = .int .i64 out1 ∧ Aside0 (0 ≤ out1 ∧ out1 < a0) ∧ Aside0 (Sq a0 n rows1) ∧ Aside0 (ro rows1 c = own) ∧ Aside0 (Num.cg a0 (out1 * zdt (n - c) (sb rows1 c)) D) ∧ Aside0 (Kd.N (Kd.slice 2 (Kd.int .i64)) 22 wc w0.heap.size (fun k_ => P_ k_ ∨ w.heap.size ≤ k_) (.slice (some ⟨g, 0, none⟩) n cu) rows1) ∧ Aside0 (Kd.F (Kd.int .i64) wc (fun k_ => (P_ k_ ∨ w.heap.size ≤ k_) ∧ k_ ≠ g) (some adc) n own) ∧ Aside0 (w.heap.size ≤ wc.heap.size) ∧ Aside0 (Below w0.heap.size w0 wc))
      case first =>
       by_cases hbc : b = c
       ·
        subst hbc
        go_wp2
        go_meet
        case rel => exact ⟨out, rows, rfl, HOUT, HSQ, ⟨HOWN.out.symm⟩, HD, HO, FOWN, HW, HB⟩
       ·
        have d3 : ((b : Int) != (c : Int)) = true := bne_iff_ne.mpr (by omega)
        -- row c
        obtain ⟨csc, hclc, hKc, hccc, hfrc⟩ := Kd.N_elem HO.out [] (c : Int) (by omega) (by have := hc0.out; omega)
        obtain ⟨_, _, _, _, hfrb⟩ := Kd.N_elem HO.out [] (b : Int) (by omega) (by have := hbn0.out; omega)
        obtain ⟨Ac, cc, ecs, hlc, hFc⟩ := Kd.FK_slice_open hKc
        subst ecs
        have hcellC := hccc 0 _ rfl
        have hfb := hfrb 0
        have hfc := hfrc 0
        rw [show (c : Int).toNat * (Kd.slice 2 (Kd.int .i64)).sz + 0 = c by simp [Kd.slice]] at hcellC hfc
        rw [show (b : Int).toNat * (Kd.slice 2 (Kd.int .i64)).sz + 0 = b by simp [Kd.slice]] at hfb
        have erow : rows.getD (c : Int).toNat [] = ro rows c := by rw [Int.toNat_natCast]; rfl
        have elen : (ro rows c).length = n := HSQ.out.row c hc0.out
        rw [erow] at hcellC hFc hlc
        rw [elen] at hcellC hlc
        have HP1 := N_putrow HO.out b hbn0.out (A := Ac) (c := cc) (x' := ro rows c) (by rw [elen]; exact hlc) hFc (fun _ hk => hk)
        rw [elen] at HP1
        have H1 := Aside0.mk HP1
        have HFC := Aside0.mk hFc
        have HBC := Aside0.mk hbc
        clear HP1 hFc hccc hfrc hfrb hKc hclc erow elen hlc hbc
        have hlown : own.length = n := by rw [HOWN.out]; exact HSQ.out.row b hbn0.out
        have HLO := Aside0.mk hlown
        clear hlown
        have hmod := spec_mod (p := a0) (x := -out) (by omega) (by omega)
        have hwn : wrap64 (-out) = -out := Num.w64 (by have := HOUT.out; omega) (by have := HOUT.out; omega)
        have HM : ∀ W, Calls Try.prog 61 #[.int .i64 a0, .int .i64 (wrap64 (-out))] W fun e w' => e = .returned (.int .i64 ((-out) % a0)) ∧ Drawn0 W w' := fun W => by
         rw [hwn]; exact spec_l01Mod.calls a0 (-out) ((-out) % a0) W hmod
        clear hmod hwn
        go_wp2_with (first | ((with_reducible refine gate_store (t := 22) (p := 54) rfl ?_); refine store_event (t := 22) (p := 54) (v := ?vo_w8) (w1 := wr.setCell ⟨g, b, none⟩ (.slice Ac n cc)) ?hg ?ho ?hn ?hr ?_; (case ho => rfl); (case hg => rfl); (case hn => rfl); (case hr => first | (go_simp; done) | (go_simp; rfl)); intro w8 hw; have O8 := Aside0.mk (show Kd.N (Kd.slice 2 (Kd.int .i64)) 22 w8 w0.heap.size (fun k_ => P_ k_ ∨ w.heap.size ≤ k_) (.slice (some ⟨g, 0, none⟩) n cu) (rows.set b (ro rows c)) from by rw [hw]; exact H1.out.1); have G8 : wr.grownBy w8 (some g) := (by rw [hw]; exact H1.out.2); have F8 := Aside0.mk (Kd.F_grown FOWN.out G8 (fun k_ hk e_ => hk.2 (Option.some.inj e_))); have B8 := Aside0.mk (show Below w0.heap.size w0 w8 from by rw [hw]; exact below_set HB.out HBg.out); have S8 := Aside0.mk (Nat.le_trans HW.out G8.size); clear hw G8 H1; obtain ⟨cs8, hcl8, hK8, hcc8, hfr8⟩ := Kd.N_elem O8.out [] (c : Int) (by omega) (by have := hc0.out; omega); have hf8 := hfr8 0; have hc8 := hcc8 0 _ (List.getElem?_eq_getElem (show 0 < cs8.length by rw [hcl8]; exact Nat.one_pos)); rw [show (c : Int).toNat * (Kd.slice 2 (Kd.int .i64)).sz + 0 = c by simp [Kd.slice]] at hf8 hc8; clear hK8 hcc8; have H2 := N_putrow O8.out c hc0.out (A := some adc) (c := cb) (x' := own) (by rw [HLO.out]; exact HLB.out) (by rw [HLO.out]; exact F8.out) (fun _ hk => hk); rw [HLO.out] at H2; have H2 := Aside0.mk H2; clear hfr8) | ((with_reducible refine gate_store (t := 22) (p := 58) rfl ?_); refine store_event (t := 22) (p := 58) (v := ?vo_w9) (w1 := w8.setCell ⟨g, c, none⟩ (.slice (some adc) n cb)) ?hg ?ho ?hn ?hr ?_; (case ho => rfl); (case hg => rfl); (case hn => rfl); (case hr => first | (go_simp; done) | (go_simp; rfl)); intro w9 hw; have O9 := Aside0.mk (show Kd.N (Kd.slice 2 (Kd.int .i64)) 22 w9 w0.heap.size (fun k_ => P_ k_ ∨ w.heap.size ≤ k_) (.slice (some ⟨g, 0, none⟩) n cu) ((rows.set b (ro rows c)).set c own) from by rw [hw]; exact H2.out.1); have G9 : w8.grownBy w9 (some g) := (by rw [hw]; exact H2.out.2); have F9 := Aside0.mk (Kd.F_grown F8.out G9 (fun k_ hk e_ => hk.2 (Option.some.inj e_))); have B9 := Aside0.mk (show Below w0.heap.size w0 w9 from by rw [hw]; exact below_set B8.out HBg.out); have S9 := Aside0.mk (Nat.le_trans S8.out G9.size); clear hw G9 H2) | (go_at_call 61; refine (HM _).mono ?_; rintro e w' ⟨rfl, ⟨nd, rfl⟩⟩))
        go_meet
        case rel =>
         refine ⟨(-out) % a0, (rows.set b (ro rows c)).set c own, rfl, ⟨Num.emod_bd (by omega)⟩, ⟨?_⟩, ⟨?_⟩, ⟨?_⟩, ⟨Kd.N_drewN O9.out _⟩, ⟨Kd.F_drewN F9.out _⟩, S9, ⟨pw_below_drewN B9.out _⟩⟩
         ·
          exact (HSQ.out.set hbn0.out (HSQ.out.row c hc0.out) (HSQ.out.inR c hc0.out)).set hc0.out HLO.out (by rw [HOWN.out]; exact HSQ.out.inR b hbn0.out)
         ·
          rw [ro_set _ _ _ _ (by rw [List.length_set, HSQ.out.len]; exact hc0.out), if_pos rfl]
         ·
          have h1 := sb_swap (c := c) HSQ.out.len (show c < b by have := HCb.out; have := HBC.out; omega) hbn0.out
          rw [HOWN.out, h1]
          have h2 := (Num.cg.mod a0 (-out)).mul (Num.cg.refl (p := a0) (-zdt (n - c) (sb rows c)))
          rw [Int.neg_mul_neg] at h2
          exact h2.trans HD.out
      case rest =>
       obtain ⟨out1, rows1, rfl, HOUT1, HSQ1, HOW1, HD1, HO1, FO1, HW1, HB1⟩ := hcut
       have HOWN0 := Aside0.mk (show own = ro rows1 c from HOW1.out.symm)
       clear HOUT HSQ HD HO HW HB FOWN hcellb hcellc z1 d2 d1 hcb
       have hxo : co own c = x := by rw [HOWN.out, ← HX.out]
       obtain ⟨ad', ead, hcc⟩ := Kd.at_int (Kd.F_now FO1.out) (c : Int) (by omega) (by have := hc0.out; omega)
       injection ead with ead
       subst ead
       rw [rd_n, Int.toNat_natCast] at hcc
       rw [show own.getD c 0 = x from hxo] at hcc
       have HXO := Aside0.mk hxo
       clear hxo
       obtain ⟨K, hK⟩ := spec_inverse (p := a0) (x := x) hp2 hpm
       have HI := fun W => spec_l01Inverse.calls K a0 x _ W (hK K (Nat.le_refl _))
       have z2 : (a0 == 0) = false := beq_eq_false_iff_ne.mpr (by omega)
       have HK := Aside0.mk hK
       clear hK
       go_wp2_with (go_at_call 60; refine (HI _).mono ?_; rintro e w' ⟨rfl, ⟨nd, rfl⟩⟩)
       obtain ⟨iv, hiv⟩ : ∃ iv, iv = x ^ (a0 - 2).toNat % a0 := ⟨_, rfl⟩
       rw [← hiv]
       have HIV := Aside0.mk hiv
       clear hiv HI HK
       have hivb : 0 ≤ iv ∧ iv < a0 := by rw [HIV.out]; exact Num.emod_bd (by omega)
       have HIVB := Aside0.mk hivb
       clear hivb
       have cnum : Value.int .i64 ((c : Int) + 1) = .int .i64 ((c + 1 : Nat) : Int) := by rw [show ((c + 1 : Nat) : Int) = (c : Int) + 1 by omega]
       rw [cnum]
       clear cnum hcc
       go_loopg [11] (n - (c + 1)) (fun kq v11 w' => ∃ (i : Nat) (rows2 : List (List Int)), v11 = .int .i64 (i : Int) ∧ Aside0 (i + kq = n) ∧ Aside0 (c < i) ∧ Aside0 (Sq a0 n rows2) ∧ Aside0 (∀ j, j ≤ c ∨ i ≤ j → ro rows2 j = ro rows1 j) ∧ Aside0 (∀ j, c < j → j < i → ∀ t, t < n → Num.cg a0 (co (ro rows2 j) t) (co (ro rows1 j) t - co (ro rows1 j) c * iv % a0 * co own t)) ∧ Aside0 (Kd.N (Kd.slice 2 (Kd.int .i64)) 22 w' w0.heap.size (fun k_ => P_ k_ ∨ w.heap.size ≤ k_) (.slice (some ⟨g, 0, none⟩) n cu) rows2) ∧ Aside0 (Kd.F (Kd.int .i64) w' (fun k_ => (P_ k_ ∨ w.heap.size ≤ k_) ∧ k_ ≠ g) (some adc) n own) ∧ Aside0 (w.heap.size ≤ w'.heap.size) ∧ Aside0 (Below w0.heap.size w0 w'))
       case atStart => exact ⟨c + 1, rows1, rfl, ⟨by have := hc0.out; omega⟩, ⟨by omega⟩, HSQ1, ⟨fun _ _ => rfl⟩, ⟨fun j h1 h2 => by omega⟩, ⟨Kd.N_drewN HO1.out _⟩, ⟨Kd.F_drewN FO1.out _⟩, HW1, ⟨pw_below_drewN HB1.out _⟩⟩
       case round =>
        clear HO1 FO1 HW1 HB1
        obtain ⟨i, rows2, rfl, HGi, HCi, HSQ2, HEQ, HEL, HO2, FO2, HW2, HB2⟩ := hrel
        obtain ⟨wi, hwi⟩ : ∃ wi, wi = wr := ⟨_, rfl⟩
        subst hwi
        by_cases hi : i < n
        ·
         obtain ⟨ri, hri⟩ : ∃ ri, ri = ro rows1 i := ⟨_, rfl⟩
         have hr2 : ro rows2 i = ri := by rw [hri]; exact HEQ.out i (.inr (Nat.le_refl _))
         have hrl : ri.length = n := by rw [hri]; exact HSQ1.out.row i hi
         have hrr : InR a0 ri := by rw [hri]; exact HSQ1.out.inR i hi
         obtain ⟨csi, hcli, hKi, hcci, hfri⟩ := Kd.N_elem HO2.out [] (i : Int) (by omega) (by omega)
         obtain ⟨Ai, ci, eci, hli, hFi⟩ := Kd.FK_slice_open hKi
         subst eci
         have hcelli := hcci 0 _ rfl
         rw [show (i : Int).toNat * (Kd.slice 2 (Kd.int .i64)).sz + 0 = i by simp [Kd.slice]] at hcelli
         have erow : rows2.getD (i : Int).toNat [] = ri := by rw [Int.toNat_natCast]; exact hr2
         rw [erow] at hcelli hFi hli
         rw [hrl] at hcelli hFi hli
         obtain ⟨adi, eai, hcy⟩ := Kd.at_int (Kd.F_now hFi) (c : Int) (by omega) (by have := hc0.out; omega)
         subst eai
         rw [rd_n, Int.toNat_natCast] at hcy
         obtain ⟨y, hy⟩ : ∃ y, y = ri.getD c 0 := ⟨_, rfl⟩
         rw [← hy] at hcy
         have hyb : 0 ≤ y ∧ y < a0 := by rw [hy]; exact hrr.get (by omega) c
         have hmb := mul_bd2 hpm hyb (y := iv) (by have := HIVB.out; omega)
         have hfac : (wrap64 (y * iv)).tmod a0 = y * iv % a0 := by rw [Num.w64 (by omega) (by omega), Num.tmod_nn hmb.1]
         have RI := Aside0.mk hri
         have RR := Aside0.mk hrr
         have RL := Aside0.mk hrl
         have HY := Aside0.mk hy
         have HYB := Aside0.mk hyb
         have FI := Aside0.mk hFi
         have HFAC := Aside0.mk hfac
         have HI0 := Aside0.mk hi
         have d1 : decide (i < n) = true := decide_eq_true hi
         have p5 := eq_true (show (0 : Int) ≤ (i : Int) by omega)
         have p6 := eq_true (show (i : Int) < (n : Int) by omega)
         clear hri hr2 hrl hrr hKi hcci hfri hcli hli hFi erow hy hyb hmb hfac hi
         obtain ⟨m, rfl⟩ : ∃ m, gk = m + 1 := ⟨gk - 1, by have := HGi.out; have := HI0.out; omega⟩
         go_wp2_with ((with_reducible refine gate_dst (N := 95) rfl ?_); refine Kd.R_lit (Kd.int .i64) _ 2 ?hg (N := 95) ?hd (xs := ([] : List Int)) (inner := []) (ok := fun _ => True) (okp := fun _ => True) ?hr ?hp (fun _ hk => hk) trivial (Below.refl _ _) (Nat.le_refl _) (by simp) ?_; (case hd => rfl); (case hg => rfl); (case hr => first | (go_simp; done) | (go_simp; rfl)); (case hp => exact Reps.none _ _); intro vn w3 ho4 hb hg_ hnew_; clear hg_ hnew_; have ON := Aside0.mk ho4; have BN := Aside0.mk hb; clear ho4 hb)
         rw [HFAC.out]
         obtain ⟨fa, hfa⟩ : ∃ fa, fa = y * iv % a0 := ⟨_, rfl⟩
         rw [← hfa]
         have HFA := Aside0.mk hfa
         have HFB := Aside0.mk (show 0 ≤ fa ∧ fa < a0 by rw [hfa]; exact Num.emod_bd (by omega))
         clear hfa HFAC hcy
         have HCELLI := Aside0.mk hcelli
         clear hcelli
         go_loopg [13, 14] n (fun kq v13 v14 w' => ∃ (t : Nat) (nx : List Int), v14 = .int .i64 (t : Int) ∧ Aside0 (t + kq = n) ∧ Aside0 (nx.length = t) ∧ Aside0 (∀ j, j < t → co nx j = (co ri j - fa * co own j) % a0) ∧ Aside0 (Kd.R (Kd.int .i64) 2 w' wi.heap.size (fun _ => True) v13 nx) ∧ Aside0 (Below wi.heap.size wi w'))
         case atStart => exact ⟨0, [], rfl, ⟨by omega⟩, ⟨rfl⟩, ⟨fun j h => by omega⟩, ON, BN⟩
         case round =>
          clear ON BN
          obtain ⟨t, nx, rfl, HGt, HNL, HNX, ON, BN⟩ := hrel
          have OWB := Aside0.mk (show ∀ j, 0 ≤ own.getD j 0 ∧ own.getD j 0 < a0 from fun j => by rw [HOWN0.out]; exact (HSQ1.out.inR c hc0.out).get (by omega) j)
          by_cases ht : t < n
          ·
           have hcell1 := pw_cell_below BN.out HCELLI.out
           obtain ⟨ad1, e1, hcr⟩ := Kd.at_int (Kd.F_now FI.out) (t : Int) (by omega) (by omega)
           obtain ⟨ad2, e2, hco⟩ := Kd.at_int (Kd.F_now FO2.out) (t : Int) (by omega) (by omega)
           injection e1 with e1
           injection e2 with e2
           subst e1 e2
           rw [rd_n, Int.toNat_natCast] at hcr hco
           obtain ⟨rt, hrt⟩ : ∃ rt, rt = ri.getD t 0 := ⟨_, rfl⟩
           obtain ⟨ot, hot⟩ : ∃ ot, ot = own.getD t 0 := ⟨_, rfl⟩
           rw [← hrt] at hcr
           rw [← hot] at hco
           have HCR := Aside0.mk hcr
           have HCO := Aside0.mk hco
           replace hcr := pw_cell_below BN.out hcr
           replace hco := pw_cell_below BN.out hco
           have RT := Aside0.mk hrt
           have OT := Aside0.mk hot
           have HT := Aside0.mk ht
           have d2 : decide (t < n) = true := decide_eq_true ht
           have p7 := eq_true (show (0 : Int) ≤ (t : Int) by omega)
           have p8 := eq_true (show (t : Int) < (n : Int) by omega)
           clear hrt hot ht
           obtain ⟨q, rfl⟩ : ∃ q, gk = q + 1 := ⟨gk - 1, by have := HGt.out; have := HT.out; omega⟩
           obtain ⟨An, cn, en⟩ := Kd.R_slice ON.out
           subst en
           go_wp2
           have hfo := mul_bd2 hpm HFB.out (y := ot) (by rw [OT.out]; have := OWB.out t; omega)
           have hob2 : 0 ≤ ot ∧ ot < a0 := by rw [OT.out]; exact OWB.out t
           have hrb2 : 0 ≤ rt ∧ rt < a0 := by rw [RT.out]; exact RR.out.get (by omega) t
           have hwm : wrap64 (rt - wrap64 (fa * ot)) = rt - fa * ot := by rw [Num.w64 (x := fa * ot) (by omega) (by omega), Num.w64 (by omega) (by omega)]
           have hmod := spec_mod (p := a0) (x := rt - fa * ot) (by omega) (by omega)
           have HMk : ∀ W, Calls Try.prog 61 #[.int .i64 a0, .int .i64 (wrap64 (rt - wrap64 (fa * ot)))] W fun e w' => e = .returned (.int .i64 ((rt - fa * ot) % a0)) ∧ Drawn0 W w' := fun W => by
            rw [hwm]; exact spec_l01Mod.calls a0 (rt - fa * ot) _ W hmod
           clear hwm hmod hfo hob2 hrb2
           have ON' := Aside0.mk (Kd.R_drew ON.out)
           have BN' := Aside0.mk (below_drew BN.out)
           clear ON BN
           have ON := ON'
           have BN := BN'
           clear ON' BN'
           refine start_ (n := 20) (S := fun w' => w'.cell? ⟨g, i, none⟩ = some (.slice (some adi) n ci) ∧ w'.cell? (adi.add t) = some (.int .i64 rt) ∧ w'.cell? (adc.add t) = some (.int .i64 ot)) (ds := []) #[false, false, false, false, false, false, false, false, false, false, false, false, false, false, false, false, false, false, false, false] (by kernel_rfl) rfl rfl ⟨hcell1, hcr, hco⟩ (fun hHeld => ?_); refine with_tabW spec_l02Det.tab24 spec_l02Det.bits24 (fun HT_ HW_ => ?_)
           generalize wr.drew = wd at ON BN hHeld ⊢
           clear hcell1 hcr hco
           refine pure_ (i := 0) (N := some 101) (v := ?_) (a' := ?_) #[true, false, false, false, false, false, false, false, false, false, false, false, false, false, false, false, false, false, false, false] rfl rfl (any_of HT_.out (by kernel_rfl)) (fun _ _ _ h => h) (Or.inl ⟨by rfl, ?_⟩) ?_ ?_
           rotate_left
           ·
            intro w'
            go_simp
            with_reducible rfl
           rotate_left
           ·
            simp only [Act.put, List.setIfInBounds_toArray, List.set_cons_zero, List.set_cons_succ, i64_w, i32_w]
            rfl
           refine pure_ (i := 1) (N := some 102) (v := ?_) (a' := ?_) #[true, true, false, false, false, false, false, false, false, false, false, false, false, false, false, false, false, false, false, false] rfl rfl (any_of HT_.out (by kernel_rfl)) (fun _ _ _ h => h) (Or.inl ⟨by rfl, ?_⟩) ?_ ?_
           rotate_left
           ·
            intro w'
            go_simp
            with_reducible rfl
           rotate_left
           ·
            simp only [Act.put, List.setIfInBounds_toArray, List.set_cons_zero, List.set_cons_succ, i64_w, i32_w]
            rfl
           refine pure_ (i := 2) (N := some 103) (v := ?_) (a' := ?_) #[true, true, true, false, false, false, false, false, false, false, false, false, false, false, false, false, false, false, false, false] rfl rfl (any_of HT_.out (by kernel_rfl)) (fun _ _ _ h => h) (Or.inl ⟨by rfl, ?_⟩) ?_ ?_
           rotate_left
           ·
            intro w'
            go_simp
            with_reducible rfl
           rotate_left
           ·
            simp only [Act.put, List.setIfInBounds_toArray, List.set_cons_zero, List.set_cons_succ, i64_w, i32_w]
            rfl
           refine pure_ (i := 3) (N := some 104) (v := ?_) (a' := ?_) #[true, true, true, true, false, false, false, false, false, false, false, false, false, false, false, false, false, false, false, false] rfl rfl (any_of HT_.out (by kernel_rfl)) (fun _ _ _ h => h) (Or.inl ⟨by rfl, ?_⟩) ?_ ?_
           rotate_left
           ·
            intro w'
            go_simp
            with_reducible rfl
           rotate_left
           ·
            simp only [Act.put, List.setIfInBounds_toArray, List.set_cons_zero, List.set_cons_succ, i64_w, i32_w]
            rfl
           refine pure_ (i := 6) (N := some 107) (v := ?_) (a' := ?_) #[true, true, true, true, false, false, true, false, false, false, false, false, false, false, false, false, false, false, false, false] rfl rfl (any_of HT_.out (by kernel_rfl)) (fun _ _ _ h => h) (Or.inl ⟨by rfl, ?_⟩) ?_ ?_
           rotate_left
           ·
            intro w'
            go_simp
            with_reducible rfl
           rotate_left
           ·
            simp only [Act.put, List.setIfInBounds_toArray, List.set_cons_zero, List.set_cons_succ, i64_w, i32_w]
            rfl
           refine pure_ (i := 9) (N := some 110) (v := ?_) (a' := ?_) #[true, true, true, true, false, false, true, false, false, true, false, false, false, false, false, false, false, false, false, false] rfl rfl (any_of HT_.out (by kernel_rfl)) (fun _ _ _ h => h) (Or.inl ⟨by rfl, ?_⟩) ?_ ?_
           rotate_left
           ·
            intro w'
            go_simp
            with_reducible rfl
           rotate_left
           ·
            simp only [Act.put, List.setIfInBounds_toArray, List.set_cons_zero, List.set_cons_succ, i64_w, i32_w]
            rfl
           refine pure_ (i := 10) (N := some 111) (v := ?_) (a' := ?_) #[true, true, true, true, false, false, true, false, false, true, true, false, false, false, false, false, false, false, false, false] rfl rfl (any_of HT_.out (by kernel_rfl)) (fun _ _ _ h => h) (Or.inl ⟨by rfl, ?_⟩) ?_ ?_
           rotate_left
           ·
            intro w'
            go_simp
            with_reducible rfl
           rotate_left
           ·
            simp only [Act.put, List.setIfInBounds_toArray, List.set_cons_zero, List.set_cons_succ, i64_w, i32_w]
            rfl
           refine pure_ (i := 11) (N := some 112) (v := ?_) (a' := ?_) #[true, true, true, true, false, false, true, false, false, true, true, true, false, false, false, false, false, false, false, false] rfl rfl (any_of HT_.out (by kernel_rfl)) (fun _ _ _ h => h) (Or.inl ⟨by rfl, ?_⟩) ?_ ?_
           rotate_left
           ·
            intro w'
            go_simp
            with_reducible rfl
           rotate_left
           ·
            simp only [Act.put, List.setIfInBounds_toArray, List.set_cons_zero, List.set_cons_succ, i64_w, i32_w]
            rfl
           refine pure_ (i := 4) (N := some 105) (v := ?_) (a' := ?_) #[true, true, true, true, true, false, true, false, false, true, true, true, false, false, false, false, false, false, false, false] rfl rfl (any_of HT_.out (by kernel_rfl)) (fun _ _ _ h => h) (Or.inl ⟨by rfl, ?_⟩) ?_ ?_
           rotate_left
           ·
            intro w'
            go_simp
            with_reducible rfl
           rotate_left
           ·
            simp only [Act.put, List.setIfInBounds_toArray, List.set_cons_zero, List.set_cons_succ, i64_w, i32_w]
            rfl
           refine pure_ (i := 12) (N := some 113) (v := ?_) (a' := ?_) #[true, true, true, true, true, false, true, false, false, true, true, true, true, false, false, false, false, false, false, false] rfl rfl (any_of HT_.out (by kernel_rfl)) (fun _ _ _ h => h) (Or.inl ⟨by rfl, ?_⟩) ?_ ?_
           rotate_left
           ·
            intro w'
            go_simp
            with_reducible rfl
           rotate_left
           ·
            simp only [Act.put, List.setIfInBounds_toArray, List.set_cons_zero, List.set_cons_succ, i64_w, i32_w]
            rfl
           refine take_ (i := 5) (N := some 106) (v := ?_) (a' := ?_) #[true, true, true, true, true, true, true, false, false, true, true, true, true, false, false, false, false, false, false, false] rfl rfl (take_ofW HT_.out HW_.out (by kernel_rfl)) (fun _ _ _ h => h) (Or.inl ⟨by rfl, ?_⟩) hHeld ?_ ?_
           rotate_left
           ·
            rintro w' ⟨s0, s1, s2⟩
            go_simp
            with_reducible rfl
           rotate_left
           ·
            simp only [Act.put, List.setIfInBounds_toArray, List.set_cons_zero, List.set_cons_succ, i64_w, i32_w]
            rfl
           refine pure_ (i := 7) (N := some 108) (v := ?_) (a' := ?_) #[true, true, true, true, true, true, true, true, false, true, true, true, true, false, false, false, false, false, false, false] rfl rfl (any_of HT_.out (by kernel_rfl)) (fun _ _ _ h => h) (Or.inl ⟨by rfl, ?_⟩) ?_ ?_
           rotate_left
           ·
            intro w'
            go_simp
            with_reducible rfl
           rotate_left
           ·
            simp only [Act.put, List.setIfInBounds_toArray, List.set_cons_zero, List.set_cons_succ, i64_w, i32_w]
            rfl
           refine take_ (i := 8) (N := some 109) (v := ?_) (a' := ?_) #[true, true, true, true, true, true, true, true, true, true, true, true, true, false, false, false, false, false, false, false] rfl rfl (take_ofW HT_.out HW_.out (by kernel_rfl)) (fun _ _ _ h => h) (Or.inl ⟨by rfl, ?_⟩) hHeld ?_ ?_
           rotate_left
           ·
            rintro w' ⟨s0, s1, s2⟩
            go_simp
            with_reducible rfl
           rotate_left
           ·
            simp only [Act.put, List.setIfInBounds_toArray, List.set_cons_zero, List.set_cons_succ, i64_w, i32_w]
            rfl
           refine take_ (i := 13) (N := some 114) (v := ?_) (a' := ?_) #[true, true, true, true, true, true, true, true, true, true, true, true, true, true, false, false, false, false, false, false] rfl rfl (take_ofW HT_.out HW_.out (by kernel_rfl)) (fun _ _ _ h => h) (Or.inl ⟨by rfl, ?_⟩) hHeld ?_ ?_
           rotate_left
           ·
            rintro w' ⟨s0, s1, s2⟩
            go_simp
            with_reducible rfl
           rotate_left
           ·
            simp only [Act.put, List.setIfInBounds_toArray, List.set_cons_zero, List.set_cons_succ, i64_w, i32_w]
            rfl
           refine pure_ (i := 14) (N := some 115) (v := ?_) (a' := ?_) #[true, true, true, true, true, true, true, true, true, true, true, true, true, true, true, false, false, false, false, false] rfl rfl (any_of HT_.out (by kernel_rfl)) (fun _ _ _ h => h) (Or.inl ⟨by rfl, ?_⟩) ?_ ?_
           rotate_left
           ·
            intro w'
            go_simp
            with_reducible rfl
           rotate_left
           ·
            simp only [Act.put, List.setIfInBounds_toArray, List.set_cons_zero, List.set_cons_succ, i64_w, i32_w]
            rfl
           refine pure_ (i := 15) (N := some 116) (v := ?_) (a' := ?_) #[true, true, true, true, true, true, true, true, true, true, true, true, true, true, true, true, false, false, false, false] rfl rfl (any_of HT_.out (by kernel_rfl)) (fun _ _ _ h => h) (Or.inl ⟨by rfl, ?_⟩) ?_ ?_
           rotate_left
           ·
            intro w'
            go_simp
            with_reducible rfl
           rotate_left
           ·
            simp only [Act.put, List.setIfInBounds_toArray, List.set_cons_zero, List.set_cons_succ, i64_w, i32_w]
            rfl
           refine one_ (i := 16) (N := some 117) #[true, true, true, true, true, true, true, true, true, true, true, true, true, true, true, true, true, false, false, false] rfl rfl (one_of HT_.out (by kernel_rfl)) (by decide) (fun K hK => ?_)
           refine goes_ Try.func61 (by kernel_rfl) rfl #[.int .i64 a0, .int .i64 (wrap64 (rt - wrap64 (fa * ot)))] (by rfl) rfl rfl (by (try simp only [List.map_toArray, List.map_cons, List.map_nil]); first | done | rfl) ?_
           refine (HMk _).mono ?_
           rintro e w' ⟨rfl, ⟨nd, rfl⟩⟩
           refine ⟨_, rfl, ?_⟩
           refine hK.out _ _ hHeld (fun hHeld => ?_)
           clear hK K
           refine norm_ (a' := ?_) ?_ ?_
           rotate_left
           ·
            show Act.put _ (some 117) _ = _
            simp only [Act.put, List.setIfInBounds_toArray, List.set_cons_zero, List.set_cons_succ, i64_w, i32_w]
            rfl
           refine one_ (i := 17) (N := some 118) #[true, true, true, true, true, true, true, true, true, true, true, true, true, true, true, true, true, true, false, false] rfl rfl (one_of HT_.out (by kernel_rfl)) (by decide) (fun K hK => ?_)
           refine value_ (w1 := ?_) (v := ?_) (by rfl) rfl ?_ ?_
           rotate_left 2
           ·
            go_simp
            constructor
            ·
             rfl
            ·
             rfl
           refine hK.out _ _ ⟨pw_cell_below (below_alloc (Below.refl _ _) _) hHeld.1, pw_cell_below (below_alloc (Below.refl _ _) _) hHeld.2.1, pw_cell_below (below_alloc (Below.refl _ _) _) hHeld.2.2⟩ (fun hHeld => ?_)
           clear hK K
           refine norm_ (a' := ?_) ?_ ?_
           rotate_left
           ·
            show Act.put _ (some 118) _ = _
            simp only [Act.put, List.setIfInBounds_toArray, List.set_cons_zero, List.set_cons_succ, i64_w, i32_w]
            rfl
           refine one_ (i := 18) (N := some 119) #[true, true, true, true, true, true, true, true, true, true, true, true, true, true, true, true, true, true, true, false] rfl rfl (one_of HT_.out (by kernel_rfl)) (by decide) (fun K hK => ?_)
           refine Kd.R_append_step (Kd.int .i64) (w0 := wi) wi.heap.size (by rfl) (.tmp 101) (.tmp 118) 22 2 (.int .i64 0) 8 rfl Try.underlying22 info2 rfl (by decide) (by omega) (.slice An nx.length cn) nx ((rt - fa * ot) % a0) [.int .i64 ((rt - fa * ot) % a0)] (fun _ => True) (fun _ => False) rfl rfl ?aP (fun _ hk => hk.elim) ?aF ?aO ?aB ?aS ?aL ?_
           (case aP => exact rfl)
           (case aB => exact (by repeat (first | (with_reducible first | exact BN.out | apply below_alloc | apply pw_below_drewN | apply below_drew1) | exact BN.out)))
           (case aF => exact fun _ _ => trivial)
           (case aO => exact (rs ON))
           (case aS => exact BN.out.size)
           (case aL => have := HNL.out; have := HT.out; omega)
           intro v1 w19 ho hb hg hat
           have ON2 := Aside0.mk ho
           have BN2 := Aside0.mk hb
           clear ho hb hg hat ON BN
           refine hK.out _ _ ⟨pw_cell_below BN2.out HCELLI.out, pw_cell_below BN2.out HCR.out, pw_cell_below BN2.out HCO.out⟩ (fun hHeld => ?_)
           clear hK K
           refine norm_ (a' := ?_) ?_ ?_
           rotate_left
           ·
            show Act.put _ (some 119) _ = _
            simp only [Act.put, List.setIfInBounds_toArray, List.set_cons_zero, List.set_cons_succ, i64_w, i32_w]
            rfl
           refine pure_ (i := 19) (N := some 13) (v := ?_) (a' := ?_) #[true, true, true, true, true, true, true, true, true, true, true, true, true, true, true, true, true, true, true, true] rfl rfl (any_of HT_.out (by kernel_rfl)) (fun _ _ _ h => h) (Or.inl ⟨by rfl, ?_⟩) ?_ ?_
           rotate_left
           ·
            intro w'
            go_simp
            with_reducible rfl
           rotate_left
           ·
            simp only [Act.put, List.setIfInBounds_toArray, List.set_cons_zero, List.set_cons_succ, i64_w, i32_w]
            rfl
           refine done_ (done_of HT_.out (by kernel_rfl)) ?_
           clear HT_ HW_ hHeld HMk
           go_wp2
           go_roundg q
           case measure => omega
           case rel =>
            refine ⟨t + 1, nx ++ [(rt - fa * ot) % a0], ?_, ⟨by have := HGt.out; omega⟩, ⟨by rw [List.length_append, HNL.out]; rfl⟩, ⟨fun j hj => ?_⟩, ON2, BN2⟩
            ·
             rw [wp1 (show t ≤ 1000000000000 by have := HT.out; omega)]
            ·
             rw [co_app1 _ _ _ (by rw [HNL.out]; exact hj), HNL.out]
             by_cases e : j < t
             ·
              rw [if_pos e]; exact HNX.out j e
             ·
              obtain rfl : j = t := by omega
              rw [if_neg e, RT.out, OT.out]; rfl
          ·
           obtain rfl : t = n := by have := HGt.out; omega
           have d2 : decide (t < t) = false := decide_eq_false (by omega)
           clear ht
           obtain ⟨An, cn, en⟩ := Kd.R_slice ON.out
           subst en
           have hnl := HNL.out
           have hlec := (Kd.R_reads' ON.out).2.1
           rw [hnl] at ON hlec ⊢
           have hN := Kd.N_below HO2.out BN.out
           have hgw : g < wi.heap.size := Kd.N_lt HO2.out g (by simp [Value.ownBlock])
           have hFn : Kd.F (Kd.int .i64) wr (fun k_ => wi.heap.size ≤ k_) An nx.length nx := by
            rw [hnl]
            exact Kd.R_F (Kd.R_mono (Kd.R_bound ON.out) (ok' := fun k_ => wi.heap.size ≤ k_) (fun k_ hk => hk.2.1))
           have hP := N_putrow hN i HI0.out (A := An) (c := cn) (x' := nx) (by rw [hnl]; exact hlec) hFn (fun k_ hk => ⟨.inr (Nat.le_trans HW2.out hk), fun e => by omega⟩)
           rw [hnl] at hP
           obtain ⟨csg, hclg, _, hccg, hfrg⟩ := Kd.N_elem hN [] (i : Int) (by omega) (by have := HI0.out; omega)
           have hcg := hccg 0 _ (List.getElem?_eq_getElem (show 0 < csg.length by rw [hclg]; exact Nat.one_pos))
           have hfg := hfrg 0
           rw [show (i : Int).toNat * (Kd.slice 2 (Kd.int .i64)).sz + 0 = i by simp [Kd.slice]] at hcg hfg
           have HPP := Aside0.mk hP
           have FOn := Aside0.mk (Kd.F_below FO2.out BN.out)
           have HBn := Aside0.mk (below_step HB2.out BN.out)
           clear hN hFn hP hccg hfrg hlec hnl
           go_wp2_with ((with_reducible refine gate_store (t := 22) (p := 123) rfl ?_); refine store_event (t := 22) (p := 123) (v := ?vo_z8) (w1 := wr.setCell ⟨g, i, none⟩ (.slice An t cn)) ?hg ?ho ?hn ?hr ?_; (case ho => rfl); (case hg => rfl); (case hn => rfl); (case hr => first | (go_simp; done) | (go_simp; rfl)); intro w8 hw; have O8 := Aside0.mk (show Kd.N (Kd.slice 2 (Kd.int .i64)) 22 w8 w0.heap.size (fun k_ => P_ k_ ∨ w.heap.size ≤ k_) (.slice (some ⟨g, 0, none⟩) t cu) (rows2.set i nx) from by rw [hw]; exact HPP.out.1); have G8 : wr.grownBy w8 (some g) := (by rw [hw]; exact HPP.out.2); have F8 := Aside0.mk (Kd.F_grown FOn.out G8 (fun k_ hk e_ => hk.2 (Option.some.inj e_))); have B8 := Aside0.mk (show Below w0.heap.size w0 w8 from by rw [hw]; exact below_set HBn.out HBg.out); have S8 := Aside0.mk (Nat.le_trans (Nat.le_trans HW2.out BN.out.size) G8.size); clear hw G8 HPP)
           go_roundg m
           case measure => omega
           case rel =>
            refine ⟨i + 1, rows2.set i nx, ?_, ⟨by have := HGi.out; omega⟩, ⟨by have := HCi.out; omega⟩, ⟨?_⟩, ⟨fun j hj => ?_⟩, ⟨fun j h1 h2 s hs => ?_⟩, O8, F8, S8, B8⟩
            ·
             rw [wp1 (show i ≤ 1000000000000 by have := HI0.out; omega)]
            ·
             refine HSQ2.out.set HI0.out HNL.out fun z hz => ?_
             obtain ⟨s, hs, e⟩ := List.getElem_of_mem hz
             have := HNX.out s (by rw [← HNL.out]; exact hs)
             unfold co at this
             rw [List.getD_eq_getElem?_getD, List.getElem?_eq_getElem hs] at this
             rw [← e, show nx[s] = _ from this]
             exact Num.emod_bd (by omega)
            ·
             rw [ro_set _ _ _ _ (by rw [HSQ2.out.len]; exact HI0.out), if_neg (by have := HCi.out; omega)]
             exact HEQ.out j (by omega)
            ·
             rw [ro_set _ _ _ _ (by rw [HSQ2.out.len]; exact HI0.out)]
             by_cases e : j = i
             ·
              rw [if_pos e, HNX.out s hs, e, ← RI.out]
              have := HY.out
              have e2 : co ri c = y := HY.out.symm
              rw [e2, ← HFA.out]
              exact Num.cg.mod _ _
             ·
              rw [if_neg e]; exact HEL.out j h1 (by omega) s hs
        ·
         obtain rfl : i = n := by have := HGi.out; omega
         have d1 : decide (i < i) = false := decide_eq_false (by omega)
         clear hi
         have hob := mul_bd2 hpm HOUT1.out (y := x) (by have := HIN.out; omega)
         have hw1 : (wrap64 (out1 * x)).tmod a0 = out1 * x % a0 := by rw [Num.w64 (by omega) (by omega), Num.tmod_nn hob.1]
         rw [hw1]
         clear hw1 hob
         go_wp2
         go_roundg G
         case measure => omega
         case rel =>
          refine ⟨out1 * x % a0, c + 1, rows2, rfl, ?_, ⟨by have := HG.out; omega⟩, ⟨Num.emod_bd (by omega)⟩, HSQ2, ⟨?_⟩, HO2, HW2, HB2⟩
          ·
           rw [show ((c + 1 : Nat) : Int) = (c : Int) + 1 by omega]
          ·
           have hun : Num.cg a0 (co (ro rows1 c) c * iv) 1 := by
            rw [HOW1.out, HXO.out, HIV.out]
            exact Num.inv_cg HP.out (by rw [Int.emod_eq_of_lt HIN.out.1 HIN.out.2]; exact HZ0.out)
           have h1 := sb_elim (p := a0) (n := i) (c := c) (R := rows1) (R2 := rows2) hc0.out hun (fun j => co (ro rows1 j) c * iv % a0) (fun j _ _ => Num.cg.mod _ _) (fun j h1 h2 t ht => by rw [HOW1.out]; exact HEL.out j h1 h2 t ht)
           rw [HOW1.out, HXO.out] at h1
           have h2 := (Num.cg.refl (p := a0) out1).mul h1
           have h3 := (Num.cg.mod a0 (out1 * x)).mul (Num.cg.refl (p := a0) (zdt (i - (c + 1)) (sb rows2 (c + 1))))
           rw [Int.mul_assoc] at h3
           exact h3.trans (h2.symm.trans HD1.out)
    ·
     obtain rfl : b = n := by omega
     have d1 : decide (b < b) = false := decide_eq_false (by omega)
     have hc0 := Aside0.mk hc
     clear hbn hgb hcb2 hc
     go_wp2
     go_ret
     refine ⟨?_, HB.out⟩
     have hz := sb_zero (p := a0) hc0.out (rows := rows) fun i h1 h2 => HZ.out i h1 h2
     have h1 := (Num.cg.refl (p := a0) out).mul hz
     rw [Int.mul_zero] at h1
     have h2 := Num.cg.zero.1 (HD.out.symm.trans h1)
     show Ending.returned (.int .i64 0) = _
     rw [← HR.out, h2]
  ·
   have hcn : c = n := by omega
   have d1 : decide (c < n) = false := decide_eq_false (by omega)
   have hcn0 := Aside0.mk hcn
   clear hc hcn hg
   go_wp2
   go_ret
   refine ⟨?_, HB.out⟩
   have h1 := HD.out
   rw [hcn0.out, Nat.sub_self, show zdt 0 (sb rows n) = 1 from rfl, Int.mul_one] at h1
   have h2 := h1.emod
   rw [Int.emod_eq_of_lt HOUT.out.1 HOUT.out.2] at h2
   show Ending.returned (.int .i64 out) = _
   rw [h2, HR.out]
end Go.Proofs.Ytlmolloallhclaa.H
