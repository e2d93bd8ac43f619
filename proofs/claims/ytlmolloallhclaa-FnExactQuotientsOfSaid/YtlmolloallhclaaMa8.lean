/- Joined texts of a claim: the printed functions and what is proved of them. -/
import Derived.Test.YtlmolloallhclaaYHx0
import Derived.Test.YtlmolloallhclaaMa6
import Derived.Test.YtlmolloallhclaaMa7
import Derived.Test.YtlmolloallhclaaMa4
import Derived.Test.YtlmolloallhclaaMa5
namespace Go.Proofs.Ytlmolloallhclaa.H
open Go.RowKit Go.Proofs.YtlmolloallhclaaW.PrintWords Go.Proofs.YtlmolloallhclaaW.PrintLast Go.Proofs.YtlmolloallhclaaW.PrintMore
attribute [local go_sem] max2_int min2_int max_two min_two max_three min_three max_four min_four   -- for this text's walks alone
set_option linter.unusedVariables false
set_option linter.unusedSimpArgs false
mutual
def spec_QuotientsOf.j0 : Nat → Int → List Int → List Int → Int → Bool → Option ((List (List Int)) × Int)
 | 0, _, _, _, _, _ => none
 | k + 1, x0, x1, x2, x8, x23 => if x23 = true then (spec_QuotientsOf.j1 k x0 x1 x2 5) else (spec_QuotientsOf.j1 k x0 x1 x2 x8)
def spec_QuotientsOf.j1 : Nat → Int → List Int → List Int → Int → Option ((List (List Int)) × Int)
 | 0, _, _, _, _ => none
 | k + 1, x0, x1, x2, x8 => if x8 = 0 then (spec_QuotientsOf.l0 k x0 x1 x2 (([] : List (List Int)))) else (some (([] : List (List Int)), x8))
def spec_QuotientsOf.l0 : Nat → Int → List Int → List Int → List (List Int) → Option ((List (List Int)) × Int)
 | 0, _, _, _, _ => none
 | k + 1, x0, x1, x2, x9 => if (x2.length : Int) > 0 then ((spec_l01Divide.f k x0 x1 x2).bind fun bt155 => (if x9.length < 5864062014805 then (spec_QuotientsOf.l0 k x0 x2 bt155.2 (x9 ++ [bt155.1])) else (none))) else (some (x9, 0))
end
def spec_QuotientsOf.f (k : Nat) (a0 : Int) (l1 : List Int) (l2 : List Int) : Option ((List (List Int)) × Int) := (spec_l01Code.f k a0 (([l1, l2] : List (List Int)))).bind fun t151 => (if t151 = 0 then (spec_QuotientsOf.j0 k a0 l1 l2 t151 ((l2.length : Int) == 0)) else (spec_QuotientsOf.j0 k a0 l1 l2 t151 false))
set_option maxHeartbeats 8000000 in
set_option maxRecDepth 100000 in
theorem spec_QuotientsOf.calls (k : Nat) (a0 : Int) (P1_ : Nat → Prop) (A1 : Option Addr) (c1 : Nat) (l1 : List Int) (P2_ : Nat → Prop) (A2 : Option Addr) (c2 : Nat) (l2 : List Int) (r1 : List (List Int)) (r2 : Int) (w : World) (hs1 : Kd.V (Kd.int .i64) 2 w w.heap.size (fun k_ => P1_ k_) (.slice A1 l1.length c1) l1) (hs2 : Kd.V (Kd.int .i64) 2 w w.heap.size (fun k_ => P2_ k_) (.slice A2 l2.length c2) l2) (h : spec_QuotientsOf.f k a0 l1 l2 = some (r1, r2)) :
  Calls Try.prog 9 #[.int .i64 a0, .slice A1 l1.length c1, .slice A2 l2.length c2] w fun e w' => ∃ v0_ : Value, e = .returned (.tuple #[v0_, .int .i64 r2]) ∧ Kd.N (Kd.slice 2 (Kd.int .i64)) 22 w' w.heap.size (fun k_ => ((P1_ k_ ∨ P2_ k_) ∨ w.heap.size ≤ k_)) v0_ r1 ∧ Below w.heap.size w w' := by
 have HO1 := Aside0.mk (show Kd.V (Kd.int .i64) 2 w w.heap.size (fun k_ => ((P1_ k_ ∨ P2_ k_) ∨ w.heap.size ≤ k_)) (.slice A1 l1.length c1) l1 from Kd.V_mono hs1 (fun k_ hk => .inl (.inl hk)))
 have HO2 := Aside0.mk (show Kd.V (Kd.int .i64) 2 w w.heap.size (fun k_ => ((P1_ k_ ∨ P2_ k_) ∨ w.heap.size ≤ k_)) (.slice A2 l2.length c2) l2 from Kd.V_mono hs2 (fun k_ hk => .inl (.inr hk)))
 have HB := Aside0.mk (Below.refl w.heap.size w)
 have H : ((spec_l01Code.f k a0 (([l1, l2] : List (List Int)))).bind fun t151 => (if t151 = 0 then (spec_QuotientsOf.j0 k a0 l1 l2 t151 ((l2.length : Int) == 0)) else (spec_QuotientsOf.j0 k a0 l1 l2 t151 false))) = some (r1, r2) := h
 clear h
 obtain ⟨y148, hy148⟩ : ∃ y_ : List (List Int), y_ = (([l1, l2] : List (List Int))) := ⟨_, rfl⟩
 replace H : ((spec_l01Code.f k a0 y148).bind fun t151 => (if t151 = 0 then (spec_QuotientsOf.j0 k a0 l1 l2 t151 ((l2.length : Int) == 0)) else (spec_QuotientsOf.j0 k a0 l1 l2 t151 false))) = some (r1, r2) := by first | (rw [hy148]; with_reducible exact H) | (have H2_ := (Option.bind_some _ _).symm.trans H; rw [hy148]; with_reducible exact H2_) | (have H2_ := (Option.bind_some _ _).symm.trans H; with_reducible exact H2_) | with_reducible exact H | (rw [hy148]; exact H) | exact H
 have Ny148 := Aside0.mk hy148
 clear hy148
 replace H := Option.bind_eq_some_iff.mp H
 obtain ⟨t151, A40, H⟩ := H
 have A4 := Aside0.mk A40
 clear A40
 have HC5 := Aside0.mk H
 clear H
 go_enter Try.func9, Try.ntmps9
 go_upto_region 2 with (first | ((with_reducible refine gate_dst (N := 15) rfl ?_); (try (refine gate_guard (by rfl) ?_; dsimp only)); refine Kd.N_lit (Kd.slice 2 (Kd.int .i64)) _ 22 ?hg (N' := 15) ?hd (xs := ([l1, l2] : List (List Int))) (inner := [.slice A1 l1.length c1, .slice A2 l2.length c2]) (ok := (fun k_ => ((P1_ k_ ∨ P2_ k_) ∨ w.heap.size ≤ k_))) (okp := (fun k_ => ((P1_ k_ ∨ P2_ k_) ∨ w.heap.size ≤ k_))) ?hr ?hp (fun _ hk => hk) ((show ∀ k_, w.heap.size ≤ k_ → (fun k_ => ((P1_ k_ ∨ P2_ k_) ∨ w.heap.size ≤ k_)) k_ from fun k_ hk => (.inr (Nat.le_trans (below_size (bs HB)) hk))) _ (Nat.le_refl _)) (Below.refl _ _) (Nat.le_refl _) (by simp) ?_; (case hd => rfl); (case hg => rfl); (case hr => first | (go_simp; done) | (go_simp; rfl)); (case hp => exact (Reps.one (show Kd.FK (Kd.slice 2 (Kd.int .i64)) _ _ l1 [.slice A1 l1.length c1] from (Kd.FK_slice_mk (Kd.V_reads' (Kd.V_mono (ok' := (fun k_ => ((P1_ k_ ∨ P2_ k_) ∨ w.heap.size ≤ k_))) (HO1.out) (fun k_ hk => hk))).2.1 (Kd.V_F (Kd.V_mono (ok' := (fun k_ => ((P1_ k_ ∨ P2_ k_) ∨ w.heap.size ≤ k_))) (HO1.out) (fun k_ hk => hk))))) (Reps.one (show Kd.FK (Kd.slice 2 (Kd.int .i64)) _ _ l2 [.slice A2 l2.length c2] from (Kd.FK_slice_mk (Kd.V_reads' (Kd.V_mono (ok' := (fun k_ => ((P1_ k_ ∨ P2_ k_) ∨ w.heap.size ≤ k_))) (HO2.out) (fun k_ hk => hk))).2.1 (Kd.V_F (Kd.V_mono (ok' := (fun k_ => ((P1_ k_ ∨ P2_ k_) ∨ w.heap.size ≤ k_))) (HO2.out) (fun k_ hk => hk))))) (Reps.none _ _)))); intro v149 w6 ho7 hb hg_ hnew_; clear hg_ hnew_; (first | rw [← Ny148.out] at ho7 | (simp only [Int.reduceToNat] at ho7; rw [← Ny148.out] at ho7)); have n0_ := Aside0.mk (Kd.V_elder' (by (with_reducible repeat (first | apply Kd.V_alloc | apply Kd.V_drewN | apply Kd.V_drew)); exact HO1.out) (Kd.N_base ho7) hb); have n1_ := Aside0.mk (Kd.V_elder' (by (with_reducible repeat (first | apply Kd.V_alloc | apply Kd.V_drewN | apply Kd.V_drew)); exact HO2.out) (Kd.N_base ho7) hb); have n2_ := Aside0.mk (Kd.N_lower ho7 (below_size (bs HB))); have n3_ := Aside0.mk (below_step (bs HB) hb); clear HO1; clear HO2; clear HB; have HO1 := n0_; have HO2 := n1_; have HO150 := n2_; have HB := n3_; clear n0_ n1_ n2_ n3_; clear hb ho7; obtain ⟨Ao8, co8, eo8⟩ := Kd.N_slice HO150.out; subst eo8) | ((with_reducible refine gate_callee (f := 41) rfl ?_); refine goesM_ (some 16) rfl rfl Try.func41 #[.int .i64 a0, .slice Ao8 y148.length co8] rfl ?_; (with_reducible refine (spec_l01Code.calls k a0 _ _ y148 t151 _ ?side1 ?side2 A4.out).mono ?_); (case side1 => exact cs ((Kd.N_reads' HO150.out).2.2)); (case side2 => exact (Kd.N_reads' HO150.out).2.1); rintro e w' ⟨rfl, ⟨nd, rfl⟩⟩; refine ⟨_, rfl, ?_⟩))
 (try simp only [Act.put, List.setIfInBounds_toArray, List.set_cons_zero, List.set_cons_succ])
 go_cut [23] (fun v23 wc => ∃ (kq : Nat) (x23_4 : Bool), v23 = .bool x23_4 ∧ Aside0 (spec_QuotientsOf.j0 kq a0 l1 l2 t151 x23_4 = some (r1, r2)) ∧ Aside0 (kq ≤ k) ∧ Aside0 (Kd.V (Kd.int .i64) 2 wc w.heap.size (fun k_ => ((P1_ k_ ∨ P2_ k_) ∨ w.heap.size ≤ k_)) (.slice A1 l1.length c1) l1) ∧ Aside0 (Kd.V (Kd.int .i64) 2 wc w.heap.size (fun k_ => ((P1_ k_ ∨ P2_ k_) ∨ w.heap.size ≤ k_)) (.slice A2 l2.length c2) l2) ∧ Aside0 (Below w.heap.size w wc))
 case first =>
  have H := HC5.out
  clear HC5
  by_cases c9 : t151 = 0
  ·
   rw [if_pos c9] at H
   have c9b0 : (t151 == 0) = true := beq_iff_eq.mpr c9
   have c9b1 : (t151 != 0) = false := bne_eq_false_iff_eq.mpr c9
   clear c9
   (first | rw [c9b0] | (simp only [i64_w, i32_w]; rw [c9b0]) | skip)
   have H' := Aside0.mk H
   clear H
   go_wp2
   go_meet
   case rel => exact ⟨_, (((l2.length : Int) == 0)), ea_, H', ⟨by first | omega | exact Nat.le_refl _⟩, ⟨by (with_reducible repeat (first | apply Kd.V_alloc | apply Kd.V_drewN | apply Kd.V_drew)); exact Kd.V_mono HO1.out (fun _ hk => hk.1)⟩, ⟨by (with_reducible repeat (first | apply Kd.V_alloc | apply Kd.V_drewN | apply Kd.V_drew)); exact Kd.V_mono HO2.out (fun _ hk => hk.1)⟩, ⟨by repeat (first | (with_reducible first | exact HB.out | apply below_alloc | apply pw_below_drewN | apply below_drew1) | exact HB.out)⟩⟩
  ·
   rw [if_neg c9] at H
   have c9b0 : (t151 == 0) = false := beq_eq_false_iff_ne.mpr c9
   have c9b1 : (t151 != 0) = true := bne_iff_ne.mpr c9
   (first | rw [c9b0] | (simp only [i64_w, i32_w]; rw [c9b0]) | skip)
   have H' := Aside0.mk H
   clear H
   go_wp2
   go_meet
   case rel => exact ⟨_, (false), ea_, H', ⟨by first | omega | exact Nat.le_refl _⟩, ⟨by (with_reducible repeat (first | apply Kd.V_alloc | apply Kd.V_drewN | apply Kd.V_drew)); exact Kd.V_mono HO1.out (fun _ hk => hk.1)⟩, ⟨by (with_reducible repeat (first | apply Kd.V_alloc | apply Kd.V_drewN | apply Kd.V_drew)); exact Kd.V_mono HO2.out (fun _ hk => hk.1)⟩, ⟨by repeat (first | (with_reducible first | exact HB.out | apply below_alloc | apply pw_below_drewN | apply below_drew1) | exact HB.out)⟩⟩
 case rest =>
  clear HC5
  try clear c1
  try clear c2
  try clear p2
  try clear c4
  try clear c9
  try clear c9b0
  try clear c9b1
  obtain ⟨kq, x23_4, rfl, HA, HJ4, HO_1, HO_2, HB⟩ := hcut
  cases kq with
  | zero => exact absurd HA.out (by simp [spec_QuotientsOf.j0])
  | succ kj4 =>
   have H := HA.out
   clear HA
   simp only [spec_QuotientsOf.j0] at H
   have HC10 := Aside0.mk H
   clear H
   go_upto_if 23 with (fail)
   go_cut [8] (fun v8 wc => ∃ (kq : Nat) (x8_9 : Int), v8 = .int .i64 x8_9 ∧ Aside0 (spec_QuotientsOf.j1 kq a0 l1 l2 x8_9 = some (r1, r2)) ∧ Aside0 (kq ≤ kj4) ∧ Aside0 (Kd.V (Kd.int .i64) 2 wc w.heap.size (fun k_ => ((P1_ k_ ∨ P2_ k_) ∨ w.heap.size ≤ k_)) (.slice A1 l1.length c1) l1) ∧ Aside0 (Kd.V (Kd.int .i64) 2 wc w.heap.size (fun k_ => ((P1_ k_ ∨ P2_ k_) ∨ w.heap.size ≤ k_)) (.slice A2 l2.length c2) l2) ∧ Aside0 (Below w.heap.size w wc))
   case first =>
    have H := HC10.out
    clear HC10
    by_cases c11 : x23_4 = true
    ·
     subst c11
     have H1 : (spec_QuotientsOf.j1 kj4 a0 l1 l2 5) = some (r1, r2) := by rw [if_pos rfl] at H; exact H
     clear H
     have H := H1
     clear H1
     have H' := Aside0.mk H
     clear H
     go_wp2
     go_meet
     case rel => exact ⟨_, (5), ea_, H', ⟨by have := HJ4.out; first | omega | exact Nat.le_refl _⟩, ⟨by (with_reducible repeat (first | apply Kd.V_alloc | apply Kd.V_drewN | apply Kd.V_drew)); exact HO_1.out⟩, ⟨by (with_reducible repeat (first | apply Kd.V_alloc | apply Kd.V_drewN | apply Kd.V_drew)); exact HO_2.out⟩, ⟨by repeat (first | (with_reducible first | exact HB.out | apply below_alloc | apply pw_below_drewN | apply below_drew1) | exact HB.out)⟩⟩
    ·
     replace c11 := Bool.eq_false_iff.mpr c11
     subst c11
     have H1 : (spec_QuotientsOf.j1 kj4 a0 l1 l2 t151) = some (r1, r2) := by rw [if_neg (show ¬ (false = true) by decide)] at H; exact H
     clear H
     have H := H1
     clear H1
     have H' := Aside0.mk H
     clear H
     go_wp2
     go_meet
     case rel => exact ⟨_, (t151), ea_, H', ⟨by have := HJ4.out; first | omega | exact Nat.le_refl _⟩, ⟨by (with_reducible repeat (first | apply Kd.V_alloc | apply Kd.V_drewN | apply Kd.V_drew)); exact HO_1.out⟩, ⟨by (with_reducible repeat (first | apply Kd.V_alloc | apply Kd.V_drewN | apply Kd.V_drew)); exact HO_2.out⟩, ⟨by repeat (first | (with_reducible first | exact HB.out | apply below_alloc | apply pw_below_drewN | apply below_drew1) | exact HB.out)⟩⟩
   case rest =>
    clear HC10
    try clear c1
    try clear c2
    try clear p2
    try clear c4
    try clear c9
    try clear c9b0
    try clear c9b1
    try clear c11
    try clear p2
    obtain ⟨kq, x8_9, rfl, HA, HJ9, HO_1, HO_2, HB⟩ := hcut
    cases kq with
    | zero => exact absurd HA.out (by simp [spec_QuotientsOf.j1])
    | succ kj9 =>
     have H := HA.out
     clear HA
     simp only [spec_QuotientsOf.j1] at H
     by_cases c12 : x8_9 = 0
     ·
      rw [if_pos c12] at H
      have c12b0 : (x8_9 == 0) = true := beq_iff_eq.mpr c12
      have c12b1 : (x8_9 != 0) = false := bne_eq_false_iff_eq.mpr c12
      clear c12
      obtain ⟨y152, hy152⟩ : ∃ y_ : List (List Int), y_ = (([] : List (List Int))) := ⟨_, rfl⟩
      replace H : (spec_QuotientsOf.l0 kj9 a0 l1 l2 y152) = some (r1, r2) := by first | (rw [hy152]; with_reducible exact H) | (have H2_ := (Option.bind_some _ _).symm.trans H; rw [hy152]; with_reducible exact H2_) | (have H2_ := (Option.bind_some _ _).symm.trans H; with_reducible exact H2_) | with_reducible exact H | (rw [hy152]; exact H) | exact H
      have Ny152 := Aside0.mk hy152
      clear hy152
      have H' := Aside0.mk H
      clear H
      go_wp2_with (first | ((with_reducible refine gate_dst (N := 27) rfl ?_); (try (refine gate_guard (by rfl) ?_; dsimp only)); refine Kd.N_lit (Kd.slice 2 (Kd.int .i64)) _ 22 ?hg (N' := 27) ?hd (xs := ([] : List (List Int))) (inner := []) (ok := (fun k_ => ((P1_ k_ ∨ P2_ k_) ∨ w.heap.size ≤ k_))) (okp := (fun k_ => ((P1_ k_ ∨ P2_ k_) ∨ w.heap.size ≤ k_))) ?hr ?hp (fun _ hk => hk) ((show ∀ k_, wc.heap.size ≤ k_ → (fun k_ => ((P1_ k_ ∨ P2_ k_) ∨ w.heap.size ≤ k_)) k_ from fun k_ hk => (.inr (Nat.le_trans (below_size (bs HB)) hk))) _ (Nat.le_refl _)) (Below.refl _ _) (Nat.le_refl _) (by simp) ?_; (case hd => rfl); (case hg => rfl); (case hr => first | (go_simp; done) | (go_simp; rfl)); (case hp => exact (Reps.none _ _)); intro v153 w13 ho14 hb hg_ hnew_; clear hg_ hnew_; (first | rw [← Ny152.out] at ho14 | (simp only [Int.reduceToNat] at ho14; rw [← Ny152.out] at ho14)); have n0_ := Aside0.mk (Kd.V_elder' (by (with_reducible repeat (first | apply Kd.V_alloc | apply Kd.V_drewN | apply Kd.V_drew)); exact HO_1.out) (Kd.N_base ho14) hb); have n1_ := Aside0.mk (Kd.V_elder' (by (with_reducible repeat (first | apply Kd.V_alloc | apply Kd.V_drewN | apply Kd.V_drew)); exact HO_2.out) (Kd.N_base ho14) hb); have n2_ := Aside0.mk (Kd.N_lower ho14 (below_size (bs HB))); have n3_ := Aside0.mk (below_step (bs HB) hb); clear HO_1; clear HO_2; clear HB; have HO_1 := n0_; have HO_2 := n1_; have HO154 := n2_; have HB := n3_; clear n0_ n1_ n2_ n3_; clear hb ho14))
      go_loopg [1, 2, 9] kj9 (fun kq v1 v2 v9 w' => ∃ (x1_3 : List Int) (x2_3 : List Int) (x9_3 : List (List Int)), Aside0 (spec_QuotientsOf.l0 kq a0 x1_3 x2_3 x9_3 = some (r1, r2)) ∧ Aside0 (kq ≤ kj9) ∧ Aside0 (Kd.V (Kd.int .i64) 2 w' w.heap.size (fun k_ => ((P1_ k_ ∨ P2_ k_) ∨ w.heap.size ≤ k_) ∧ some k_ ≠ (v9 : Value).ownBlock) v1 x1_3) ∧ Aside0 (Kd.V (Kd.int .i64) 2 w' w.heap.size (fun k_ => ((P1_ k_ ∨ P2_ k_) ∨ w.heap.size ≤ k_) ∧ some k_ ≠ (v9 : Value).ownBlock) v2 x2_3) ∧ Aside0 (Kd.N (Kd.slice 2 (Kd.int .i64)) 22 w' w.heap.size (fun k_ => ((P1_ k_ ∨ P2_ k_) ∨ w.heap.size ≤ k_)) v9 x9_3) ∧ Aside0 (Below w.heap.size w w'))
      case atStart => exact ⟨(l1), (l2), (y152), H', ⟨Nat.le_refl _⟩, ⟨by (with_reducible repeat (first | apply Kd.V_alloc | apply Kd.V_drewN | apply Kd.V_drew)); exact HO_1.out⟩, ⟨by (with_reducible repeat (first | apply Kd.V_alloc | apply Kd.V_drewN | apply Kd.V_drew)); exact HO_2.out⟩, ⟨by (with_reducible repeat (first | apply Kd.N_alloc | apply Kd.N_drewN | apply Kd.N_drew)); exact HO154.out⟩, ⟨by repeat (first | (with_reducible first | exact HB.out | apply below_alloc | apply pw_below_drewN | apply below_drew1) | exact HB.out)⟩⟩
      case round =>
       clear H'
       try clear c1
       try clear c2
       try clear p2
       try clear c4
       try clear c9
       try clear c9b0
       try clear c9b1
       try clear c11
       try clear c12
       try clear c12b0
       try clear c12b1
       try clear p2
       obtain ⟨x1_3, x2_3, x9_3, HA, HK3, HO_1, HO_2, HO_9, HB⟩ := hrel
       cases gk with
       | zero => exact absurd HA.out (by simp [spec_QuotientsOf.l0])
       | succ k3 =>
        have H := HA.out
        clear HA
        simp only [spec_QuotientsOf.l0] at H
        by_cases c15 : (x2_3.length : Int) > 0
        ·
         rw [if_pos c15] at H
         have c15b0 : decide (0 < (x2_3.length : Int)) = true := decide_eq_true c15
         have c15b1 : decide (0 < x2_3.length) = true := decide_eq_true (by omega)
         clear c15
         replace H := Option.bind_eq_some_iff.mp H
         obtain ⟨⟨t155, t156⟩, A160, H⟩ := H
         have A16 := Aside0.mk A160
         clear A160
         by_cases c17 : x9_3.length < 5864062014805
         ·
          rw [if_pos c17] at H
          have LMc17 := Aside0.mk c17
          clear c17
          obtain ⟨y161, hy161⟩ : ∃ y_ : List (List Int), y_ = (x9_3 ++ [t155]) := ⟨_, rfl⟩
          replace H : (spec_QuotientsOf.l0 k3 a0 x2_3 t156 y161) = some (r1, r2) := by first | (rw [hy161]; with_reducible exact H) | (have H2_ := (Option.bind_some _ _).symm.trans H; rw [hy161]; with_reducible exact H2_) | (have H2_ := (Option.bind_some _ _).symm.trans H; with_reducible exact H2_) | with_reducible exact H | (rw [hy161]; exact H) | exact H
          have Ny161 := Aside0.mk hy161
          clear hy161
          have H' := Aside0.mk H
          clear H
          obtain ⟨Ao18, co18, eo18⟩ := Kd.V_slice HO_2.out
          subst eo18
          obtain ⟨Ao19, co19, eo19⟩ := Kd.V_slice HO_1.out
          subst eo19
          go_wp2_with (first | ((with_reducible refine gate_callee (f := 42) rfl ?_); refine goesM_ (some 35) rfl rfl Try.func42 #[.int .i64 a0, .slice Ao19 x1_3.length co19, .slice Ao18 x2_3.length co18] rfl ?_; (with_reducible refine (spec_l01Divide.calls k3 a0 _ _ x1_3 _ _ x2_3 t155 t156 _ ?side1 ?side2 ?side3 ?side4 A16.out).mono ?_); (case side1 => exact cs ((Kd.V_reads' HO_1.out).2.2)); (case side2 => exact (Kd.V_reads' HO_1.out).2.1); (case side3 => exact cs ((Kd.V_reads' HO_2.out).2.2)); (case side4 => exact (Kd.V_reads' HO_2.out).2.1); rintro e w20 ⟨v157, v159, rfl, ho0, ho1, hb⟩; refine ⟨_, rfl, ?_⟩; have n0_ := Aside0.mk (Kd.V_mono (Kd.V_told (Kd.V_told (Kd.V_old (by (with_reducible repeat (first | apply Kd.V_alloc | apply Kd.V_drewN | apply Kd.V_drew)); exact HO_1.out) hb) (Kd.R_base ho0)) (Kd.R_base ho1)) (fun _ h_ => h_.1)); have n1_ := Aside0.mk (Kd.V_mono (Kd.V_told (Kd.V_told (Kd.V_old (by (with_reducible repeat (first | apply Kd.V_alloc | apply Kd.V_drewN | apply Kd.V_drew)); exact HO_2.out) hb) (Kd.R_base ho0)) (Kd.R_base ho1)) (fun _ h_ => h_.1)); have n2_ := Aside0.mk (Kd.N_mono (Kd.N_told (Kd.N_told (Kd.N_old (by (with_reducible repeat (first | apply Kd.N_alloc | apply Kd.N_drewN | apply Kd.N_drew)); exact HO_9.out) hb) (Kd.R_base ho0)) (Kd.R_base ho1)) (fun _ h_ => h_.1)); have n3_ := Aside0.mk (Kd.R_lower (Kd.R_newM (M := fun k_ => (w.heap.size ≤ k_)) ho0 (below_size (bs HB)) (fun k_ h_ => h_)) (below_size (bs HB))); have n4_ := Aside0.mk (Kd.R_lower (Kd.R_newM (M := fun k_ => (w.heap.size ≤ k_)) ho1 (below_size (bs HB)) (fun k_ h_ => h_)) (below_size (bs HB))); have n5_ := Aside0.mk (below_step (bs HB) hb); clear HO_1; clear HO_2; clear HO_9; clear HB; have HO_1 := n0_; have HO_2 := n1_; have HO_9 := n2_; have HO158 := n3_; have HO160 := n4_; have HB := n5_; clear n0_ n1_ n2_ n3_ n4_ n5_; (try clear hb); (try clear hb2); (try clear hk); (try clear hi); (try clear ho0); (try clear ho1); obtain ⟨Ao22, co22, eo22⟩ := Kd.R_slice HO158.out; subst eo22) | ((with_reducible refine gate_builtin (b := .append) (xs := #[.tmp 38, .tmp 40]) rfl ?_); (try (refine gate_guard (by rfl) ?_; dsimp only)); at_builtin; refine Kd.N_append (Kd.slice 2 (Kd.int .i64)) (w0 := w) w.heap.size rfl (.tmp 38) (.tmp 40) 23 22 (.slice none 0 0) 24 rfl Try.underlying23 info22 rfl (by decide) (by omega) u9 x9_3 t155 [.slice Ao22 t155.length co22] (fun k_ => ((P1_ k_ ∨ P2_ k_) ∨ w.heap.size ≤ k_) ∧ some k_ ≠ (v159 : Value).ownBlock) (fun k_ => ((fun k_ => ((P1_ k_ ∨ P2_ k_) ∨ w.heap.size ≤ k_) ∧ some k_ ≠ (v159 : Value).ownBlock)) k_ ∧ some k_ ≠ (u9 : Value).ownBlock) rfl rfl ?aP (fun _ hk => hk) ?aF ?aO ?aB ?aS ?aL ?_; (case aP => exact (Kd.FK_slice_mk (Kd.R_reads' (Kd.R_mono (ok' := (fun k_ => ((fun k_ => ((P1_ k_ ∨ P2_ k_) ∨ w.heap.size ≤ k_) ∧ some k_ ≠ (v159 : Value).ownBlock)) k_ ∧ some k_ ≠ (u9 : Value).ownBlock)) (Kd.R_apart' (HO158.out) (Kd.N_typed HO_9.out) (by decide)) (fun k_ hk => ⟨⟨(.inr (hk.1.1)), hk.1.2⟩, hk.2⟩))).2.1 (Kd.R_F (Kd.R_mono (ok' := (fun k_ => ((fun k_ => ((P1_ k_ ∨ P2_ k_) ∨ w.heap.size ≤ k_) ∧ some k_ ≠ (v159 : Value).ownBlock)) k_ ∧ some k_ ≠ (u9 : Value).ownBlock)) (Kd.R_apart' (HO158.out) (Kd.N_typed HO_9.out) (by decide)) (fun k_ hk => ⟨⟨(.inr (hk.1.1)), hk.1.2⟩, hk.2⟩))))); (case aB => exact (bs HB)); (case aF => exact (fun k_ hk => ⟨(.inr (Nat.le_trans (below_size (bs HB)) hk)), Kd.fresh' (Kd.R_lt (rs HO160)) k_ hk⟩)); (case aO => exact (by (with_reducible repeat (first | apply Kd.N_alloc | apply Kd.N_drewN | apply Kd.N_drew)); exact Kd.N_mono HO_9.out (fun _ hk => ⟨hk.1.1, hk.2⟩))); (case aS => exact (below_size (bs HB))); (case aL => have := LMc17.out; omega); intro v162 w21 ho hb hg hat; rw [← Ny161.out] at ho; have n0_ := Aside0.mk (Kd.V_afterv (ok := (fun k_ => ((P1_ k_ ∨ P2_ k_) ∨ w.heap.size ≤ k_) ∧ some k_ ≠ (.slice Ao22 t155.length co22 : Value).ownBlock ∧ some k_ ≠ (v159 : Value).ownBlock)) (by (with_reducible repeat (first | apply Kd.V_alloc | apply Kd.V_drewN | apply Kd.V_drew)); exact Kd.V_mono HO_1.out (fun _ hk => ⟨⟨hk.1.1.1, ⟨hk.1.2, hk.2⟩⟩, hk.1.1.2⟩)) hg hat); have n1_ := Aside0.mk (Kd.V_afterv (ok := (fun k_ => ((P1_ k_ ∨ P2_ k_) ∨ w.heap.size ≤ k_) ∧ some k_ ≠ (.slice Ao22 t155.length co22 : Value).ownBlock ∧ some k_ ≠ (v159 : Value).ownBlock)) (by (with_reducible repeat (first | apply Kd.V_alloc | apply Kd.V_drewN | apply Kd.V_drew)); exact Kd.V_mono HO_2.out (fun _ hk => ⟨⟨hk.1.1.1, ⟨hk.1.2, hk.2⟩⟩, hk.1.1.2⟩)) hg hat); have n2_ := Aside0.mk (Kd.R_over' (rs HO160) (Kd.N_typed (by (with_reducible repeat (first | apply Kd.N_alloc | apply Kd.N_drewN | apply Kd.N_drew)); exact HO_9.out)) (by decide) hg); have n3_ := Aside0.mk (hb); have n4_ := Aside0.mk (ho); clear HO_1; clear HO_2; clear HO160; clear HB; clear HO_9; clear HO158; have HO_1 := n0_; have HO_2 := n1_; have HO160 := n2_; have HB := n3_; have HO163 := n4_; clear n0_ n1_ n2_ n3_ n4_; clear ho hb hg hat))
          go_roundg k3
          case measure => have := HJ4.out; have := HJ9.out; have := HK3.out; omega
          case rel => exact ⟨(x2_3), (t156), (y161), H', ⟨by have := HJ4.out; have := HJ9.out; have := HK3.out; omega⟩, ⟨by (with_reducible repeat (first | apply Kd.V_alloc | apply Kd.V_drewN | apply Kd.V_drew)); exact Kd.V_mono HO_2.out (fun _ hk => ⟨hk.1.1, hk.2⟩)⟩, ⟨Kd.V_mono (Kd.R_V (by (with_reducible repeat (first | apply Kd.R_alloc | apply Kd.R_drewN | apply Kd.R_drew)); exact Kd.R_mono (ok' := fun k_ => w.heap.size ≤ k_ ∧ some k_ ≠ Value.ownBlock _) (Kd.R_apart' HO160.out (Kd.N_typed HO163.out) (by decide)) (fun _ hk => ⟨hk.1.1, hk.2⟩))) (fun k_ hk => by first | exact ⟨(.inr (hk.1)), hk.2⟩ | exact (.inr (hk)))⟩, ⟨by (with_reducible repeat (first | apply Kd.N_alloc | apply Kd.N_drewN | apply Kd.N_drew)); exact Kd.N_mono HO163.out (fun _ hk => hk.1)⟩, ⟨by repeat (first | (with_reducible first | exact HB.out | apply below_alloc | apply pw_below_drewN | apply below_drew1) | exact HB.out)⟩⟩
         ·
          rw [if_neg c17] at H
          exact absurd H (by simp)
        ·
         rw [if_neg c15] at H
         have c15b0 : decide (0 < (x2_3.length : Int)) = false := decide_eq_false c15
         have c15b1 : decide (0 < x2_3.length) = false := decide_eq_false (by omega)
         clear c15
         simp only [Option.some.injEq, Prod.mk.injEq] at H
         obtain ⟨rfl, rfl⟩ := H
         obtain ⟨Ao23, co23, eo23⟩ := Kd.V_slice HO_2.out
         subst eo23
         go_wp2
         go_ret2
         exact ⟨_, by first | rfl | (simp [errW_none, errW_some] <;> rfl) | (simp [*, errW_none, errW_some] <;> rfl), by (with_reducible repeat (first | apply Kd.N_alloc | apply Kd.N_drewN | apply Kd.N_drew)); exact HO_9.out, by repeat (first | (with_reducible first | exact HB.out | apply below_alloc | apply pw_below_drewN | apply below_drew1) | exact HB.out)⟩
     ·
      rw [if_neg c12] at H
      have c12b0 : (x8_9 == 0) = false := beq_eq_false_iff_ne.mpr c12
      have c12b1 : (x8_9 != 0) = true := bne_iff_ne.mpr c12
      simp only [Option.some.injEq, Prod.mk.injEq] at H
      obtain ⟨rfl, rfl⟩ := H
      go_wp2
      go_ret2
      exact ⟨_, by first | rfl | (simp [errW_none, errW_some] <;> rfl) | (simp [*, errW_none, errW_some] <;> rfl), by first | exact Kd.S_nil _ _ _ _ _ | exact Kd.N_nil _ _ _ _ _ | exact Kd.V_nil _ _ _ _ _ | exact Kd.Q_nil _ _ _ _ _ | exact Kd.R_nil _ _ _ _ _, by repeat (first | (with_reducible first | exact HB.out | apply below_alloc | apply pw_below_drewN | apply below_drew1) | exact HB.out)⟩
end Go.Proofs.Ytlmolloallhclaa.H
namespace Go.Proofs.Ytlmolloallhclaa.H
open Go.RowKit Go.Proofs.YtlmolloallhclaaW.PrintWords Go.Proofs.YtlmolloallhclaaW.PrintLast Go.Proofs.YtlmolloallhclaaW.PrintMore
attribute [local go_sem] max2_int min2_int max_two min_two max_three min_three max_four min_four   -- for this text's walks alone
set_option linter.unusedVariables false
set_option linter.unusedSimpArgs false
set_option maxHeartbeats 8000000 in
set_option maxRecDepth 100000 in
theorem laws_FnExactQuotientsOf.calls (k : Nat) (a0 : Int) (A1 : Option Addr) (c1 : Nat) (l1 : List Int) (A2 : Option Addr) (c2 : Nat) (l2 : List Int) (r rm : List (List Int)) (z1 z2 : List Int) (e0 m1 m2 m : Int) (w : World)
  (hr1 : Kd.C (Kd.int .i64) w A1 l1.length l1) (hc1 : l1.length ≤ c1) (hr2 : Kd.C (Kd.int .i64) w A2 l2.length l2) (hc2 : l2.length ≤ c2) (n1 : ¬ (l1.length : Int) > 1048576) (n2 : ¬ (l2.length : Int) > 1048576)
  (t1 : laws_toInt64S.f k l1 = some l1) (t2 : laws_toInt64S.f k l2 = some l2) (hs : spec_QuotientsOf.f k a0 l1 l2 = some (r, e0)) (hi : impl_QuotientsOf.f k a0 l1 l2 = some (r, e0)) (q0 : laws_eqInt64SS.f k r r = some true) (q1 : laws_eqInt64S.f k l1 l1 = some true) (q2 : laws_eqInt64S.f k l2 l2 = some true)
  (hm1 : laws_markInt64S.f k l1 1 = some (m1, z1)) (hm2 : laws_markInt64S.f k l2 m1 = some (m2, z2)) (hm2' : ¬ m2 < 0) (hms : laws_markInt64SS.f k r 1 = some (m, rm)) (hh : laws_heldInt64SS.f k rm 1 = some m) (hm' : ¬ m < 0) :
  Calls Try.prog 3 #[.int .i64 a0, .slice A1 l1.length c1, .slice A2 l2.length c2] w fun e w' => e = .returned (.bool true) ∧ Below w.heap.size w w' := by
 have d1 : decide ((l1.length : Int) > 1048576) = false := decide_eq_false n1
 have d2 : decide ((l2.length : Int) > 1048576) = false := decide_eq_false n2
 have d3 : decide (m2 < 0) = false := decide_eq_false hm2'
 have d4 : decide (m < 0) = false := decide_eq_false hm'
 have HR1 := Aside0.mk hr1
 have HR2 := Aside0.mk hr2
 have HC1 := Aside0.mk hc1
 have HC2 := Aside0.mk hc2
 have T1 := Aside0.mk t1
 have T2 := Aside0.mk t2
 have HS := Aside0.mk hs
 have HI := Aside0.mk hi
 have Q0 := Aside0.mk q0
 have Q1 := Aside0.mk q1
 have Q2 := Aside0.mk q2
 have M1 := Aside0.mk hm1
 have M2 := Aside0.mk hm2
 have MS := Aside0.mk hms
 have HH := Aside0.mk hh
 clear hr1 hr2 hc1 hc2 t1 t2 hs hi q0 q1 q2 hm1 hm2 hms hh n1 n2 hm2' hm'
 go_enter Try.func3, Try.ntmps3
 -- the reference
 go_wp2_with fail
 go_at_call 10
 refine (laws_toInt64S.calls k A1 c1 l1 l1 _ HR1.out HC1.out T1.out).mono ?_
 rintro e w1 ⟨v1, rfl, o1, b1⟩
 have HB := Aside0.mk b1
 have O1 := Aside0.mk o1
 clear o1 b1
 go_wp2_with fail
 go_at_call 10
 refine (laws_toInt64S.calls k A2 c2 l2 l2 _ (Kd.C_below HR2.out HB.out) HC2.out T2.out).mono ?_
 rintro e w2 ⟨v2, rfl, o2, b2⟩
 have O1 := Aside0.mk (Kd.R_below O1.out b2)
 have O2 := Aside0.mk o2
 have HB := Aside0.mk (below_step HB.out b2)
 clear o2 b2
 obtain ⟨Av1, cv1, ev1⟩ := Kd.R_slice O1.out
 subst ev1
 obtain ⟨Av2, cv2, ev2⟩ := Kd.R_slice O2.out
 subst ev2
 go_wp2_with fail
 go_at_call 9
 refine (spec_QuotientsOf.calls k a0 _ Av1 cv1 l1 _ Av2 cv2 l2 r e0 _ (Kd.R_V O1.out) (Kd.R_V O2.out) HS.out).mono ?_
 rintro e w3 ⟨vs, rfl, os, bs⟩
 have HB := Aside0.mk (below_step HB.out bs)
 have S03 := Aside0.mk HB.out.size
 obtain ⟨As, cs', es, ls, rs⟩ := Kd.N_reads os
 subst es
 have FS := Aside0.mk (Kd.C_F (Kd.heap_slice 2 (Kd.heap_int .i64)) rs)
 have LS := Aside0.mk ls
 clear os bs rs ls O1 O2
 -- the program
 go_wp2_with fail
 go_at_call 10
 refine (laws_toInt64S.calls k A1 c1 l1 l1 _ (Kd.C_below HR1.out HB.out) HC1.out T1.out).mono ?_
 rintro e w4 ⟨v4, rfl, o4, b4⟩
 have FS := Aside0.mk (Kd.F_below FS.out b4)
 have O4 := Aside0.mk (Kd.R_tight rfl o4)
 have S34 := Aside0.mk b4.size
 have HB := Aside0.mk (below_step HB.out b4)
 clear o4 b4
 go_wp2_with fail
 go_at_call 10
 refine (laws_toInt64S.calls k A2 c2 l2 l2 _ (Kd.C_below HR2.out HB.out) HC2.out T2.out).mono ?_
 rintro e w5 ⟨v5, rfl, o5, b5⟩
 have FS := Aside0.mk (Kd.F_below FS.out b5)
 have L4 := Aside0.mk (Kd.R_lt O4.out)
 have O4 := Aside0.mk (Kd.R_below O4.out b5)
 have O5 := Aside0.mk (Kd.R_tight rfl o5)
 have S45 := Aside0.mk b5.size
 have HB := Aside0.mk (below_step HB.out b5)
 clear o5 b5
 obtain ⟨Av4, cv4, ev4⟩ := Kd.R_slice O4.out
 subst ev4
 obtain ⟨Av5, cv5, ev5⟩ := Kd.R_slice O5.out
 subst ev5
 go_wp2_with fail
 go_at_call 11
 refine (impl_QuotientsOf.calls k a0 _ Av4 cv4 l1 _ Av5 cv5 l2 r e0 _ (Kd.R_V O4.out) (Kd.R_V O5.out) HI.out).mono ?_
 rintro e w6 ⟨vg, rfl, og, bg⟩
 have FS := Aside0.mk (Kd.F_below FS.out bg)
 have L5 := Aside0.mk (Kd.R_lt O5.out)
 have O4 := Aside0.mk (Kd.R_below O4.out bg)
 have O5 := Aside0.mk (Kd.R_below O5.out bg)
 have OG := Aside0.mk og
 have S56 := Aside0.mk bg.size
 have HB := Aside0.mk (below_step HB.out bg)
 clear og bg
 obtain ⟨Ag, cg', eg⟩ := Kd.S_slice OG.out
 subst eg
 go_wp2_with fail
 go_at_call 12
 refine (laws_eqInt64SS.calls k Ag cg' r As cs' r true _ (Kd.S_reads' OG.out).2.2 (Kd.S_reads' OG.out).2.1 (Kd.F_now FS.out) LS.out Q0.out).mono ?_
 rintro e w' ⟨rfl, dr⟩
 have b7 := dr.below
 clear dr
 have FS := Aside0.mk (Kd.F_below FS.out b7)
 have O4 := Aside0.mk (Kd.R_below O4.out b7)
 have O5 := Aside0.mk (Kd.R_below O5.out b7)
 have OG := Aside0.mk (Kd.S_below OG.out b7)
 have HB := Aside0.mk (below_step HB.out b7)
 clear b7
 -- the arguments are as they were
 go_wp2_with fail
 go_at_call 10
 refine (laws_toInt64S.calls k A1 c1 l1 l1 _ (Kd.C_below HR1.out HB.out) HC1.out T1.out).mono ?_
 rintro e w8 ⟨v8, rfl, o8, b8⟩
 have FS := Aside0.mk (Kd.F_below FS.out b8)
 have O4 := Aside0.mk (Kd.R_below O4.out b8)
 have O5 := Aside0.mk (Kd.R_below O5.out b8)
 have OG := Aside0.mk (Kd.S_below OG.out b8)
 have O8 := Aside0.mk o8
 have HB := Aside0.mk (below_step HB.out b8)
 clear o8 b8
 obtain ⟨Av8, cv8, ev8⟩ := Kd.R_slice O8.out
 subst ev8
 go_wp2_with fail
 go_at_call 13
 refine (laws_eqInt64S.calls k Av4 cv4 l1 Av8 cv8 l1 true _ (Kd.R_reads' O4.out).2.2 (Kd.R_reads' O4.out).2.1 (Kd.R_reads' O8.out).2.2 (Kd.R_reads' O8.out).2.1 Q1.out).mono ?_
 rintro e w' ⟨rfl, dr⟩
 have b9 := dr.below
 clear dr
 have FS := Aside0.mk (Kd.F_below FS.out b9)
 have O4 := Aside0.mk (Kd.R_below O4.out b9)
 have O5 := Aside0.mk (Kd.R_below O5.out b9)
 have OG := Aside0.mk (Kd.S_below OG.out b9)
 have HB := Aside0.mk (below_step HB.out b9)
 clear b9 O8
 go_wp2_with fail
 go_at_call 10
 refine (laws_toInt64S.calls k A2 c2 l2 l2 _ (Kd.C_below HR2.out HB.out) HC2.out T2.out).mono ?_
 rintro e w10 ⟨v10, rfl, o10, b10⟩
 have FS := Aside0.mk (Kd.F_below FS.out b10)
 have O4 := Aside0.mk (Kd.R_below O4.out b10)
 have O5 := Aside0.mk (Kd.R_below O5.out b10)
 have OG := Aside0.mk (Kd.S_below OG.out b10)
 have O10 := Aside0.mk o10
 have HB := Aside0.mk (below_step HB.out b10)
 clear o10 b10
 obtain ⟨Av10, cv10, ev10⟩ := Kd.R_slice O10.out
 subst ev10
 go_wp2_with fail
 go_at_call 13
 refine (laws_eqInt64S.calls k Av5 cv5 l2 Av10 cv10 l2 true _ (Kd.R_reads' O5.out).2.2 (Kd.R_reads' O5.out).2.1 (Kd.R_reads' O10.out).2.2 (Kd.R_reads' O10.out).2.1 Q2.out).mono ?_
 rintro e w' ⟨rfl, dr⟩
 have b11 := dr.below
 clear dr
 have FS := Aside0.mk (Kd.F_below FS.out b11)
 have O4 := Aside0.mk (Kd.R_below O4.out b11)
 have O5 := Aside0.mk (Kd.R_below O5.out b11)
 have OG := Aside0.mk (Kd.S_below OG.out b11)
 have HB := Aside0.mk (below_step HB.out b11)
 clear b11 O10
 -- the arguments are written
 go_wp2_with fail
 go_at_call 14
 refine (laws_markInt64S.calls k _ _ l1 1 m1 z1 w _ HB.out (Kd.R_lower O4.out S03.out) M1.out).mono ?_
 rintro e w12 ⟨rfl, _, hb, hk⟩
 have FS := Aside0.mk (Kd.F_kept FS.out hk fun k_ h1 h2 => Nat.lt_irrefl _ (Nat.lt_of_lt_of_le h1 (Kd.R_base O4.out k_ h2.symm)))
 have O5 := Aside0.mk (Kd.R_kept O5.out hk fun k_ h1 h2 => Nat.lt_irrefl _ (Nat.lt_of_lt_of_le (L4.out k_ h2.symm) (Kd.R_base O5.out k_ h1.symm)))
 have OG := Aside0.mk (Kd.S_kept OG.out hk fun k_ h1 h2 => Nat.lt_irrefl _ (Nat.lt_of_lt_of_le (Nat.lt_of_lt_of_le (L4.out k_ h2.symm) S45.out) h1))
 have HB := Aside0.mk hb
 clear hk hb O4
 go_wp2_with fail
 go_at_call 14
 refine (laws_markInt64S.calls k _ _ l2 m1 m2 z2 w _ HB.out (Kd.R_lower O5.out (Nat.le_trans S03.out S34.out)) M2.out).mono ?_
 rintro e w13 ⟨rfl, _, hb, hk⟩
 have FS := Aside0.mk (Kd.F_kept FS.out hk fun k_ h1 h2 => Nat.lt_irrefl _ (Nat.lt_of_lt_of_le (Nat.lt_of_lt_of_le h1 S34.out) (Kd.R_base O5.out k_ h2.symm)))
 have OG := Aside0.mk (Kd.S_kept OG.out hk fun k_ h1 h2 => Nat.lt_irrefl _ (Nat.lt_of_lt_of_le (L5.out k_ h2.symm) h1))
 have HB := Aside0.mk hb
 clear hk hb O5
 go_wp2_with fail
 go_at_call 12
 refine (laws_eqInt64SS.calls k Ag cg' r As cs' r true _ (Kd.S_reads' OG.out).2.2 (Kd.S_reads' OG.out).2.1 (Kd.F_now FS.out) LS.out Q0.out).mono ?_
 rintro e w' ⟨rfl, dr⟩
 have b14 := dr.below
 clear dr
 have FS := Aside0.mk (Kd.F_below FS.out b14)
 have OG := Aside0.mk (Kd.S_below OG.out b14)
 have HB := Aside0.mk (below_step HB.out b14)
 clear b14
 -- the results are written
 go_wp2_with fail
 go_at_call 15
 refine (laws_markInt64SS.calls k _ _ r 1 m rm w _ HB.out (Kd.S_lower OG.out (Nat.le_trans S03.out (Nat.le_trans S34.out S45.out))) MS.out).mono ?_
 rintro e w15 ⟨rfl, og, hb, hk⟩
 have FS := Aside0.mk (Kd.F_kept FS.out hk fun k_ h1 h2 => Nat.lt_irrefl _ (Nat.lt_of_lt_of_le (Nat.lt_of_lt_of_le h1 (Nat.le_trans S34.out S45.out)) h2))
 have NG := Aside0.mk (Kd.S_reads' og).1
 have CG := Aside0.mk (Kd.S_reads' og).2.1
 have RG := Aside0.mk (Kd.S_reads' og).2.2
 have HB := Aside0.mk hb
 clear hk hb og OG
 go_wp2_with fail
 go_at_call 16
 refine (NG.out ▸ laws_heldInt64SS.calls k Ag cg' rm 1 m _ RG.out (NG.out ▸ CG.out) HH.out : Calls Try.prog 16 #[.slice Ag r.length cg', .int .i64 1] _ _).mono ?_
 rintro e w' ⟨rfl, dr⟩
 have b16 := dr.below
 clear dr
 have FS := Aside0.mk (Kd.F_below FS.out b16)
 have RG := Aside0.mk (Kd.C_below RG.out b16)
 have HB := Aside0.mk (below_step HB.out b16)
 clear b16
 -- once more
 go_wp2_with fail
 go_at_call 10
 refine (laws_toInt64S.calls k A1 c1 l1 l1 _ (Kd.C_below HR1.out HB.out) HC1.out T1.out).mono ?_
 rintro e w17 ⟨v17, rfl, o17, b17⟩
 have FS := Aside0.mk (Kd.F_below FS.out b17)
 have RG := Aside0.mk (Kd.C_below RG.out b17)
 have O17 := Aside0.mk o17
 have HB := Aside0.mk (below_step HB.out b17)
 clear o17 b17
 go_wp2_with fail
 go_at_call 10
 refine (laws_toInt64S.calls k A2 c2 l2 l2 _ (Kd.C_below HR2.out HB.out) HC2.out T2.out).mono ?_
 rintro e w18 ⟨v18, rfl, o18, b18⟩
 have FS := Aside0.mk (Kd.F_below FS.out b18)
 have RG := Aside0.mk (Kd.C_below RG.out b18)
 have O17 := Aside0.mk (Kd.R_below O17.out b18)
 have O18 := Aside0.mk o18
 have HB := Aside0.mk (below_step HB.out b18)
 clear o18 b18
 obtain ⟨Av17, cv17, ev17⟩ := Kd.R_slice O17.out
 subst ev17
 obtain ⟨Av18, cv18, ev18⟩ := Kd.R_slice O18.out
 subst ev18
 go_wp2_with fail
 go_at_call 11
 refine (impl_QuotientsOf.calls k a0 _ Av17 cv17 l1 _ Av18 cv18 l2 r e0 _ (Kd.R_V O17.out) (Kd.R_V O18.out) HI.out).mono ?_
 rintro e w19 ⟨vh, rfl, oh, bh⟩
 have FS := Aside0.mk (Kd.F_below FS.out bh)
 have RG := Aside0.mk (Kd.C_below RG.out bh)
 have OH := Aside0.mk oh
 have HB := Aside0.mk (below_step HB.out bh)
 clear oh bh O17 O18
 obtain ⟨Ah, ch', eh⟩ := Kd.S_slice OH.out
 subst eh
 go_wp2_with fail
 go_at_call 12
 refine (laws_eqInt64SS.calls k Ah ch' r As cs' r true _ (Kd.S_reads' OH.out).2.2 (Kd.S_reads' OH.out).2.1 (Kd.F_now FS.out) LS.out Q0.out).mono ?_
 rintro e w' ⟨rfl, dr⟩
 have b20 := dr.below
 clear dr
 have RG := Aside0.mk (Kd.C_below RG.out b20)
 have HB := Aside0.mk (below_step HB.out b20)
 clear b20 OH FS
 go_wp2_with fail
 go_at_call 16
 refine (NG.out ▸ laws_heldInt64SS.calls k Ag cg' rm 1 m _ RG.out (NG.out ▸ CG.out) HH.out : Calls Try.prog 16 #[.slice Ag r.length cg', .int .i64 1] _ _).mono ?_
 rintro e w' ⟨rfl, dr⟩
 have b21 := dr.below
 clear dr
 have HB := Aside0.mk (below_step HB.out b21)
 clear b21 RG
 go_wp2_with fail
 go_ret
 exact ⟨rfl, HB.out⟩
def laws_FnExactQuotientsOf.Pure : Prop := ∀ (a0 : Int) (l1 l2 : List Int), l1.length ≤ 1048576 → l2.length ≤ 1048576 →
 ∃ (k : Nat) (r rm : List (List Int)) (z1 z2 : List Int) (e0 m1 m2 m : Int), laws_toInt64S.f k l1 = some l1 ∧ laws_toInt64S.f k l2 = some l2 ∧ spec_QuotientsOf.f k a0 l1 l2 = some (r, e0) ∧ impl_QuotientsOf.f k a0 l1 l2 = some (r, e0) ∧ laws_eqInt64SS.f k r r = some true ∧ laws_eqInt64S.f k l1 l1 = some true ∧ laws_eqInt64S.f k l2 l2 = some true ∧
  laws_markInt64S.f k l1 1 = some (m1, z1) ∧ laws_markInt64S.f k l2 m1 = some (m2, z2) ∧ 0 ≤ m2 ∧ laws_markInt64SS.f k r 1 = some (m, rm) ∧ laws_heldInt64SS.f k rm 1 = some m ∧ 0 ≤ m
set_option maxHeartbeats 8000000 in
set_option maxRecDepth 100000 in
theorem laws_FnExactQuotientsOf.walk (P : laws_FnExactQuotientsOf.Pure) (a0 : Int) (a1 : Option Addr) (len1 cap1 : Nat) (z1 : List Int) (a2 : Option Addr) (len2 cap2 : Nat) (z2 : List Int) (w : World) (w0 : (Lit.int .i64 a0).wf = true) (w1 : (a1 = none ∧ len1 = 0 ∧ cap1 = 0 ∧ z1 = []) ∨ ∃ x, a1 = some x ∧ len1 ≤ cap1 ∧ cap1 ≤ maxLen ∧ z1.length = cap1 ∧ (∀ i, i < z1.length → w.cell? (x.add i) = some (.int .i64 (z1.getD i 0))) ∧ ∀ n ∈ z1, (Lit.int .i64 n).wf = true) (y1 : len1 * 8 ≤ 140737488351232) (w2 : (a2 = none ∧ len2 = 0 ∧ cap2 = 0 ∧ z2 = []) ∨ ∃ x, a2 = some x ∧ len2 ≤ cap2 ∧ cap2 ≤ maxLen ∧ z2.length = cap2 ∧ (∀ i, i < z2.length → w.cell? (x.add i) = some (.int .i64 (z2.getD i 0))) ∧ ∀ n ∈ z2, (Lit.int .i64 n).wf = true) (y2 : len2 * 8 ≤ 140737488351232) :
  Calls Try.prog 3 #[.int .i64 a0, .slice a1 len1 cap1, .slice a2 len2 cap2] w fun e w' => e = .returned (.bool true) ∧ Below w.heap.size w w' := by
 obtain ⟨l1, rfl, hr1, hm1, hw1, hc1⟩ := ReadsInt.ofRowC w1
 obtain ⟨l2, rfl, hr2, hm2, hw2, hc2⟩ := ReadsInt.ofRowC w2
 have g1 : Kd.C (Kd.int .i64) w a1 l1.length l1 := Kd.C_of_reads (d := (0 : Int)) (h1 := fun _ => rfl) hr1
 have g2 : Kd.C (Kd.int .i64) w a2 l2.length l2 := Kd.C_of_reads (d := (0 : Int)) (h1 := fun _ => rfl) hr2
 have HM1 := Aside0.mk hm1
 have HM2 := Aside0.mk hm2
 have HY1 := Aside0.mk y1
 have HY2 := Aside0.mk y2
 clear w1 w2 hr1 hr2 hw1 hw2 w0 hm1 hm2 y1 y2
 by_cases n1 : (l1.length : Int) > 1048576
 ·
  have d1 : decide ((l1.length : Int) > 1048576) = true := decide_eq_true n1
  clear n1
  go_enter Try.func3, Try.ntmps3
  go_wp2
  go_ret
  exact ⟨rfl, Below.refl _ _⟩
 by_cases n2 : (l2.length : Int) > 1048576
 ·
  have d1 : decide ((l1.length : Int) > 1048576) = false := decide_eq_false n1
  have d2 : decide ((l2.length : Int) > 1048576) = true := decide_eq_true n2
  clear n1 n2
  go_enter Try.func3, Try.ntmps3
  go_wp2
  go_ret
  exact ⟨rfl, Below.refl _ _⟩
 obtain ⟨k, r, rm, z1, z2, e0, m1, m2, m, h1, h2, h3, h4, h5, h6, h7, h8, h9, h10, h11, h12, h13⟩ := P a0 l1 l2 (by omega) (by omega)
 exact laws_FnExactQuotientsOf.calls k a0 a1 cap1 l1 a2 cap2 l2 r rm z1 z2 e0 m1 m2 m w g1 hc1 g2 hc2 n1 n2 h1 h2 h3 h4 h5 h6 h7 h8 h9 (by omega) h11 h12 (by omega)
end Go.Proofs.Ytlmolloallhclaa.H
