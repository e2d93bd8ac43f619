/- Joined texts of a claim: the printed functions and what is proved of them. -/
import Derived.Test.YtcimpcdgdffnpaaHx0
import Derived.Test.YtcimpcdgdffnpaaMabcdef6
import Derived.Test.YtcimpcdgdffnpaaMabcdef8
import Derived.Test.YtcimpcdgdffnpaaMabcdef4
import Derived.Test.YtcimpcdgdffnpaaMabcdef9
import Derived.Test.YtcimpcdgdffnpaaMabcdef1
import Derived.Test.YtcimpcdgdffnpaaMabcdef2
-- written by wip/drive.py (the session's own program) over the translation; Lean checks it
namespace Go.Proofs.Ytcimpcdgdffnpaa.H
open Go.RowKit Go.Proofs.YtcimpcdgdffnpaaW.PrintWords Go.Proofs.YtcimpcdgdffnpaaW.PrintLast Go.Proofs.YtcimpcdgdffnpaaW.PrintMore
attribute [local go_sem] max2_int min2_int max_two min_two max_three min_three max_four min_four   -- for this text's walks alone
set_option linter.unusedVariables false
set_option linter.unusedSimpArgs false

/-! ### spec_l01Compose: function 32 -/
def spec_l01Compose.l0 : Nat → Int → List Int → List Int → List Int → Int → Option (List Int)
  | 0, _, _, _, _, _ => none
  | k + 1, x0, x1, x2, x7, x8 => if x8 ≥ 0 then ((spec_l01Times.f k x0 x7 x2).bind fun t188 => (if 0 ≤ x8 then (if x8 < (x1.length : Int) then ((spec_l01Trim.f k (([rd x1 x8] : List Int))).bind fun t195 => ((spec_l01Add.f k x0 t188 t195 1).bind fun t198 => (spec_l01Compose.l0 k x0 x1 x2 t198 (wrap64 (x8 - 1))))) else (none)) else (none))) else (some x7)
def spec_l01Compose.f (k : Nat) (a0 : Int) (l1 : List Int) (l2 : List Int) : Option (List Int) := spec_l01Compose.l0 k a0 l1 l2 (([] : List Int)) (wrap64 ((l1.length : Int) - 1))
theorem spec_l01Compose.mono_l : ∀ k, (∀ y0 y1 y2 y3 y4, LeO (spec_l01Compose.l0 k y0 y1 y2 y3 y4) (spec_l01Compose.l0 (k + 1) y0 y1 y2 y3 y4))
  | 0 => fun _ _ _ _ _ r h => by simp [spec_l01Compose.l0] at h
  | k + 1 => by
    have ih0 := spec_l01Compose.mono_l k
    · intro y0 y1 y2 y3 y4
      unfold spec_l01Compose.l0
      repeat' first
      | (with_reducible exact ih0 _ _ _ _ _)
      | (with_reducible exact spec_l01Add.mono _ _ _ _ _)
      | (with_reducible exact spec_l01Times.mono _ _ _ _)
      | (with_reducible exact spec_l01Trim.mono _ _)
      | (with_reducible exact LeO.refl _)
      | (with_reducible exact LeO.none _)
      | (with_reducible refine LeO.ite ?_ ?_)
      | (with_reducible refine LeO.bind ?_ (fun _ => ?_))
      | exact ih0 _ _ _ _ _
      | exact spec_l01Add.mono _ _ _ _ _
      | exact spec_l01Times.mono _ _ _ _
      | exact spec_l01Trim.mono _ _
      | exact LeO.none _
      | refine LeO.ite ?_ ?_
      | refine LeO.bind ?_ (fun _ => ?_)
theorem spec_l01Compose.mono : ∀ a0 a1 a2 k, LeO (spec_l01Compose.f k a0 a1 a2) (spec_l01Compose.f (k + 1) a0 a1 a2) := by
  intro a0 a1 a2 k
  have ih0 := spec_l01Compose.mono_l k
  unfold spec_l01Compose.f
  repeat' first
      | (with_reducible exact ih0 _ _ _ _ _)
      | (with_reducible exact spec_l01Add.mono _ _ _ _ _)
      | (with_reducible exact spec_l01Times.mono _ _ _ _)
      | (with_reducible exact spec_l01Trim.mono _ _)
      | (with_reducible exact LeO.refl _)
      | (with_reducible exact LeO.none _)
      | (with_reducible refine LeO.ite ?_ ?_)
      | (with_reducible refine LeO.bind ?_ (fun _ => ?_))
      | exact ih0 _ _ _ _ _
      | exact spec_l01Add.mono _ _ _ _ _
      | exact spec_l01Times.mono _ _ _ _
      | exact spec_l01Trim.mono _ _
      | exact LeO.none _
      | refine LeO.ite ?_ ?_
      | refine LeO.bind ?_ (fun _ => ?_)
def spec_l01Compose.T5 : Bool × List (List Nat × List Nat) := (true, [([], []), ([], []), ([], []), ([], []), ([1, 2, 3], [1, 2, 3]), ([], []), ([], []), ([5, 6], [5, 6]), ([7], [7]), ([8], [8]), ([9, 4], [9]), ([0, 4, 10, 10], [0, 4, 10]), ([11, 11, 0, 1, 2, 3, 4, 5, 6, 7, 8, 9, 10, 11], [2, 11])])
def spec_l01Compose.B5 : List Nat := [0, 0, 0, 0, 14, 0, 0, 96, 224, 480, 1022, 2047, 4095]
theorem spec_l01Compose.tab5 : rtab .any (opsOf Try.f32 5) = spec_l01Compose.T5 := by kernel_rfl
theorem spec_l01Compose.bits5 : waitsOk spec_l01Compose.T5.2 spec_l01Compose.B5 = true := by kernel_rfl
set_option maxHeartbeats 8000000 in
set_option maxRecDepth 100000 in
theorem spec_l01Compose.calls (k : Nat) (a0 : Int) (A1 : Option Addr) (c1 : Nat) (l1 : List Int) (A2 : Option Addr) (c2 : Nat) (l2 : List Int) (r : List Int) (w : World) (hr1 : Kd.C (Kd.int .i64) w A1 l1.length l1) (hc1 : l1.length ≤ c1) (hr2 : Kd.C (Kd.int .i64) w A2 l2.length l2) (hc2 : l2.length ≤ c2) (h : spec_l01Compose.f k a0 l1 l2 = some r) :
    Calls Try.prog 32 #[.int .i64 a0, .slice A1 l1.length c1, .slice A2 l2.length c2] w fun e w' => ∃ v0_ : Value, e = .returned (v0_) ∧ Kd.R (Kd.int .i64) 2 w' w.heap.size (fun _ => True) v0_ r ∧ Below w.heap.size w w' := by
  have HR1 := Aside0.mk hr1
  have HC1 := Aside0.mk hc1
  clear hr1 hc1
  have HR2 := Aside0.mk hr2
  have HC2 := Aside0.mk hc2
  clear hr2 hc2
  have HB := Aside0.mk (Below.refl w.heap.size w)
  have H : (spec_l01Compose.l0 k a0 l1 l2 (([] : List Int)) (wrap64 ((l1.length : Int) - 1))) = some r := h
  clear h
  obtain ⟨y185, hy185⟩ : ∃ y_ : List Int, y_ = (([] : List Int)) := ⟨_, rfl⟩
  replace H : (spec_l01Compose.l0 k a0 l1 l2 y185 (wrap64 ((l1.length : Int) - 1))) = some r := by first | (rw [hy185]; with_reducible exact H) | (have H2_ := (Option.bind_some _ _).symm.trans H; rw [hy185]; with_reducible exact H2_) | (have H2_ := (Option.bind_some _ _).symm.trans H; with_reducible exact H2_) | with_reducible exact H | (rw [hy185]; exact H) | exact H
  have Ny185 := Aside0.mk hy185
  clear hy185
  have H' := Aside0.mk H
  clear H
  go_enter Try.func32, Try.ntmps32
  go_wp2_with (first | ((with_reducible refine gate_dst (N := 9) rfl ?_); refine Kd.R_lit (Kd.int .i64) _ 2 ?hg (N := 9) ?hd (xs := ([] : List Int)) (inner := []) (ok := fun _ => True) (okp := fun _ => True) ?hr ?hp (fun _ hk => hk) trivial (Below.refl _ _) (Nat.le_refl _) (by simp) ?_; (case hd => rfl); (case hg => rfl); (case hr => first | (go_simp; done) | (go_simp; rfl)); (case hp => exact (Reps.none _ _)); intro v186 w4 ho5 hb hg_ hnew_; clear hg_ hnew_; (first | rw [← Ny185.out] at ho5 | (simp only [Int.reduceToNat] at ho5; rw [← Ny185.out] at ho5)); have n0_ := Aside0.mk (Kd.R_lower ho5 (below_size (bs HB))); have n1_ := Aside0.mk (below_step (bs HB) hb); clear HB; have HO187 := n0_; have HB := n1_; clear n0_ n1_; clear hb ho5))
  go_loopg [7, 8] k (fun kq v7 v8 w' => ∃ (x7_1 : List Int) (x8_1 : Int), v8 = .int .i64 x8_1 ∧ Aside0 (spec_l01Compose.l0 kq a0 l1 l2 x7_1 x8_1 = some r) ∧ Aside0 (kq ≤ k) ∧ Aside0 (Kd.R (Kd.int .i64) 2 w' w.heap.size (fun _ => True) v7 x7_1) ∧ Aside0 (Below w.heap.size w w'))
  case atStart => exact ⟨(y185), (wrap64 ((l1.length : Int) - 1)), ea_, H', ⟨Nat.le_refl _⟩, ⟨by (with_reducible repeat (first | apply Kd.R_alloc | apply Kd.R_drewN | apply Kd.R_drew)); exact HO187.out⟩, ⟨by repeat (first | (with_reducible first | exact HB.out | apply below_alloc | apply pw_below_drewN | apply below_drew1) | exact HB.out)⟩⟩
  case round =>
    clear H'
    try clear c1
    try clear c2
    try clear p2
    try clear c3
    obtain ⟨x7_1, x8_1, rfl, HA, HK1, HO_7, HB⟩ := hrel
    cases gk with
    | zero => exact absurd HA.out (by simp [spec_l01Compose.l0])
    | succ k1 =>
      have H := HA.out
      clear HA
      simp only [spec_l01Compose.l0] at H
      by_cases c6 : x8_1 ≥ 0
      · rw [if_pos c6] at H
        have c6b0 : decide (0 ≤ x8_1) = true := decide_eq_true c6
        clear c6
        replace H := Option.bind_eq_some_iff.mp H
        obtain ⟨t188, A70, H⟩ := H
        have A7 := Aside0.mk A70
        clear A70
        by_cases c8 : 0 ≤ x8_1
        · rw [if_pos c8] at H
          have c8b0 : decide (0 ≤ x8_1) = true := decide_eq_true c8
          clear c8
          by_cases c9 : x8_1 < (l1.length : Int)
          · rw [if_pos c9] at H
            have c9b0 : decide (x8_1 < (l1.length : Int)) = true := decide_eq_true c9
            clear c9
            obtain ⟨y192, hy192⟩ : ∃ y_ : List Int, y_ = (([rd l1 x8_1] : List Int)) := ⟨_, rfl⟩
            replace H : ((spec_l01Trim.f k1 y192).bind fun t195 => ((spec_l01Add.f k1 a0 t188 t195 1).bind fun t198 => (spec_l01Compose.l0 k1 a0 l1 l2 t198 (wrap64 (x8_1 - 1))))) = some r := by first | (rw [hy192]; with_reducible exact H) | (have H2_ := (Option.bind_some _ _).symm.trans H; rw [hy192]; with_reducible exact H2_) | (have H2_ := (Option.bind_some _ _).symm.trans H; with_reducible exact H2_) | with_reducible exact H | (rw [hy192]; exact H) | exact H
            have Ny192 := Aside0.mk hy192
            clear hy192
            replace H := Option.bind_eq_some_iff.mp H
            obtain ⟨t195, A100, H⟩ := H
            have A10 := Aside0.mk A100
            clear A100
            replace H := Option.bind_eq_some_iff.mp H
            obtain ⟨t198, A110, H⟩ := H
            have A11 := Aside0.mk A110
            clear A110
            have H' := Aside0.mk H
            clear H
            obtain ⟨Ao12, co12, eo12⟩ := Kd.R_slice HO_7.out
            subst eo12
            try go_wp2
            have n0_ := Aside0.mk (Kd.R_drew HO_7.out)
            have n1_ := Aside0.mk (below_drew1 HB.out)
            clear HO_7
            clear HB
            have HO_7 := n0_
            have HB := n1_
            clear n0_ n1_
            have p191 : 0 ≤ (x8_1 : Int) := of_decide_eq_true (by first | (with_reducible assumption) | assumption)
            have q191 : x8_1 < (l1.length : Int) := of_decide_eq_true (by first | (with_reducible assumption) | assumption)
            obtain ⟨ad191, e191, hx191_0⟩ := Kd.at_int HR1.out x8_1 p191 q191
            have hw191_0 := hx191_0
            cases e191
            replace hx191_0 := (HB.out.cell (World.block_lt_of_cell? w _ hx191_0)).trans hx191_0
            replace p191 := eq_true p191
            replace q191 := eq_true q191
            refine start_ (n := 13) (S := fun w' => w'.cell? (ad191.add (x8_1).toNat) = some (.int .i64 (rd l1 x8_1))) (ds := []) #[false, false, false, false, false, false, false, false, false, false, false, false, false] (by kernel_rfl) rfl rfl (((HB.out.cell (World.block_lt_of_cell? w _ hw191_0)).trans hw191_0)) (fun hHeld => ?_); refine with_tabW spec_l01Compose.tab5 spec_l01Compose.bits5 (fun HT_ HW_ => ?_)
            generalize wr.drew = w13 at HO_7 HB hx191_0 hHeld ⊢
            refine pure_ (i := 0) (N := some 17) (v := ?_) (a' := ?_) #[true, false, false, false, false, false, false, false, false, false, false, false, false] rfl rfl (any_of HT_.out (by kernel_rfl)) (fun _ _ _ h => h) (Or.inl ⟨by rfl, ?_⟩) ?_ ?_
            rotate_left
            · intro w'
              go_simp
              with_reducible rfl
            rotate_left
            · simp only [Act.put, List.setIfInBounds_toArray, List.set_cons_zero, List.set_cons_succ, i64_w, i32_w]
              rfl
            refine pure_ (i := 1) (N := some 18) (v := ?_) (a' := ?_) #[true, true, false, false, false, false, false, false, false, false, false, false, false] rfl rfl (any_of HT_.out (by kernel_rfl)) (fun _ _ _ h => h) (Or.inl ⟨by rfl, ?_⟩) ?_ ?_
            rotate_left
            · intro w'
              go_simp
              with_reducible rfl
            rotate_left
            · simp only [Act.put, List.setIfInBounds_toArray, List.set_cons_zero, List.set_cons_succ, i64_w, i32_w]
              rfl
            refine pure_ (i := 2) (N := some 19) (v := ?_) (a' := ?_) #[true, true, true, false, false, false, false, false, false, false, false, false, false] rfl rfl (any_of HT_.out (by kernel_rfl)) (fun _ _ _ h => h) (Or.inl ⟨by rfl, ?_⟩) ?_ ?_
            rotate_left
            · intro w'
              go_simp
              with_reducible rfl
            rotate_left
            · simp only [Act.put, List.setIfInBounds_toArray, List.set_cons_zero, List.set_cons_succ, i64_w, i32_w]
              rfl
            refine pure_ (i := 3) (N := some 20) (v := ?_) (a' := ?_) #[true, true, true, true, false, false, false, false, false, false, false, false, false] rfl rfl (any_of HT_.out (by kernel_rfl)) (fun _ _ _ h => h) (Or.inl ⟨by rfl, ?_⟩) ?_ ?_
            rotate_left
            · intro w'
              go_simp
              with_reducible rfl
            rotate_left
            · simp only [Act.put, List.setIfInBounds_toArray, List.set_cons_zero, List.set_cons_succ, i64_w, i32_w]
              rfl
            refine pure_ (i := 5) (N := some 22) (v := ?_) (a' := ?_) #[true, true, true, true, false, true, false, false, false, false, false, false, false] rfl rfl (any_of HT_.out (by kernel_rfl)) (fun _ _ _ h => h) (Or.inl ⟨by rfl, ?_⟩) ?_ ?_
            rotate_left
            · intro w'
              go_simp
              with_reducible rfl
            rotate_left
            · simp only [Act.put, List.setIfInBounds_toArray, List.set_cons_zero, List.set_cons_succ, i64_w, i32_w]
              rfl
            refine pure_ (i := 6) (N := some 23) (v := ?_) (a' := ?_) #[true, true, true, true, false, true, true, false, false, false, false, false, false] rfl rfl (any_of HT_.out (by kernel_rfl)) (fun _ _ _ h => h) (Or.inl ⟨by rfl, ?_⟩) ?_ ?_
            rotate_left
            · intro w'
              go_simp
              with_reducible rfl
            rotate_left
            · simp only [Act.put, List.setIfInBounds_toArray, List.set_cons_zero, List.set_cons_succ, i64_w, i32_w]
              rfl
            refine pure_ (i := 7) (N := some 24) (v := ?_) (a' := ?_) #[true, true, true, true, false, true, true, true, false, false, false, false, false] rfl rfl (any_of HT_.out (by kernel_rfl)) (fun _ _ _ h => h) (Or.inl ⟨by rfl, ?_⟩) ?_ ?_
            rotate_left
            · intro w'
              go_simp
              with_reducible rfl
            rotate_left
            · simp only [Act.put, List.setIfInBounds_toArray, List.set_cons_zero, List.set_cons_succ, i64_w, i32_w]
              rfl
            refine take_ (i := 8) (N := some 25) (v := ?_) (a' := ?_) #[true, true, true, true, false, true, true, true, true, false, false, false, false] rfl rfl (take_ofW HT_.out HW_.out (by kernel_rfl)) (fun _ _ _ h => h) (Or.inl ⟨by rfl, ?_⟩) hHeld ?_ ?_
            rotate_left
            · intro w' s0
              go_simp
              with_reducible rfl
            rotate_left
            · simp only [Act.put, List.setIfInBounds_toArray, List.set_cons_zero, List.set_cons_succ, i64_w, i32_w]
              rfl
            refine join_ (σ := Value × Value) 3 #[true, true, true, true, true, true, true, true, true, true, false, false, false] (fun s_ => [(21, s_.1), (26, s_.2)]) (fun s_ w' => (w'.cell? (ad191.add (x8_1).toNat) = some (.int .i64 (rd l1 x8_1))) ∧ (Kd.R (Kd.int .i64) 2 w' w.heap.size (fun k_ => some k_ ≠ (s_.2 : Value).ownBlock ∧ some k_ ≠ (.slice Ao12 x7_1.length co12 : Value).ownBlock) s_.1 t188) ∧ (Kd.R (Kd.int .i64) 2 w' w.heap.size (fun k_ => some k_ ≠ (s_.1 : Value).ownBlock ∧ some k_ ≠ (.slice Ao12 x7_1.length co12 : Value).ownBlock) s_.2 y192) ∧ (Kd.R (Kd.int .i64) 2 w' w.heap.size (fun k_ => some k_ ≠ (s_.1 : Value).ownBlock ∧ some k_ ≠ (s_.2 : Value).ownBlock) (.slice Ao12 x7_1.length co12) x7_1) ∧ (Below w.heap.size w w')) ?_ ?_
            rotate_left
            · intro hCont
              refine two_ (i := 4) (j := 9) (Ni := some 21) (Nj := some 26) #[true, true, true, true, true, true, true, true, true, false, false, false, false] #[true, true, true, true, false, true, true, true, true, true, false, false, false] rfl rfl rfl rfl (two_of HT_.out (by kernel_rfl)) (by decide) (by decide) (fun K hK => ?_) (fun K hK => ?_)
              · skip
                refine goes_ Try.func39 (by kernel_rfl) rfl #[.int .i64 a0, .slice Ao12 x7_1.length co12, .slice A2 l2.length c2] (by rfl) rfl rfl (by (try simp only [List.map_toArray, List.map_cons, List.map_nil]); first | done | rfl | (simp only [List.length_drop, List.length_take]; rfl)) ?_
                with_reducible refine (spec_l01Times.calls k1 a0 _ _ x7_1 _ _ l2 t188 _ ?side1 ?side2 ?side3 ?side4 A7.out).mono ?_
                (case side1 => exact cs ((Kd.R_reads' HO_7.out).2.2))
                (case side2 => exact (Kd.R_reads' HO_7.out).2.1)
                (case side3 => exact cs ((Kd.C_below HR2.out HB.out)))
                (case side4 => exact HC2.out)
                rintro e w14 ⟨v189, rfl, ho0, hb⟩
                refine ⟨_, rfl, ?_⟩
                have n0_ := Aside0.mk (Kd.R_elder' (rs HO_7) (Kd.R_base ho0) hb)
                have n1_ := Aside0.mk (Kd.R_lower (Kd.R_new' ho0 (Kd.R_lt (rs HO_7))) (below_size (bs HB)))
                have n2_ := Aside0.mk (below_step (bs HB) hb)
                clear HO_7
                clear HB
                have HO_7 := n0_
                have HO190 := n1_
                have HB := n2_
                clear n0_ n1_ n2_
                (try clear hb)
                (try clear hb2)
                (try clear hk)
                (try clear hi)
                (try clear ho0)
                refine hK.out _ _ (((HB.out.cell (World.block_lt_of_cell? w _ hw191_0)).trans hw191_0)) (fun hHeld => ?_)
                clear hK K
                refine norm_ (a' := ?_) ?_ ?_
                rotate_left
                · show Act.put _ (some 21) _ = _
                  simp only [Act.put, List.setIfInBounds_toArray, List.set_cons_zero, List.set_cons_succ, i64_w, i32_w]
                  rfl
                refine one_ (i := 9) (N := some 26) #[true, true, true, true, true, true, true, true, true, true, false, false, false] rfl rfl (one_of HT_.out (by kernel_rfl)) (by decide) (fun K hK => ?_)
                refine Kd.R_lit_step (Kd.int .i64) _ 2 ?hg (N := 26) ?hd (xs := ([rd l1 x8_1] : List Int)) (inner := [.int .i64 (rd l1 x8_1)]) (ok := fun _ => True) (okp := fun _ => True) ?hr ?hp (fun _ hk => hk) trivial (Below.refl _ _) (Nat.le_refl _) (by simp) ?_; (case hd => rfl); (case hg => rfl); (case hr => first | (go_simp; done) | (go_simp; rfl)); (case hp => exact (Reps.one (show Kd.M (Kd.int .i64) _ _ _ (rd l1 x8_1) [.int .i64 (rd l1 x8_1)] from rfl) (Reps.none _ _)))
                intro v193 w15 ho16 hb hg_ hnew_
                clear hg_ hnew_
                (first | rw [← Ny192.out] at ho16 | (simp only [Int.reduceToNat] at ho16; rw [← Ny192.out] at ho16))
                have n0_ := Aside0.mk (Kd.R_elder' (rs HO_7) (Kd.R_base ho16) hb)
                have n1_ := Aside0.mk (Kd.R_elder' (rs HO190) (Kd.R_base ho16) hb)
                have n2_ := Aside0.mk (Kd.R_lower (Kd.R_new' (Kd.R_new' ho16 (Kd.R_lt (rs HO_7))) (Kd.R_lt (rs HO190))) (below_size (bs HB)))
                have n3_ := Aside0.mk (below_step (bs HB) hb)
                clear HO_7
                clear HO190
                clear HB
                have HO_7 := n0_
                have HO190 := n1_
                have HO194 := n2_
                have HB := n3_
                clear n0_ n1_ n2_ n3_
                clear hb ho16
                refine hK.out _ _ (((HB.out.cell (World.block_lt_of_cell? w _ hw191_0)).trans hw191_0)) (fun hHeld => ?_)
                clear hK K
                refine norm_ (a' := ?_) ?_ ?_
                rotate_left
                · show Act.put _ (some 26) _ = _
                  simp only [Act.put, List.setIfInBounds_toArray, List.set_cons_zero, List.set_cons_succ, i64_w, i32_w]
                  rfl
                exact norm_ (by simp only [putAll, Act.put, List.setIfInBounds_toArray, List.set_cons_zero, List.set_cons_succ]) (hCont (v189, v193) _ ⟨hHeld, (by (with_reducible repeat (first | apply Kd.R_alloc | apply Kd.R_drewN | apply Kd.R_drew)); exact Kd.R_mono HO190.out (fun _ hk => ⟨hk.2, hk.1.2⟩)), (by (with_reducible repeat (first | apply Kd.R_alloc | apply Kd.R_drewN | apply Kd.R_drew)); exact Kd.R_mono HO194.out (fun _ hk => ⟨hk.2, hk.1.2⟩)), (by (with_reducible repeat (first | apply Kd.R_alloc | apply Kd.R_drewN | apply Kd.R_drew)); exact Kd.R_mono HO_7.out (fun _ hk => ⟨hk.1.2, hk.2⟩)), (bs HB)⟩)
              · skip
                refine Kd.R_lit_step (Kd.int .i64) _ 2 ?hg (N := 26) ?hd (xs := ([rd l1 x8_1] : List Int)) (inner := [.int .i64 (rd l1 x8_1)]) (ok := fun _ => True) (okp := fun _ => True) ?hr ?hp (fun _ hk => hk) trivial (Below.refl _ _) (Nat.le_refl _) (by simp) ?_; (case hd => rfl); (case hg => rfl); (case hr => first | (go_simp; done) | (go_simp; rfl)); (case hp => exact (Reps.one (show Kd.M (Kd.int .i64) _ _ _ (rd l1 x8_1) [.int .i64 (rd l1 x8_1)] from rfl) (Reps.none _ _)))
                intro v193 w14 ho15 hb hg_ hnew_
                clear hg_ hnew_
                (first | rw [← Ny192.out] at ho15 | (simp only [Int.reduceToNat] at ho15; rw [← Ny192.out] at ho15))
                have n0_ := Aside0.mk (Kd.R_elder' (rs HO_7) (Kd.R_base ho15) hb)
                have n1_ := Aside0.mk (Kd.R_lower (Kd.R_new' ho15 (Kd.R_lt (rs HO_7))) (below_size (bs HB)))
                have n2_ := Aside0.mk (below_step (bs HB) hb)
                clear HO_7
                clear HB
                have HO_7 := n0_
                have HO194 := n1_
                have HB := n2_
                clear n0_ n1_ n2_
                clear hb ho15
                refine hK.out _ _ (((HB.out.cell (World.block_lt_of_cell? w _ hw191_0)).trans hw191_0)) (fun hHeld => ?_)
                clear hK K
                refine norm_ (a' := ?_) ?_ ?_
                rotate_left
                · show Act.put _ (some 26) _ = _
                  simp only [Act.put, List.setIfInBounds_toArray, List.set_cons_zero, List.set_cons_succ, i64_w, i32_w]
                  rfl
                refine one_ (i := 4) (N := some 21) #[true, true, true, true, true, true, true, true, true, true, false, false, false] rfl rfl (one_of HT_.out (by kernel_rfl)) (by decide) (fun K hK => ?_)
                refine goes_ Try.func39 (by kernel_rfl) rfl #[.int .i64 a0, .slice Ao12 x7_1.length co12, .slice A2 l2.length c2] (by rfl) rfl rfl (by (try simp only [List.map_toArray, List.map_cons, List.map_nil]); first | done | rfl | (simp only [List.length_drop, List.length_take]; rfl)) ?_
                with_reducible refine (spec_l01Times.calls k1 a0 _ _ x7_1 _ _ l2 t188 _ ?side1 ?side2 ?side3 ?side4 A7.out).mono ?_
                (case side1 => exact cs ((Kd.R_reads' HO_7.out).2.2))
                (case side2 => exact (Kd.R_reads' HO_7.out).2.1)
                (case side3 => exact cs ((Kd.C_below HR2.out HB.out)))
                (case side4 => exact HC2.out)
                rintro e w16 ⟨v189, rfl, ho0, hb⟩
                refine ⟨_, rfl, ?_⟩
                have n0_ := Aside0.mk (Kd.R_elder' (rs HO_7) (Kd.R_base ho0) hb)
                have n1_ := Aside0.mk (Kd.R_elder' (rs HO194) (Kd.R_base ho0) hb)
                have n2_ := Aside0.mk (Kd.R_lower (Kd.R_new' (Kd.R_new' ho0 (Kd.R_lt (rs HO_7))) (Kd.R_lt (rs HO194))) (below_size (bs HB)))
                have n3_ := Aside0.mk (below_step (bs HB) hb)
                clear HO_7
                clear HO194
                clear HB
                have HO_7 := n0_
                have HO194 := n1_
                have HO190 := n2_
                have HB := n3_
                clear n0_ n1_ n2_ n3_
                (try clear hb)
                (try clear hb2)
                (try clear hk)
                (try clear hi)
                (try clear ho0)
                refine hK.out _ _ (((HB.out.cell (World.block_lt_of_cell? w _ hw191_0)).trans hw191_0)) (fun hHeld => ?_)
                clear hK K
                refine norm_ (a' := ?_) ?_ ?_
                rotate_left
                · show Act.put _ (some 21) _ = _
                  simp only [Act.put, List.setIfInBounds_toArray, List.set_cons_zero, List.set_cons_succ, i64_w, i32_w]
                  rfl
                exact norm_ (by simp only [putAll, Act.put, List.setIfInBounds_toArray, List.set_cons_zero, List.set_cons_succ]) (hCont (v189, v193) _ ⟨hHeld, (by (with_reducible repeat (first | apply Kd.R_alloc | apply Kd.R_drewN | apply Kd.R_drew)); exact Kd.R_mono HO190.out (fun _ hk => ⟨hk.2, hk.1.2⟩)), (by (with_reducible repeat (first | apply Kd.R_alloc | apply Kd.R_drewN | apply Kd.R_drew)); exact Kd.R_mono HO194.out (fun _ hk => ⟨hk.2, hk.1.2⟩)), (by (with_reducible repeat (first | apply Kd.R_alloc | apply Kd.R_drewN | apply Kd.R_drew)); exact Kd.R_mono HO_7.out (fun _ hk => ⟨hk.2, hk.1.2⟩)), (bs HB)⟩)
            rintro ⟨v189, v193⟩ w17 ⟨hS_, h0_, h1_, h2_, h3_⟩
            have n0_ : Aside0 (Kd.R (Kd.int .i64) 2 w17 w.heap.size (fun k_ => some k_ ≠ (v193 : Value).ownBlock ∧ some k_ ≠ (.slice Ao12 x7_1.length co12 : Value).ownBlock) v189 t188) := ⟨h0_⟩
            have n1_ : Aside0 (Kd.R (Kd.int .i64) 2 w17 w.heap.size (fun k_ => some k_ ≠ (v189 : Value).ownBlock ∧ some k_ ≠ (.slice Ao12 x7_1.length co12 : Value).ownBlock) v193 y192) := ⟨h1_⟩
            have n2_ : Aside0 (Kd.R (Kd.int .i64) 2 w17 w.heap.size (fun k_ => some k_ ≠ (v189 : Value).ownBlock ∧ some k_ ≠ (v193 : Value).ownBlock) (.slice Ao12 x7_1.length co12) x7_1) := ⟨h2_⟩
            have n3_ : Aside0 (Below w.heap.size w w17) := ⟨h3_⟩
            clear HO_7
            clear HB
            clear h0_ h1_ h2_ h3_
            have HO190 := n0_
            have HO194 := n1_
            have HO_7 := n2_
            have HB := n3_
            clear n0_ n1_ n2_ n3_
            have hHeld : w17.cell? (ad191.add (x8_1).toNat) = some (.int .i64 (rd l1 x8_1)) := hS_
            obtain ⟨Ao18, co18, eo18⟩ := Kd.R_slice HO194.out
            (first | subst eo18 | (injection eo18 with f1_ f2_ f3_; have f4_ := f1_.symm; have f5_ := f3_.symm; clear f1_ f2_ f3_; subst f4_; subst f5_))
            refine norm_ (a' := ?_) ?_ ?_
            rotate_left
            · simp only [putAll, Act.put, List.setIfInBounds_toArray, List.set_cons_zero, List.set_cons_succ]
              rfl
            refine one_ (i := 10) (N := some 27) #[true, true, true, true, true, true, true, true, true, true, true, false, false] rfl rfl (one_of HT_.out (by kernel_rfl)) (by decide) (fun K hK => ?_)
            refine goes_ Try.func57 (by kernel_rfl) rfl #[.slice Ao18 y192.length co18] (by rfl) rfl rfl (by (try simp only [List.map_toArray, List.map_cons, List.map_nil]); first | done | rfl | (simp only [List.length_drop, List.length_take]; rfl)) ?_
            with_reducible refine (spec_l01Trim.calls k1 _ _ y192 t195 _ ?side1 ?side2 A10.out).mono ?_
            (case side1 => exact cs ((Kd.R_reads' HO194.out).2.2))
            (case side2 => exact (Kd.R_reads' HO194.out).2.1)
            rintro e w19 ⟨v196, rfl, ho0, hb⟩
            refine ⟨_, rfl, ?_⟩
            have n0_ := Aside0.mk (Kd.R_elder' (rs HO_7) (Kd.R_base ho0) hb)
            have n1_ := Aside0.mk (Kd.R_elder' (rs HO190) (Kd.R_base ho0) hb)
            have n2_ := Aside0.mk (Kd.R_elder' (rs HO194) (Kd.R_base ho0) hb)
            have n3_ := Aside0.mk (Kd.R_lower (Kd.R_new' (Kd.R_new' (Kd.R_new' ho0 (Kd.R_lt (rs HO_7))) (Kd.R_lt (rs HO190))) (Kd.R_lt (rs HO194))) (below_size (bs HB)))
            have n4_ := Aside0.mk (below_step (bs HB) hb)
            clear HO_7
            clear HO190
            clear HO194
            clear HB
            have HO_7 := n0_
            have HO190 := n1_
            have HO194 := n2_
            have HO197 := n3_
            have HB := n4_
            clear n0_ n1_ n2_ n3_ n4_
            (try clear hb)
            (try clear hb2)
            (try clear hk)
            (try clear hi)
            (try clear ho0)
            obtain ⟨Ao20, co20, eo20⟩ := Kd.R_slice HO190.out
            (first | subst eo20 | (injection eo20 with f1_ f2_ f3_; have f4_ := f1_.symm; have f5_ := f3_.symm; clear f1_ f2_ f3_; subst f4_; subst f5_))
            obtain ⟨Ao21, co21, eo21⟩ := Kd.R_slice HO197.out
            (first | subst eo21 | (injection eo21 with f1_ f2_ f3_; have f4_ := f1_.symm; have f5_ := f3_.symm; clear f1_ f2_ f3_; subst f4_; subst f5_))
            refine hK.out _ _ (((HB.out.cell (World.block_lt_of_cell? w _ hw191_0)).trans hw191_0)) (fun hHeld => ?_)
            clear hK K
            refine norm_ (a' := ?_) ?_ ?_
            rotate_left
            · show Act.put _ (some 27) _ = _
              simp only [Act.put, List.setIfInBounds_toArray, List.set_cons_zero, List.set_cons_succ, i64_w, i32_w]
              rfl
            refine one_ (i := 11) (N := some 28) #[true, true, true, true, true, true, true, true, true, true, true, true, false] rfl rfl (one_of HT_.out (by kernel_rfl)) (by decide) (fun K hK => ?_)
            refine goes_ Try.func38 (by kernel_rfl) rfl #[.int .i64 a0, .slice Ao20 t188.length co20, .slice Ao21 t195.length co21, .int .i64 1] (by rfl) rfl rfl (by (try simp only [List.map_toArray, List.map_cons, List.map_nil]); first | done | rfl | (simp only [List.length_drop, List.length_take]; rfl)) ?_
            with_reducible refine (spec_l01Add.calls k1 a0 _ _ t188 _ _ t195 1 t198 _ ?side1 ?side2 ?side3 ?side4 A11.out).mono ?_
            (case side1 => exact cs ((Kd.R_reads' HO190.out).2.2))
            (case side2 => exact (Kd.R_reads' HO190.out).2.1)
            (case side3 => exact cs ((Kd.R_reads' HO197.out).2.2))
            (case side4 => exact (Kd.R_reads' HO197.out).2.1)
            rintro e w22 ⟨v199, rfl, ho0, hb⟩
            refine ⟨_, rfl, ?_⟩
            have n0_ := Aside0.mk (Kd.R_elder' (rs HO_7) (Kd.R_base ho0) hb)
            have n1_ := Aside0.mk (Kd.R_elder' (rs HO190) (Kd.R_base ho0) hb)
            have n2_ := Aside0.mk (Kd.R_elder' (rs HO194) (Kd.R_base ho0) hb)
            have n3_ := Aside0.mk (Kd.R_elder' (rs HO197) (Kd.R_base ho0) hb)
            have n4_ := Aside0.mk (Kd.R_lower (Kd.R_new' (Kd.R_new' (Kd.R_new' (Kd.R_new' ho0 (Kd.R_lt (rs HO_7))) (Kd.R_lt (rs HO190))) (Kd.R_lt (rs HO194))) (Kd.R_lt (rs HO197))) (below_size (bs HB)))
            have n5_ := Aside0.mk (below_step (bs HB) hb)
            clear HO_7
            clear HO190
            clear HO194
            clear HO197
            clear HB
            have HO_7 := n0_
            have HO190 := n1_
            have HO194 := n2_
            have HO197 := n3_
            have HO200 := n4_
            have HB := n5_
            clear n0_ n1_ n2_ n3_ n4_ n5_
            (try clear hb)
            (try clear hb2)
            (try clear hk)
            (try clear hi)
            (try clear ho0)
            refine hK.out _ _ (((HB.out.cell (World.block_lt_of_cell? w _ hw191_0)).trans hw191_0)) (fun hHeld => ?_)
            clear hK K
            refine norm_ (a' := ?_) ?_ ?_
            rotate_left
            · show Act.put _ (some 28) _ = _
              simp only [Act.put, List.setIfInBounds_toArray, List.set_cons_zero, List.set_cons_succ, i64_w, i32_w]
              rfl
            refine pure_ (i := 12) (N := some 7) (v := ?_) (a' := ?_) #[true, true, true, true, true, true, true, true, true, true, true, true, true] rfl rfl (any_of HT_.out (by kernel_rfl)) (fun _ _ _ h => h) (Or.inl ⟨by rfl, ?_⟩) ?_ ?_
            rotate_left
            · intro w'
              go_simp
              with_reducible rfl
            rotate_left
            · simp only [Act.put, List.setIfInBounds_toArray, List.set_cons_zero, List.set_cons_succ, i64_w, i32_w]
              rfl
            refine done_ (done_of HT_.out (by kernel_rfl)) ?_
            try go_wp2
            go_roundg k1
            case measure => have := HK1.out; omega
            case rel => exact ⟨(t198), (wrap64 (x8_1 - 1)), ea_, H', ⟨by have := HK1.out; omega⟩, ⟨by (with_reducible repeat (first | apply Kd.R_alloc | apply Kd.R_drewN | apply Kd.R_drew)); exact Kd.R_mono HO200.out (fun _ hk => trivial)⟩, ⟨by repeat (first | (with_reducible first | exact HB.out | apply below_alloc | apply pw_below_drewN | apply below_drew1) | exact HB.out)⟩⟩
          · rw [if_neg c9] at H
            exact absurd H (by simp)
        · rw [if_neg c8] at H
          exact absurd H (by simp)
      · rw [if_neg c6] at H
        have c6b0 : decide (0 ≤ x8_1) = false := decide_eq_false c6
        clear c6
        obtain rfl := Option.some.inj H
        go_wp2
        go_ret
        exact ⟨_, by first | rfl | (simp [errW_none, errW_some] <;> rfl) | (simp [*, errW_none, errW_some] <;> rfl), by (with_reducible repeat (first | apply Kd.R_alloc | apply Kd.R_drewN | apply Kd.R_drew)); exact HO_7.out, by repeat (first | (with_reducible first | exact HB.out | apply below_alloc | apply pw_below_drewN | apply below_drew1) | exact HB.out)⟩

end Go.Proofs.Ytcimpcdgdffnpaa.H
/- Layer 1, part 6: values, compositions; codes with a range. -/
set_option linter.unusedVariables false
set_option linter.unusedSimpArgs false
namespace Go.Proofs.Ytcimpcdgdffnpaa.H
open Go.RowKit Go.Proofs.YtcimpcdgdffnpaaW.PrintWords Go.Proofs.YtcimpcdgdffnpaaW.PrintLast Go.Proofs.YtcimpcdgdffnpaaW.PrintMore Go.Proofs.Ytcimpcdgdffnpaa.Num

theorem code_cases (p : Int) (b : Bool) (ls : List (List Int)) :
    (codeL p true ls ≠ 0 ∧ codeL p b ls = codeL p true ls) ∨ (codeL p true ls = 0 ∧ b = false ∧ codeL p b ls = 2 ∧ IsP p) ∨ (codeL p true ls = 0 ∧ b = true ∧ codeL p b ls = 0 ∧ IsP p ∧ ∀ l ∈ ls, Po p l) := by
  by_cases h : codeL p true ls = 0
  · obtain ⟨hp, _, hq⟩ := codeL_0 h
    cases b with
    | true => exact .inr (.inr ⟨h, rfl, h, hp, hq⟩)
    | false =>
      refine .inr (.inl ⟨h, rfl, ?_, hp⟩)
      have hall : ls.all (polyB p) = true := List.all_eq_true.2 fun l hl => polyB_iff.2 (hq l hl)
      simp [codeL, hall]
  · refine .inl ⟨h, ?_⟩
    unfold codeL at h ⊢
    cases ha : ls.all (polyB p) with
    | false => simp
    | true => rw [ha] at h; cases hp : primeB p <;> simp [hp] at h ⊢
theorem in_any (x a b : Int) : spec_l01In.f x a b = some (decide (a ≤ x) && decide (x ≤ b)) := by
  unfold spec_l01In.f; by_cases h : x ≥ a
  · rw [if_pos h, decide_eq_true h, Bool.true_and]
  · rw [if_neg h, decide_eq_false h, Bool.false_and]
theorem in_has {p : Int} (hp : IsP p) (x : Int) : spec_l01In.f x 0 (wrap64 (p - 1)) = some (hasB p x) := by
  rw [in_any, w64 (by have := hp.1; omega) (by have := hp.2.1; omega)]; unfold hasB; congr 2; exact decide_eq_decide.2 (by omega)
theorem in_unit {p : Int} (x : Int) : spec_l01In.f x 1 (wrap64 (p - 1)) = some (unitB p x) := in_any x _ _
theorem in_within (x a b : Int) : spec_l01In.f x a b = some (withinB x a b) := in_any x _ _
theorem _root_.Go.Proofs.Ytcimpcdgdffnpaa.Num.IsP.p2 {p : Int} (h : IsP p) : 2 ≤ p := h.1
theorem _root_.Go.Proofs.Ytcimpcdgdffnpaa.Num.IsP.pm {p : Int} (h : IsP p) : p ≤ 10007 := h.2.1
theorem _root_.Go.Proofs.Ytcimpcdgdffnpaa.Num.IsP.p0 {p : Int} (h : IsP p) : 0 < p := by have := h.1; omega

/-! ## values -/
def valL (p : Int) (f : List Int) (x : Int) : Int := f.foldr (fun c o => (o * x + c) % p) 0
theorem valL_bd {p : Int} (hp : 0 < p) (f : List Int) (x : Int) : 0 ≤ valL p f x ∧ valL p f x < p := by
  cases f with
  | nil => exact ⟨Int.le_refl _, hp⟩
  | cons c f => exact emod_bd hp
theorem hor_bd {p o x c : Int} (hp2 : p ≤ 10007) (ho : 0 ≤ o ∧ o < p) (hx : 0 ≤ x ∧ x < p) (hc : 0 ≤ c ∧ c < p) : 0 ≤ o * x ∧ o * x ≤ 1000700000 ∧ 0 ≤ o * x + c ∧ o * x + c ≤ 2000000000 := by
  have := mul_bd2 hp2 ho (y := x) (by omega); omega
theorem impl_val {p x : Int} {f : List Int} (hp : 2 ≤ p) (hp2 : p ≤ 10007) (rf : InR p f) (hx : 0 ≤ x ∧ x < p) : impl_field_value.f p f x = some (valL p f x) := by
  unfold impl_field_value.f
  rw [if_neg (by omega)]
  congr 1
  induction f with
  | nil => rfl
  | cons c f ih =>
    have hc := rf c (by simp)
    have rf' : InR p f := fun y hy => rf y (by simp [hy])
    have hb := valL_bd (p := p) (by omega) f x
    have h := hor_bd hp2 hb hx hc
    rw [List.foldr_cons, ih rf', stepv, w64 (x := valL p f x * x) (by omega) (by omega), w64 (by omega) (by omega), impl_mod (by omega) (by omega)]
    rfl
theorem spec_val {p x : Int} {f : List Int} (hp : 2 ≤ p) (hp2 : p ≤ 10007) (hf : f.length ≤ 1000) (rf : InR p f) (hx : 0 ≤ x ∧ x < p) : Ev (fun k => spec_l01At.f k p f x) (valL p f x) := by
  have loop : ∀ n, n ≤ f.length → Ev (fun k => spec_l01At.l0 k p f x (valL p (f.drop n) x) ((n : Int) - 1)) (valL p f x) := by
    intro n
    induction n with
    | zero => intro _; refine Ev.succ ?_; simp (disch := omega) only [spec_l01At.l0, if_neg, List.drop_zero]; exact Ev.now _
    | succ n ih =>
      intro hn
      have hb := valL_bd (p := p) (by omega) (f.drop (n + 1)) x
      have hc := rf.get (by omega) n
      have h := hor_bd hp2 hb hx hc
      have e : valL p (f.drop n) x = (valL p (f.drop (n + 1)) x * x + f.getD n 0) % p := by
        rw [List.drop_eq_getElem_cons (show n < f.length by omega), List.getD_eq_getElem?_getD, List.getElem?_eq_getElem (show n < f.length by omega)]
        rfl
      have hi := ih (by omega)
      rw [e] at hi
      refine Ev.succ ?_
      simp (disch := omega) only [spec_l01At.l0, ws1, if_pos, if_neg, rd_n, w64, wm1, tmod_nn]
      exact hi
  have h := loop f.length (Nat.le_refl _)
  rw [List.drop_length] at h
  simp only [spec_l01At.f, wm1 (show f.length ≤ 1000000000000 by omega)]
  exact h

/-! ## compositions -/
theorem comp_step {p c : Int} {X : List Int} (hp : 2 ≤ p) (rX : InR p X) (hc : 0 ≤ c ∧ c < p) : addL p X (trimL [c]) 1 = addL p X [1] c := by
  by_cases h0 : c = 0
  · subst h0
    cases X with
    | nil => simp [addL, trimL, tlen, ad, pad]
    | cons a X =>
      have ha := rX a (by simp)
      have e : a % p = a := Int.emod_eq_of_lt ha.1 ha.2
      simp [addL, trimL, tlen, ad, pad, e]
  · have e1 : trimL [c] = [c] := by simp [trimL, tlen, h0]
    rw [e1]
    simp [addL, ad]
theorem compOk_of {p : Int} {f g : List Int} (hp : 2 ≤ p) (hp2 : p ≤ 10007) (rf : InR p f) (rg : InR p g) (lf : f.length ≤ 25) (lg : g.length ≤ 25) : compOk p f g = true := by
  simp only [compOk, Bool.and_eq_true, decide_eq_true_eq, List.all_eq_true, hasB_iff]
  exact ⟨⟨⟨⟨⟨hp, hp2⟩, rf⟩, rg⟩, lf⟩, lg⟩
theorem impl_comp {p : Int} {f g : List Int} (hp : 2 ≤ p) (hp2 : p ≤ 10007) (rf : InR p f) (rg : InR p g) (lf : f.length ≤ 25) (lg : g.length ≤ 25) : impl_field_compose.f p f g = some (compL p f g) := by
  unfold impl_field_compose.f; rw [if_pos (compOk_of hp hp2 rf rg lf lg)]
theorem compL_inR {p : Int} (hp : 0 < p) (f g : List Int) : InR p (compL p f g) := by
  cases f with
  | nil => exact InR.nil
  | cons c f => exact addL_inR hp (mulL_inR hp _ _) _ _
theorem compL_len {p : Int} (f g : List Int) (lg : g.length ≤ 25) : (compL p f g).length ≤ 24 * f.length + 1 := by
  induction f with
  | nil => simp [compL]
  | cons c f ih =>
    have h1 := addL_len p (mulL p (compL p f g) g) [1] c
    have h2 := mulL_len p (compL p f g) g
    simp only [List.length_singleton] at h1
    show (addL p (mulL p (compL p f g) g) [1] c).length ≤ _
    simp only [List.length_cons]
    omega
theorem spec_comp {p : Int} {f g : List Int} (hp : 2 ≤ p) (hp2 : p ≤ 10007) (rf : InR p f) (rg : InR p g) (lf : f.length ≤ 25) (lg : g.length ≤ 25) : Ev (fun k => spec_l01Compose.f k p f g) (compL p f g) := by
  have loop : ∀ n, n ≤ f.length → Ev (fun k => spec_l01Compose.l0 k p f g (compL p (f.drop n) g) ((n : Int) - 1)) (compL p f g) := by
    intro n
    induction n with
    | zero => intro _; refine Ev.succ ?_; simp (disch := omega) only [spec_l01Compose.l0, if_neg, List.drop_zero]; exact Ev.now _
    | succ n ih =>
      intro hn
      have hc := rf.get (by omega) n
      have hl := compL_len (p := p) (f.drop (n + 1)) g lg
      rw [List.length_drop] at hl
      have hr := compL_inR (p := p) (by omega) (f.drop (n + 1)) g
      have hl2 := mulL_len p (compL p (f.drop (n + 1)) g) g
      have hr2 := mulL_inR (p := p) (by omega) (compL p (f.drop (n + 1)) g) g
      have e : compL p (f.drop n) g = addL p (mulL p (compL p (f.drop (n + 1)) g) g) (trimL [f.getD n 0]) 1 := by
        rw [comp_step hp hr2 hc, List.drop_eq_getElem_cons (show n < f.length by omega), List.getD_eq_getElem?_getD, List.getElem?_eq_getElem (show n < f.length by omega)]
        rfl
      have hi := ih (by omega)
      rw [e] at hi
      have h1 := spec_product hp hp2 (f := compL p (f.drop (n + 1)) g) (g := g) (by omega) (by omega) hr rg
      have h2 := spec_trim [f.getD n 0] (by simp)
      have ht := trimL_len [f.getD n 0]
      have h3 := spec_add (c := 1) (f := mulL p (compL p (f.drop (n + 1)) g) g) (g := trimL [f.getD n 0]) hp hp2 (by omega) (by simp only [List.length_singleton] at ht; omega) hr2 (InR.one hc).trim (by omega) (by omega)
      refine Ev.succ ?_
      simp (disch := omega) only [spec_l01Compose.l0, ws1, if_pos, rd_n, wm1]
      exact Ev.bind h1 (Ev.bind h2 (Ev.bind h3 hi))
  have h := loop f.length (Nat.le_refl _)
  rw [List.drop_length] at h
  simp only [spec_l01Compose.f, wm1 (show f.length ≤ 1000000000000 by omega)]
  exact h
end Go.Proofs.Ytcimpcdgdffnpaa.H

