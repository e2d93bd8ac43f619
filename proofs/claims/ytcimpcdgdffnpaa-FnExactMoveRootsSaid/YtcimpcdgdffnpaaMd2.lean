/- Joined texts of a claim: the printed functions and what is proved of them. -/
import Derived.Test.YtcimpcdgdffnpaaHx0
import Derived.Test.YtcimpcdgdffnpaaMabcdef6
import Derived.Test.YtcimpcdgdffnpaaMabcdef3
import Derived.Test.YtcimpcdgdffnpaaMabcdef2
import Derived.Test.YtcimpcdgdffnpaaMabcdef4
import Derived.Test.YtcimpcdgdffnpaaMabcdef8
-- written by wip/drive.py (the session's own program) over the translation; Lean checks it
namespace Go.Proofs.Ytcimpcdgdffnpaa.H
open Go.RowKit Go.Proofs.YtcimpcdgdffnpaaW.PrintWords Go.Proofs.YtcimpcdgdffnpaaW.PrintLast Go.Proofs.YtcimpcdgdffnpaaW.PrintMore
attribute [local go_sem] max2_int min2_int max_two min_two max_three min_three max_four min_four   -- for this text's walks alone
set_option linter.unusedVariables false
set_option linter.unusedSimpArgs false

/-! ### spec_MoveRoots: function 19 -/
mutual
def spec_MoveRoots.j0 : Nat → Int → List Int → Int → Int → Bool → Option (List Int × Int)
  | 0, _, _, _, _, _ => none
  | k + 1, x0, x1, x2, x8, x24 => if x24 = true then (spec_MoveRoots.j1 k x0 x1 x2 2) else (spec_MoveRoots.j1 k x0 x1 x2 x8)
def spec_MoveRoots.j1 : Nat → Int → List Int → Int → Int → Option (List Int × Int)
  | 0, _, _, _, _ => none
  | k + 1, x0, x1, x2, x8 => if x8 = 0 then ((spec_l01Mod.f x0 (wrap64 (-x2))).bind fun t364 => (spec_MoveRoots.l0 k x0 x1 (([] : List Int)) (([t364, 1] : List Int)) (wrap64 ((x1.length : Int) - 1)))) else (some (([] : List Int), x8))
def spec_MoveRoots.l0 : Nat → Int → List Int → List Int → List Int → Int → Option (List Int × Int)
  | 0, _, _, _, _, _ => none
  | k + 1, x0, x1, x9, x10, x11 => if x11 ≥ 0 then ((spec_l01Times.f k x0 x9 x10).bind fun t368 => (if 0 ≤ x11 then (if x11 < (x1.length : Int) then ((spec_l01Add.f k x0 t368 (([1] : List Int)) (rd x1 x11)).bind fun t375 => (spec_MoveRoots.l0 k x0 x1 t375 x10 (wrap64 (x11 - 1)))) else (none)) else (none))) else (some (x9, 0))
end
def spec_MoveRoots.f (k : Nat) (a0 : Int) (l1 : List Int) (a2 : Int) : Option (List Int × Int) := (spec_l01Code.f k a0 (([l1] : List (List Int)))).bind fun t359 => (if t359 = 0 then ((spec_l01In.f a2 0 (wrap64 (a0 - 1))).bind fun t360 => (spec_MoveRoots.j0 k a0 l1 a2 t359 (!t360))) else (spec_MoveRoots.j0 k a0 l1 a2 t359 false))
theorem spec_MoveRoots.mono_l : ∀ k, (∀ y0 y1 y2 y3 y4, LeO (spec_MoveRoots.j0 k y0 y1 y2 y3 y4) (spec_MoveRoots.j0 (k + 1) y0 y1 y2 y3 y4)) ∧ (∀ y0 y1 y2 y3, LeO (spec_MoveRoots.j1 k y0 y1 y2 y3) (spec_MoveRoots.j1 (k + 1) y0 y1 y2 y3)) ∧ (∀ y0 y1 y2 y3 y4, LeO (spec_MoveRoots.l0 k y0 y1 y2 y3 y4) (spec_MoveRoots.l0 (k + 1) y0 y1 y2 y3 y4))
  | 0 => ⟨fun _ _ _ _ _ r h => by simp [spec_MoveRoots.j0] at h, fun _ _ _ _ r h => by simp [spec_MoveRoots.j1] at h, fun _ _ _ _ _ r h => by simp [spec_MoveRoots.l0] at h⟩
  | k + 1 => by
    obtain ⟨ih0, ih1, ih2⟩ := spec_MoveRoots.mono_l k
    refine ⟨?_, ?_, ?_⟩
    · intro y0 y1 y2 y3 y4
      unfold spec_MoveRoots.j0
      repeat' first
      | (with_reducible exact ih0 _ _ _ _ _)
      | (with_reducible exact ih1 _ _ _ _)
      | (with_reducible exact ih2 _ _ _ _ _)
      | (with_reducible exact spec_l01Add.mono _ _ _ _ _)
      | (with_reducible exact spec_l01Code.mono _ _ _)
      | (with_reducible exact spec_l01Times.mono _ _ _ _)
      | (with_reducible exact LeO.refl _)
      | (with_reducible exact LeO.none _)
      | (with_reducible refine LeO.ite ?_ ?_)
      | (with_reducible refine LeO.bind ?_ (fun _ => ?_))
      | exact ih0 _ _ _ _ _
      | exact ih1 _ _ _ _
      | exact ih2 _ _ _ _ _
      | exact spec_l01Add.mono _ _ _ _ _
      | exact spec_l01Code.mono _ _ _
      | exact spec_l01Times.mono _ _ _ _
      | exact LeO.none _
      | refine LeO.ite ?_ ?_
      | refine LeO.bind ?_ (fun _ => ?_)
    · intro y0 y1 y2 y3
      unfold spec_MoveRoots.j1
      repeat' first
      | (with_reducible exact ih0 _ _ _ _ _)
      | (with_reducible exact ih1 _ _ _ _)
      | (with_reducible exact ih2 _ _ _ _ _)
      | (with_reducible exact spec_l01Add.mono _ _ _ _ _)
      | (with_reducible exact spec_l01Code.mono _ _ _)
      | (with_reducible exact spec_l01Times.mono _ _ _ _)
      | (with_reducible exact LeO.refl _)
      | (with_reducible exact LeO.none _)
      | (with_reducible refine LeO.ite ?_ ?_)
      | (with_reducible refine LeO.bind ?_ (fun _ => ?_))
      | exact ih0 _ _ _ _ _
      | exact ih1 _ _ _ _
      | exact ih2 _ _ _ _ _
      | exact spec_l01Add.mono _ _ _ _ _
      | exact spec_l01Code.mono _ _ _
      | exact spec_l01Times.mono _ _ _ _
      | exact LeO.none _
      | refine LeO.ite ?_ ?_
      | refine LeO.bind ?_ (fun _ => ?_)
    · intro y0 y1 y2 y3 y4
      unfold spec_MoveRoots.l0
      repeat' first
      | (with_reducible exact ih0 _ _ _ _ _)
      | (with_reducible exact ih1 _ _ _ _)
      | (with_reducible exact ih2 _ _ _ _ _)
      | (with_reducible exact spec_l01Add.mono _ _ _ _ _)
      | (with_reducible exact spec_l01Code.mono _ _ _)
      | (with_reducible exact spec_l01Times.mono _ _ _ _)
      | (with_reducible exact LeO.refl _)
      | (with_reducible exact LeO.none _)
      | (with_reducible refine LeO.ite ?_ ?_)
      | (with_reducible refine LeO.bind ?_ (fun _ => ?_))
      | exact ih0 _ _ _ _ _
      | exact ih1 _ _ _ _
      | exact ih2 _ _ _ _ _
      | exact spec_l01Add.mono _ _ _ _ _
      | exact spec_l01Code.mono _ _ _
      | exact spec_l01Times.mono _ _ _ _
      | exact LeO.none _
      | refine LeO.ite ?_ ?_
      | refine LeO.bind ?_ (fun _ => ?_)
theorem spec_MoveRoots.mono : ∀ a0 a1 a2 k, LeO (spec_MoveRoots.f k a0 a1 a2) (spec_MoveRoots.f (k + 1) a0 a1 a2) := by
  intro a0 a1 a2 k
  obtain ⟨ih0, ih1, ih2⟩ := spec_MoveRoots.mono_l k
  unfold spec_MoveRoots.f
  repeat' first
      | (with_reducible exact ih0 _ _ _ _ _)
      | (with_reducible exact ih1 _ _ _ _)
      | (with_reducible exact ih2 _ _ _ _ _)
      | (with_reducible exact spec_l01Add.mono _ _ _ _ _)
      | (with_reducible exact spec_l01Code.mono _ _ _)
      | (with_reducible exact spec_l01Times.mono _ _ _ _)
      | (with_reducible exact LeO.refl _)
      | (with_reducible exact LeO.none _)
      | (with_reducible refine LeO.ite ?_ ?_)
      | (with_reducible refine LeO.bind ?_ (fun _ => ?_))
      | exact ih0 _ _ _ _ _
      | exact ih1 _ _ _ _
      | exact ih2 _ _ _ _ _
      | exact spec_l01Add.mono _ _ _ _ _
      | exact spec_l01Code.mono _ _ _
      | exact spec_l01Times.mono _ _ _ _
      | exact LeO.none _
      | refine LeO.ite ?_ ?_
      | refine LeO.bind ?_ (fun _ => ?_)
def spec_MoveRoots.T10 : Bool × List (List Nat × List Nat) := (true, [([], []), ([], []), ([], []), ([], []), ([1, 2, 3], [1, 2, 3]), ([], []), ([], []), ([], []), ([6, 7], [6, 7]), ([8], [8]), ([0, 4, 5, 9, 4], [0, 4, 5, 9]), ([10, 10, 0, 1, 2, 3, 4, 5, 6, 7, 8, 9, 10], [2, 10])])
def spec_MoveRoots.B10 : List Nat := [0, 0, 0, 0, 14, 0, 0, 0, 192, 448, 1023, 2047]
theorem spec_MoveRoots.tab10 : rtab .any (opsOf Try.f19 10) = spec_MoveRoots.T10 := by kernel_rfl
theorem spec_MoveRoots.bits10 : waitsOk spec_MoveRoots.T10.2 spec_MoveRoots.B10 = true := by kernel_rfl
set_option maxHeartbeats 8000000 in
set_option maxRecDepth 100000 in
theorem spec_MoveRoots.calls (k : Nat) (a0 : Int) (P1_ : Nat → Prop) (A1 : Option Addr) (c1 : Nat) (l1 : List Int) (a2 : Int) (r1 : List Int) (r2 : Int) (w : World) (hs1 : Kd.V (Kd.int .i64) 2 w w.heap.size (fun k_ => P1_ k_) (.slice A1 l1.length c1) l1) (h : spec_MoveRoots.f k a0 l1 a2 = some (r1, r2)) :
    Calls Try.prog 19 #[.int .i64 a0, .slice A1 l1.length c1, .int .i64 a2] w fun e w' => ∃ v0_ : Value, e = .returned (.tuple #[v0_, .int .i64 r2]) ∧ Kd.R (Kd.int .i64) 2 w' w.heap.size (fun k_ => (w.heap.size ≤ k_)) v0_ r1 ∧ Below w.heap.size w w' := by
  have HO1 := Aside0.mk (show Kd.V (Kd.int .i64) 2 w w.heap.size (fun k_ => (P1_ k_ ∨ w.heap.size ≤ k_)) (.slice A1 l1.length c1) l1 from Kd.V_mono hs1 (fun k_ hk => .inl hk))
  have HB := Aside0.mk (Below.refl w.heap.size w)
  have H : ((spec_l01Code.f k a0 (([l1] : List (List Int)))).bind fun t359 => (if t359 = 0 then ((spec_l01In.f a2 0 (wrap64 (a0 - 1))).bind fun t360 => (spec_MoveRoots.j0 k a0 l1 a2 t359 (!t360))) else (spec_MoveRoots.j0 k a0 l1 a2 t359 false))) = some (r1, r2) := h
  clear h
  obtain ⟨y356, hy356⟩ : ∃ y_ : List (List Int), y_ = (([l1] : List (List Int))) := ⟨_, rfl⟩
  replace H : ((spec_l01Code.f k a0 y356).bind fun t359 => (if t359 = 0 then ((spec_l01In.f a2 0 (wrap64 (a0 - 1))).bind fun t360 => (spec_MoveRoots.j0 k a0 l1 a2 t359 (!t360))) else (spec_MoveRoots.j0 k a0 l1 a2 t359 false))) = some (r1, r2) := by first | (rw [hy356]; with_reducible exact H) | (have H2_ := (Option.bind_some _ _).symm.trans H; rw [hy356]; with_reducible exact H2_) | (have H2_ := (Option.bind_some _ _).symm.trans H; with_reducible exact H2_) | with_reducible exact H | (rw [hy356]; exact H) | exact H
  have Ny356 := Aside0.mk hy356
  clear hy356
  replace H := Option.bind_eq_some_iff.mp H
  obtain ⟨t359, A40, H⟩ := H
  have A4 := Aside0.mk A40
  clear A40
  have HC5 := Aside0.mk H
  clear H
  go_enter Try.func19, Try.ntmps19
  go_upto_region 2 with (first | ((with_reducible refine gate_dst (N := 14) rfl ?_); refine Kd.N_lit (Kd.slice 2 (Kd.int .i64)) _ 22 ?hg (N' := 14) ?hd (xs := ([l1] : List (List Int))) (inner := [.slice A1 l1.length c1]) (ok := (fun k_ => (P1_ k_ ∨ w.heap.size ≤ k_))) (okp := (fun k_ => (P1_ k_ ∨ w.heap.size ≤ k_))) ?hr ?hp (fun _ hk => hk) ((show ∀ k_, w.heap.size ≤ k_ → (fun k_ => (P1_ k_ ∨ w.heap.size ≤ k_)) k_ from fun k_ hk => (.inr (Nat.le_trans (below_size (bs HB)) hk))) _ (Nat.le_refl _)) (Below.refl _ _) (Nat.le_refl _) (by simp) ?_; (case hd => rfl); (case hg => rfl); (case hr => first | (go_simp; done) | (go_simp; rfl)); (case hp => exact (Reps.one (show Kd.FK (Kd.slice 2 (Kd.int .i64)) _ _ l1 [.slice A1 l1.length c1] from (Kd.FK_slice_mk (Kd.V_reads' (Kd.V_mono (ok' := (fun k_ => (P1_ k_ ∨ w.heap.size ≤ k_))) (HO1.out) (fun k_ hk => hk))).2.1 (Kd.V_F (Kd.V_mono (ok' := (fun k_ => (P1_ k_ ∨ w.heap.size ≤ k_))) (HO1.out) (fun k_ hk => hk))))) (Reps.none _ _))); intro v357 w6 ho7 hb hg_ hnew_; clear hg_ hnew_; (first | rw [← Ny356.out] at ho7 | (simp only [Int.reduceToNat] at ho7; rw [← Ny356.out] at ho7)); have n0_ := Aside0.mk (Kd.V_elder' (by (with_reducible repeat (first | apply Kd.V_alloc | apply Kd.V_drewN | apply Kd.V_drew)); exact HO1.out) (Kd.N_base ho7) hb); have n1_ := Aside0.mk (Kd.N_lower ho7 (below_size (bs HB))); have n2_ := Aside0.mk (below_step (bs HB) hb); clear HO1; clear HB; have HO1 := n0_; have HO358 := n1_; have HB := n2_; clear n0_ n1_ n2_; clear hb ho7; obtain ⟨Ao8, co8, eo8⟩ := Kd.N_slice HO358.out; subst eo8) | ((with_reducible refine gate_callee (f := 25) rfl ?_); refine goesM_ (some 15) rfl rfl Try.func25 #[.int .i64 a0, .slice Ao8 y356.length co8] rfl ?_; (with_reducible refine (spec_l01Code.calls k a0 _ _ y356 t359 _ ?side1 ?side2 A4.out).mono ?_); (case side1 => exact cs ((Kd.N_reads' HO358.out).2.2)); (case side2 => exact (Kd.N_reads' HO358.out).2.1); rintro e w' ⟨rfl, ⟨nd, rfl⟩⟩; refine ⟨_, rfl, ?_⟩))
  (try simp only [Act.put, List.setIfInBounds_toArray, List.set_cons_zero, List.set_cons_succ])
  go_cut [24] (fun v24 wc => ∃ (kq : Nat) (x24_4 : Bool), v24 = .bool x24_4 ∧ Aside0 (spec_MoveRoots.j0 kq a0 l1 a2 t359 x24_4 = some (r1, r2)) ∧ Aside0 (kq ≤ k) ∧ Aside0 (Kd.V (Kd.int .i64) 2 wc w.heap.size (fun k_ => (P1_ k_ ∨ w.heap.size ≤ k_)) (.slice A1 l1.length c1) l1) ∧ Aside0 (Below w.heap.size w wc))
  case first =>
    have H := HC5.out
    clear HC5
    by_cases c9 : t359 = 0
    · rw [if_pos c9] at H
      have c9b0 : (t359 == 0) = true := beq_iff_eq.mpr c9
      have c9b1 : (t359 != 0) = false := bne_eq_false_iff_eq.mpr c9
      clear c9
      (first | rw [c9b0] | (simp only [i64_w, i32_w]; rw [c9b0]) | skip)
      replace H := Option.bind_eq_some_iff.mp H
      obtain ⟨t360, A100, H⟩ := H
      have A10 := Aside0.mk A100
      clear A100
      have H' := Aside0.mk H
      clear H
      go_wp2_with (first | (go_at_call 26; (with_reducible refine (spec_l01In.calls a2 0 (wrap64 (a0 - 1)) t360 _ A10.out).mono ?_); rintro e w' ⟨rfl, ⟨nd, rfl⟩⟩))
      go_meet
      case rel => exact ⟨_, (!t360), ea_, H', ⟨by first | omega | exact Nat.le_refl _⟩, ⟨by (with_reducible repeat (first | apply Kd.V_alloc | apply Kd.V_drewN | apply Kd.V_drew)); exact Kd.V_mono HO1.out (fun _ hk => hk.1)⟩, ⟨by repeat (first | (with_reducible first | exact HB.out | apply below_alloc | apply pw_below_drewN | apply below_drew1) | exact HB.out)⟩⟩
    · rw [if_neg c9] at H
      have c9b0 : (t359 == 0) = false := beq_eq_false_iff_ne.mpr c9
      have c9b1 : (t359 != 0) = true := bne_iff_ne.mpr c9
      (first | rw [c9b0] | (simp only [i64_w, i32_w]; rw [c9b0]) | skip)
      have H' := Aside0.mk H
      clear H
      go_wp2
      go_meet
      case rel => exact ⟨_, (false), ea_, H', ⟨by first | omega | exact Nat.le_refl _⟩, ⟨by (with_reducible repeat (first | apply Kd.V_alloc | apply Kd.V_drewN | apply Kd.V_drew)); exact Kd.V_mono HO1.out (fun _ hk => hk.1)⟩, ⟨by repeat (first | (with_reducible first | exact HB.out | apply below_alloc | apply pw_below_drewN | apply below_drew1) | exact HB.out)⟩⟩
  case rest =>
    clear HC5
    try clear c1
    try clear c2
    try clear p2
    try clear p6
    try clear c9
    try clear c9b0
    try clear c9b1
    obtain ⟨kq, x24_4, rfl, HA, HJ4, HO_1, HB⟩ := hcut
    cases kq with
    | zero => exact absurd HA.out (by simp [spec_MoveRoots.j0])
    | succ kj4 =>
      have H := HA.out
      clear HA
      simp only [spec_MoveRoots.j0] at H
      have HC11 := Aside0.mk H
      clear H
      go_upto_if 24 with (fail)
      go_cut [8] (fun v8 wc => ∃ (kq : Nat) (x8_10 : Int), v8 = .int .i64 x8_10 ∧ Aside0 (spec_MoveRoots.j1 kq a0 l1 a2 x8_10 = some (r1, r2)) ∧ Aside0 (kq ≤ kj4) ∧ Aside0 (Kd.V (Kd.int .i64) 2 wc w.heap.size (fun k_ => (P1_ k_ ∨ w.heap.size ≤ k_)) (.slice A1 l1.length c1) l1) ∧ Aside0 (Below w.heap.size w wc))
      case first =>
        have H := HC11.out
        clear HC11
        by_cases c12 : x24_4 = true
        · subst c12
          have H1 : (spec_MoveRoots.j1 kj4 a0 l1 a2 2) = some (r1, r2) := by rw [if_pos rfl] at H; exact H
          clear H
          have H := H1
          clear H1
          have H' := Aside0.mk H
          clear H
          go_wp2
          go_meet
          case rel => exact ⟨_, (2), ea_, H', ⟨by have := HJ4.out; first | omega | exact Nat.le_refl _⟩, ⟨by (with_reducible repeat (first | apply Kd.V_alloc | apply Kd.V_drewN | apply Kd.V_drew)); exact HO_1.out⟩, ⟨by repeat (first | (with_reducible first | exact HB.out | apply below_alloc | apply pw_below_drewN | apply below_drew1) | exact HB.out)⟩⟩
        · replace c12 := Bool.eq_false_iff.mpr c12
          subst c12
          have H1 : (spec_MoveRoots.j1 kj4 a0 l1 a2 t359) = some (r1, r2) := by rw [if_neg (show ¬ (false = true) by decide)] at H; exact H
          clear H
          have H := H1
          clear H1
          have H' := Aside0.mk H
          clear H
          go_wp2
          go_meet
          case rel => exact ⟨_, (t359), ea_, H', ⟨by have := HJ4.out; first | omega | exact Nat.le_refl _⟩, ⟨by (with_reducible repeat (first | apply Kd.V_alloc | apply Kd.V_drewN | apply Kd.V_drew)); exact HO_1.out⟩, ⟨by repeat (first | (with_reducible first | exact HB.out | apply below_alloc | apply pw_below_drewN | apply below_drew1) | exact HB.out)⟩⟩
      case rest =>
        clear HC11
        try clear c1
        try clear c2
        try clear p2
        try clear p6
        try clear c9
        try clear c9b0
        try clear c9b1
        try clear c12
        try clear p2
        try clear p6
        obtain ⟨kq, x8_10, rfl, HA, HJ10, HO_1, HB⟩ := hcut
        cases kq with
        | zero => exact absurd HA.out (by simp [spec_MoveRoots.j1])
        | succ kj10 =>
          have H := HA.out
          clear HA
          simp only [spec_MoveRoots.j1] at H
          by_cases c13 : x8_10 = 0
          · rw [if_pos c13] at H
            have c13b0 : (x8_10 == 0) = true := beq_iff_eq.mpr c13
            have c13b1 : (x8_10 != 0) = false := bne_eq_false_iff_eq.mpr c13
            clear c13
            obtain ⟨y361, hy361⟩ : ∃ y_ : List Int, y_ = (([] : List Int)) := ⟨_, rfl⟩
            replace H : ((spec_l01Mod.f a0 (wrap64 (-a2))).bind fun t364 => (spec_MoveRoots.l0 kj10 a0 l1 y361 (([t364, 1] : List Int)) (wrap64 ((l1.length : Int) - 1)))) = some (r1, r2) := by first | (rw [hy361]; with_reducible exact H) | (have H2_ := (Option.bind_some _ _).symm.trans H; rw [hy361]; with_reducible exact H2_) | (have H2_ := (Option.bind_some _ _).symm.trans H; with_reducible exact H2_) | with_reducible exact H | (rw [hy361]; exact H) | exact H
            have Ny361 := Aside0.mk hy361
            clear hy361
            replace H := Option.bind_eq_some_iff.mp H
            obtain ⟨t364, A140, H⟩ := H
            have A14 := Aside0.mk A140
            clear A140
            obtain ⟨y365, hy365⟩ : ∃ y_ : List Int, y_ = (([t364, 1] : List Int)) := ⟨_, rfl⟩
            replace H : (spec_MoveRoots.l0 kj10 a0 l1 y361 y365 (wrap64 ((l1.length : Int) - 1))) = some (r1, r2) := by first | (rw [hy365]; with_reducible exact H) | (have H2_ := (Option.bind_some _ _).symm.trans H; rw [hy365]; with_reducible exact H2_) | (have H2_ := (Option.bind_some _ _).symm.trans H; with_reducible exact H2_) | with_reducible exact H | (rw [hy365]; exact H) | exact H
            have Ny365 := Aside0.mk hy365
            clear hy365
            have H' := Aside0.mk H
            clear H
            go_wp2_with (first | ((with_reducible refine gate_dst (N := 28) rfl ?_); refine Kd.R_lit (Kd.int .i64) _ 2 ?hg (N := 28) ?hd (xs := ([] : List Int)) (inner := []) (ok := fun _ => True) (okp := fun _ => True) ?hr ?hp (fun _ hk => hk) trivial (Below.refl _ _) (Nat.le_refl _) (by simp) ?_; (case hd => rfl); (case hg => rfl); (case hr => first | (go_simp; done) | (go_simp; rfl)); (case hp => exact (Reps.none _ _)); intro v362 w15 ho16 hb hg_ hnew_; clear hg_ hnew_; (first | rw [← Ny361.out] at ho16 | (simp only [Int.reduceToNat] at ho16; rw [← Ny361.out] at ho16)); have n0_ := Aside0.mk (Kd.V_elder' (by (with_reducible repeat (first | apply Kd.V_alloc | apply Kd.V_drewN | apply Kd.V_drew)); exact HO_1.out) (Kd.R_base ho16) hb); have n1_ := Aside0.mk (Kd.R_lower (Kd.R_newM (M := fun k_ => (w.heap.size ≤ k_)) ho16 (below_size (bs HB)) (fun k_ h_ => h_)) (below_size (bs HB))); have n2_ := Aside0.mk (below_step (bs HB) hb); clear HO_1; clear HB; have HO_1 := n0_; have HO363 := n1_; have HB := n2_; clear n0_ n1_ n2_; clear hb ho16) | ((with_reducible refine gate_callee (f := 37) rfl ?_); refine goesM_ (some 32) rfl rfl Try.func37 #[.int .i64 a0, .int .i64 (wrap64 (-a2))] rfl ?_; (with_reducible refine (spec_l01Mod.calls a0 (wrap64 (-a2)) t364 _ A14.out).mono ?_); rintro e w' ⟨rfl, ⟨nd, rfl⟩⟩; refine ⟨_, rfl, ?_⟩) | ((with_reducible refine gate_dst (N := 33) rfl ?_); refine Kd.R_lit (Kd.int .i64) _ 2 ?hg (N := 33) ?hd (xs := ([t364, 1] : List Int)) (inner := [.int .i64 t364, .int .i64 1]) (ok := fun _ => True) (okp := fun _ => True) ?hr ?hp (fun _ hk => hk) trivial (Below.refl _ _) (Nat.le_refl _) (by simp) ?_; (case hd => rfl); (case hg => rfl); (case hr => first | (go_simp; done) | (go_simp; rfl)); (case hp => exact (Reps.one (show Kd.M (Kd.int .i64) _ _ _ t364 [.int .i64 t364] from rfl) (Reps.one (show Kd.M (Kd.int .i64) _ _ _ 1 [.int .i64 1] from rfl) (Reps.none _ _)))); intro v366 w17 ho18 hb hg_ hnew_; clear hg_ hnew_; (first | rw [← Ny365.out] at ho18 | (simp only [Int.reduceToNat] at ho18; rw [← Ny365.out] at ho18)); have n0_ := Aside0.mk (Kd.V_elder' (by (with_reducible repeat (first | apply Kd.V_alloc | apply Kd.V_drewN | apply Kd.V_drew)); exact HO_1.out) (Kd.R_base ho18) hb); have n1_ := Aside0.mk (Kd.R_elder' (rs HO363) (Kd.R_base ho18) hb); have n2_ := Aside0.mk (Kd.R_lower (Kd.R_new' (Kd.R_newM (M := fun k_ => (w.heap.size ≤ k_)) ho18 (below_size (bs HB)) (fun k_ h_ => h_)) (Kd.R_lt (rs HO363))) (below_size (bs HB))); have n3_ := Aside0.mk (below_step (bs HB) hb); clear HO_1; clear HO363; clear HB; have HO_1 := n0_; have HO363 := n1_; have HO367 := n2_; have HB := n3_; clear n0_ n1_ n2_ n3_; clear hb ho18))
            go_loopg [9, 11] kj10 (fun kq v9 v11 w' => ∃ (x9_3 : List Int) (x11_3 : Int), v11 = .int .i64 x11_3 ∧ Aside0 (spec_MoveRoots.l0 kq a0 l1 x9_3 y365 x11_3 = some (r1, r2)) ∧ Aside0 (kq ≤ kj10) ∧ Aside0 (Kd.V (Kd.int .i64) 2 w' w.heap.size (fun k_ => (P1_ k_ ∨ w.heap.size ≤ k_) ∧ some k_ ≠ (v9 : Value).ownBlock ∧ some k_ ≠ (v366 : Value).ownBlock) (.slice A1 l1.length c1) l1) ∧ Aside0 (Kd.R (Kd.int .i64) 2 w' w.heap.size (fun k_ => (w.heap.size ≤ k_) ∧ some k_ ≠ (v366 : Value).ownBlock) v9 x9_3) ∧ Aside0 (Kd.R (Kd.int .i64) 2 w' w.heap.size (fun k_ => (w.heap.size ≤ k_) ∧ some k_ ≠ (v9 : Value).ownBlock) v366 y365) ∧ Aside0 (Below w.heap.size w w'))
            case atStart => exact ⟨(y361), (wrap64 ((l1.length : Int) - 1)), ea_, H', ⟨Nat.le_refl _⟩, ⟨by (with_reducible repeat (first | apply Kd.V_alloc | apply Kd.V_drewN | apply Kd.V_drew)); exact Kd.V_mono HO_1.out (fun _ hk => ⟨hk.1.1, ⟨hk.1.2, hk.2⟩⟩)⟩, ⟨by (with_reducible repeat (first | apply Kd.R_alloc | apply Kd.R_drewN | apply Kd.R_drew)); exact Kd.R_mono HO363.out (fun _ hk => ⟨hk.1.1, hk.2⟩)⟩, ⟨by (with_reducible repeat (first | apply Kd.R_alloc | apply Kd.R_drewN | apply Kd.R_drew)); exact Kd.R_mono HO367.out (fun _ hk => ⟨hk.1.1, hk.2⟩)⟩, ⟨by repeat (first | (with_reducible first | exact HB.out | apply below_alloc | apply pw_below_drewN | apply below_drew1) | exact HB.out)⟩⟩
            case round =>
              clear H'
              try clear c1
              try clear c2
              try clear p2
              try clear c3
              try clear p6
              try clear c9
              try clear c9b0
              try clear c9b1
              try clear c12
              try clear c13
              try clear c13b0
              try clear c13b1
              try clear p2
              try clear p6
              obtain ⟨x9_3, x11_3, rfl, HA, HK3, HO_1, HO_9, HO_10, HB⟩ := hrel
              cases gk with
              | zero => exact absurd HA.out (by simp [spec_MoveRoots.l0])
              | succ k3 =>
                have H := HA.out
                clear HA
                simp only [spec_MoveRoots.l0] at H
                by_cases c19 : x11_3 ≥ 0
                · rw [if_pos c19] at H
                  have c19b0 : decide (0 ≤ x11_3) = true := decide_eq_true c19
                  clear c19
                  replace H := Option.bind_eq_some_iff.mp H
                  obtain ⟨t368, A200, H⟩ := H
                  have A20 := Aside0.mk A200
                  clear A200
                  obtain ⟨y371, hy371⟩ : ∃ y_ : List Int, y_ = (([1] : List Int)) := ⟨_, rfl⟩
                  replace H : (if 0 ≤ x11_3 then (if x11_3 < (l1.length : Int) then ((spec_l01Add.f k3 a0 t368 y371 (rd l1 x11_3)).bind fun t375 => (spec_MoveRoots.l0 k3 a0 l1 t375 y365 (wrap64 (x11_3 - 1)))) else (none)) else (none)) = some (r1, r2) := by first | (rw [hy371]; with_reducible exact H) | (have H2_ := (Option.bind_some _ _).symm.trans H; rw [hy371]; with_reducible exact H2_) | (have H2_ := (Option.bind_some _ _).symm.trans H; with_reducible exact H2_) | with_reducible exact H | (rw [hy371]; exact H) | exact H
                  have Ny371 := Aside0.mk hy371
                  clear hy371
                  by_cases c21 : 0 ≤ x11_3
                  · rw [if_pos c21] at H
                    have c21b0 : decide (0 ≤ x11_3) = true := decide_eq_true c21
                    clear c21
                    by_cases c22 : x11_3 < (l1.length : Int)
                    · rw [if_pos c22] at H
                      have c22b0 : decide (x11_3 < (l1.length : Int)) = true := decide_eq_true c22
                      clear c22
                      replace H := Option.bind_eq_some_iff.mp H
                      obtain ⟨t375, A230, H⟩ := H
                      have A23 := Aside0.mk A230
                      clear A230
                      have H' := Aside0.mk H
                      clear H
                      obtain ⟨Ao24, co24, eo24⟩ := Kd.R_slice HO_9.out
                      subst eo24
                      obtain ⟨Ao25, co25, eo25⟩ := Kd.R_slice HO_10.out
                      subst eo25
                      try go_wp2
                      have n0_ := Aside0.mk (Kd.V_drew HO_1.out)
                      have n1_ := Aside0.mk (Kd.R_drew HO_9.out)
                      have n2_ := Aside0.mk (Kd.R_drew HO_10.out)
                      have n3_ := Aside0.mk (below_drew1 HB.out)
                      clear HO_1
                      clear HO_9
                      clear HO_10
                      clear HB
                      have HO_1 := n0_
                      have HO_9 := n1_
                      have HO_10 := n2_
                      have HB := n3_
                      clear n0_ n1_ n2_ n3_
                      have p374 : 0 ≤ (x11_3 : Int) := of_decide_eq_true (by first | (with_reducible assumption) | assumption)
                      have q374 : x11_3 < (l1.length : Int) := of_decide_eq_true (by first | (with_reducible assumption) | assumption)
                      obtain ⟨ad374, e374, hx374_0⟩ := Kd.at_int (Kd.V_reads' HO_1.out).2.2 x11_3 p374 q374
                      cases e374
                      replace p374 := eq_true p374
                      replace q374 := eq_true q374
                      refine start_ (n := 12) (S := fun w' => w'.cell? (ad374.add (x11_3).toNat) = some (.int .i64 (rd l1 x11_3))) (ds := []) #[false, false, false, false, false, false, false, false, false, false, false, false] (by kernel_rfl) rfl rfl (hx374_0) (fun hHeld => ?_); refine with_tabW spec_MoveRoots.tab10 spec_MoveRoots.bits10 (fun HT_ HW_ => ?_)
                      generalize wr.drew = w26 at HO_1 HO_9 HO_10 HB hx374_0 hHeld ⊢
                      refine pure_ (i := 0) (N := some 41) (v := ?_) (a' := ?_) #[true, false, false, false, false, false, false, false, false, false, false, false] rfl rfl (any_of HT_.out (by kernel_rfl)) (fun _ _ _ h => h) (Or.inl ⟨by rfl, ?_⟩) ?_ ?_
                      rotate_left
                      · intro w'
                        go_simp
                        with_reducible rfl
                      rotate_left
                      · simp only [Act.put, List.setIfInBounds_toArray, List.set_cons_zero, List.set_cons_succ, i64_w, i32_w]
                        rfl
                      refine pure_ (i := 1) (N := some 42) (v := ?_) (a' := ?_) #[true, true, false, false, false, false, false, false, false, false, false, false] rfl rfl (any_of HT_.out (by kernel_rfl)) (fun _ _ _ h => h) (Or.inl ⟨by rfl, ?_⟩) ?_ ?_
                      rotate_left
                      · intro w'
                        go_simp
                        with_reducible rfl
                      rotate_left
                      · simp only [Act.put, List.setIfInBounds_toArray, List.set_cons_zero, List.set_cons_succ, i64_w, i32_w]
                        rfl
                      refine pure_ (i := 2) (N := some 43) (v := ?_) (a' := ?_) #[true, true, true, false, false, false, false, false, false, false, false, false] rfl rfl (any_of HT_.out (by kernel_rfl)) (fun _ _ _ h => h) (Or.inl ⟨by rfl, ?_⟩) ?_ ?_
                      rotate_left
                      · intro w'
                        go_simp
                        with_reducible rfl
                      rotate_left
                      · simp only [Act.put, List.setIfInBounds_toArray, List.set_cons_zero, List.set_cons_succ, i64_w, i32_w]
                        rfl
                      refine pure_ (i := 3) (N := some 44) (v := ?_) (a' := ?_) #[true, true, true, true, false, false, false, false, false, false, false, false] rfl rfl (any_of HT_.out (by kernel_rfl)) (fun _ _ _ h => h) (Or.inl ⟨by rfl, ?_⟩) ?_ ?_
                      rotate_left
                      · intro w'
                        go_simp
                        with_reducible rfl
                      rotate_left
                      · simp only [Act.put, List.setIfInBounds_toArray, List.set_cons_zero, List.set_cons_succ, i64_w, i32_w]
                        rfl
                      refine pure_ (i := 6) (N := some 47) (v := ?_) (a' := ?_) #[true, true, true, true, false, false, true, false, false, false, false, false] rfl rfl (any_of HT_.out (by kernel_rfl)) (fun _ _ _ h => h) (Or.inl ⟨by rfl, ?_⟩) ?_ ?_
                      rotate_left
                      · intro w'
                        go_simp
                        with_reducible rfl
                      rotate_left
                      · simp only [Act.put, List.setIfInBounds_toArray, List.set_cons_zero, List.set_cons_succ, i64_w, i32_w]
                        rfl
                      refine pure_ (i := 7) (N := some 48) (v := ?_) (a' := ?_) #[true, true, true, true, false, false, true, true, false, false, false, false] rfl rfl (any_of HT_.out (by kernel_rfl)) (fun _ _ _ h => h) (Or.inl ⟨by rfl, ?_⟩) ?_ ?_
                      rotate_left
                      · intro w'
                        go_simp
                        with_reducible rfl
                      rotate_left
                      · simp only [Act.put, List.setIfInBounds_toArray, List.set_cons_zero, List.set_cons_succ, i64_w, i32_w]
                        rfl
                      refine pure_ (i := 8) (N := some 49) (v := ?_) (a' := ?_) #[true, true, true, true, false, false, true, true, true, false, false, false] rfl rfl (any_of HT_.out (by kernel_rfl)) (fun _ _ _ h => h) (Or.inl ⟨by rfl, ?_⟩) ?_ ?_
                      rotate_left
                      · intro w'
                        go_simp
                        with_reducible rfl
                      rotate_left
                      · simp only [Act.put, List.setIfInBounds_toArray, List.set_cons_zero, List.set_cons_succ, i64_w, i32_w]
                        rfl
                      refine take_ (i := 9) (N := some 50) (v := ?_) (a' := ?_) #[true, true, true, true, false, false, true, true, true, true, false, false] rfl rfl (take_ofW HT_.out HW_.out (by kernel_rfl)) (fun _ _ _ h => h) (Or.inl ⟨by rfl, ?_⟩) hHeld ?_ ?_
                      rotate_left
                      · intro w' s0
                        go_simp
                        with_reducible rfl
                      rotate_left
                      · simp only [Act.put, List.setIfInBounds_toArray, List.set_cons_zero, List.set_cons_succ, i64_w, i32_w]
                        rfl
                      refine join_ (σ := Value × Value) 2 #[true, true, true, true, true, true, true, true, true, true, false, false] (fun s_ => [(45, s_.1), (46, s_.2)]) (fun s_ w' => (w'.cell? (ad374.add (x11_3).toNat) = some (.int .i64 (rd l1 x11_3))) ∧ (Kd.R (Kd.int .i64) 2 w' w.heap.size (fun k_ => (w.heap.size ≤ k_) ∧ some k_ ≠ (s_.2 : Value).ownBlock ∧ some k_ ≠ (.slice Ao25 y365.length co25 : Value).ownBlock ∧ some k_ ≠ (.slice Ao24 x9_3.length co24 : Value).ownBlock) s_.1 t368) ∧ (Kd.R (Kd.int .i64) 2 w' w.heap.size (fun k_ => (w.heap.size ≤ k_) ∧ some k_ ≠ (s_.1 : Value).ownBlock ∧ some k_ ≠ (.slice Ao25 y365.length co25 : Value).ownBlock ∧ some k_ ≠ (.slice Ao24 x9_3.length co24 : Value).ownBlock) s_.2 y371) ∧ (Kd.V (Kd.int .i64) 2 w' w.heap.size (fun k_ => (P1_ k_ ∨ w.heap.size ≤ k_) ∧ some k_ ≠ (s_.1 : Value).ownBlock ∧ some k_ ≠ (s_.2 : Value).ownBlock ∧ some k_ ≠ (.slice Ao25 y365.length co25 : Value).ownBlock ∧ some k_ ≠ (.slice Ao24 x9_3.length co24 : Value).ownBlock) (.slice (some ad374) l1.length c1) l1) ∧ (Kd.R (Kd.int .i64) 2 w' w.heap.size (fun k_ => (w.heap.size ≤ k_) ∧ some k_ ≠ (s_.1 : Value).ownBlock ∧ some k_ ≠ (s_.2 : Value).ownBlock ∧ some k_ ≠ (.slice Ao24 x9_3.length co24 : Value).ownBlock) (.slice Ao25 y365.length co25) y365) ∧ (Kd.R (Kd.int .i64) 2 w' w.heap.size (fun k_ => (w.heap.size ≤ k_) ∧ some k_ ≠ (s_.1 : Value).ownBlock ∧ some k_ ≠ (s_.2 : Value).ownBlock ∧ some k_ ≠ (.slice Ao25 y365.length co25 : Value).ownBlock) (.slice Ao24 x9_3.length co24) x9_3) ∧ (Below w.heap.size w w')) ?_ ?_
                      rotate_left
                      · intro hCont
                        refine two_ (i := 4) (j := 5) (Ni := some 45) (Nj := some 46) #[true, true, true, true, true, false, true, true, true, true, false, false] #[true, true, true, true, false, true, true, true, true, true, false, false] rfl rfl rfl rfl (two_of HT_.out (by kernel_rfl)) (by decide) (by decide) (fun K hK => ?_) (fun K hK => ?_)
                        · skip
                          refine goes_ Try.func39 (by kernel_rfl) rfl #[.int .i64 a0, .slice Ao24 x9_3.length co24, .slice Ao25 y365.length co25] (by rfl) rfl rfl (by (try simp only [List.map_toArray, List.map_cons, List.map_nil]); first | done | rfl | (simp only [List.length_drop, List.length_take]; rfl)) ?_
                          with_reducible refine (spec_l01Times.calls k3 a0 _ _ x9_3 _ _ y365 t368 _ ?side1 ?side2 ?side3 ?side4 A20.out).mono ?_
                          (case side1 => exact cs ((Kd.R_reads' HO_9.out).2.2))
                          (case side2 => exact (Kd.R_reads' HO_9.out).2.1)
                          (case side3 => exact cs ((Kd.R_reads' HO_10.out).2.2))
                          (case side4 => exact (Kd.R_reads' HO_10.out).2.1)
                          rintro e w27 ⟨v369, rfl, ho0, hb⟩
                          have HS0_ := (hb.cell (World.block_lt_of_cell? _ _ (hHeld))).trans (hHeld)
                          refine ⟨_, rfl, ?_⟩
                          have n0_ := Aside0.mk (Kd.V_elder' (by (with_reducible repeat (first | apply Kd.V_alloc | apply Kd.V_drewN | apply Kd.V_drew)); exact HO_1.out) (Kd.R_base ho0) hb)
                          have n1_ := Aside0.mk (Kd.R_elder' (rs HO_9) (Kd.R_base ho0) hb)
                          have n2_ := Aside0.mk (Kd.R_elder' (rs HO_10) (Kd.R_base ho0) hb)
                          have n3_ := Aside0.mk (Kd.R_lower (Kd.R_new' (Kd.R_new' (Kd.R_newM (M := fun k_ => (w.heap.size ≤ k_)) ho0 (below_size (bs HB)) (fun k_ h_ => h_)) (Kd.R_lt (rs HO_9))) (Kd.R_lt (rs HO_10))) (below_size (bs HB)))
                          have n4_ := Aside0.mk (below_step (bs HB) hb)
                          clear HO_1
                          clear HO_9
                          clear HO_10
                          clear HB
                          have HO_1 := n0_
                          have HO_9 := n1_
                          have HO_10 := n2_
                          have HO370 := n3_
                          have HB := n4_
                          clear n0_ n1_ n2_ n3_ n4_
                          (try clear hb)
                          (try clear hb2)
                          (try clear hk)
                          (try clear hi)
                          (try clear ho0)
                          refine hK.out _ _ (HS0_) (fun hHeld => ?_)
                          clear hK K
                          refine norm_ (a' := ?_) ?_ ?_
                          rotate_left
                          · show Act.put _ (some 45) _ = _
                            simp only [Act.put, List.setIfInBounds_toArray, List.set_cons_zero, List.set_cons_succ, i64_w, i32_w]
                            rfl
                          refine one_ (i := 5) (N := some 46) #[true, true, true, true, true, true, true, true, true, true, false, false] rfl rfl (one_of HT_.out (by kernel_rfl)) (by decide) (fun K hK => ?_)
                          refine Kd.R_lit_step (Kd.int .i64) _ 2 ?hg (N := 46) ?hd (xs := ([1] : List Int)) (inner := [.int .i64 1]) (ok := fun _ => True) (okp := fun _ => True) ?hr ?hp (fun _ hk => hk) trivial (Below.refl _ _) (Nat.le_refl _) (by simp) ?_; (case hd => rfl); (case hg => rfl); (case hr => first | (go_simp; done) | (go_simp; rfl)); (case hp => exact (Reps.one (show Kd.M (Kd.int .i64) _ _ _ 1 [.int .i64 1] from rfl) (Reps.none _ _)))
                          intro v372 w28 ho29 hb hg_ hnew_
                          have HS0_ := (hb.cell (World.block_lt_of_cell? _ _ (hHeld))).trans (hHeld)
                          clear hg_ hnew_
                          (first | rw [← Ny371.out] at ho29 | (simp only [Int.reduceToNat] at ho29; rw [← Ny371.out] at ho29))
                          have n0_ := Aside0.mk (Kd.V_elder' (by (with_reducible repeat (first | apply Kd.V_alloc | apply Kd.V_drewN | apply Kd.V_drew)); exact HO_1.out) (Kd.R_base ho29) hb)
                          have n1_ := Aside0.mk (Kd.R_elder' (rs HO_9) (Kd.R_base ho29) hb)
                          have n2_ := Aside0.mk (Kd.R_elder' (rs HO_10) (Kd.R_base ho29) hb)
                          have n3_ := Aside0.mk (Kd.R_elder' (rs HO370) (Kd.R_base ho29) hb)
                          have n4_ := Aside0.mk (Kd.R_lower (Kd.R_new' (Kd.R_new' (Kd.R_new' (Kd.R_newM (M := fun k_ => (w.heap.size ≤ k_)) ho29 (below_size (bs HB)) (fun k_ h_ => h_)) (Kd.R_lt (rs HO_9))) (Kd.R_lt (rs HO_10))) (Kd.R_lt (rs HO370))) (below_size (bs HB)))
                          have n5_ := Aside0.mk (below_step (bs HB) hb)
                          clear HO_1
                          clear HO_9
                          clear HO_10
                          clear HO370
                          clear HB
                          have HO_1 := n0_
                          have HO_9 := n1_
                          have HO_10 := n2_
                          have HO370 := n3_
                          have HO373 := n4_
                          have HB := n5_
                          clear n0_ n1_ n2_ n3_ n4_ n5_
                          clear hb ho29
                          refine hK.out _ _ (HS0_) (fun hHeld => ?_)
                          clear hK K
                          refine norm_ (a' := ?_) ?_ ?_
                          rotate_left
                          · show Act.put _ (some 46) _ = _
                            simp only [Act.put, List.setIfInBounds_toArray, List.set_cons_zero, List.set_cons_succ, i64_w, i32_w]
                            rfl
                          exact norm_ (by simp only [putAll, Act.put, List.setIfInBounds_toArray, List.set_cons_zero, List.set_cons_succ]) (hCont (v369, v372) _ ⟨hHeld, (by (with_reducible repeat (first | apply Kd.R_alloc | apply Kd.R_drewN | apply Kd.R_drew)); exact Kd.R_mono HO370.out (fun _ hk => ⟨hk.1.1.1.1, ⟨hk.2, ⟨hk.1.2, hk.1.1.2⟩⟩⟩)), (by (with_reducible repeat (first | apply Kd.R_alloc | apply Kd.R_drewN | apply Kd.R_drew)); exact Kd.R_mono HO373.out (fun _ hk => ⟨hk.1.1.1.1, ⟨hk.2, ⟨hk.1.2, hk.1.1.2⟩⟩⟩)), (by (with_reducible repeat (first | apply Kd.V_alloc | apply Kd.V_drewN | apply Kd.V_drew)); exact Kd.V_mono HO_1.out (fun _ hk => ⟨hk.1.1.1, ⟨hk.1.2, ⟨hk.2, ⟨hk.1.1.2.2, hk.1.1.2.1⟩⟩⟩⟩)), (by (with_reducible repeat (first | apply Kd.R_alloc | apply Kd.R_drewN | apply Kd.R_drew)); exact Kd.R_mono HO_10.out (fun _ hk => ⟨hk.1.1.1, ⟨hk.1.2, ⟨hk.2, hk.1.1.2⟩⟩⟩)), (by (with_reducible repeat (first | apply Kd.R_alloc | apply Kd.R_drewN | apply Kd.R_drew)); exact Kd.R_mono HO_9.out (fun _ hk => ⟨hk.1.1.1, ⟨hk.1.2, ⟨hk.2, hk.1.1.2⟩⟩⟩)), (bs HB)⟩)
                        · skip
                          refine Kd.R_lit_step (Kd.int .i64) _ 2 ?hg (N := 46) ?hd (xs := ([1] : List Int)) (inner := [.int .i64 1]) (ok := fun _ => True) (okp := fun _ => True) ?hr ?hp (fun _ hk => hk) trivial (Below.refl _ _) (Nat.le_refl _) (by simp) ?_; (case hd => rfl); (case hg => rfl); (case hr => first | (go_simp; done) | (go_simp; rfl)); (case hp => exact (Reps.one (show Kd.M (Kd.int .i64) _ _ _ 1 [.int .i64 1] from rfl) (Reps.none _ _)))
                          intro v372 w27 ho28 hb hg_ hnew_
                          have HS0_ := (hb.cell (World.block_lt_of_cell? _ _ (hHeld))).trans (hHeld)
                          clear hg_ hnew_
                          (first | rw [← Ny371.out] at ho28 | (simp only [Int.reduceToNat] at ho28; rw [← Ny371.out] at ho28))
                          have n0_ := Aside0.mk (Kd.V_elder' (by (with_reducible repeat (first | apply Kd.V_alloc | apply Kd.V_drewN | apply Kd.V_drew)); exact HO_1.out) (Kd.R_base ho28) hb)
                          have n1_ := Aside0.mk (Kd.R_elder' (rs HO_9) (Kd.R_base ho28) hb)
                          have n2_ := Aside0.mk (Kd.R_elder' (rs HO_10) (Kd.R_base ho28) hb)
                          have n3_ := Aside0.mk (Kd.R_lower (Kd.R_new' (Kd.R_new' (Kd.R_newM (M := fun k_ => (w.heap.size ≤ k_)) ho28 (below_size (bs HB)) (fun k_ h_ => h_)) (Kd.R_lt (rs HO_9))) (Kd.R_lt (rs HO_10))) (below_size (bs HB)))
                          have n4_ := Aside0.mk (below_step (bs HB) hb)
                          clear HO_1
                          clear HO_9
                          clear HO_10
                          clear HB
                          have HO_1 := n0_
                          have HO_9 := n1_
                          have HO_10 := n2_
                          have HO373 := n3_
                          have HB := n4_
                          clear n0_ n1_ n2_ n3_ n4_
                          clear hb ho28
                          refine hK.out _ _ (HS0_) (fun hHeld => ?_)
                          clear hK K
                          refine norm_ (a' := ?_) ?_ ?_
                          rotate_left
                          · show Act.put _ (some 46) _ = _
                            simp only [Act.put, List.setIfInBounds_toArray, List.set_cons_zero, List.set_cons_succ, i64_w, i32_w]
                            rfl
                          refine one_ (i := 4) (N := some 45) #[true, true, true, true, true, true, true, true, true, true, false, false] rfl rfl (one_of HT_.out (by kernel_rfl)) (by decide) (fun K hK => ?_)
                          refine goes_ Try.func39 (by kernel_rfl) rfl #[.int .i64 a0, .slice Ao24 x9_3.length co24, .slice Ao25 y365.length co25] (by rfl) rfl rfl (by (try simp only [List.map_toArray, List.map_cons, List.map_nil]); first | done | rfl | (simp only [List.length_drop, List.length_take]; rfl)) ?_
                          with_reducible refine (spec_l01Times.calls k3 a0 _ _ x9_3 _ _ y365 t368 _ ?side1 ?side2 ?side3 ?side4 A20.out).mono ?_
                          (case side1 => exact cs ((Kd.R_reads' HO_9.out).2.2))
                          (case side2 => exact (Kd.R_reads' HO_9.out).2.1)
                          (case side3 => exact cs ((Kd.R_reads' HO_10.out).2.2))
                          (case side4 => exact (Kd.R_reads' HO_10.out).2.1)
                          rintro e w29 ⟨v369, rfl, ho0, hb⟩
                          have HS0_ := (hb.cell (World.block_lt_of_cell? _ _ (hHeld))).trans (hHeld)
                          refine ⟨_, rfl, ?_⟩
                          have n0_ := Aside0.mk (Kd.V_elder' (by (with_reducible repeat (first | apply Kd.V_alloc | apply Kd.V_drewN | apply Kd.V_drew)); exact HO_1.out) (Kd.R_base ho0) hb)
                          have n1_ := Aside0.mk (Kd.R_elder' (rs HO_9) (Kd.R_base ho0) hb)
                          have n2_ := Aside0.mk (Kd.R_elder' (rs HO_10) (Kd.R_base ho0) hb)
                          have n3_ := Aside0.mk (Kd.R_elder' (rs HO373) (Kd.R_base ho0) hb)
                          have n4_ := Aside0.mk (Kd.R_lower (Kd.R_new' (Kd.R_new' (Kd.R_new' (Kd.R_newM (M := fun k_ => (w.heap.size ≤ k_)) ho0 (below_size (bs HB)) (fun k_ h_ => h_)) (Kd.R_lt (rs HO_9))) (Kd.R_lt (rs HO_10))) (Kd.R_lt (rs HO373))) (below_size (bs HB)))
                          have n5_ := Aside0.mk (below_step (bs HB) hb)
                          clear HO_1
                          clear HO_9
                          clear HO_10
                          clear HO373
                          clear HB
                          have HO_1 := n0_
                          have HO_9 := n1_
                          have HO_10 := n2_
                          have HO373 := n3_
                          have HO370 := n4_
                          have HB := n5_
                          clear n0_ n1_ n2_ n3_ n4_ n5_
                          (try clear hb)
                          (try clear hb2)
                          (try clear hk)
                          (try clear hi)
                          (try clear ho0)
                          refine hK.out _ _ (HS0_) (fun hHeld => ?_)
                          clear hK K
                          refine norm_ (a' := ?_) ?_ ?_
                          rotate_left
                          · show Act.put _ (some 45) _ = _
                            simp only [Act.put, List.setIfInBounds_toArray, List.set_cons_zero, List.set_cons_succ, i64_w, i32_w]
                            rfl
                          exact norm_ (by simp only [putAll, Act.put, List.setIfInBounds_toArray, List.set_cons_zero, List.set_cons_succ]) (hCont (v369, v372) _ ⟨hHeld, (by (with_reducible repeat (first | apply Kd.R_alloc | apply Kd.R_drewN | apply Kd.R_drew)); exact Kd.R_mono HO370.out (fun _ hk => ⟨hk.1.1.1.1, ⟨hk.2, ⟨hk.1.2, hk.1.1.2⟩⟩⟩)), (by (with_reducible repeat (first | apply Kd.R_alloc | apply Kd.R_drewN | apply Kd.R_drew)); exact Kd.R_mono HO373.out (fun _ hk => ⟨hk.1.1.1.1, ⟨hk.2, ⟨hk.1.2, hk.1.1.2⟩⟩⟩)), (by (with_reducible repeat (first | apply Kd.V_alloc | apply Kd.V_drewN | apply Kd.V_drew)); exact Kd.V_mono HO_1.out (fun _ hk => ⟨hk.1.1.1, ⟨hk.2, ⟨hk.1.2, ⟨hk.1.1.2.2, hk.1.1.2.1⟩⟩⟩⟩)), (by (with_reducible repeat (first | apply Kd.R_alloc | apply Kd.R_drewN | apply Kd.R_drew)); exact Kd.R_mono HO_10.out (fun _ hk => ⟨hk.1.1.1, ⟨hk.2, ⟨hk.1.2, hk.1.1.2⟩⟩⟩)), (by (with_reducible repeat (first | apply Kd.R_alloc | apply Kd.R_drewN | apply Kd.R_drew)); exact Kd.R_mono HO_9.out (fun _ hk => ⟨hk.1.1.1, ⟨hk.2, ⟨hk.1.2, hk.1.1.2⟩⟩⟩)), (bs HB)⟩)
                      rintro ⟨v369, v372⟩ w30 ⟨hS_, h0_, h1_, h2_, h3_, h4_, h5_⟩
                      have n0_ : Aside0 (Kd.R (Kd.int .i64) 2 w30 w.heap.size (fun k_ => (w.heap.size ≤ k_) ∧ some k_ ≠ (v372 : Value).ownBlock ∧ some k_ ≠ (.slice Ao25 y365.length co25 : Value).ownBlock ∧ some k_ ≠ (.slice Ao24 x9_3.length co24 : Value).ownBlock) v369 t368) := ⟨h0_⟩
                      have n1_ : Aside0 (Kd.R (Kd.int .i64) 2 w30 w.heap.size (fun k_ => (w.heap.size ≤ k_) ∧ some k_ ≠ (v369 : Value).ownBlock ∧ some k_ ≠ (.slice Ao25 y365.length co25 : Value).ownBlock ∧ some k_ ≠ (.slice Ao24 x9_3.length co24 : Value).ownBlock) v372 y371) := ⟨h1_⟩
                      have n2_ : Aside0 (Kd.V (Kd.int .i64) 2 w30 w.heap.size (fun k_ => (P1_ k_ ∨ w.heap.size ≤ k_) ∧ some k_ ≠ (v369 : Value).ownBlock ∧ some k_ ≠ (v372 : Value).ownBlock ∧ some k_ ≠ (.slice Ao25 y365.length co25 : Value).ownBlock ∧ some k_ ≠ (.slice Ao24 x9_3.length co24 : Value).ownBlock) (.slice (some ad374) l1.length c1) l1) := ⟨h2_⟩
                      have n3_ : Aside0 (Kd.R (Kd.int .i64) 2 w30 w.heap.size (fun k_ => (w.heap.size ≤ k_) ∧ some k_ ≠ (v369 : Value).ownBlock ∧ some k_ ≠ (v372 : Value).ownBlock ∧ some k_ ≠ (.slice Ao24 x9_3.length co24 : Value).ownBlock) (.slice Ao25 y365.length co25) y365) := ⟨h3_⟩
                      have n4_ : Aside0 (Kd.R (Kd.int .i64) 2 w30 w.heap.size (fun k_ => (w.heap.size ≤ k_) ∧ some k_ ≠ (v369 : Value).ownBlock ∧ some k_ ≠ (v372 : Value).ownBlock ∧ some k_ ≠ (.slice Ao25 y365.length co25 : Value).ownBlock) (.slice Ao24 x9_3.length co24) x9_3) := ⟨h4_⟩
                      have n5_ : Aside0 (Below w.heap.size w w30) := ⟨h5_⟩
                      clear HO_1
                      clear HO_9
                      clear HO_10
                      clear HB
                      clear h0_ h1_ h2_ h3_ h4_ h5_
                      have HO370 := n0_
                      have HO373 := n1_
                      have HO_1 := n2_
                      have HO_10 := n3_
                      have HO_9 := n4_
                      have HB := n5_
                      clear n0_ n1_ n2_ n3_ n4_ n5_
                      have hHeld : w30.cell? (ad374.add (x11_3).toNat) = some (.int .i64 (rd l1 x11_3)) := hS_
                      obtain ⟨Ao31, co31, eo31⟩ := Kd.R_slice HO370.out
                      (first | subst eo31 | (injection eo31 with f1_ f2_ f3_; have f4_ := f1_.symm; have f5_ := f3_.symm; clear f1_ f2_ f3_; subst f4_; subst f5_))
                      obtain ⟨Ao32, co32, eo32⟩ := Kd.R_slice HO373.out
                      (first | subst eo32 | (injection eo32 with f1_ f2_ f3_; have f4_ := f1_.symm; have f5_ := f3_.symm; clear f1_ f2_ f3_; subst f4_; subst f5_))
                      refine norm_ (a' := ?_) ?_ ?_
                      rotate_left
                      · simp only [putAll, Act.put, List.setIfInBounds_toArray, List.set_cons_zero, List.set_cons_succ]
                        rfl
                      refine one_ (i := 10) (N := some 51) #[true, true, true, true, true, true, true, true, true, true, true, false] rfl rfl (one_of HT_.out (by kernel_rfl)) (by decide) (fun K hK => ?_)
                      refine goes_ Try.func38 (by kernel_rfl) rfl #[.int .i64 a0, .slice Ao31 t368.length co31, .slice Ao32 y371.length co32, .int .i64 (rd l1 x11_3)] (by rfl) rfl rfl (by (try simp only [List.map_toArray, List.map_cons, List.map_nil]); first | done | rfl | (simp only [List.length_drop, List.length_take]; rfl)) ?_
                      with_reducible refine (spec_l01Add.calls k3 a0 _ _ t368 _ _ y371 (rd l1 x11_3) t375 _ ?side1 ?side2 ?side3 ?side4 A23.out).mono ?_
                      (case side1 => exact cs ((Kd.R_reads' HO370.out).2.2))
                      (case side2 => exact (Kd.R_reads' HO370.out).2.1)
                      (case side3 => exact cs ((Kd.R_reads' HO373.out).2.2))
                      (case side4 => exact (Kd.R_reads' HO373.out).2.1)
                      rintro e w33 ⟨v376, rfl, ho0, hb⟩
                      have HS0_ := (hb.cell (World.block_lt_of_cell? _ _ (hHeld))).trans (hHeld)
                      refine ⟨_, rfl, ?_⟩
                      have n0_ := Aside0.mk (Kd.V_elder' (by (with_reducible repeat (first | apply Kd.V_alloc | apply Kd.V_drewN | apply Kd.V_drew)); exact HO_1.out) (Kd.R_base ho0) hb)
                      have n1_ := Aside0.mk (Kd.R_elder' (rs HO_9) (Kd.R_base ho0) hb)
                      have n2_ := Aside0.mk (Kd.R_elder' (rs HO_10) (Kd.R_base ho0) hb)
                      have n3_ := Aside0.mk (Kd.R_elder' (rs HO370) (Kd.R_base ho0) hb)
                      have n4_ := Aside0.mk (Kd.R_elder' (rs HO373) (Kd.R_base ho0) hb)
                      have n5_ := Aside0.mk (Kd.R_lower (Kd.R_new' (Kd.R_new' (Kd.R_new' (Kd.R_new' (Kd.R_newM (M := fun k_ => (w.heap.size ≤ k_)) ho0 (below_size (bs HB)) (fun k_ h_ => h_)) (Kd.R_lt (rs HO_9))) (Kd.R_lt (rs HO_10))) (Kd.R_lt (rs HO370))) (Kd.R_lt (rs HO373))) (below_size (bs HB)))
                      have n6_ := Aside0.mk (below_step (bs HB) hb)
                      clear HO_1
                      clear HO_9
                      clear HO_10
                      clear HO370
                      clear HO373
                      clear HB
                      have HO_1 := n0_
                      have HO_9 := n1_
                      have HO_10 := n2_
                      have HO370 := n3_
                      have HO373 := n4_
                      have HO377 := n5_
                      have HB := n6_
                      clear n0_ n1_ n2_ n3_ n4_ n5_ n6_
                      (try clear hb)
                      (try clear hb2)
                      (try clear hk)
                      (try clear hi)
                      (try clear ho0)
                      refine hK.out _ _ (HS0_) (fun hHeld => ?_)
                      clear hK K
                      refine norm_ (a' := ?_) ?_ ?_
                      rotate_left
                      · show Act.put _ (some 51) _ = _
                        simp only [Act.put, List.setIfInBounds_toArray, List.set_cons_zero, List.set_cons_succ, i64_w, i32_w]
                        rfl
                      refine pure_ (i := 11) (N := some 9) (v := ?_) (a' := ?_) #[true, true, true, true, true, true, true, true, true, true, true, true] rfl rfl (any_of HT_.out (by kernel_rfl)) (fun _ _ _ h => h) (Or.inl ⟨by rfl, ?_⟩) ?_ ?_
                      rotate_left
                      · intro w'
                        go_simp
                        with_reducible rfl
                      rotate_left
                      · simp only [Act.put, List.setIfInBounds_toArray, List.set_cons_zero, List.set_cons_succ, i64_w, i32_w]
                        rfl
                      refine done_ (done_of HT_.out (by kernel_rfl)) ?_
                      try go_wp2
                      go_roundg k3
                      case measure => have := HJ4.out; have := HJ10.out; have := HK3.out; omega
                      case rel => exact ⟨(t375), (wrap64 (x11_3 - 1)), ea_, H', ⟨by have := HJ4.out; have := HJ10.out; have := HK3.out; omega⟩, ⟨by (with_reducible repeat (first | apply Kd.V_alloc | apply Kd.V_drewN | apply Kd.V_drew)); exact Kd.V_mono HO_1.out (fun _ hk => ⟨hk.1.1, ⟨hk.2, hk.1.2.2.2.1⟩⟩)⟩, ⟨by (with_reducible repeat (first | apply Kd.R_alloc | apply Kd.R_drewN | apply Kd.R_drew)); exact Kd.R_mono HO377.out (fun _ hk => ⟨hk.1.1.1.1.1, hk.1.1.2⟩)⟩, ⟨by (with_reducible repeat (first | apply Kd.R_alloc | apply Kd.R_drewN | apply Kd.R_drew)); exact Kd.R_mono HO_10.out (fun _ hk => ⟨hk.1.1, hk.2⟩)⟩, ⟨by repeat (first | (with_reducible first | exact HB.out | apply below_alloc | apply pw_below_drewN | apply below_drew1) | exact HB.out)⟩⟩
                    · rw [if_neg c22] at H
                      exact absurd H (by simp)
                  · rw [if_neg c21] at H
                    exact absurd H (by simp)
                · rw [if_neg c19] at H
                  have c19b0 : decide (0 ≤ x11_3) = false := decide_eq_false c19
                  clear c19
                  simp only [Option.some.injEq, Prod.mk.injEq] at H
                  obtain ⟨rfl, rfl⟩ := H
                  go_wp2
                  go_ret2
                  exact ⟨_, by first | rfl | (simp [errW_none, errW_some] <;> rfl) | (simp [*, errW_none, errW_some] <;> rfl), by (with_reducible repeat (first | apply Kd.R_alloc | apply Kd.R_drewN | apply Kd.R_drew)); exact Kd.R_mono HO_9.out (fun _ hk => hk.1), by repeat (first | (with_reducible first | exact HB.out | apply below_alloc | apply pw_below_drewN | apply below_drew1) | exact HB.out)⟩
          · rw [if_neg c13] at H
            have c13b0 : (x8_10 == 0) = false := beq_eq_false_iff_ne.mpr c13
            have c13b1 : (x8_10 != 0) = true := bne_iff_ne.mpr c13
            simp only [Option.some.injEq, Prod.mk.injEq] at H
            obtain ⟨rfl, rfl⟩ := H
            go_wp2
            go_ret2
            exact ⟨_, by first | rfl | (simp [errW_none, errW_some] <;> rfl) | (simp [*, errW_none, errW_some] <;> rfl), by first | exact Kd.R_nil _ _ _ _ _ | exact Kd.N_nil _ _ _ _ _ | exact Kd.V_nil _ _ _ _ _ | exact Kd.Q_nil _ _ _ _ _ | exact Kd.S_nil _ _ _ _ _, by repeat (first | (with_reducible first | exact HB.out | apply below_alloc | apply pw_below_drewN | apply below_drew1) | exact HB.out)⟩

end Go.Proofs.Ytcimpcdgdffnpaa.H
