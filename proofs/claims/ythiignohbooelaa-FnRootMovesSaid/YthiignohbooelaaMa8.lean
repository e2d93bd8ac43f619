/- Joined texts of a claim: the printed functions and what is proved of them. -/
import Derived.Test.YthiignohbooelaaYHx0
import Derived.Test.YthiignohbooelaaMa4
import Derived.Test.YthiignohbooelaaMab6
import Derived.Test.YthiignohbooelaaMa5
import Derived.Test.YthiignohbooelaaMa6
import Derived.Test.YthiignohbooelaaMa7
namespace Go.Proofs.Ythiignohbooelaa.H
open Go.RowKit Go.Proofs.YthiignohbooelaaW.PrintWords Go.Proofs.YthiignohbooelaaW.PrintLast Go.Proofs.YthiignohbooelaaW.PrintMore
attribute [local go_sem] max2_int min2_int max_two min_two max_three min_three max_four min_four   -- for this text's walks alone
set_option linter.unusedVariables false
set_option linter.unusedSimpArgs false
/-! ### laws_FnRootMoves: function 3 -/
mutual
def laws_FnRootMoves.j0 : Nat → List Int → Int → List Int → Int → List Int → Int → Bool → Option (Bool)
  | 0, _, _, _, _, _, _, _ => none
  | k + 1, x0, x3, x4, x5, x6, x7, x68 => if x68 = true then (some false) else ((spec_DrawScaleRoots.f k x0).bind fun bt473 => ((impl_ScaleRoots.f k bt473.1 bt473.2.1 bt473.2.2).bind fun bt478 => ((spec_ScaleRoots.f k bt473.1 bt473.2.1 bt473.2.2).bind fun bt482 => (if bt478.2 = bt482.2 then ((laws_likeInts.f k bt478.1 bt482.1).bind fun t486 => (laws_FnRootMoves.j1 k x0 x3 x4 x5 x6 x7 bt473.1 bt473.2.1 bt473.2.2 bt478.1 bt478.2 (!t486))) else (laws_FnRootMoves.j1 k x0 x3 x4 x5 x6 x7 bt473.1 bt473.2.1 bt473.2.2 bt478.1 bt478.2 true)))))
def laws_FnRootMoves.j1 : Nat → List Int → Int → List Int → Int → List Int → Int → Int → List Int → Int → List Int → Int → Bool → Option (Bool)
  | 0, _, _, _, _, _, _, _, _, _, _, _, _ => none
  | k + 1, x0, x3, x4, x5, x6, x7, x10, x11, x12, x13, x14, x97 => if x97 = true then (some false) else ((spec_DrawReversePolynomial.f k x0).bind fun bt487 => ((impl_ReversePolynomial.f k bt487.1 bt487.2).bind fun bt491 => ((spec_ReversePolynomial.f k bt487.1 bt487.2).bind fun bt495 => (if bt491.2 = bt495.2 then ((laws_likeInts.f k bt491.1 bt495.1).bind fun t499 => (laws_FnRootMoves.j2 k x3 x4 x5 x6 x7 x10 x11 x12 x13 x14 bt487.1 bt487.2 bt491.1 bt491.2 (!t499))) else (laws_FnRootMoves.j2 k x3 x4 x5 x6 x7 x10 x11 x12 x13 x14 bt487.1 bt487.2 bt491.1 bt491.2 true)))))
def laws_FnRootMoves.j2 : Nat → Int → List Int → Int → List Int → Int → Int → List Int → Int → List Int → Int → Int → List Int → List Int → Int → Bool → Option (Bool)
  | 0, _, _, _, _, _, _, _, _, _, _, _, _, _, _, _ => none
  | k + 1, x3, x4, x5, x6, x7, x10, x11, x12, x13, x14, x17, x18, x19, x20, x123 => if x123 = true then (some false) else (if x14 = 0 then (laws_FnRootMoves.j3 k x3 x4 x5 x6 x7 x10 x11 x12 x13 x17 x18 x19 x20 (decide ((x11.length : Int) > 0))) else (laws_FnRootMoves.j3 k x3 x4 x5 x6 x7 x10 x11 x12 x13 x17 x18 x19 x20 false))
def laws_FnRootMoves.j3 : Nat → Int → List Int → Int → List Int → Int → Int → List Int → Int → List Int → Int → List Int → List Int → Int → Bool → Option (Bool)
  | 0, _, _, _, _, _, _, _, _, _, _, _, _, _, _ => none
  | k + 1, x3, x4, x5, x6, x7, x10, x11, x12, x13, x17, x18, x19, x20, x130 => if x130 = true then ((impl_RootsIn.f k x10 x11).bind fun bt500 => ((impl_RootsIn.f k x10 x13).bind fun bt504 => (if bt500.2 = 0 then (if bt504.2 = 0 then (laws_FnRootMoves.j4 k x3 x4 x5 x6 x7 x10 x12 x13 x17 x18 x19 x20 bt500.1 ((bt500.1.length : Int) != (bt504.1.length : Int))) else (laws_FnRootMoves.j4 k x3 x4 x5 x6 x7 x10 x12 x13 x17 x18 x19 x20 bt500.1 true)) else (laws_FnRootMoves.j4 k x3 x4 x5 x6 x7 x10 x12 x13 x17 x18 x19 x20 bt500.1 true)))) else (laws_FnRootMoves.j6 k x3 x4 x5 x6 x7 x17 x18 x19 x20)
def laws_FnRootMoves.j6 : Nat → Int → List Int → Int → List Int → Int → Int → List Int → List Int → Int → Option (Bool)
  | 0, _, _, _, _, _, _, _, _, _ => none
  | k + 1, x3, x4, x5, x6, x7, x17, x18, x19, x20 => if x20 = 0 then ((impl_ReversePolynomial.f k x17 x19).bind fun bt511 => (if bt511.2 = 0 then ((laws_likeInts.f k bt511.1 x18).bind fun t515 => (if t515 = true then (laws_FnRootMoves.j7 k x3 x4 x5 x6 x7) else (some false))) else (some false))) else (laws_FnRootMoves.j7 k x3 x4 x5 x6 x7)
def laws_FnRootMoves.j7 : Nat → Int → List Int → Int → List Int → Int → Option (Bool)
  | 0, _, _, _, _, _ => none
  | k + 1, x3, x4, x5, x6, x7 => if x7 = 0 then (if x3 = 0 then (none) else ((impl_MoveRoots.f k x3 x6 (Int.tmod (wrap64 (x3 - x5)) x3)).bind fun bt516 => ((impl_ValueAt.f k x3 x6 x5).bind fun bt520 => ((impl_ValueAt.f k x3 x4 0).bind fun bt522 => (if bt516.2 = 0 then ((laws_likeInts.f k bt516.1 x4).bind fun t524 => (if t524 = true then (if bt520.2 = 0 then (if bt522.2 = 0 then (some (bt520.1 == bt522.1)) else (some false)) else (some false)) else (some false))) else (some false)))))) else (some ((x6.length : Int) == 0))
def laws_FnRootMoves.j4 : Nat → Int → List Int → Int → List Int → Int → Int → Int → List Int → Int → List Int → List Int → Int → List Int → Bool → Option (Bool)
  | 0, _, _, _, _, _, _, _, _, _, _, _, _, _, _ => none
  | k + 1, x3, x4, x5, x6, x7, x10, x12, x13, x17, x18, x19, x20, x23, x155 => if x155 = true then (some false) else (laws_FnRootMoves.l0 k x3 x4 x5 x6 x7 x10 x12 x13 x17 x18 x19 x20 x23 0)
def laws_FnRootMoves.l0 : Nat → Int → List Int → Int → List Int → Int → Int → Int → List Int → Int → List Int → List Int → Int → List Int → Int → Option (Bool)
  | 0, _, _, _, _, _, _, _, _, _, _, _, _, _, _ => none
  | k + 1, x3, x4, x5, x6, x7, x10, x12, x13, x17, x18, x19, x20, x23, x27 => if x27 < (x23.length : Int) then (if 0 ≤ x27 then (if x10 = 0 then (none) else ((impl_ValueAt.f k x10 x13 (Int.tmod (wrap64 ((rd x23 x27) * x12)) x10)).bind fun bt509 => (if bt509.2 = 0 then (if bt509.1 = 0 then (laws_FnRootMoves.l0 k x3 x4 x5 x6 x7 x10 x12 x13 x17 x18 x19 x20 x23 (wrap64 (x27 + 1))) else (some false)) else (some false)))) else (none)) else (laws_FnRootMoves.j6 k x3 x4 x5 x6 x7 x17 x18 x19 x20)
end
def laws_FnRootMoves.f (k : Nat) (l0 : List Int) : Option (Bool) := (laws_big.f l0).bind fun t458 => (if t458 = true then (some true) else ((spec_DrawMoveRoots.f k l0).bind fun bt459 => ((impl_MoveRoots.f k bt459.1 bt459.2.1 bt459.2.2).bind fun bt464 => ((spec_MoveRoots.f k bt459.1 bt459.2.1 bt459.2.2).bind fun bt468 => (if bt464.2 = bt468.2 then ((laws_likeInts.f k bt464.1 bt468.1).bind fun t472 => (laws_FnRootMoves.j0 k l0 bt459.1 bt459.2.1 bt459.2.2 bt464.1 bt464.2 (!t472))) else (laws_FnRootMoves.j0 k l0 bt459.1 bt459.2.1 bt459.2.2 bt464.1 bt464.2 true))))))
set_option maxHeartbeats 8000000 in
set_option maxRecDepth 100000 in
theorem laws_FnRootMoves.calls (k : Nat) (A0 : Option Addr) (c0 : Nat) (l0 : List Int) (r : Bool) (w : World) (hr0 : Kd.C (Kd.int .u8) w A0 l0.length l0) (hc0 : l0.length ≤ c0) (h : laws_FnRootMoves.f k l0 = some r) :
    Calls Try.prog 3 #[.slice A0 l0.length c0] w fun e w' => e = .returned (.bool r) ∧ Below w.heap.size w w' := by
  have HR0 := Aside0.mk hr0
  have HC0 := Aside0.mk hc0
  clear hr0 hc0
  have HB := Aside0.mk (Below.refl w.heap.size w)
  have H : ((laws_big.f l0).bind fun t458 => (if t458 = true then (some true) else ((spec_DrawMoveRoots.f k l0).bind fun bt459 => ((impl_MoveRoots.f k bt459.1 bt459.2.1 bt459.2.2).bind fun bt464 => ((spec_MoveRoots.f k bt459.1 bt459.2.1 bt459.2.2).bind fun bt468 => (if bt464.2 = bt468.2 then ((laws_likeInts.f k bt464.1 bt468.1).bind fun t472 => (laws_FnRootMoves.j0 k l0 bt459.1 bt459.2.1 bt459.2.2 bt464.1 bt464.2 (!t472))) else (laws_FnRootMoves.j0 k l0 bt459.1 bt459.2.1 bt459.2.2 bt464.1 bt464.2 true))))))) = some r := h
  clear h
  replace H := Option.bind_eq_some_iff.mp H
  obtain ⟨t458, A20, H⟩ := H
  have A2 := Aside0.mk A20
  clear A20
  by_cases c3 : t458 = true
  · subst c3
    have H1 : (some true) = some r := by rw [if_pos rfl] at H; exact H
    clear H
    have H := H1
    clear H1
    obtain rfl := Option.some.inj H
    go_enter Try.func3, Try.ntmps3
    go_wp2_with (first | ((with_reducible refine gate_callee (f := 6) rfl ?_); refine goesM_ (some 39) rfl rfl Try.func6 #[.slice A0 l0.length c0] rfl ?_; (with_reducible refine (laws_big.calls _ _ l0 true _ ?side1 ?side2 A2.out).mono ?_); (case side1 => exact cs (HR0.out)); (case side2 => exact HC0.out); rintro e w' ⟨rfl, ⟨nd, rfl⟩⟩; refine ⟨_, rfl, ?_⟩))
    go_ret
    exact ⟨by first | rfl | (simp [errW_none, errW_some] <;> rfl) | (simp [*, errW_none, errW_some] <;> rfl), by repeat (first | (with_reducible first | exact HB.out | apply below_alloc | apply pw_below_drewN | apply below_drew1) | exact HB.out)⟩
  · replace c3 := Bool.eq_false_iff.mpr c3
    subst c3
    have H1 : ((spec_DrawMoveRoots.f k l0).bind fun bt459 => ((impl_MoveRoots.f k bt459.1 bt459.2.1 bt459.2.2).bind fun bt464 => ((spec_MoveRoots.f k bt459.1 bt459.2.1 bt459.2.2).bind fun bt468 => (if bt464.2 = bt468.2 then ((laws_likeInts.f k bt464.1 bt468.1).bind fun t472 => (laws_FnRootMoves.j0 k l0 bt459.1 bt459.2.1 bt459.2.2 bt464.1 bt464.2 (!t472))) else (laws_FnRootMoves.j0 k l0 bt459.1 bt459.2.1 bt459.2.2 bt464.1 bt464.2 true))))) = some r := by rw [if_neg (show ¬ (false = true) by decide)] at H; exact H
    clear H
    have H := H1
    clear H1
    replace H := Option.bind_eq_some_iff.mp H
    obtain ⟨⟨t459, t460, t461⟩, A40, H⟩ := H
    have A4 := Aside0.mk A40
    clear A40
    replace H := Option.bind_eq_some_iff.mp H
    obtain ⟨⟨t464, t465⟩, A50, H⟩ := H
    have A5 := Aside0.mk A50
    clear A50
    replace H := Option.bind_eq_some_iff.mp H
    obtain ⟨⟨t468, t471⟩, A60, H⟩ := H
    have A6 := Aside0.mk A60
    clear A60
    have HC7 := Aside0.mk H
    clear H
    go_enter Try.func3, Try.ntmps3
    go_upto_region 6 with (first | ((with_reducible refine gate_callee (f := 6) rfl ?_); refine goesM_ (some 39) rfl rfl Try.func6 #[.slice A0 l0.length c0] rfl ?_; (with_reducible refine (laws_big.calls _ _ l0 false _ ?side1 ?side2 A2.out).mono ?_); (case side1 => exact cs (HR0.out)); (case side2 => exact HC0.out); rintro e w' ⟨rfl, ⟨nd, rfl⟩⟩; refine ⟨_, rfl, ?_⟩) | ((with_reducible refine gate_callee (f := 7) rfl ?_); refine goesM_ (some 42) rfl rfl Try.func7 #[.slice A0 l0.length c0] rfl ?_; (with_reducible refine (spec_DrawMoveRoots.calls k _ _ l0 t459 t460 t461 _ ?side1 ?side2 A4.out).mono ?_); (case side1 => exact cs (HR0.out)); (case side2 => exact HC0.out); rintro e w8 ⟨v462, rfl, ho0, hb⟩; refine ⟨_, rfl, ?_⟩; have n0_ := Aside0.mk (Kd.R_lower ho0 (below_size (bs HB))); have n1_ := Aside0.mk (below_step (bs HB) hb); clear HB; have HO463 := n0_; have HB := n1_; clear n0_ n1_; (try clear hb); (try clear hb2); (try clear hk); (try clear hi); (try clear ho0); obtain ⟨Ao9, co9, eo9⟩ := Kd.R_slice HO463.out; subst eo9) | ((with_reducible refine gate_callee (f := 8) rfl ?_); refine goesM_ (some 50) rfl rfl Try.func8 #[.int .i64 t459, .slice Ao9 t460.length co9, .int .i64 t461] rfl ?_; (with_reducible refine (impl_MoveRoots.calls k t459 _ _ t460 t461 t464 t465 _ ?side1 ?side2 A5.out).mono ?_); (case side1 => exact cs ((Kd.R_reads' HO463.out).2.2)); (case side2 => exact (Kd.R_reads' HO463.out).2.1); rintro e w10 ⟨v466, rfl, ho0, hb⟩; refine ⟨_, rfl, ?_⟩; have n0_ := Aside0.mk (Kd.R_elder' (rs HO463) (Kd.R_base ho0) hb); have n1_ := Aside0.mk (Kd.R_lower (Kd.R_new' ho0 (Kd.R_lt (rs HO463))) (below_size (bs HB))); have n2_ := Aside0.mk (below_step (bs HB) hb); clear HO463; clear HB; have HO463 := n0_; have HO467 := n1_; have HB := n2_; clear n0_ n1_ n2_; (try clear hb); (try clear hb2); (try clear hk); (try clear hi); (try clear ho0)) | ((with_reducible refine gate_callee (f := 9) rfl ?_); refine goesM_ (some 57) rfl rfl Try.func9 #[.int .i64 t459, .slice Ao9 t460.length co9, .int .i64 t461] rfl ?_; (with_reducible refine (spec_MoveRoots.calls k t459 (fun k_ => some k_ = (.slice Ao9 t460.length co9 : Value).ownBlock) _ _ t460 t461 t468 t471 _ ?side1 A6.out).mono ?_); (case side1 => exact Kd.R_V (Kd.R_tight rfl (HO463.out))); rintro e w11 ⟨v469, rfl, ho0, hb⟩; refine ⟨_, rfl, ?_⟩; have n0_ := Aside0.mk (Kd.R_elder' (rs HO463) (Kd.R_base ho0) hb); have n1_ := Aside0.mk (Kd.R_elder' (rs HO467) (Kd.R_base ho0) hb); have n2_ := Aside0.mk (Kd.R_lower (Kd.R_new' (Kd.R_new' (Kd.R_mono (ok' := fun k_ => True) ho0 (fun _ hk_ => trivial)) (Kd.R_lt (rs HO463))) (Kd.R_lt (rs HO467))) (below_size (bs HB))); have n3_ := Aside0.mk (below_step (bs HB) hb); clear HO463; clear HO467; clear HB; have HO463 := n0_; have HO467 := n1_; have HO470 := n2_; have HB := n3_; clear n0_ n1_ n2_ n3_; (try clear hb); (try clear hb2); (try clear hk); (try clear hi); (try clear ho0)))
    (try simp only [Act.put, List.setIfInBounds_toArray, List.set_cons_zero, List.set_cons_succ])
    go_cut [68] from 38 to 59 (fun v68 wc => ∃ (kq : Nat) (x68_6 : Bool), v68 = .bool x68_6 ∧ Aside0 (laws_FnRootMoves.j0 kq l0 t459 t460 t461 t464 t465 x68_6 = some r) ∧ Aside0 (kq ≤ k) ∧ Aside0 (Kd.R (Kd.int .i64) 2 wc w.heap.size (fun k_ => some k_ ≠ (v466 : Value).ownBlock) (.slice Ao9 t460.length co9) t460) ∧ Aside0 (Kd.R (Kd.int .i64) 2 wc w.heap.size (fun k_ => some k_ ≠ ((.slice Ao9 t460.length co9) : Value).ownBlock) v466 t464) ∧ Aside0 (Below w.heap.size w wc))
    case first =>
      have H := HC7.out
      clear HC7
      by_cases c12 : t465 = t471
      · rw [if_pos c12] at H
        have c12b0 : (t465 == t471) = true := beq_iff_eq.mpr c12
        have c12b1 : (t465 != t471) = false := bne_eq_false_iff_eq.mpr c12
        clear c12
        (first | rw [c12b0] | (simp only [i64_w, i32_w]; rw [c12b0]) | skip)
        replace H := Option.bind_eq_some_iff.mp H
        obtain ⟨t472, A130, H⟩ := H
        have A13 := Aside0.mk A130
        clear A130
        have H' := Aside0.mk H
        clear H
        obtain ⟨Ao14, co14, eo14⟩ := Kd.R_slice HO467.out
        subst eo14
        obtain ⟨Ao15, co15, eo15⟩ := Kd.R_slice HO470.out
        subst eo15
        go_wp2_with (first | (go_at_call 10; (with_reducible refine (laws_likeInts.calls k _ _ t464 _ _ t468 t472 _ ?side1 ?side2 ?side3 ?side4 A13.out).mono ?_); (case side1 => exact cs ((Kd.R_reads' HO467.out).2.2)); (case side2 => exact (Kd.R_reads' HO467.out).2.1); (case side3 => exact cs ((Kd.R_reads' HO470.out).2.2)); (case side4 => exact (Kd.R_reads' HO470.out).2.1); rintro e w' ⟨rfl, ⟨nd, rfl⟩⟩))
        go_meet
        case rel => exact ⟨_, (!t472), ea_, H', ⟨by first | omega | exact Nat.le_refl _⟩, ⟨by (with_reducible repeat (first | apply Kd.R_alloc | apply Kd.R_drewN | apply Kd.R_drew)); exact Kd.R_mono HO463.out (fun _ hk => hk.1.2)⟩, ⟨by (with_reducible repeat (first | apply Kd.R_alloc | apply Kd.R_drewN | apply Kd.R_drew)); exact Kd.R_mono HO467.out (fun _ hk => hk.1.2)⟩, ⟨by repeat (first | (with_reducible first | exact HB.out | apply below_alloc | apply pw_below_drewN | apply below_drew1) | exact HB.out)⟩⟩
      · rw [if_neg c12] at H
        have c12b0 : (t465 == t471) = false := beq_eq_false_iff_ne.mpr c12
        have c12b1 : (t465 != t471) = true := bne_iff_ne.mpr c12
        (first | rw [c12b0] | (simp only [i64_w, i32_w]; rw [c12b0]) | skip)
        have H' := Aside0.mk H
        clear H
        go_wp2
        go_meet
        case rel => exact ⟨_, (true), ea_, H', ⟨by first | omega | exact Nat.le_refl _⟩, ⟨by (with_reducible repeat (first | apply Kd.R_alloc | apply Kd.R_drewN | apply Kd.R_drew)); exact Kd.R_mono HO463.out (fun _ hk => hk.1.2)⟩, ⟨by (with_reducible repeat (first | apply Kd.R_alloc | apply Kd.R_drewN | apply Kd.R_drew)); exact Kd.R_mono HO467.out (fun _ hk => hk.1.2)⟩, ⟨by repeat (first | (with_reducible first | exact HB.out | apply below_alloc | apply pw_below_drewN | apply below_drew1) | exact HB.out)⟩⟩
    case rest => as_aux_lemma =>
      clear HC7
      try clear c1
      try clear p2
      try clear c3
      try clear c6
      try clear c7
      try clear c8
      try clear c9
      try clear c12
      try clear c12b0
      try clear c12b1
      obtain ⟨kq, x68_6, rfl, HA, HJ6, HO_4, HO_6, HB⟩ := hcut
      cases kq with
      | zero => exact absurd HA.out (by simp [laws_FnRootMoves.j0])
      | succ kj6 =>
        have H := HA.out
        clear HA
        simp only [laws_FnRootMoves.j0] at H
        by_cases c16 : x68_6 = true
        · subst c16
          have H1 : (some false) = some r := by rw [if_pos rfl] at H; exact H
          clear H
          have H := H1
          clear H1
          obtain rfl := Option.some.inj H
          go_wp2
          go_ret
          exact ⟨by first | rfl | (simp [errW_none, errW_some] <;> rfl) | (simp [*, errW_none, errW_some] <;> rfl), by repeat (first | (with_reducible first | exact HB.out | apply below_alloc | apply pw_below_drewN | apply below_drew1) | exact HB.out)⟩
        · replace c16 := Bool.eq_false_iff.mpr c16
          subst c16
          have H1 : ((spec_DrawScaleRoots.f kj6 l0).bind fun bt473 => ((impl_ScaleRoots.f kj6 bt473.1 bt473.2.1 bt473.2.2).bind fun bt478 => ((spec_ScaleRoots.f kj6 bt473.1 bt473.2.1 bt473.2.2).bind fun bt482 => (if bt478.2 = bt482.2 then ((laws_likeInts.f kj6 bt478.1 bt482.1).bind fun t486 => (laws_FnRootMoves.j1 kj6 l0 t459 t460 t461 t464 t465 bt473.1 bt473.2.1 bt473.2.2 bt478.1 bt478.2 (!t486))) else (laws_FnRootMoves.j1 kj6 l0 t459 t460 t461 t464 t465 bt473.1 bt473.2.1 bt473.2.2 bt478.1 bt478.2 true))))) = some r := by rw [if_neg (show ¬ (false = true) by decide)] at H; exact H
          clear H
          have H := H1
          clear H1
          replace H := Option.bind_eq_some_iff.mp H
          obtain ⟨⟨t473, t474, t475⟩, A170, H⟩ := H
          have A17 := Aside0.mk A170
          clear A170
          replace H := Option.bind_eq_some_iff.mp H
          obtain ⟨⟨t478, t479⟩, A180, H⟩ := H
          have A18 := Aside0.mk A180
          clear A180
          replace H := Option.bind_eq_some_iff.mp H
          obtain ⟨⟨t482, t485⟩, A190, H⟩ := H
          have A19 := Aside0.mk A190
          clear A190
          have HC20 := Aside0.mk H
          clear H
          go_upto_region 11 with (first | ((with_reducible refine gate_callee (f := 11) rfl ?_); refine goesM_ (some 71) rfl rfl Try.func11 #[.slice A0 l0.length c0] rfl ?_; (with_reducible refine (spec_DrawScaleRoots.calls kj6 _ _ l0 t473 t474 t475 _ ?side1 ?side2 A17.out).mono ?_); (case side1 => exact cs ((Kd.C_below HR0.out HB.out))); (case side2 => exact HC0.out); rintro e w21 ⟨v476, rfl, ho0, hb⟩; refine ⟨_, rfl, ?_⟩; have n0_ := Aside0.mk (Kd.R_elder' (rs HO_4) (Kd.R_base ho0) hb); have n1_ := Aside0.mk (Kd.R_elder' (rs HO_6) (Kd.R_base ho0) hb); have n2_ := Aside0.mk (Kd.R_lower (Kd.R_new' (Kd.R_new' ho0 (Kd.R_lt (rs HO_4))) (Kd.R_lt (rs HO_6))) (below_size (bs HB))); have n3_ := Aside0.mk (below_step (bs HB) hb); clear HO_4; clear HO_6; clear HB; have HO_4 := n0_; have HO_6 := n1_; have HO477 := n2_; have HB := n3_; clear n0_ n1_ n2_ n3_; (try clear hb); (try clear hb2); (try clear hk); (try clear hi); (try clear ho0); obtain ⟨Ao22, co22, eo22⟩ := Kd.R_slice HO477.out; subst eo22) | ((with_reducible refine gate_callee (f := 12) rfl ?_); refine goesM_ (some 79) rfl rfl Try.func12 #[.int .i64 t473, .slice Ao22 t474.length co22, .int .i64 t475] rfl ?_; (with_reducible refine (impl_ScaleRoots.calls kj6 t473 _ _ t474 t475 t478 t479 _ ?side1 ?side2 A18.out).mono ?_); (case side1 => exact cs ((Kd.R_reads' HO477.out).2.2)); (case side2 => exact (Kd.R_reads' HO477.out).2.1); rintro e w23 ⟨v480, rfl, ho0, hb⟩; refine ⟨_, rfl, ?_⟩; have n0_ := Aside0.mk (Kd.R_elder' (rs HO_4) (Kd.R_base ho0) hb); have n1_ := Aside0.mk (Kd.R_elder' (rs HO_6) (Kd.R_base ho0) hb); have n2_ := Aside0.mk (Kd.R_elder' (rs HO477) (Kd.R_base ho0) hb); have n3_ := Aside0.mk (Kd.R_lower (Kd.R_new' (Kd.R_new' (Kd.R_new' ho0 (Kd.R_lt (rs HO_4))) (Kd.R_lt (rs HO_6))) (Kd.R_lt (rs HO477))) (below_size (bs HB))); have n4_ := Aside0.mk (below_step (bs HB) hb); clear HO_4; clear HO_6; clear HO477; clear HB; have HO_4 := n0_; have HO_6 := n1_; have HO477 := n2_; have HO481 := n3_; have HB := n4_; clear n0_ n1_ n2_ n3_ n4_; (try clear hb); (try clear hb2); (try clear hk); (try clear hi); (try clear ho0)) | ((with_reducible refine gate_callee (f := 13) rfl ?_); refine goesM_ (some 86) rfl rfl Try.func13 #[.int .i64 t473, .slice Ao22 t474.length co22, .int .i64 t475] rfl ?_; (with_reducible refine (spec_ScaleRoots.calls kj6 t473 (fun k_ => some k_ = (.slice Ao22 t474.length co22 : Value).ownBlock) _ _ t474 t475 t482 t485 _ ?side1 A19.out).mono ?_); (case side1 => exact Kd.R_V (Kd.R_tight rfl (HO477.out))); rintro e w24 ⟨v483, rfl, ho0, hb⟩; refine ⟨_, rfl, ?_⟩; have n0_ := Aside0.mk (Kd.R_elder' (rs HO_4) (Kd.R_base ho0) hb); have n1_ := Aside0.mk (Kd.R_elder' (rs HO_6) (Kd.R_base ho0) hb); have n2_ := Aside0.mk (Kd.R_elder' (rs HO477) (Kd.R_base ho0) hb); have n3_ := Aside0.mk (Kd.R_elder' (rs HO481) (Kd.R_base ho0) hb); have n4_ := Aside0.mk (Kd.R_lower (Kd.R_new' (Kd.R_new' (Kd.R_new' (Kd.R_new' (Kd.R_mono (ok' := fun k_ => True) ho0 (fun _ hk_ => trivial)) (Kd.R_lt (rs HO_4))) (Kd.R_lt (rs HO_6))) (Kd.R_lt (rs HO477))) (Kd.R_lt (rs HO481))) (below_size (bs HB))); have n5_ := Aside0.mk (below_step (bs HB) hb); clear HO_4; clear HO_6; clear HO477; clear HO481; clear HB; have HO_4 := n0_; have HO_6 := n1_; have HO477 := n2_; have HO481 := n3_; have HO484 := n4_; have HB := n5_; clear n0_ n1_ n2_ n3_ n4_ n5_; (try clear hb); (try clear hb2); (try clear hk); (try clear hi); (try clear ho0)))
          (try simp only [Act.put, List.setIfInBounds_toArray, List.set_cons_zero, List.set_cons_succ])
          go_cut [97] from 69 to 88 (fun v97 wc => ∃ (kq : Nat) (x97_19 : Bool), v97 = .bool x97_19 ∧ Aside0 (laws_FnRootMoves.j1 kq l0 t459 t460 t461 t464 t465 t473 t474 t475 t478 t479 x97_19 = some r) ∧ Aside0 (kq ≤ kj6) ∧ Aside0 (Kd.R (Kd.int .i64) 2 wc w.heap.size (fun k_ => some k_ ≠ (v466 : Value).ownBlock ∧ some k_ ≠ ((.slice Ao22 t474.length co22) : Value).ownBlock ∧ some k_ ≠ (v480 : Value).ownBlock) (.slice Ao9 t460.length co9) t460) ∧ Aside0 (Kd.R (Kd.int .i64) 2 wc w.heap.size (fun k_ => some k_ ≠ ((.slice Ao9 t460.length co9) : Value).ownBlock ∧ some k_ ≠ ((.slice Ao22 t474.length co22) : Value).ownBlock ∧ some k_ ≠ (v480 : Value).ownBlock) v466 t464) ∧ Aside0 (Kd.R (Kd.int .i64) 2 wc w.heap.size (fun k_ => some k_ ≠ ((.slice Ao9 t460.length co9) : Value).ownBlock ∧ some k_ ≠ (v466 : Value).ownBlock ∧ some k_ ≠ (v480 : Value).ownBlock) (.slice Ao22 t474.length co22) t474) ∧ Aside0 (Kd.R (Kd.int .i64) 2 wc w.heap.size (fun k_ => some k_ ≠ ((.slice Ao9 t460.length co9) : Value).ownBlock ∧ some k_ ≠ (v466 : Value).ownBlock ∧ some k_ ≠ ((.slice Ao22 t474.length co22) : Value).ownBlock) v480 t478) ∧ Aside0 (Below w.heap.size w wc))
          case first =>
            have H := HC20.out
            clear HC20
            by_cases c25 : t479 = t485
            · rw [if_pos c25] at H
              have c25b0 : (t479 == t485) = true := beq_iff_eq.mpr c25
              have c25b1 : (t479 != t485) = false := bne_eq_false_iff_eq.mpr c25
              clear c25
              (first | rw [c25b0] | (simp only [i64_w, i32_w]; rw [c25b0]) | skip)
              replace H := Option.bind_eq_some_iff.mp H
              obtain ⟨t486, A260, H⟩ := H
              have A26 := Aside0.mk A260
              clear A260
              have H' := Aside0.mk H
              clear H
              obtain ⟨Ao27, co27, eo27⟩ := Kd.R_slice HO481.out
              subst eo27
              obtain ⟨Ao28, co28, eo28⟩ := Kd.R_slice HO484.out
              subst eo28
              go_wp2_with (first | (go_at_call 10; (with_reducible refine (laws_likeInts.calls kj6 _ _ t478 _ _ t482 t486 _ ?side1 ?side2 ?side3 ?side4 A26.out).mono ?_); (case side1 => exact cs ((Kd.R_reads' HO481.out).2.2)); (case side2 => exact (Kd.R_reads' HO481.out).2.1); (case side3 => exact cs ((Kd.R_reads' HO484.out).2.2)); (case side4 => exact (Kd.R_reads' HO484.out).2.1); rintro e w' ⟨rfl, ⟨nd, rfl⟩⟩))
              go_meet
              case rel => exact ⟨_, (!t486), ea_, H', ⟨by have := HJ6.out; first | omega | exact Nat.le_refl _⟩, ⟨by (with_reducible repeat (first | apply Kd.R_alloc | apply Kd.R_drewN | apply Kd.R_drew)); exact Kd.R_mono HO_4.out (fun _ hk => ⟨hk.1.1.1, ⟨hk.1.1.2, hk.1.2⟩⟩)⟩, ⟨by (with_reducible repeat (first | apply Kd.R_alloc | apply Kd.R_drewN | apply Kd.R_drew)); exact Kd.R_mono HO_6.out (fun _ hk => ⟨hk.1.1.1, ⟨hk.1.1.2, hk.1.2⟩⟩)⟩, ⟨by (with_reducible repeat (first | apply Kd.R_alloc | apply Kd.R_drewN | apply Kd.R_drew)); exact Kd.R_mono HO477.out (fun _ hk => ⟨hk.1.1.1.2, ⟨hk.1.1.2, hk.1.2⟩⟩)⟩, ⟨by (with_reducible repeat (first | apply Kd.R_alloc | apply Kd.R_drewN | apply Kd.R_drew)); exact Kd.R_mono HO481.out (fun _ hk => ⟨hk.1.1.1.2, ⟨hk.1.1.2, hk.1.2⟩⟩)⟩, ⟨by repeat (first | (with_reducible first | exact HB.out | apply below_alloc | apply pw_below_drewN | apply below_drew1) | exact HB.out)⟩⟩
            · rw [if_neg c25] at H
              have c25b0 : (t479 == t485) = false := beq_eq_false_iff_ne.mpr c25
              have c25b1 : (t479 != t485) = true := bne_iff_ne.mpr c25
              (first | rw [c25b0] | (simp only [i64_w, i32_w]; rw [c25b0]) | skip)
              have H' := Aside0.mk H
              clear H
              go_wp2
              go_meet
              case rel => exact ⟨_, (true), ea_, H', ⟨by have := HJ6.out; first | omega | exact Nat.le_refl _⟩, ⟨by (with_reducible repeat (first | apply Kd.R_alloc | apply Kd.R_drewN | apply Kd.R_drew)); exact Kd.R_mono HO_4.out (fun _ hk => ⟨hk.1.1.1, ⟨hk.1.1.2, hk.1.2⟩⟩)⟩, ⟨by (with_reducible repeat (first | apply Kd.R_alloc | apply Kd.R_drewN | apply Kd.R_drew)); exact Kd.R_mono HO_6.out (fun _ hk => ⟨hk.1.1.1, ⟨hk.1.1.2, hk.1.2⟩⟩)⟩, ⟨by (with_reducible repeat (first | apply Kd.R_alloc | apply Kd.R_drewN | apply Kd.R_drew)); exact Kd.R_mono HO477.out (fun _ hk => ⟨hk.1.1.1.2, ⟨hk.1.1.2, hk.1.2⟩⟩)⟩, ⟨by (with_reducible repeat (first | apply Kd.R_alloc | apply Kd.R_drewN | apply Kd.R_drew)); exact Kd.R_mono HO481.out (fun _ hk => ⟨hk.1.1.1.2, ⟨hk.1.1.2, hk.1.2⟩⟩)⟩, ⟨by repeat (first | (with_reducible first | exact HB.out | apply below_alloc | apply pw_below_drewN | apply below_drew1) | exact HB.out)⟩⟩
          case rest => as_aux_lemma =>
            clear HC20
            try clear c1
            try clear c2
            try clear p2
            try clear c3
            try clear c6
            try clear c7
            try clear c8
            try clear c9
            try clear c11
            try clear c12
            try clear c12b0
            try clear c12b1
            try clear c13
            try clear c16
            try clear c25
            try clear c25b0
            try clear c25b1
            try clear p2
            obtain ⟨kq, x97_19, rfl, HA, HJ19, HO_4, HO_6, HO_11, HO_13, HB⟩ := hcut
            cases kq with
            | zero => exact absurd HA.out (by simp [laws_FnRootMoves.j1])
            | succ kj19 =>
              have H := HA.out
              clear HA
              simp only [laws_FnRootMoves.j1] at H
              by_cases c29 : x97_19 = true
              · subst c29
                have H1 : (some false) = some r := by rw [if_pos rfl] at H; exact H
                clear H
                have H := H1
                clear H1
                obtain rfl := Option.some.inj H
                go_wp2
                go_ret
                exact ⟨by first | rfl | (simp [errW_none, errW_some] <;> rfl) | (simp [*, errW_none, errW_some] <;> rfl), by repeat (first | (with_reducible first | exact HB.out | apply below_alloc | apply pw_below_drewN | apply below_drew1) | exact HB.out)⟩
              · replace c29 := Bool.eq_false_iff.mpr c29
                subst c29
                have H1 : ((spec_DrawReversePolynomial.f kj19 l0).bind fun bt487 => ((impl_ReversePolynomial.f kj19 bt487.1 bt487.2).bind fun bt491 => ((spec_ReversePolynomial.f kj19 bt487.1 bt487.2).bind fun bt495 => (if bt491.2 = bt495.2 then ((laws_likeInts.f kj19 bt491.1 bt495.1).bind fun t499 => (laws_FnRootMoves.j2 kj19 t459 t460 t461 t464 t465 t473 t474 t475 t478 t479 bt487.1 bt487.2 bt491.1 bt491.2 (!t499))) else (laws_FnRootMoves.j2 kj19 t459 t460 t461 t464 t465 t473 t474 t475 t478 t479 bt487.1 bt487.2 bt491.1 bt491.2 true))))) = some r := by rw [if_neg (show ¬ (false = true) by decide)] at H; exact H
                clear H
                have H := H1
                clear H1
                replace H := Option.bind_eq_some_iff.mp H
                obtain ⟨⟨t487, t488⟩, A300, H⟩ := H
                have A30 := Aside0.mk A300
                clear A300
                replace H := Option.bind_eq_some_iff.mp H
                obtain ⟨⟨t491, t492⟩, A310, H⟩ := H
                have A31 := Aside0.mk A310
                clear A310
                replace H := Option.bind_eq_some_iff.mp H
                obtain ⟨⟨t495, t498⟩, A320, H⟩ := H
                have A32 := Aside0.mk A320
                clear A320
                have HC33 := Aside0.mk H
                clear H
                go_upto_region 16 with (first | ((with_reducible refine gate_callee (f := 14) rfl ?_); refine goesM_ (some 100) rfl rfl Try.func14 #[.slice A0 l0.length c0] rfl ?_; (with_reducible refine (spec_DrawReversePolynomial.calls kj19 _ _ l0 t487 t488 _ ?side1 ?side2 A30.out).mono ?_); (case side1 => exact cs ((Kd.C_below HR0.out HB.out))); (case side2 => exact HC0.out); rintro e w34 ⟨v489, rfl, ho0, hb⟩; refine ⟨_, rfl, ?_⟩; have n0_ := Aside0.mk (Kd.R_elder' (rs HO_4) (Kd.R_base ho0) hb); have n1_ := Aside0.mk (Kd.R_elder' (rs HO_6) (Kd.R_base ho0) hb); have n2_ := Aside0.mk (Kd.R_elder' (rs HO_11) (Kd.R_base ho0) hb); have n3_ := Aside0.mk (Kd.R_elder' (rs HO_13) (Kd.R_base ho0) hb); have n4_ := Aside0.mk (Kd.R_lower (Kd.R_new' (Kd.R_new' (Kd.R_new' (Kd.R_new' ho0 (Kd.R_lt (rs HO_4))) (Kd.R_lt (rs HO_6))) (Kd.R_lt (rs HO_11))) (Kd.R_lt (rs HO_13))) (below_size (bs HB))); have n5_ := Aside0.mk (below_step (bs HB) hb); clear HO_4; clear HO_6; clear HO_11; clear HO_13; clear HB; have HO_4 := n0_; have HO_6 := n1_; have HO_11 := n2_; have HO_13 := n3_; have HO490 := n4_; have HB := n5_; clear n0_ n1_ n2_ n3_ n4_ n5_; (try clear hb); (try clear hb2); (try clear hk); (try clear hi); (try clear ho0); obtain ⟨Ao35, co35, eo35⟩ := Kd.R_slice HO490.out; subst eo35) | ((with_reducible refine gate_callee (f := 15) rfl ?_); refine goesM_ (some 106) rfl rfl Try.func15 #[.int .i64 t487, .slice Ao35 t488.length co35] rfl ?_; (with_reducible refine (impl_ReversePolynomial.calls kj19 t487 _ _ t488 t491 t492 _ ?side1 ?side2 A31.out).mono ?_); (case side1 => exact cs ((Kd.R_reads' HO490.out).2.2)); (case side2 => exact (Kd.R_reads' HO490.out).2.1); rintro e w36 ⟨v493, rfl, ho0, hb⟩; refine ⟨_, rfl, ?_⟩; have n0_ := Aside0.mk (Kd.R_elder' (rs HO_4) (Kd.R_base ho0) hb); have n1_ := Aside0.mk (Kd.R_elder' (rs HO_6) (Kd.R_base ho0) hb); have n2_ := Aside0.mk (Kd.R_elder' (rs HO_11) (Kd.R_base ho0) hb); have n3_ := Aside0.mk (Kd.R_elder' (rs HO_13) (Kd.R_base ho0) hb); have n4_ := Aside0.mk (Kd.R_elder' (rs HO490) (Kd.R_base ho0) hb); have n5_ := Aside0.mk (Kd.R_lower (Kd.R_new' (Kd.R_new' (Kd.R_new' (Kd.R_new' (Kd.R_new' ho0 (Kd.R_lt (rs HO_4))) (Kd.R_lt (rs HO_6))) (Kd.R_lt (rs HO_11))) (Kd.R_lt (rs HO_13))) (Kd.R_lt (rs HO490))) (below_size (bs HB))); have n6_ := Aside0.mk (below_step (bs HB) hb); clear HO_4; clear HO_6; clear HO_11; clear HO_13; clear HO490; clear HB; have HO_4 := n0_; have HO_6 := n1_; have HO_11 := n2_; have HO_13 := n3_; have HO490 := n4_; have HO494 := n5_; have HB := n6_; clear n0_ n1_ n2_ n3_ n4_ n5_ n6_; (try clear hb); (try clear hb2); (try clear hk); (try clear hi); (try clear ho0)) | ((with_reducible refine gate_callee (f := 16) rfl ?_); refine goesM_ (some 112) rfl rfl Try.func16 #[.int .i64 t487, .slice Ao35 t488.length co35] rfl ?_; (with_reducible refine (spec_ReversePolynomial.calls kj19 t487 (fun k_ => some k_ = (.slice Ao35 t488.length co35 : Value).ownBlock) _ _ t488 t495 t498 _ ?side1 A32.out).mono ?_); (case side1 => exact Kd.R_V (Kd.R_tight rfl (HO490.out))); rintro e w37 ⟨v496, rfl, ho0, hb⟩; refine ⟨_, rfl, ?_⟩; have n0_ := Aside0.mk (Kd.R_elder' (rs HO_4) (Kd.R_base ho0) hb); have n1_ := Aside0.mk (Kd.R_elder' (rs HO_6) (Kd.R_base ho0) hb); have n2_ := Aside0.mk (Kd.R_elder' (rs HO_11) (Kd.R_base ho0) hb); have n3_ := Aside0.mk (Kd.R_elder' (rs HO_13) (Kd.R_base ho0) hb); have n4_ := Aside0.mk (Kd.R_elder' (rs HO490) (Kd.R_base ho0) hb); have n5_ := Aside0.mk (Kd.R_elder' (rs HO494) (Kd.R_base ho0) hb); have n6_ := Aside0.mk (Kd.R_lower (Kd.R_new' (Kd.R_new' (Kd.R_new' (Kd.R_new' (Kd.R_new' (Kd.R_new' (Kd.R_mono (ok' := fun k_ => True) ho0 (fun _ hk_ => trivial)) (Kd.R_lt (rs HO_4))) (Kd.R_lt (rs HO_6))) (Kd.R_lt (rs HO_11))) (Kd.R_lt (rs HO_13))) (Kd.R_lt (rs HO490))) (Kd.R_lt (rs HO494))) (below_size (bs HB))); have n7_ := Aside0.mk (below_step (bs HB) hb); clear HO_4; clear HO_6; clear HO_11; clear HO_13; clear HO490; clear HO494; clear HB; have HO_4 := n0_; have HO_6 := n1_; have HO_11 := n2_; have HO_13 := n3_; have HO490 := n4_; have HO494 := n5_; have HO497 := n6_; have HB := n7_; clear n0_ n1_ n2_ n3_ n4_ n5_ n6_ n7_; (try clear hb); (try clear hb2); (try clear hk); (try clear hi); (try clear ho0)))
                (try simp only [Act.put, List.setIfInBounds_toArray, List.set_cons_zero, List.set_cons_succ])
                go_cut [123] from 98 to 114 (fun v123 wc => ∃ (kq : Nat) (x123_32 : Bool), v123 = .bool x123_32 ∧ Aside0 (laws_FnRootMoves.j2 kq t459 t460 t461 t464 t465 t473 t474 t475 t478 t479 t487 t488 t491 t492 x123_32 = some r) ∧ Aside0 (kq ≤ kj19) ∧ Aside0 (Kd.R (Kd.int .i64) 2 wc w.heap.size (fun k_ => some k_ ≠ (v466 : Value).ownBlock ∧ some k_ ≠ ((.slice Ao22 t474.length co22) : Value).ownBlock ∧ some k_ ≠ (v480 : Value).ownBlock ∧ some k_ ≠ ((.slice Ao35 t488.length co35) : Value).ownBlock ∧ some k_ ≠ (v493 : Value).ownBlock) (.slice Ao9 t460.length co9) t460) ∧ Aside0 (Kd.R (Kd.int .i64) 2 wc w.heap.size (fun k_ => some k_ ≠ ((.slice Ao9 t460.length co9) : Value).ownBlock ∧ some k_ ≠ ((.slice Ao22 t474.length co22) : Value).ownBlock ∧ some k_ ≠ (v480 : Value).ownBlock ∧ some k_ ≠ ((.slice Ao35 t488.length co35) : Value).ownBlock ∧ some k_ ≠ (v493 : Value).ownBlock) v466 t464) ∧ Aside0 (Kd.R (Kd.int .i64) 2 wc w.heap.size (fun k_ => some k_ ≠ ((.slice Ao9 t460.length co9) : Value).ownBlock ∧ some k_ ≠ (v466 : Value).ownBlock ∧ some k_ ≠ (v480 : Value).ownBlock ∧ some k_ ≠ ((.slice Ao35 t488.length co35) : Value).ownBlock ∧ some k_ ≠ (v493 : Value).ownBlock) (.slice Ao22 t474.length co22) t474) ∧ Aside0 (Kd.R (Kd.int .i64) 2 wc w.heap.size (fun k_ => some k_ ≠ ((.slice Ao9 t460.length co9) : Value).ownBlock ∧ some k_ ≠ (v466 : Value).ownBlock ∧ some k_ ≠ ((.slice Ao22 t474.length co22) : Value).ownBlock ∧ some k_ ≠ ((.slice Ao35 t488.length co35) : Value).ownBlock ∧ some k_ ≠ (v493 : Value).ownBlock) v480 t478) ∧ Aside0 (Kd.R (Kd.int .i64) 2 wc w.heap.size (fun k_ => some k_ ≠ ((.slice Ao9 t460.length co9) : Value).ownBlock ∧ some k_ ≠ (v466 : Value).ownBlock ∧ some k_ ≠ ((.slice Ao22 t474.length co22) : Value).ownBlock ∧ some k_ ≠ (v480 : Value).ownBlock ∧ some k_ ≠ (v493 : Value).ownBlock) (.slice Ao35 t488.length co35) t488) ∧ Aside0 (Kd.R (Kd.int .i64) 2 wc w.heap.size (fun k_ => some k_ ≠ ((.slice Ao9 t460.length co9) : Value).ownBlock ∧ some k_ ≠ (v466 : Value).ownBlock ∧ some k_ ≠ ((.slice Ao22 t474.length co22) : Value).ownBlock ∧ some k_ ≠ (v480 : Value).ownBlock ∧ some k_ ≠ ((.slice Ao35 t488.length co35) : Value).ownBlock) v493 t491) ∧ Aside0 (Below w.heap.size w wc))
                case first =>
                  have H := HC33.out
                  clear HC33
                  by_cases c38 : t492 = t498
                  · rw [if_pos c38] at H
                    have c38b0 : (t492 == t498) = true := beq_iff_eq.mpr c38
                    have c38b1 : (t492 != t498) = false := bne_eq_false_iff_eq.mpr c38
                    clear c38
                    (first | rw [c38b0] | (simp only [i64_w, i32_w]; rw [c38b0]) | skip)
                    replace H := Option.bind_eq_some_iff.mp H
                    obtain ⟨t499, A390, H⟩ := H
                    have A39 := Aside0.mk A390
                    clear A390
                    have H' := Aside0.mk H
                    clear H
                    obtain ⟨Ao40, co40, eo40⟩ := Kd.R_slice HO494.out
                    subst eo40
                    obtain ⟨Ao41, co41, eo41⟩ := Kd.R_slice HO497.out
                    subst eo41
                    go_wp2_with (first | (go_at_call 10; (with_reducible refine (laws_likeInts.calls kj19 _ _ t491 _ _ t495 t499 _ ?side1 ?side2 ?side3 ?side4 A39.out).mono ?_); (case side1 => exact cs ((Kd.R_reads' HO494.out).2.2)); (case side2 => exact (Kd.R_reads' HO494.out).2.1); (case side3 => exact cs ((Kd.R_reads' HO497.out).2.2)); (case side4 => exact (Kd.R_reads' HO497.out).2.1); rintro e w' ⟨rfl, ⟨nd, rfl⟩⟩))
                    go_meet
                    case rel => exact ⟨_, (!t499), ea_, H', ⟨by have := HJ6.out; have := HJ19.out; first | omega | exact Nat.le_refl _⟩, ⟨by (with_reducible repeat (first | apply Kd.R_alloc | apply Kd.R_drewN | apply Kd.R_drew)); exact Kd.R_mono HO_4.out (fun _ hk => ⟨hk.1.1.1.1, ⟨hk.1.1.1.2.1, ⟨hk.1.1.1.2.2, ⟨hk.1.1.2, hk.1.2⟩⟩⟩⟩)⟩, ⟨by (with_reducible repeat (first | apply Kd.R_alloc | apply Kd.R_drewN | apply Kd.R_drew)); exact Kd.R_mono HO_6.out (fun _ hk => ⟨hk.1.1.1.1, ⟨hk.1.1.1.2.1, ⟨hk.1.1.1.2.2, ⟨hk.1.1.2, hk.1.2⟩⟩⟩⟩)⟩, ⟨by (with_reducible repeat (first | apply Kd.R_alloc | apply Kd.R_drewN | apply Kd.R_drew)); exact Kd.R_mono HO_11.out (fun _ hk => ⟨hk.1.1.1.1, ⟨hk.1.1.1.2.1, ⟨hk.1.1.1.2.2, ⟨hk.1.1.2, hk.1.2⟩⟩⟩⟩)⟩, ⟨by (with_reducible repeat (first | apply Kd.R_alloc | apply Kd.R_drewN | apply Kd.R_drew)); exact Kd.R_mono HO_13.out (fun _ hk => ⟨hk.1.1.1.1, ⟨hk.1.1.1.2.1, ⟨hk.1.1.1.2.2, ⟨hk.1.1.2, hk.1.2⟩⟩⟩⟩)⟩, ⟨by (with_reducible repeat (first | apply Kd.R_alloc | apply Kd.R_drewN | apply Kd.R_drew)); exact Kd.R_mono HO490.out (fun _ hk => ⟨hk.1.1.1.1.1.2, ⟨hk.1.1.1.1.2, ⟨hk.1.1.1.2, ⟨hk.1.1.2, hk.1.2⟩⟩⟩⟩)⟩, ⟨by (with_reducible repeat (first | apply Kd.R_alloc | apply Kd.R_drewN | apply Kd.R_drew)); exact Kd.R_mono HO494.out (fun _ hk => ⟨hk.1.1.1.1.1.2, ⟨hk.1.1.1.1.2, ⟨hk.1.1.1.2, ⟨hk.1.1.2, hk.1.2⟩⟩⟩⟩)⟩, ⟨by repeat (first | (with_reducible first | exact HB.out | apply below_alloc | apply pw_below_drewN | apply below_drew1) | exact HB.out)⟩⟩
                  · rw [if_neg c38] at H
                    have c38b0 : (t492 == t498) = false := beq_eq_false_iff_ne.mpr c38
                    have c38b1 : (t492 != t498) = true := bne_iff_ne.mpr c38
                    (first | rw [c38b0] | (simp only [i64_w, i32_w]; rw [c38b0]) | skip)
                    have H' := Aside0.mk H
                    clear H
                    go_wp2
                    go_meet
                    case rel => exact ⟨_, (true), ea_, H', ⟨by have := HJ6.out; have := HJ19.out; first | omega | exact Nat.le_refl _⟩, ⟨by (with_reducible repeat (first | apply Kd.R_alloc | apply Kd.R_drewN | apply Kd.R_drew)); exact Kd.R_mono HO_4.out (fun _ hk => ⟨hk.1.1.1.1, ⟨hk.1.1.1.2.1, ⟨hk.1.1.1.2.2, ⟨hk.1.1.2, hk.1.2⟩⟩⟩⟩)⟩, ⟨by (with_reducible repeat (first | apply Kd.R_alloc | apply Kd.R_drewN | apply Kd.R_drew)); exact Kd.R_mono HO_6.out (fun _ hk => ⟨hk.1.1.1.1, ⟨hk.1.1.1.2.1, ⟨hk.1.1.1.2.2, ⟨hk.1.1.2, hk.1.2⟩⟩⟩⟩)⟩, ⟨by (with_reducible repeat (first | apply Kd.R_alloc | apply Kd.R_drewN | apply Kd.R_drew)); exact Kd.R_mono HO_11.out (fun _ hk => ⟨hk.1.1.1.1, ⟨hk.1.1.1.2.1, ⟨hk.1.1.1.2.2, ⟨hk.1.1.2, hk.1.2⟩⟩⟩⟩)⟩, ⟨by (with_reducible repeat (first | apply Kd.R_alloc | apply Kd.R_drewN | apply Kd.R_drew)); exact Kd.R_mono HO_13.out (fun _ hk => ⟨hk.1.1.1.1, ⟨hk.1.1.1.2.1, ⟨hk.1.1.1.2.2, ⟨hk.1.1.2, hk.1.2⟩⟩⟩⟩)⟩, ⟨by (with_reducible repeat (first | apply Kd.R_alloc | apply Kd.R_drewN | apply Kd.R_drew)); exact Kd.R_mono HO490.out (fun _ hk => ⟨hk.1.1.1.1.1.2, ⟨hk.1.1.1.1.2, ⟨hk.1.1.1.2, ⟨hk.1.1.2, hk.1.2⟩⟩⟩⟩)⟩, ⟨by (with_reducible repeat (first | apply Kd.R_alloc | apply Kd.R_drewN | apply Kd.R_drew)); exact Kd.R_mono HO494.out (fun _ hk => ⟨hk.1.1.1.1.1.2, ⟨hk.1.1.1.1.2, ⟨hk.1.1.1.2, ⟨hk.1.1.2, hk.1.2⟩⟩⟩⟩)⟩, ⟨by repeat (first | (with_reducible first | exact HB.out | apply below_alloc | apply pw_below_drewN | apply below_drew1) | exact HB.out)⟩⟩
                case rest => as_aux_lemma =>
                  clear HC33
                  try clear c1
                  try clear c2
                  try clear p2
                  try clear c3
                  try clear c6
                  try clear c7
                  try clear c8
                  try clear c9
                  try clear c11
                  try clear c12
                  try clear c12b0
                  try clear c12b1
                  try clear c13
                  try clear c14
                  try clear c15
                  try clear c16
                  try clear c25
                  try clear c25b0
                  try clear c25b1
                  try clear c29
                  try clear c38
                  try clear c38b0
                  try clear c38b1
                  try clear p2
                  obtain ⟨kq, x123_32, rfl, HA, HJ32, HO_4, HO_6, HO_11, HO_13, HO_18, HO_19, HB⟩ := hcut
                  cases kq with
                  | zero => exact absurd HA.out (by simp [laws_FnRootMoves.j2])
                  | succ kj32 =>
                    have H := HA.out
                    clear HA
                    simp only [laws_FnRootMoves.j2] at H
                    by_cases c42 : x123_32 = true
                    · subst c42
                      have H1 : (some false) = some r := by rw [if_pos rfl] at H; exact H
                      clear H
                      have H := H1
                      clear H1
                      obtain rfl := Option.some.inj H
                      go_wp2
                      go_ret
                      exact ⟨by first | rfl | (simp [errW_none, errW_some] <;> rfl) | (simp [*, errW_none, errW_some] <;> rfl), by repeat (first | (with_reducible first | exact HB.out | apply below_alloc | apply pw_below_drewN | apply below_drew1) | exact HB.out)⟩
                    · replace c42 := Bool.eq_false_iff.mpr c42
                      subst c42
                      have H1 : (if t479 = 0 then (laws_FnRootMoves.j3 kj32 t459 t460 t461 t464 t465 t473 t474 t475 t478 t487 t488 t491 t492 (decide ((t474.length : Int) > 0))) else (laws_FnRootMoves.j3 kj32 t459 t460 t461 t464 t465 t473 t474 t475 t478 t487 t488 t491 t492 false)) = some r := by rw [if_neg (show ¬ (false = true) by decide)] at H; exact H
                      clear H
                      have H := H1
                      clear H1
                      have HC43 := Aside0.mk H
                      clear H
                      go_upto_region 18 with (fail)
                      go_cut [130] from 123 to 123 (fun v130 wc => ∃ (kq : Nat) (x130_42 : Bool), v130 = .bool x130_42 ∧ Aside0 (laws_FnRootMoves.j3 kq t459 t460 t461 t464 t465 t473 t474 t475 t478 t487 t488 t491 t492 x130_42 = some r) ∧ Aside0 (kq ≤ kj32) ∧ Aside0 (Kd.R (Kd.int .i64) 2 wc w.heap.size (fun k_ => some k_ ≠ (v466 : Value).ownBlock ∧ some k_ ≠ ((.slice Ao22 t474.length co22) : Value).ownBlock ∧ some k_ ≠ (v480 : Value).ownBlock ∧ some k_ ≠ ((.slice Ao35 t488.length co35) : Value).ownBlock ∧ some k_ ≠ (v493 : Value).ownBlock) (.slice Ao9 t460.length co9) t460) ∧ Aside0 (Kd.R (Kd.int .i64) 2 wc w.heap.size (fun k_ => some k_ ≠ ((.slice Ao9 t460.length co9) : Value).ownBlock ∧ some k_ ≠ ((.slice Ao22 t474.length co22) : Value).ownBlock ∧ some k_ ≠ (v480 : Value).ownBlock ∧ some k_ ≠ ((.slice Ao35 t488.length co35) : Value).ownBlock ∧ some k_ ≠ (v493 : Value).ownBlock) v466 t464) ∧ Aside0 (Kd.R (Kd.int .i64) 2 wc w.heap.size (fun k_ => some k_ ≠ ((.slice Ao9 t460.length co9) : Value).ownBlock ∧ some k_ ≠ (v466 : Value).ownBlock ∧ some k_ ≠ (v480 : Value).ownBlock ∧ some k_ ≠ ((.slice Ao35 t488.length co35) : Value).ownBlock ∧ some k_ ≠ (v493 : Value).ownBlock) (.slice Ao22 t474.length co22) t474) ∧ Aside0 (Kd.R (Kd.int .i64) 2 wc w.heap.size (fun k_ => some k_ ≠ ((.slice Ao9 t460.length co9) : Value).ownBlock ∧ some k_ ≠ (v466 : Value).ownBlock ∧ some k_ ≠ ((.slice Ao22 t474.length co22) : Value).ownBlock ∧ some k_ ≠ ((.slice Ao35 t488.length co35) : Value).ownBlock ∧ some k_ ≠ (v493 : Value).ownBlock) v480 t478) ∧ Aside0 (Kd.R (Kd.int .i64) 2 wc w.heap.size (fun k_ => some k_ ≠ ((.slice Ao9 t460.length co9) : Value).ownBlock ∧ some k_ ≠ (v466 : Value).ownBlock ∧ some k_ ≠ ((.slice Ao22 t474.length co22) : Value).ownBlock ∧ some k_ ≠ (v480 : Value).ownBlock ∧ some k_ ≠ (v493 : Value).ownBlock) (.slice Ao35 t488.length co35) t488) ∧ Aside0 (Kd.R (Kd.int .i64) 2 wc w.heap.size (fun k_ => some k_ ≠ ((.slice Ao9 t460.length co9) : Value).ownBlock ∧ some k_ ≠ (v466 : Value).ownBlock ∧ some k_ ≠ ((.slice Ao22 t474.length co22) : Value).ownBlock ∧ some k_ ≠ (v480 : Value).ownBlock ∧ some k_ ≠ ((.slice Ao35 t488.length co35) : Value).ownBlock) v493 t491) ∧ Aside0 (Below w.heap.size w wc))
                      case first =>
                        have H := HC43.out
                        clear HC43
                        by_cases c44 : t479 = 0
                        · rw [if_pos c44] at H
                          have c44b0 : (t479 == 0) = true := beq_iff_eq.mpr c44
                          have c44b1 : (t479 != 0) = false := bne_eq_false_iff_eq.mpr c44
                          clear c44
                          (first | rw [c44b0] | (simp only [i64_w, i32_w]; rw [c44b0]) | skip)
                          have H' := Aside0.mk H
                          clear H
                          go_wp2
                          go_meet
                          case rel => exact ⟨_, (decide ((t474.length : Int) > 0)), ea_, H', ⟨by have := HJ6.out; have := HJ19.out; have := HJ32.out; first | omega | exact Nat.le_refl _⟩, ⟨by (with_reducible repeat (first | apply Kd.R_alloc | apply Kd.R_drewN | apply Kd.R_drew)); exact HO_4.out⟩, ⟨by (with_reducible repeat (first | apply Kd.R_alloc | apply Kd.R_drewN | apply Kd.R_drew)); exact HO_6.out⟩, ⟨by (with_reducible repeat (first | apply Kd.R_alloc | apply Kd.R_drewN | apply Kd.R_drew)); exact HO_11.out⟩, ⟨by (with_reducible repeat (first | apply Kd.R_alloc | apply Kd.R_drewN | apply Kd.R_drew)); exact HO_13.out⟩, ⟨by (with_reducible repeat (first | apply Kd.R_alloc | apply Kd.R_drewN | apply Kd.R_drew)); exact HO_18.out⟩, ⟨by (with_reducible repeat (first | apply Kd.R_alloc | apply Kd.R_drewN | apply Kd.R_drew)); exact HO_19.out⟩, ⟨by repeat (first | (with_reducible first | exact HB.out | apply below_alloc | apply pw_below_drewN | apply below_drew1) | exact HB.out)⟩⟩
                        · rw [if_neg c44] at H
                          have c44b0 : (t479 == 0) = false := beq_eq_false_iff_ne.mpr c44
                          have c44b1 : (t479 != 0) = true := bne_iff_ne.mpr c44
                          (first | rw [c44b0] | (simp only [i64_w, i32_w]; rw [c44b0]) | skip)
                          have H' := Aside0.mk H
                          clear H
                          go_wp2
                          go_meet
                          case rel => exact ⟨_, (false), ea_, H', ⟨by have := HJ6.out; have := HJ19.out; have := HJ32.out; first | omega | exact Nat.le_refl _⟩, ⟨by (with_reducible repeat (first | apply Kd.R_alloc | apply Kd.R_drewN | apply Kd.R_drew)); exact HO_4.out⟩, ⟨by (with_reducible repeat (first | apply Kd.R_alloc | apply Kd.R_drewN | apply Kd.R_drew)); exact HO_6.out⟩, ⟨by (with_reducible repeat (first | apply Kd.R_alloc | apply Kd.R_drewN | apply Kd.R_drew)); exact HO_11.out⟩, ⟨by (with_reducible repeat (first | apply Kd.R_alloc | apply Kd.R_drewN | apply Kd.R_drew)); exact HO_13.out⟩, ⟨by (with_reducible repeat (first | apply Kd.R_alloc | apply Kd.R_drewN | apply Kd.R_drew)); exact HO_18.out⟩, ⟨by (with_reducible repeat (first | apply Kd.R_alloc | apply Kd.R_drewN | apply Kd.R_drew)); exact HO_19.out⟩, ⟨by repeat (first | (with_reducible first | exact HB.out | apply below_alloc | apply pw_below_drewN | apply below_drew1) | exact HB.out)⟩⟩
                      case rest => as_aux_lemma =>
                        clear HC43
                        try clear c1
                        try clear c2
                        try clear p2
                        try clear c3
                        try clear c4
                        try clear c6
                        try clear c7
                        try clear c8
                        try clear c9
                        try clear c11
                        try clear c12
                        try clear c12b0
                        try clear c12b1
                        try clear c13
                        try clear c14
                        try clear c15
                        try clear c16
                        try clear c25
                        try clear c25b0
                        try clear c25b1
                        try clear c29
                        try clear c38
                        try clear c38b0
                        try clear c38b1
                        try clear c42
                        try clear c44
                        try clear c44b0
                        try clear c44b1
                        try clear p2
                        obtain ⟨kq, x130_42, rfl, HA, HJ42, HO_4, HO_6, HO_11, HO_13, HO_18, HO_19, HB⟩ := hcut
                        cases kq with
                        | zero => exact absurd HA.out (by simp [laws_FnRootMoves.j3])
                        | succ kj42 =>
                          have H := HA.out
                          clear HA
                          simp only [laws_FnRootMoves.j3] at H
                          have HC45 := Aside0.mk H
                          clear H
                          go_upto_if 130 with (fail)
                          go_cut [] from 130 to 130 (fun wc => ∃ (kq : Nat), Aside0 (laws_FnRootMoves.j6 kq t459 t460 t461 t464 t465 t487 t488 t491 t492 = some r) ∧ Aside0 (kq ≤ kj42) ∧ Aside0 (Kd.R (Kd.int .i64) 2 wc w.heap.size (fun k_ => some k_ ≠ (v466 : Value).ownBlock ∧ some k_ ≠ ((.slice Ao35 t488.length co35) : Value).ownBlock ∧ some k_ ≠ (v493 : Value).ownBlock) (.slice Ao9 t460.length co9) t460) ∧ Aside0 (Kd.R (Kd.int .i64) 2 wc w.heap.size (fun k_ => some k_ ≠ ((.slice Ao9 t460.length co9) : Value).ownBlock ∧ some k_ ≠ ((.slice Ao35 t488.length co35) : Value).ownBlock ∧ some k_ ≠ (v493 : Value).ownBlock) v466 t464) ∧ Aside0 (Kd.R (Kd.int .i64) 2 wc w.heap.size (fun k_ => some k_ ≠ ((.slice Ao9 t460.length co9) : Value).ownBlock ∧ some k_ ≠ (v466 : Value).ownBlock ∧ some k_ ≠ (v493 : Value).ownBlock) (.slice Ao35 t488.length co35) t488) ∧ Aside0 (Kd.R (Kd.int .i64) 2 wc w.heap.size (fun k_ => some k_ ≠ ((.slice Ao9 t460.length co9) : Value).ownBlock ∧ some k_ ≠ (v466 : Value).ownBlock ∧ some k_ ≠ ((.slice Ao35 t488.length co35) : Value).ownBlock) v493 t491) ∧ Aside0 (Below w.heap.size w wc))
                          case first =>
                            have H := HC45.out
                            clear HC45
                            by_cases c46 : x130_42 = true
                            · subst c46
                              have H1 : ((impl_RootsIn.f kj42 t473 t474).bind fun bt500 => ((impl_RootsIn.f kj42 t473 t478).bind fun bt504 => (if bt500.2 = 0 then (if bt504.2 = 0 then (laws_FnRootMoves.j4 kj42 t459 t460 t461 t464 t465 t473 t475 t478 t487 t488 t491 t492 bt500.1 ((bt500.1.length : Int) != (bt504.1.length : Int))) else (laws_FnRootMoves.j4 kj42 t459 t460 t461 t464 t465 t473 t475 t478 t487 t488 t491 t492 bt500.1 true)) else (laws_FnRootMoves.j4 kj42 t459 t460 t461 t464 t465 t473 t475 t478 t487 t488 t491 t492 bt500.1 true)))) = some r := by rw [if_pos rfl] at H; exact H
                              clear H
                              have H := H1
                              clear H1
                              replace H := Option.bind_eq_some_iff.mp H
                              obtain ⟨⟨t500, t501⟩, A470, H⟩ := H
                              have A47 := Aside0.mk A470
                              clear A470
                              replace H := Option.bind_eq_some_iff.mp H
                              obtain ⟨⟨t504, t505⟩, A480, H⟩ := H
                              have A48 := Aside0.mk A480
                              clear A480
                              have HC49 := Aside0.mk H
                              clear H
                              go_upto_region 21 with (first | ((with_reducible refine gate_callee (f := 17) rfl ?_); refine goesM_ (some 134) rfl rfl Try.func17 #[.int .i64 t473, .slice Ao22 t474.length co22] rfl ?_; (with_reducible refine (impl_RootsIn.calls kj42 t473 _ _ t474 t500 t501 _ ?side1 ?side2 A47.out).mono ?_); (case side1 => exact cs ((Kd.R_reads' HO_11.out).2.2)); (case side2 => exact (Kd.R_reads' HO_11.out).2.1); rintro e w50 ⟨v502, rfl, ho0, hb⟩; refine ⟨_, rfl, ?_⟩; have n0_ := Aside0.mk (Kd.R_elder' (rs HO_4) (Kd.R_base ho0) hb); have n1_ := Aside0.mk (Kd.R_elder' (rs HO_6) (Kd.R_base ho0) hb); have n2_ := Aside0.mk (Kd.R_elder' (rs HO_11) (Kd.R_base ho0) hb); have n3_ := Aside0.mk (Kd.R_elder' (rs HO_13) (Kd.R_base ho0) hb); have n4_ := Aside0.mk (Kd.R_elder' (rs HO_18) (Kd.R_base ho0) hb); have n5_ := Aside0.mk (Kd.R_elder' (rs HO_19) (Kd.R_base ho0) hb); have n6_ := Aside0.mk (Kd.R_lower (Kd.R_new' (Kd.R_new' (Kd.R_new' (Kd.R_new' (Kd.R_new' (Kd.R_new' ho0 (Kd.R_lt (rs HO_4))) (Kd.R_lt (rs HO_6))) (Kd.R_lt (rs HO_11))) (Kd.R_lt (rs HO_13))) (Kd.R_lt (rs HO_18))) (Kd.R_lt (rs HO_19))) (below_size (bs HB))); have n7_ := Aside0.mk (below_step (bs HB) hb); clear HO_4; clear HO_6; clear HO_11; clear HO_13; clear HO_18; clear HO_19; clear HB; have HO_4 := n0_; have HO_6 := n1_; have HO_11 := n2_; have HO_13 := n3_; have HO_18 := n4_; have HO_19 := n5_; have HO503 := n6_; have HB := n7_; clear n0_ n1_ n2_ n3_ n4_ n5_ n6_ n7_; (try clear hb); (try clear hb2); (try clear hk); (try clear hi); (try clear ho0); obtain ⟨Ao51, co51, eo51⟩ := Kd.R_slice HO_13.out; subst eo51) | ((with_reducible refine gate_callee (f := 17) rfl ?_); refine goesM_ (some 140) rfl rfl Try.func17 #[.int .i64 t473, .slice Ao51 t478.length co51] rfl ?_; (with_reducible refine (impl_RootsIn.calls kj42 t473 _ _ t478 t504 t505 _ ?side1 ?side2 A48.out).mono ?_); (case side1 => exact cs ((Kd.R_reads' HO_13.out).2.2)); (case side2 => exact (Kd.R_reads' HO_13.out).2.1); rintro e w52 ⟨v506, rfl, ho0, hb⟩; refine ⟨_, rfl, ?_⟩; have n0_ := Aside0.mk (Kd.R_elder' (rs HO_4) (Kd.R_base ho0) hb); have n1_ := Aside0.mk (Kd.R_elder' (rs HO_6) (Kd.R_base ho0) hb); have n2_ := Aside0.mk (Kd.R_elder' (rs HO_11) (Kd.R_base ho0) hb); have n3_ := Aside0.mk (Kd.R_elder' (rs HO_13) (Kd.R_base ho0) hb); have n4_ := Aside0.mk (Kd.R_elder' (rs HO_18) (Kd.R_base ho0) hb); have n5_ := Aside0.mk (Kd.R_elder' (rs HO_19) (Kd.R_base ho0) hb); have n6_ := Aside0.mk (Kd.R_elder' (rs HO503) (Kd.R_base ho0) hb); have n7_ := Aside0.mk (Kd.R_lower (Kd.R_new' (Kd.R_new' (Kd.R_new' (Kd.R_new' (Kd.R_new' (Kd.R_new' (Kd.R_new' ho0 (Kd.R_lt (rs HO_4))) (Kd.R_lt (rs HO_6))) (Kd.R_lt (rs HO_11))) (Kd.R_lt (rs HO_13))) (Kd.R_lt (rs HO_18))) (Kd.R_lt (rs HO_19))) (Kd.R_lt (rs HO503))) (below_size (bs HB))); have n8_ := Aside0.mk (below_step (bs HB) hb); clear HO_4; clear HO_6; clear HO_11; clear HO_13; clear HO_18; clear HO_19; clear HO503; clear HB; have HO_4 := n0_; have HO_6 := n1_; have HO_11 := n2_; have HO_13 := n3_; have HO_18 := n4_; have HO_19 := n5_; have HO503 := n6_; have HO507 := n7_; have HB := n8_; clear n0_ n1_ n2_ n3_ n4_ n5_ n6_ n7_ n8_; (try clear hb); (try clear hb2); (try clear hk); (try clear hi); (try clear ho0)))
                              (try simp only [Act.put, List.setIfInBounds_toArray, List.set_cons_zero, List.set_cons_succ])
                              go_cut [155] from 131 to 142 (fun v155 wc => ∃ (kq : Nat) (x155_48 : Bool), v155 = .bool x155_48 ∧ Aside0 (laws_FnRootMoves.j4 kq t459 t460 t461 t464 t465 t473 t475 t478 t487 t488 t491 t492 t500 x155_48 = some r) ∧ Aside0 (kq ≤ kj42) ∧ Aside0 (Kd.R (Kd.int .i64) 2 wc w.heap.size (fun k_ => some k_ ≠ (v466 : Value).ownBlock ∧ some k_ ≠ ((.slice Ao51 t478.length co51) : Value).ownBlock ∧ some k_ ≠ ((.slice Ao35 t488.length co35) : Value).ownBlock ∧ some k_ ≠ (v493 : Value).ownBlock ∧ some k_ ≠ (v502 : Value).ownBlock) (.slice Ao9 t460.length co9) t460) ∧ Aside0 (Kd.R (Kd.int .i64) 2 wc w.heap.size (fun k_ => some k_ ≠ ((.slice Ao9 t460.length co9) : Value).ownBlock ∧ some k_ ≠ ((.slice Ao51 t478.length co51) : Value).ownBlock ∧ some k_ ≠ ((.slice Ao35 t488.length co35) : Value).ownBlock ∧ some k_ ≠ (v493 : Value).ownBlock ∧ some k_ ≠ (v502 : Value).ownBlock) v466 t464) ∧ Aside0 (Kd.R (Kd.int .i64) 2 wc w.heap.size (fun k_ => some k_ ≠ ((.slice Ao9 t460.length co9) : Value).ownBlock ∧ some k_ ≠ (v466 : Value).ownBlock ∧ some k_ ≠ ((.slice Ao35 t488.length co35) : Value).ownBlock ∧ some k_ ≠ (v493 : Value).ownBlock ∧ some k_ ≠ (v502 : Value).ownBlock) (.slice Ao51 t478.length co51) t478) ∧ Aside0 (Kd.R (Kd.int .i64) 2 wc w.heap.size (fun k_ => some k_ ≠ ((.slice Ao9 t460.length co9) : Value).ownBlock ∧ some k_ ≠ (v466 : Value).ownBlock ∧ some k_ ≠ ((.slice Ao51 t478.length co51) : Value).ownBlock ∧ some k_ ≠ (v493 : Value).ownBlock ∧ some k_ ≠ (v502 : Value).ownBlock) (.slice Ao35 t488.length co35) t488) ∧ Aside0 (Kd.R (Kd.int .i64) 2 wc w.heap.size (fun k_ => some k_ ≠ ((.slice Ao9 t460.length co9) : Value).ownBlock ∧ some k_ ≠ (v466 : Value).ownBlock ∧ some k_ ≠ ((.slice Ao51 t478.length co51) : Value).ownBlock ∧ some k_ ≠ ((.slice Ao35 t488.length co35) : Value).ownBlock ∧ some k_ ≠ (v502 : Value).ownBlock) v493 t491) ∧ Aside0 (Kd.R (Kd.int .i64) 2 wc w.heap.size (fun k_ => some k_ ≠ ((.slice Ao9 t460.length co9) : Value).ownBlock ∧ some k_ ≠ (v466 : Value).ownBlock ∧ some k_ ≠ ((.slice Ao51 t478.length co51) : Value).ownBlock ∧ some k_ ≠ ((.slice Ao35 t488.length co35) : Value).ownBlock ∧ some k_ ≠ (v493 : Value).ownBlock) v502 t500) ∧ Aside0 (Below w.heap.size w wc))
                              case first =>
                                have H := HC49.out
                                clear HC49
                                by_cases c53 : t501 = 0
                                · rw [if_pos c53] at H
                                  have c53b0 : (t501 == 0) = true := beq_iff_eq.mpr c53
                                  have c53b1 : (t501 != 0) = false := bne_eq_false_iff_eq.mpr c53
                                  clear c53
                                  (first | rw [c53b0] | (simp only [i64_w, i32_w]; rw [c53b0]) | skip)
                                  by_cases c54 : t505 = 0
                                  · rw [if_pos c54] at H
                                    have c54b0 : (t505 == 0) = true := beq_iff_eq.mpr c54
                                    have c54b1 : (t505 != 0) = false := bne_eq_false_iff_eq.mpr c54
                                    clear c54
                                    have H' := Aside0.mk H
                                    clear H
                                    obtain ⟨Ao55, co55, eo55⟩ := Kd.R_slice HO503.out
                                    subst eo55
                                    obtain ⟨Ao56, co56, eo56⟩ := Kd.R_slice HO507.out
                                    subst eo56
                                    go_wp2
                                    go_meet
                                    case rel => exact ⟨_, (((t500.length : Int) != (t504.length : Int))), ea_, H', ⟨by have := HJ6.out; have := HJ19.out; have := HJ32.out; have := HJ42.out; first | omega | exact Nat.le_refl _⟩, ⟨by (with_reducible repeat (first | apply Kd.R_alloc | apply Kd.R_drewN | apply Kd.R_drew)); exact Kd.R_mono HO_4.out (fun _ hk => ⟨hk.1.1.1, ⟨hk.1.1.2.2.1, ⟨hk.1.1.2.2.2.1, ⟨hk.1.1.2.2.2.2, hk.1.2⟩⟩⟩⟩)⟩, ⟨by (with_reducible repeat (first | apply Kd.R_alloc | apply Kd.R_drewN | apply Kd.R_drew)); exact Kd.R_mono HO_6.out (fun _ hk => ⟨hk.1.1.1, ⟨hk.1.1.2.2.1, ⟨hk.1.1.2.2.2.1, ⟨hk.1.1.2.2.2.2, hk.1.2⟩⟩⟩⟩)⟩, ⟨by (with_reducible repeat (first | apply Kd.R_alloc | apply Kd.R_drewN | apply Kd.R_drew)); exact Kd.R_mono HO_13.out (fun _ hk => ⟨hk.1.1.1, ⟨hk.1.1.2.1, ⟨hk.1.1.2.2.2.1, ⟨hk.1.1.2.2.2.2, hk.1.2⟩⟩⟩⟩)⟩, ⟨by (with_reducible repeat (first | apply Kd.R_alloc | apply Kd.R_drewN | apply Kd.R_drew)); exact Kd.R_mono HO_18.out (fun _ hk => ⟨hk.1.1.1, ⟨hk.1.1.2.1, ⟨hk.1.1.2.2.2.1, ⟨hk.1.1.2.2.2.2, hk.1.2⟩⟩⟩⟩)⟩, ⟨by (with_reducible repeat (first | apply Kd.R_alloc | apply Kd.R_drewN | apply Kd.R_drew)); exact Kd.R_mono HO_19.out (fun _ hk => ⟨hk.1.1.1, ⟨hk.1.1.2.1, ⟨hk.1.1.2.2.2.1, ⟨hk.1.1.2.2.2.2, hk.1.2⟩⟩⟩⟩)⟩, ⟨by (with_reducible repeat (first | apply Kd.R_alloc | apply Kd.R_drewN | apply Kd.R_drew)); exact Kd.R_mono HO503.out (fun _ hk => ⟨hk.1.1.1.1.1.1.2, ⟨hk.1.1.1.1.1.2, ⟨hk.1.1.1.2, ⟨hk.1.1.2, hk.1.2⟩⟩⟩⟩)⟩, ⟨by repeat (first | (with_reducible first | exact HB.out | apply below_alloc | apply pw_below_drewN | apply below_drew1) | exact HB.out)⟩⟩
                                  · rw [if_neg c54] at H
                                    have c54b0 : (t505 == 0) = false := beq_eq_false_iff_ne.mpr c54
                                    have c54b1 : (t505 != 0) = true := bne_iff_ne.mpr c54
                                    have H' := Aside0.mk H
                                    clear H
                                    go_wp2
                                    go_meet
                                    case rel => exact ⟨_, (true), ea_, H', ⟨by have := HJ6.out; have := HJ19.out; have := HJ32.out; have := HJ42.out; first | omega | exact Nat.le_refl _⟩, ⟨by (with_reducible repeat (first | apply Kd.R_alloc | apply Kd.R_drewN | apply Kd.R_drew)); exact Kd.R_mono HO_4.out (fun _ hk => ⟨hk.1.1.1, ⟨hk.1.1.2.2.1, ⟨hk.1.1.2.2.2.1, ⟨hk.1.1.2.2.2.2, hk.1.2⟩⟩⟩⟩)⟩, ⟨by (with_reducible repeat (first | apply Kd.R_alloc | apply Kd.R_drewN | apply Kd.R_drew)); exact Kd.R_mono HO_6.out (fun _ hk => ⟨hk.1.1.1, ⟨hk.1.1.2.2.1, ⟨hk.1.1.2.2.2.1, ⟨hk.1.1.2.2.2.2, hk.1.2⟩⟩⟩⟩)⟩, ⟨by (with_reducible repeat (first | apply Kd.R_alloc | apply Kd.R_drewN | apply Kd.R_drew)); exact Kd.R_mono HO_13.out (fun _ hk => ⟨hk.1.1.1, ⟨hk.1.1.2.1, ⟨hk.1.1.2.2.2.1, ⟨hk.1.1.2.2.2.2, hk.1.2⟩⟩⟩⟩)⟩, ⟨by (with_reducible repeat (first | apply Kd.R_alloc | apply Kd.R_drewN | apply Kd.R_drew)); exact Kd.R_mono HO_18.out (fun _ hk => ⟨hk.1.1.1, ⟨hk.1.1.2.1, ⟨hk.1.1.2.2.2.1, ⟨hk.1.1.2.2.2.2, hk.1.2⟩⟩⟩⟩)⟩, ⟨by (with_reducible repeat (first | apply Kd.R_alloc | apply Kd.R_drewN | apply Kd.R_drew)); exact Kd.R_mono HO_19.out (fun _ hk => ⟨hk.1.1.1, ⟨hk.1.1.2.1, ⟨hk.1.1.2.2.2.1, ⟨hk.1.1.2.2.2.2, hk.1.2⟩⟩⟩⟩)⟩, ⟨by (with_reducible repeat (first | apply Kd.R_alloc | apply Kd.R_drewN | apply Kd.R_drew)); exact Kd.R_mono HO503.out (fun _ hk => ⟨hk.1.1.1.1.1.1.2, ⟨hk.1.1.1.1.1.2, ⟨hk.1.1.1.2, ⟨hk.1.1.2, hk.1.2⟩⟩⟩⟩)⟩, ⟨by repeat (first | (with_reducible first | exact HB.out | apply below_alloc | apply pw_below_drewN | apply below_drew1) | exact HB.out)⟩⟩
                                · rw [if_neg c53] at H
                                  have c53b0 : (t501 == 0) = false := beq_eq_false_iff_ne.mpr c53
                                  have c53b1 : (t501 != 0) = true := bne_iff_ne.mpr c53
                                  (first | rw [c53b0] | (simp only [i64_w, i32_w]; rw [c53b0]) | skip)
                                  have H' := Aside0.mk H
                                  clear H
                                  go_wp2
                                  go_meet
                                  case rel => exact ⟨_, (true), ea_, H', ⟨by have := HJ6.out; have := HJ19.out; have := HJ32.out; have := HJ42.out; first | omega | exact Nat.le_refl _⟩, ⟨by (with_reducible repeat (first | apply Kd.R_alloc | apply Kd.R_drewN | apply Kd.R_drew)); exact Kd.R_mono HO_4.out (fun _ hk => ⟨hk.1.1.1, ⟨hk.1.1.2.2.1, ⟨hk.1.1.2.2.2.1, ⟨hk.1.1.2.2.2.2, hk.1.2⟩⟩⟩⟩)⟩, ⟨by (with_reducible repeat (first | apply Kd.R_alloc | apply Kd.R_drewN | apply Kd.R_drew)); exact Kd.R_mono HO_6.out (fun _ hk => ⟨hk.1.1.1, ⟨hk.1.1.2.2.1, ⟨hk.1.1.2.2.2.1, ⟨hk.1.1.2.2.2.2, hk.1.2⟩⟩⟩⟩)⟩, ⟨by (with_reducible repeat (first | apply Kd.R_alloc | apply Kd.R_drewN | apply Kd.R_drew)); exact Kd.R_mono HO_13.out (fun _ hk => ⟨hk.1.1.1, ⟨hk.1.1.2.1, ⟨hk.1.1.2.2.2.1, ⟨hk.1.1.2.2.2.2, hk.1.2⟩⟩⟩⟩)⟩, ⟨by (with_reducible repeat (first | apply Kd.R_alloc | apply Kd.R_drewN | apply Kd.R_drew)); exact Kd.R_mono HO_18.out (fun _ hk => ⟨hk.1.1.1, ⟨hk.1.1.2.1, ⟨hk.1.1.2.2.2.1, ⟨hk.1.1.2.2.2.2, hk.1.2⟩⟩⟩⟩)⟩, ⟨by (with_reducible repeat (first | apply Kd.R_alloc | apply Kd.R_drewN | apply Kd.R_drew)); exact Kd.R_mono HO_19.out (fun _ hk => ⟨hk.1.1.1, ⟨hk.1.1.2.1, ⟨hk.1.1.2.2.2.1, ⟨hk.1.1.2.2.2.2, hk.1.2⟩⟩⟩⟩)⟩, ⟨by (with_reducible repeat (first | apply Kd.R_alloc | apply Kd.R_drewN | apply Kd.R_drew)); exact Kd.R_mono HO503.out (fun _ hk => ⟨hk.1.1.1.1.1.1.2, ⟨hk.1.1.1.1.1.2, ⟨hk.1.1.1.2, ⟨hk.1.1.2, hk.1.2⟩⟩⟩⟩)⟩, ⟨by repeat (first | (with_reducible first | exact HB.out | apply below_alloc | apply pw_below_drewN | apply below_drew1) | exact HB.out)⟩⟩
                              case rest => as_aux_lemma =>
                                clear HC49
                                try clear c1
                                try clear c2
                                try clear p2
                                try clear c3
                                try clear c4
                                try clear c5
                                try clear c6
                                try clear c7
                                try clear c8
                                try clear c9
                                try clear c11
                                try clear c12
                                try clear c12b0
                                try clear c12b1
                                try clear c13
                                try clear c14
                                try clear c15
                                try clear c16
                                try clear c17
                                try clear c25
                                try clear c25b0
                                try clear c25b1
                                try clear c29
                                try clear c38
                                try clear c38b0
                                try clear c38b1
                                try clear c42
                                try clear c44
                                try clear c44b0
                                try clear c44b1
                                try clear c46
                                try clear c53
                                try clear c53b0
                                try clear c53b1
                                try clear c54
                                try clear c54b0
                                try clear c54b1
                                try clear p2
                                obtain ⟨kq, x155_48, rfl, HA, HJ48, HO_4, HO_6, HO_13, HO_18, HO_19, HO_23, HB⟩ := hcut
                                cases kq with
                                | zero => exact absurd HA.out (by simp [laws_FnRootMoves.j4])
                                | succ kj48 =>
                                  have H := HA.out
                                  clear HA
                                  simp only [laws_FnRootMoves.j4] at H
                                  by_cases c57 : x155_48 = true
                                  · subst c57
                                    have H1 : (some false) = some r := by rw [if_pos rfl] at H; exact H
                                    clear H
                                    have H := H1
                                    clear H1
                                    obtain rfl := Option.some.inj H
                                    go_wp2
                                    go_ret
                                    exact ⟨by first | rfl | (simp [errW_none, errW_some] <;> rfl) | (simp [*, errW_none, errW_some] <;> rfl), by repeat (first | (with_reducible first | exact HB.out | apply below_alloc | apply pw_below_drewN | apply below_drew1) | exact HB.out)⟩
                                  · replace c57 := Bool.eq_false_iff.mpr c57
                                    subst c57
                                    have H1 : (laws_FnRootMoves.l0 kj48 t459 t460 t461 t464 t465 t473 t475 t478 t487 t488 t491 t492 t500 0) = some r := by rw [if_neg (show ¬ (false = true) by decide)] at H; exact H
                                    clear H
                                    have H := H1
                                    clear H1
                                    have H' := Aside0.mk H
                                    clear H
                                    go_wp2
                                    go_loopg [27] kj48 (fun kq v27 w' => ∃ (x27_6 : Int), v27 = .int .i64 x27_6 ∧ Aside0 (laws_FnRootMoves.l0 kq t459 t460 t461 t464 t465 t473 t475 t478 t487 t488 t491 t492 t500 x27_6 = some r) ∧ Aside0 (kq ≤ kj48) ∧ Aside0 (Kd.R (Kd.int .i64) 2 w' w.heap.size (fun k_ => some k_ ≠ (v466 : Value).ownBlock ∧ some k_ ≠ ((.slice Ao51 t478.length co51) : Value).ownBlock ∧ some k_ ≠ ((.slice Ao35 t488.length co35) : Value).ownBlock ∧ some k_ ≠ (v493 : Value).ownBlock ∧ some k_ ≠ (v502 : Value).ownBlock) (.slice Ao9 t460.length co9) t460) ∧ Aside0 (Kd.R (Kd.int .i64) 2 w' w.heap.size (fun k_ => some k_ ≠ ((.slice Ao9 t460.length co9) : Value).ownBlock ∧ some k_ ≠ ((.slice Ao51 t478.length co51) : Value).ownBlock ∧ some k_ ≠ ((.slice Ao35 t488.length co35) : Value).ownBlock ∧ some k_ ≠ (v493 : Value).ownBlock ∧ some k_ ≠ (v502 : Value).ownBlock) v466 t464) ∧ Aside0 (Kd.R (Kd.int .i64) 2 w' w.heap.size (fun k_ => some k_ ≠ ((.slice Ao9 t460.length co9) : Value).ownBlock ∧ some k_ ≠ (v466 : Value).ownBlock ∧ some k_ ≠ ((.slice Ao35 t488.length co35) : Value).ownBlock ∧ some k_ ≠ (v493 : Value).ownBlock ∧ some k_ ≠ (v502 : Value).ownBlock) (.slice Ao51 t478.length co51) t478) ∧ Aside0 (Kd.R (Kd.int .i64) 2 w' w.heap.size (fun k_ => some k_ ≠ ((.slice Ao9 t460.length co9) : Value).ownBlock ∧ some k_ ≠ (v466 : Value).ownBlock ∧ some k_ ≠ ((.slice Ao51 t478.length co51) : Value).ownBlock ∧ some k_ ≠ (v493 : Value).ownBlock ∧ some k_ ≠ (v502 : Value).ownBlock) (.slice Ao35 t488.length co35) t488) ∧ Aside0 (Kd.R (Kd.int .i64) 2 w' w.heap.size (fun k_ => some k_ ≠ ((.slice Ao9 t460.length co9) : Value).ownBlock ∧ some k_ ≠ (v466 : Value).ownBlock ∧ some k_ ≠ ((.slice Ao51 t478.length co51) : Value).ownBlock ∧ some k_ ≠ ((.slice Ao35 t488.length co35) : Value).ownBlock ∧ some k_ ≠ (v502 : Value).ownBlock) v493 t491) ∧ Aside0 (Kd.R (Kd.int .i64) 2 w' w.heap.size (fun k_ => some k_ ≠ ((.slice Ao9 t460.length co9) : Value).ownBlock ∧ some k_ ≠ (v466 : Value).ownBlock ∧ some k_ ≠ ((.slice Ao51 t478.length co51) : Value).ownBlock ∧ some k_ ≠ ((.slice Ao35 t488.length co35) : Value).ownBlock ∧ some k_ ≠ (v493 : Value).ownBlock) v502 t500) ∧ Aside0 (Below w.heap.size w w'))
                                    case atStart => exact ⟨(0), ea_, H', ⟨Nat.le_refl _⟩, ⟨by (with_reducible repeat (first | apply Kd.R_alloc | apply Kd.R_drewN | apply Kd.R_drew)); exact HO_4.out⟩, ⟨by (with_reducible repeat (first | apply Kd.R_alloc | apply Kd.R_drewN | apply Kd.R_drew)); exact HO_6.out⟩, ⟨by (with_reducible repeat (first | apply Kd.R_alloc | apply Kd.R_drewN | apply Kd.R_drew)); exact HO_13.out⟩, ⟨by (with_reducible repeat (first | apply Kd.R_alloc | apply Kd.R_drewN | apply Kd.R_drew)); exact HO_18.out⟩, ⟨by (with_reducible repeat (first | apply Kd.R_alloc | apply Kd.R_drewN | apply Kd.R_drew)); exact HO_19.out⟩, ⟨by (with_reducible repeat (first | apply Kd.R_alloc | apply Kd.R_drewN | apply Kd.R_drew)); exact HO_23.out⟩, ⟨by repeat (first | (with_reducible first | exact HB.out | apply below_alloc | apply pw_below_drewN | apply below_drew1) | exact HB.out)⟩⟩
                                    case round =>
                                      clear H'
                                      try clear c1
                                      try clear c2
                                      try clear p2
                                      try clear c3
                                      try clear c4
                                      try clear c5
                                      try clear c6
                                      try clear c7
                                      try clear c8
                                      try clear c9
                                      try clear c11
                                      try clear c12
                                      try clear c12b0
                                      try clear c12b1
                                      try clear c13
                                      try clear c14
                                      try clear c15
                                      try clear c16
                                      try clear c17
                                      try clear c25
                                      try clear c25b0
                                      try clear c25b1
                                      try clear c29
                                      try clear c38
                                      try clear c38b0
                                      try clear c38b1
                                      try clear c42
                                      try clear c44
                                      try clear c44b0
                                      try clear c44b1
                                      try clear c46
                                      try clear c53
                                      try clear c53b0
                                      try clear c53b1
                                      try clear c54
                                      try clear c54b0
                                      try clear c54b1
                                      try clear c57
                                      try clear p2
                                      obtain ⟨x27_6, rfl, HA, HK6, HO_4, HO_6, HO_13, HO_18, HO_19, HO_23, HB⟩ := hrel
                                      cases gk with
                                      | zero => exact absurd HA.out (by simp [laws_FnRootMoves.l0])
                                      | succ k6 =>
                                        have H := HA.out
                                        clear HA
                                        simp only [laws_FnRootMoves.l0] at H
                                        by_cases c58 : x27_6 < (t500.length : Int)
                                        · rw [if_pos c58] at H
                                          have c58b0 : decide (x27_6 < (t500.length : Int)) = true := decide_eq_true c58
                                          clear c58
                                          by_cases c59 : 0 ≤ x27_6
                                          · rw [if_pos c59] at H
                                            have c59b0 : decide (0 ≤ x27_6) = true := decide_eq_true c59
                                            clear c59
                                            by_cases c60 : t473 = 0
                                            · rw [if_pos c60] at H
                                              exact absurd H (by simp)
                                            · rw [if_neg c60] at H
                                              have c60b0 : (t473 == 0) = false := beq_eq_false_iff_ne.mpr c60
                                              have c60b1 : (t473 != 0) = true := bne_iff_ne.mpr c60
                                              replace H := Option.bind_eq_some_iff.mp H
                                              obtain ⟨⟨t509, t510⟩, A610, H⟩ := H
                                              have A61 := Aside0.mk A610
                                              clear A610
                                              by_cases c62 : t510 = 0
                                              · rw [if_pos c62] at H
                                                have c62b0 : (t510 == 0) = true := beq_iff_eq.mpr c62
                                                have c62b1 : (t510 != 0) = false := bne_eq_false_iff_eq.mpr c62
                                                clear c62
                                                by_cases c63 : t509 = 0
                                                · rw [if_pos c63] at H
                                                  have c63b0 : (t509 == 0) = true := beq_iff_eq.mpr c63
                                                  have c63b1 : (t509 != 0) = false := bne_eq_false_iff_eq.mpr c63
                                                  clear c63
                                                  have H' := Aside0.mk H
                                                  clear H
                                                  obtain ⟨Ao64, co64, eo64⟩ := Kd.R_slice HO_23.out
                                                  subst eo64
                                                  have p508 : 0 ≤ (x27_6 : Int) := of_decide_eq_true (by first | (with_reducible assumption) | assumption)
                                                  have q508 : x27_6 < (t500.length : Int) := of_decide_eq_true (by first | (with_reducible assumption) | assumption)
                                                  obtain ⟨ad508, e508, hx508_0⟩ := Kd.at_int (Kd.R_reads' HO_23.out).2.2 x27_6 p508 q508
                                                  cases e508
                                                  replace p508 := eq_true p508
                                                  replace q508 := eq_true q508
                                                  go_wp2_with (first | ((with_reducible refine gate_callee (f := 18) rfl ?_); refine goesM_ (some 173) rfl rfl Try.func18 #[.int .i64 t473, .slice Ao51 t478.length co51, .int .i64 (Int.tmod (wrap64 ((rd t500 x27_6) * t475)) t473)] rfl ?_; (with_reducible refine (impl_ValueAt.calls k6 t473 _ _ t478 (Int.tmod (wrap64 ((rd t500 x27_6) * t475)) t473) t509 t510 _ ?side1 ?side2 A61.out).mono ?_); (case side1 => exact cs ((Kd.R_reads' HO_13.out).2.2)); (case side2 => exact (Kd.R_reads' HO_13.out).2.1); rintro e w65 ⟨rfl, hb⟩; refine ⟨_, rfl, ?_⟩; have n0_ := Aside0.mk (Kd.R_below (rs HO_4) hb); have n1_ := Aside0.mk (Kd.R_below (rs HO_6) hb); have n2_ := Aside0.mk (Kd.R_below (rs HO_13) hb); have n3_ := Aside0.mk (Kd.R_below (rs HO_18) hb); have n4_ := Aside0.mk (Kd.R_below (rs HO_19) hb); have n5_ := Aside0.mk (Kd.R_below (rs HO_23) hb); have n6_ := Aside0.mk (below_step (bs HB) hb); clear HO_4; clear HO_6; clear HO_13; clear HO_18; clear HO_19; clear HO_23; clear HB; have HO_4 := n0_; have HO_6 := n1_; have HO_13 := n2_; have HO_18 := n3_; have HO_19 := n4_; have HO_23 := n5_; have HB := n6_; clear n0_ n1_ n2_ n3_ n4_ n5_ n6_; (try clear hb); (try clear hb2); (try clear hk); (try clear hi)))
                                                  go_roundg k6
                                                  case measure => have := HJ6.out; have := HJ19.out; have := HJ32.out; have := HJ42.out; have := HJ48.out; have := HK6.out; omega
                                                  case rel => exact ⟨(wrap64 (x27_6 + 1)), ea_, H', ⟨by have := HJ6.out; have := HJ19.out; have := HJ32.out; have := HJ42.out; have := HJ48.out; have := HK6.out; omega⟩, ⟨by (with_reducible repeat (first | apply Kd.R_alloc | apply Kd.R_drewN | apply Kd.R_drew)); exact HO_4.out⟩, ⟨by (with_reducible repeat (first | apply Kd.R_alloc | apply Kd.R_drewN | apply Kd.R_drew)); exact HO_6.out⟩, ⟨by (with_reducible repeat (first | apply Kd.R_alloc | apply Kd.R_drewN | apply Kd.R_drew)); exact HO_13.out⟩, ⟨by (with_reducible repeat (first | apply Kd.R_alloc | apply Kd.R_drewN | apply Kd.R_drew)); exact HO_18.out⟩, ⟨by (with_reducible repeat (first | apply Kd.R_alloc | apply Kd.R_drewN | apply Kd.R_drew)); exact HO_19.out⟩, ⟨by (with_reducible repeat (first | apply Kd.R_alloc | apply Kd.R_drewN | apply Kd.R_drew)); exact HO_23.out⟩, ⟨by repeat (first | (with_reducible first | exact HB.out | apply below_alloc | apply pw_below_drewN | apply below_drew1) | exact HB.out)⟩⟩
                                                · rw [if_neg c63] at H
                                                  have c63b0 : (t509 == 0) = false := beq_eq_false_iff_ne.mpr c63
                                                  have c63b1 : (t509 != 0) = true := bne_iff_ne.mpr c63
                                                  obtain rfl := Option.some.inj H
                                                  obtain ⟨Ao66, co66, eo66⟩ := Kd.R_slice HO_23.out
                                                  subst eo66
                                                  have p508 : 0 ≤ (x27_6 : Int) := of_decide_eq_true (by first | (with_reducible assumption) | assumption)
                                                  have q508 : x27_6 < (t500.length : Int) := of_decide_eq_true (by first | (with_reducible assumption) | assumption)
                                                  obtain ⟨ad508, e508, hx508_0⟩ := Kd.at_int (Kd.R_reads' HO_23.out).2.2 x27_6 p508 q508
                                                  cases e508
                                                  replace p508 := eq_true p508
                                                  replace q508 := eq_true q508
                                                  go_wp2_with (first | ((with_reducible refine gate_callee (f := 18) rfl ?_); refine goesM_ (some 173) rfl rfl Try.func18 #[.int .i64 t473, .slice Ao51 t478.length co51, .int .i64 (Int.tmod (wrap64 ((rd t500 x27_6) * t475)) t473)] rfl ?_; (with_reducible refine (impl_ValueAt.calls k6 t473 _ _ t478 (Int.tmod (wrap64 ((rd t500 x27_6) * t475)) t473) t509 t510 _ ?side1 ?side2 A61.out).mono ?_); (case side1 => exact cs ((Kd.R_reads' HO_13.out).2.2)); (case side2 => exact (Kd.R_reads' HO_13.out).2.1); rintro e w67 ⟨rfl, hb⟩; refine ⟨_, rfl, ?_⟩; have n0_ := Aside0.mk (Kd.R_below (rs HO_4) hb); have n1_ := Aside0.mk (Kd.R_below (rs HO_6) hb); have n2_ := Aside0.mk (Kd.R_below (rs HO_13) hb); have n3_ := Aside0.mk (Kd.R_below (rs HO_18) hb); have n4_ := Aside0.mk (Kd.R_below (rs HO_19) hb); have n5_ := Aside0.mk (Kd.R_below (rs HO_23) hb); have n6_ := Aside0.mk (below_step (bs HB) hb); clear HO_4; clear HO_6; clear HO_13; clear HO_18; clear HO_19; clear HO_23; clear HB; have HO_4 := n0_; have HO_6 := n1_; have HO_13 := n2_; have HO_18 := n3_; have HO_19 := n4_; have HO_23 := n5_; have HB := n6_; clear n0_ n1_ n2_ n3_ n4_ n5_ n6_; (try clear hb); (try clear hb2); (try clear hk); (try clear hi)))
                                                  go_ret
                                                  exact ⟨by first | rfl | (simp [errW_none, errW_some] <;> rfl) | (simp [*, errW_none, errW_some] <;> rfl), by repeat (first | (with_reducible first | exact HB.out | apply below_alloc | apply pw_below_drewN | apply below_drew1) | exact HB.out)⟩
                                              · rw [if_neg c62] at H
                                                have c62b0 : (t510 == 0) = false := beq_eq_false_iff_ne.mpr c62
                                                have c62b1 : (t510 != 0) = true := bne_iff_ne.mpr c62
                                                obtain rfl := Option.some.inj H
                                                obtain ⟨Ao68, co68, eo68⟩ := Kd.R_slice HO_23.out
                                                subst eo68
                                                have p508 : 0 ≤ (x27_6 : Int) := of_decide_eq_true (by first | (with_reducible assumption) | assumption)
                                                have q508 : x27_6 < (t500.length : Int) := of_decide_eq_true (by first | (with_reducible assumption) | assumption)
                                                obtain ⟨ad508, e508, hx508_0⟩ := Kd.at_int (Kd.R_reads' HO_23.out).2.2 x27_6 p508 q508
                                                cases e508
                                                replace p508 := eq_true p508
                                                replace q508 := eq_true q508
                                                go_wp2_with (first | ((with_reducible refine gate_callee (f := 18) rfl ?_); refine goesM_ (some 173) rfl rfl Try.func18 #[.int .i64 t473, .slice Ao51 t478.length co51, .int .i64 (Int.tmod (wrap64 ((rd t500 x27_6) * t475)) t473)] rfl ?_; (with_reducible refine (impl_ValueAt.calls k6 t473 _ _ t478 (Int.tmod (wrap64 ((rd t500 x27_6) * t475)) t473) t509 t510 _ ?side1 ?side2 A61.out).mono ?_); (case side1 => exact cs ((Kd.R_reads' HO_13.out).2.2)); (case side2 => exact (Kd.R_reads' HO_13.out).2.1); rintro e w69 ⟨rfl, hb⟩; refine ⟨_, rfl, ?_⟩; have n0_ := Aside0.mk (Kd.R_below (rs HO_4) hb); have n1_ := Aside0.mk (Kd.R_below (rs HO_6) hb); have n2_ := Aside0.mk (Kd.R_below (rs HO_13) hb); have n3_ := Aside0.mk (Kd.R_below (rs HO_18) hb); have n4_ := Aside0.mk (Kd.R_below (rs HO_19) hb); have n5_ := Aside0.mk (Kd.R_below (rs HO_23) hb); have n6_ := Aside0.mk (below_step (bs HB) hb); clear HO_4; clear HO_6; clear HO_13; clear HO_18; clear HO_19; clear HO_23; clear HB; have HO_4 := n0_; have HO_6 := n1_; have HO_13 := n2_; have HO_18 := n3_; have HO_19 := n4_; have HO_23 := n5_; have HB := n6_; clear n0_ n1_ n2_ n3_ n4_ n5_ n6_; (try clear hb); (try clear hb2); (try clear hk); (try clear hi)))
                                                go_ret
                                                exact ⟨by first | rfl | (simp [errW_none, errW_some] <;> rfl) | (simp [*, errW_none, errW_some] <;> rfl), by repeat (first | (with_reducible first | exact HB.out | apply below_alloc | apply pw_below_drewN | apply below_drew1) | exact HB.out)⟩
                                          · rw [if_neg c59] at H
                                            exact absurd H (by simp)
                                        · rw [if_neg c58] at H
                                          have c58b0 : decide (x27_6 < (t500.length : Int)) = false := decide_eq_false c58
                                          clear c58
                                          have H' := Aside0.mk H
                                          clear H
                                          obtain ⟨Ao70, co70, eo70⟩ := Kd.R_slice HO_23.out
                                          subst eo70
                                          go_wp2
                                          go_meet
                                          case rel => exact ⟨_, H', ⟨by have := HJ6.out; have := HJ19.out; have := HJ32.out; have := HJ42.out; have := HJ48.out; have := HK6.out; first | omega | exact Nat.le_refl _⟩, ⟨by (with_reducible repeat (first | apply Kd.R_alloc | apply Kd.R_drewN | apply Kd.R_drew)); exact Kd.R_mono HO_4.out (fun _ hk => ⟨hk.1, ⟨hk.2.2.1, hk.2.2.2.1⟩⟩)⟩, ⟨by (with_reducible repeat (first | apply Kd.R_alloc | apply Kd.R_drewN | apply Kd.R_drew)); exact Kd.R_mono HO_6.out (fun _ hk => ⟨hk.1, ⟨hk.2.2.1, hk.2.2.2.1⟩⟩)⟩, ⟨by (with_reducible repeat (first | apply Kd.R_alloc | apply Kd.R_drewN | apply Kd.R_drew)); exact Kd.R_mono HO_18.out (fun _ hk => ⟨hk.1, ⟨hk.2.1, hk.2.2.2.1⟩⟩)⟩, ⟨by (with_reducible repeat (first | apply Kd.R_alloc | apply Kd.R_drewN | apply Kd.R_drew)); exact Kd.R_mono HO_19.out (fun _ hk => ⟨hk.1, ⟨hk.2.1, hk.2.2.2.1⟩⟩)⟩, ⟨by repeat (first | (with_reducible first | exact HB.out | apply below_alloc | apply pw_below_drewN | apply below_drew1) | exact HB.out)⟩⟩
                            · replace c46 := Bool.eq_false_iff.mpr c46
                              subst c46
                              have H1 : (laws_FnRootMoves.j6 kj42 t459 t460 t461 t464 t465 t487 t488 t491 t492) = some r := by rw [if_neg (show ¬ (false = true) by decide)] at H; exact H
                              clear H
                              have H := H1
                              clear H1
                              have H' := Aside0.mk H
                              clear H
                              go_wp2
                              go_meet
                              case rel => exact ⟨_, H', ⟨by have := HJ6.out; have := HJ19.out; have := HJ32.out; have := HJ42.out; first | omega | exact Nat.le_refl _⟩, ⟨by (with_reducible repeat (first | apply Kd.R_alloc | apply Kd.R_drewN | apply Kd.R_drew)); exact Kd.R_mono HO_4.out (fun _ hk => ⟨hk.1, ⟨hk.2.2.2.1, hk.2.2.2.2⟩⟩)⟩, ⟨by (with_reducible repeat (first | apply Kd.R_alloc | apply Kd.R_drewN | apply Kd.R_drew)); exact Kd.R_mono HO_6.out (fun _ hk => ⟨hk.1, ⟨hk.2.2.2.1, hk.2.2.2.2⟩⟩)⟩, ⟨by (with_reducible repeat (first | apply Kd.R_alloc | apply Kd.R_drewN | apply Kd.R_drew)); exact Kd.R_mono HO_18.out (fun _ hk => ⟨hk.1, ⟨hk.2.1, hk.2.2.2.2⟩⟩)⟩, ⟨by (with_reducible repeat (first | apply Kd.R_alloc | apply Kd.R_drewN | apply Kd.R_drew)); exact Kd.R_mono HO_19.out (fun _ hk => ⟨hk.1, ⟨hk.2.1, hk.2.2.2.2⟩⟩)⟩, ⟨by repeat (first | (with_reducible first | exact HB.out | apply below_alloc | apply pw_below_drewN | apply below_drew1) | exact HB.out)⟩⟩
                          case rest => as_aux_lemma =>
                            clear HC45
                            try clear c1
                            try clear c2
                            try clear p2
                            try clear c3
                            try clear c4
                            try clear c5
                            try clear p5
                            try clear q5
                            try clear hx5
                            try clear c6
                            try clear p6
                            try clear c7
                            try clear c8
                            try clear c9
                            try clear c11
                            try clear c12
                            try clear c12b0
                            try clear c12b1
                            try clear c13
                            try clear c14
                            try clear c15
                            try clear c16
                            try clear c17
                            try clear c18
                            try clear c25
                            try clear c25b0
                            try clear c25b1
                            try clear c29
                            try clear c38
                            try clear c38b0
                            try clear c38b1
                            try clear c42
                            try clear c44
                            try clear c44b0
                            try clear c44b1
                            try clear c46
                            try clear p50
                            try clear q50
                            try clear hx50
                            try clear c53
                            try clear c53b0
                            try clear c53b1
                            try clear c54
                            try clear c54b0
                            try clear c54b1
                            try clear c57
                            try clear c58
                            try clear c58b0
                            try clear c59
                            try clear c59b0
                            try clear c60
                            try clear c60b0
                            try clear c60b1
                            try clear c62
                            try clear c62b0
                            try clear c62b1
                            try clear c63
                            try clear c63b0
                            try clear c63b1
                            try clear p64
                            try clear hx508_0
                            try clear p2
                            try clear p508
                            try clear q508
                            obtain ⟨kq, HA, HJ44, HO_4, HO_6, HO_18, HO_19, HB⟩ := hcut
                            cases kq with
                            | zero => exact absurd HA.out (by simp [laws_FnRootMoves.j6])
                            | succ kj44 =>
                              have H := HA.out
                              clear HA
                              simp only [laws_FnRootMoves.j6] at H
                              have HC71 := Aside0.mk H
                              clear H
                              go_upto_if 183 with (fail)
                              go_cut [] from 182 to 183 (fun wc => ∃ (kq : Nat), Aside0 (laws_FnRootMoves.j7 kq t459 t460 t461 t464 t465 = some r) ∧ Aside0 (kq ≤ kj44) ∧ Aside0 (Kd.R (Kd.int .i64) 2 wc w.heap.size (fun k_ => some k_ ≠ (v466 : Value).ownBlock) (.slice Ao9 t460.length co9) t460) ∧ Aside0 (Kd.R (Kd.int .i64) 2 wc w.heap.size (fun k_ => some k_ ≠ ((.slice Ao9 t460.length co9) : Value).ownBlock) v466 t464) ∧ Aside0 (Below w.heap.size w wc))
                              case first =>
                                have H := HC71.out
                                clear HC71
                                by_cases c72 : t492 = 0
                                · rw [if_pos c72] at H
                                  have c72b0 : (t492 == 0) = true := beq_iff_eq.mpr c72
                                  have c72b1 : (t492 != 0) = false := bne_eq_false_iff_eq.mpr c72
                                  clear c72
                                  (first | rw [c72b0] | (simp only [i64_w, i32_w]; rw [c72b0]) | skip)
                                  replace H := Option.bind_eq_some_iff.mp H
                                  obtain ⟨⟨t511, t512⟩, A730, H⟩ := H
                                  have A73 := Aside0.mk A730
                                  clear A730
                                  by_cases c74 : t512 = 0
                                  · rw [if_pos c74] at H
                                    have c74b0 : (t512 == 0) = true := beq_iff_eq.mpr c74
                                    have c74b1 : (t512 != 0) = false := bne_eq_false_iff_eq.mpr c74
                                    clear c74
                                    replace H := Option.bind_eq_some_iff.mp H
                                    obtain ⟨t515, A750, H⟩ := H
                                    have A75 := Aside0.mk A750
                                    clear A750
                                    by_cases c76 : t515 = true
                                    · subst c76
                                      have H1 : (laws_FnRootMoves.j7 kj44 t459 t460 t461 t464 t465) = some r := by rw [if_pos rfl] at H; exact H
                                      clear H
                                      have H := H1
                                      clear H1
                                      have H' := Aside0.mk H
                                      clear H
                                      obtain ⟨Ao77, co77, eo77⟩ := Kd.R_slice HO_19.out
                                      subst eo77
                                      go_wp2_with (first | ((with_reducible refine gate_callee (f := 15) rfl ?_); refine goesM_ (some 187) rfl rfl Try.func15 #[.int .i64 t487, .slice Ao77 t491.length co77] rfl ?_; (with_reducible refine (impl_ReversePolynomial.calls kj44 t487 _ _ t491 t511 t512 _ ?side1 ?side2 A73.out).mono ?_); (case side1 => exact cs ((Kd.R_reads' HO_19.out).2.2)); (case side2 => exact (Kd.R_reads' HO_19.out).2.1); rintro e w78 ⟨v513, rfl, ho0, hb⟩; refine ⟨_, rfl, ?_⟩; have n0_ := Aside0.mk (Kd.R_elder' (rs HO_4) (Kd.R_base ho0) hb); have n1_ := Aside0.mk (Kd.R_elder' (rs HO_6) (Kd.R_base ho0) hb); have n2_ := Aside0.mk (Kd.R_elder' (rs HO_18) (Kd.R_base ho0) hb); have n3_ := Aside0.mk (Kd.R_elder' (rs HO_19) (Kd.R_base ho0) hb); have n4_ := Aside0.mk (Kd.R_lower (Kd.R_new' (Kd.R_new' (Kd.R_new' (Kd.R_new' ho0 (Kd.R_lt (rs HO_4))) (Kd.R_lt (rs HO_6))) (Kd.R_lt (rs HO_18))) (Kd.R_lt (rs HO_19))) (below_size (bs HB))); have n5_ := Aside0.mk (below_step (bs HB) hb); clear HO_4; clear HO_6; clear HO_18; clear HO_19; clear HB; have HO_4 := n0_; have HO_6 := n1_; have HO_18 := n2_; have HO_19 := n3_; have HO514 := n4_; have HB := n5_; clear n0_ n1_ n2_ n3_ n4_ n5_; (try clear hb); (try clear hb2); (try clear hk); (try clear hi); (try clear ho0); obtain ⟨Ao79, co79, eo79⟩ := Kd.R_slice HO514.out; subst eo79) | (go_at_call 10; (with_reducible refine (laws_likeInts.calls kj44 _ _ t511 _ _ t488 true _ ?side1 ?side2 ?side3 ?side4 A75.out).mono ?_); (case side1 => exact cs ((Kd.R_reads' HO514.out).2.2)); (case side2 => exact (Kd.R_reads' HO514.out).2.1); (case side3 => exact cs ((Kd.R_reads' HO_18.out).2.2)); (case side4 => exact (Kd.R_reads' HO_18.out).2.1); rintro e w' ⟨rfl, ⟨nd, rfl⟩⟩))
                                      go_meet
                                      case rel => exact ⟨_, H', ⟨by have := HJ6.out; have := HJ19.out; have := HJ32.out; have := HJ42.out; have := HJ44.out; first | omega | exact Nat.le_refl _⟩, ⟨by (with_reducible repeat (first | apply Kd.R_alloc | apply Kd.R_drewN | apply Kd.R_drew)); exact Kd.R_mono HO_4.out (fun _ hk => hk.1.1)⟩, ⟨by (with_reducible repeat (first | apply Kd.R_alloc | apply Kd.R_drewN | apply Kd.R_drew)); exact Kd.R_mono HO_6.out (fun _ hk => hk.1.1)⟩, ⟨by repeat (first | (with_reducible first | exact HB.out | apply below_alloc | apply pw_below_drewN | apply below_drew1) | exact HB.out)⟩⟩
                                    · replace c76 := Bool.eq_false_iff.mpr c76
                                      subst c76
                                      have H1 : (some false) = some r := by rw [if_neg (show ¬ (false = true) by decide)] at H; exact H
                                      clear H
                                      have H := H1
                                      clear H1
                                      obtain rfl := Option.some.inj H
                                      obtain ⟨Ao80, co80, eo80⟩ := Kd.R_slice HO_19.out
                                      subst eo80
                                      go_wp2_with (first | ((with_reducible refine gate_callee (f := 15) rfl ?_); refine goesM_ (some 187) rfl rfl Try.func15 #[.int .i64 t487, .slice Ao80 t491.length co80] rfl ?_; (with_reducible refine (impl_ReversePolynomial.calls kj44 t487 _ _ t491 t511 t512 _ ?side1 ?side2 A73.out).mono ?_); (case side1 => exact cs ((Kd.R_reads' HO_19.out).2.2)); (case side2 => exact (Kd.R_reads' HO_19.out).2.1); rintro e w81 ⟨v513, rfl, ho0, hb⟩; refine ⟨_, rfl, ?_⟩; have n0_ := Aside0.mk (Kd.R_elder' (rs HO_4) (Kd.R_base ho0) hb); have n1_ := Aside0.mk (Kd.R_elder' (rs HO_6) (Kd.R_base ho0) hb); have n2_ := Aside0.mk (Kd.R_elder' (rs HO_18) (Kd.R_base ho0) hb); have n3_ := Aside0.mk (Kd.R_elder' (rs HO_19) (Kd.R_base ho0) hb); have n4_ := Aside0.mk (Kd.R_lower (Kd.R_new' (Kd.R_new' (Kd.R_new' (Kd.R_new' ho0 (Kd.R_lt (rs HO_4))) (Kd.R_lt (rs HO_6))) (Kd.R_lt (rs HO_18))) (Kd.R_lt (rs HO_19))) (below_size (bs HB))); have n5_ := Aside0.mk (below_step (bs HB) hb); clear HO_4; clear HO_6; clear HO_18; clear HO_19; clear HB; have HO_4 := n0_; have HO_6 := n1_; have HO_18 := n2_; have HO_19 := n3_; have HO514 := n4_; have HB := n5_; clear n0_ n1_ n2_ n3_ n4_ n5_; (try clear hb); (try clear hb2); (try clear hk); (try clear hi); (try clear ho0); obtain ⟨Ao82, co82, eo82⟩ := Kd.R_slice HO514.out; subst eo82) | (go_at_call 10; (with_reducible refine (laws_likeInts.calls kj44 _ _ t511 _ _ t488 false _ ?side1 ?side2 ?side3 ?side4 A75.out).mono ?_); (case side1 => exact cs ((Kd.R_reads' HO514.out).2.2)); (case side2 => exact (Kd.R_reads' HO514.out).2.1); (case side3 => exact cs ((Kd.R_reads' HO_18.out).2.2)); (case side4 => exact (Kd.R_reads' HO_18.out).2.1); rintro e w' ⟨rfl, ⟨nd, rfl⟩⟩))
                                      go_ret
                                      exact ⟨by first | rfl | (simp [errW_none, errW_some] <;> rfl) | (simp [*, errW_none, errW_some] <;> rfl), by repeat (first | (with_reducible first | exact HB.out | apply below_alloc | apply pw_below_drewN | apply below_drew1) | exact HB.out)⟩
                                  · rw [if_neg c74] at H
                                    have c74b0 : (t512 == 0) = false := beq_eq_false_iff_ne.mpr c74
                                    have c74b1 : (t512 != 0) = true := bne_iff_ne.mpr c74
                                    obtain rfl := Option.some.inj H
                                    obtain ⟨Ao83, co83, eo83⟩ := Kd.R_slice HO_19.out
                                    subst eo83
                                    go_wp2_with (first | ((with_reducible refine gate_callee (f := 15) rfl ?_); refine goesM_ (some 187) rfl rfl Try.func15 #[.int .i64 t487, .slice Ao83 t491.length co83] rfl ?_; (with_reducible refine (impl_ReversePolynomial.calls kj44 t487 _ _ t491 t511 t512 _ ?side1 ?side2 A73.out).mono ?_); (case side1 => exact cs ((Kd.R_reads' HO_19.out).2.2)); (case side2 => exact (Kd.R_reads' HO_19.out).2.1); rintro e w84 ⟨v513, rfl, ho0, hb⟩; refine ⟨_, rfl, ?_⟩; have n0_ := Aside0.mk (Kd.R_elder' (rs HO_4) (Kd.R_base ho0) hb); have n1_ := Aside0.mk (Kd.R_elder' (rs HO_6) (Kd.R_base ho0) hb); have n2_ := Aside0.mk (Kd.R_elder' (rs HO_18) (Kd.R_base ho0) hb); have n3_ := Aside0.mk (Kd.R_elder' (rs HO_19) (Kd.R_base ho0) hb); have n4_ := Aside0.mk (Kd.R_lower (Kd.R_new' (Kd.R_new' (Kd.R_new' (Kd.R_new' ho0 (Kd.R_lt (rs HO_4))) (Kd.R_lt (rs HO_6))) (Kd.R_lt (rs HO_18))) (Kd.R_lt (rs HO_19))) (below_size (bs HB))); have n5_ := Aside0.mk (below_step (bs HB) hb); clear HO_4; clear HO_6; clear HO_18; clear HO_19; clear HB; have HO_4 := n0_; have HO_6 := n1_; have HO_18 := n2_; have HO_19 := n3_; have HO514 := n4_; have HB := n5_; clear n0_ n1_ n2_ n3_ n4_ n5_; (try clear hb); (try clear hb2); (try clear hk); (try clear hi); (try clear ho0)))
                                    go_ret
                                    exact ⟨by first | rfl | (simp [errW_none, errW_some] <;> rfl) | (simp [*, errW_none, errW_some] <;> rfl), by repeat (first | (with_reducible first | exact HB.out | apply below_alloc | apply pw_below_drewN | apply below_drew1) | exact HB.out)⟩
                                · rw [if_neg c72] at H
                                  have c72b0 : (t492 == 0) = false := beq_eq_false_iff_ne.mpr c72
                                  have c72b1 : (t492 != 0) = true := bne_iff_ne.mpr c72
                                  (first | rw [c72b0] | (simp only [i64_w, i32_w]; rw [c72b0]) | skip)
                                  have H' := Aside0.mk H
                                  clear H
                                  go_wp2
                                  go_meet
                                  case rel => exact ⟨_, H', ⟨by have := HJ6.out; have := HJ19.out; have := HJ32.out; have := HJ42.out; have := HJ44.out; first | omega | exact Nat.le_refl _⟩, ⟨by (with_reducible repeat (first | apply Kd.R_alloc | apply Kd.R_drewN | apply Kd.R_drew)); exact Kd.R_mono HO_4.out (fun _ hk => hk.1)⟩, ⟨by (with_reducible repeat (first | apply Kd.R_alloc | apply Kd.R_drewN | apply Kd.R_drew)); exact Kd.R_mono HO_6.out (fun _ hk => hk.1)⟩, ⟨by repeat (first | (with_reducible first | exact HB.out | apply below_alloc | apply pw_below_drewN | apply below_drew1) | exact HB.out)⟩⟩
                              case rest => as_aux_lemma =>
                                clear HC71
                                try clear c1
                                try clear c2
                                try clear p2
                                try clear c3
                                try clear c4
                                try clear c5
                                try clear p5
                                try clear q5
                                try clear hx5
                                try clear c6
                                try clear p6
                                try clear c7
                                try clear c8
                                try clear c9
                                try clear c11
                                try clear c12
                                try clear c12b0
                                try clear c12b1
                                try clear c13
                                try clear c14
                                try clear c15
                                try clear c16
                                try clear c17
                                try clear c18
                                try clear c25
                                try clear c25b0
                                try clear c25b1
                                try clear c29
                                try clear c38
                                try clear c38b0
                                try clear c38b1
                                try clear c42
                                try clear c44
                                try clear c44b0
                                try clear c44b1
                                try clear c46
                                try clear p50
                                try clear q50
                                try clear hx50
                                try clear c53
                                try clear c53b0
                                try clear c53b1
                                try clear c54
                                try clear c54b0
                                try clear c54b1
                                try clear c57
                                try clear c58
                                try clear c58b0
                                try clear c59
                                try clear c59b0
                                try clear c60
                                try clear c60b0
                                try clear c60b1
                                try clear c62
                                try clear c62b0
                                try clear c62b1
                                try clear c63
                                try clear c63b0
                                try clear c63b1
                                try clear p64
                                try clear c72
                                try clear c72b0
                                try clear c72b1
                                try clear c74
                                try clear c74b0
                                try clear c74b1
                                try clear c76
                                try clear hx508_0
                                try clear p2
                                try clear p5
                                try clear p50
                                try clear p508
                                try clear p6
                                try clear p64
                                try clear q5
                                try clear q50
                                try clear q508
                                obtain ⟨kq, HA, HJ70, HO_4, HO_6, HB⟩ := hcut
                                cases kq with
                                | zero => exact absurd HA.out (by simp [laws_FnRootMoves.j7])
                                | succ kj70 =>
                                  have H := HA.out
                                  clear HA
                                  simp only [laws_FnRootMoves.j7] at H
                                  by_cases c85 : t465 = 0
                                  · rw [if_pos c85] at H
                                    have c85b0 : (t465 == 0) = true := beq_iff_eq.mpr c85
                                    have c85b1 : (t465 != 0) = false := bne_eq_false_iff_eq.mpr c85
                                    clear c85
                                    by_cases c86 : t459 = 0
                                    · rw [if_pos c86] at H
                                      exact absurd H (by simp)
                                    · rw [if_neg c86] at H
                                      have c86b0 : (t459 == 0) = false := beq_eq_false_iff_ne.mpr c86
                                      have c86b1 : (t459 != 0) = true := bne_iff_ne.mpr c86
                                      replace H := Option.bind_eq_some_iff.mp H
                                      obtain ⟨⟨t516, t517⟩, A870, H⟩ := H
                                      have A87 := Aside0.mk A870
                                      clear A870
                                      replace H := Option.bind_eq_some_iff.mp H
                                      obtain ⟨⟨t520, t521⟩, A880, H⟩ := H
                                      have A88 := Aside0.mk A880
                                      clear A880
                                      replace H := Option.bind_eq_some_iff.mp H
                                      obtain ⟨⟨t522, t523⟩, A890, H⟩ := H
                                      have A89 := Aside0.mk A890
                                      clear A890
                                      by_cases c90 : t517 = 0
                                      · rw [if_pos c90] at H
                                        have c90b0 : (t517 == 0) = true := beq_iff_eq.mpr c90
                                        have c90b1 : (t517 != 0) = false := bne_eq_false_iff_eq.mpr c90
                                        clear c90
                                        replace H := Option.bind_eq_some_iff.mp H
                                        obtain ⟨t524, A910, H⟩ := H
                                        have A91 := Aside0.mk A910
                                        clear A910
                                        by_cases c92 : t524 = true
                                        · subst c92
                                          have H1 : (if t521 = 0 then (if t523 = 0 then (some (t520 == t522)) else (some false)) else (some false)) = some r := by rw [if_pos rfl] at H; exact H
                                          clear H
                                          have H := H1
                                          clear H1
                                          by_cases c93 : t521 = 0
                                          · rw [if_pos c93] at H
                                            have c93b0 : (t521 == 0) = true := beq_iff_eq.mpr c93
                                            have c93b1 : (t521 != 0) = false := bne_eq_false_iff_eq.mpr c93
                                            clear c93
                                            by_cases c94 : t523 = 0
                                            · rw [if_pos c94] at H
                                              have c94b0 : (t523 == 0) = true := beq_iff_eq.mpr c94
                                              have c94b1 : (t523 != 0) = false := bne_eq_false_iff_eq.mpr c94
                                              clear c94
                                              obtain rfl := Option.some.inj H
                                              obtain ⟨Ao95, co95, eo95⟩ := Kd.R_slice HO_6.out
                                              subst eo95
                                              go_wp2_with (first | ((with_reducible refine gate_callee (f := 8) rfl ?_); refine goesM_ (some 211) rfl rfl Try.func8 #[.int .i64 t459, .slice Ao95 t464.length co95, .int .i64 (Int.tmod (wrap64 (t459 - t461)) t459)] rfl ?_; (with_reducible refine (impl_MoveRoots.calls kj70 t459 _ _ t464 (Int.tmod (wrap64 (t459 - t461)) t459) t516 t517 _ ?side1 ?side2 A87.out).mono ?_); (case side1 => exact cs ((Kd.R_reads' HO_6.out).2.2)); (case side2 => exact (Kd.R_reads' HO_6.out).2.1); rintro e w96 ⟨v518, rfl, ho0, hb⟩; refine ⟨_, rfl, ?_⟩; have n0_ := Aside0.mk (Kd.R_elder' (rs HO_4) (Kd.R_base ho0) hb); have n1_ := Aside0.mk (Kd.R_elder' (rs HO_6) (Kd.R_base ho0) hb); have n2_ := Aside0.mk (Kd.R_lower (Kd.R_new' (Kd.R_new' ho0 (Kd.R_lt (rs HO_4))) (Kd.R_lt (rs HO_6))) (below_size (bs HB))); have n3_ := Aside0.mk (below_step (bs HB) hb); clear HO_4; clear HO_6; clear HB; have HO_4 := n0_; have HO_6 := n1_; have HO519 := n2_; have HB := n3_; clear n0_ n1_ n2_ n3_; (try clear hb); (try clear hb2); (try clear hk); (try clear hi); (try clear ho0)) | ((with_reducible refine gate_callee (f := 18) rfl ?_); refine goesM_ (some 218) rfl rfl Try.func18 #[.int .i64 t459, .slice Ao95 t464.length co95, .int .i64 t461] rfl ?_; (with_reducible refine (impl_ValueAt.calls kj70 t459 _ _ t464 t461 t520 t521 _ ?side1 ?side2 A88.out).mono ?_); (case side1 => exact cs ((Kd.R_reads' HO_6.out).2.2)); (case side2 => exact (Kd.R_reads' HO_6.out).2.1); rintro e w97 ⟨rfl, hb⟩; refine ⟨_, rfl, ?_⟩; have n0_ := Aside0.mk (Kd.R_below (rs HO_4) hb); have n1_ := Aside0.mk (Kd.R_below (rs HO_6) hb); have n2_ := Aside0.mk (Kd.R_below (rs HO519) hb); have n3_ := Aside0.mk (below_step (bs HB) hb); clear HO_4; clear HO_6; clear HO519; clear HB; have HO_4 := n0_; have HO_6 := n1_; have HO519 := n2_; have HB := n3_; clear n0_ n1_ n2_ n3_; (try clear hb); (try clear hb2); (try clear hk); (try clear hi)) | ((with_reducible refine gate_callee (f := 18) rfl ?_); refine goesM_ (some 224) rfl rfl Try.func18 #[.int .i64 t459, .slice Ao9 t460.length co9, .int .i64 0] rfl ?_; (with_reducible refine (impl_ValueAt.calls kj70 t459 _ _ t460 0 t522 t523 _ ?side1 ?side2 A89.out).mono ?_); (case side1 => exact cs ((Kd.R_reads' HO_4.out).2.2)); (case side2 => exact (Kd.R_reads' HO_4.out).2.1); rintro e w98 ⟨rfl, hb⟩; refine ⟨_, rfl, ?_⟩; have n0_ := Aside0.mk (Kd.R_below (rs HO_4) hb); have n1_ := Aside0.mk (Kd.R_below (rs HO_6) hb); have n2_ := Aside0.mk (Kd.R_below (rs HO519) hb); have n3_ := Aside0.mk (below_step (bs HB) hb); clear HO_4; clear HO_6; clear HO519; clear HB; have HO_4 := n0_; have HO_6 := n1_; have HO519 := n2_; have HB := n3_; clear n0_ n1_ n2_ n3_; (try clear hb); (try clear hb2); (try clear hk); (try clear hi); obtain ⟨Ao99, co99, eo99⟩ := Kd.R_slice HO519.out; subst eo99) | (go_at_call 10; (with_reducible refine (laws_likeInts.calls kj70 _ _ t516 _ _ t460 true _ ?side1 ?side2 ?side3 ?side4 A91.out).mono ?_); (case side1 => exact cs ((Kd.R_reads' HO519.out).2.2)); (case side2 => exact (Kd.R_reads' HO519.out).2.1); (case side3 => exact cs ((Kd.R_reads' HO_4.out).2.2)); (case side4 => exact (Kd.R_reads' HO_4.out).2.1); rintro e w' ⟨rfl, ⟨nd, rfl⟩⟩))
                                              go_ret
                                              exact ⟨by first | rfl | (simp [errW_none, errW_some] <;> rfl) | (simp [*, errW_none, errW_some] <;> rfl), by repeat (first | (with_reducible first | exact HB.out | apply below_alloc | apply pw_below_drewN | apply below_drew1) | exact HB.out)⟩
                                            · rw [if_neg c94] at H
                                              have c94b0 : (t523 == 0) = false := beq_eq_false_iff_ne.mpr c94
                                              have c94b1 : (t523 != 0) = true := bne_iff_ne.mpr c94
                                              obtain rfl := Option.some.inj H
                                              obtain ⟨Ao100, co100, eo100⟩ := Kd.R_slice HO_6.out
                                              subst eo100
                                              go_wp2_with (first | ((with_reducible refine gate_callee (f := 8) rfl ?_); refine goesM_ (some 211) rfl rfl Try.func8 #[.int .i64 t459, .slice Ao100 t464.length co100, .int .i64 (Int.tmod (wrap64 (t459 - t461)) t459)] rfl ?_; (with_reducible refine (impl_MoveRoots.calls kj70 t459 _ _ t464 (Int.tmod (wrap64 (t459 - t461)) t459) t516 t517 _ ?side1 ?side2 A87.out).mono ?_); (case side1 => exact cs ((Kd.R_reads' HO_6.out).2.2)); (case side2 => exact (Kd.R_reads' HO_6.out).2.1); rintro e w101 ⟨v518, rfl, ho0, hb⟩; refine ⟨_, rfl, ?_⟩; have n0_ := Aside0.mk (Kd.R_elder' (rs HO_4) (Kd.R_base ho0) hb); have n1_ := Aside0.mk (Kd.R_elder' (rs HO_6) (Kd.R_base ho0) hb); have n2_ := Aside0.mk (Kd.R_lower (Kd.R_new' (Kd.R_new' ho0 (Kd.R_lt (rs HO_4))) (Kd.R_lt (rs HO_6))) (below_size (bs HB))); have n3_ := Aside0.mk (below_step (bs HB) hb); clear HO_4; clear HO_6; clear HB; have HO_4 := n0_; have HO_6 := n1_; have HO519 := n2_; have HB := n3_; clear n0_ n1_ n2_ n3_; (try clear hb); (try clear hb2); (try clear hk); (try clear hi); (try clear ho0)) | ((with_reducible refine gate_callee (f := 18) rfl ?_); refine goesM_ (some 218) rfl rfl Try.func18 #[.int .i64 t459, .slice Ao100 t464.length co100, .int .i64 t461] rfl ?_; (with_reducible refine (impl_ValueAt.calls kj70 t459 _ _ t464 t461 t520 t521 _ ?side1 ?side2 A88.out).mono ?_); (case side1 => exact cs ((Kd.R_reads' HO_6.out).2.2)); (case side2 => exact (Kd.R_reads' HO_6.out).2.1); rintro e w102 ⟨rfl, hb⟩; refine ⟨_, rfl, ?_⟩; have n0_ := Aside0.mk (Kd.R_below (rs HO_4) hb); have n1_ := Aside0.mk (Kd.R_below (rs HO_6) hb); have n2_ := Aside0.mk (Kd.R_below (rs HO519) hb); have n3_ := Aside0.mk (below_step (bs HB) hb); clear HO_4; clear HO_6; clear HO519; clear HB; have HO_4 := n0_; have HO_6 := n1_; have HO519 := n2_; have HB := n3_; clear n0_ n1_ n2_ n3_; (try clear hb); (try clear hb2); (try clear hk); (try clear hi)) | ((with_reducible refine gate_callee (f := 18) rfl ?_); refine goesM_ (some 224) rfl rfl Try.func18 #[.int .i64 t459, .slice Ao9 t460.length co9, .int .i64 0] rfl ?_; (with_reducible refine (impl_ValueAt.calls kj70 t459 _ _ t460 0 t522 t523 _ ?side1 ?side2 A89.out).mono ?_); (case side1 => exact cs ((Kd.R_reads' HO_4.out).2.2)); (case side2 => exact (Kd.R_reads' HO_4.out).2.1); rintro e w103 ⟨rfl, hb⟩; refine ⟨_, rfl, ?_⟩; have n0_ := Aside0.mk (Kd.R_below (rs HO_4) hb); have n1_ := Aside0.mk (Kd.R_below (rs HO_6) hb); have n2_ := Aside0.mk (Kd.R_below (rs HO519) hb); have n3_ := Aside0.mk (below_step (bs HB) hb); clear HO_4; clear HO_6; clear HO519; clear HB; have HO_4 := n0_; have HO_6 := n1_; have HO519 := n2_; have HB := n3_; clear n0_ n1_ n2_ n3_; (try clear hb); (try clear hb2); (try clear hk); (try clear hi); obtain ⟨Ao104, co104, eo104⟩ := Kd.R_slice HO519.out; subst eo104) | (go_at_call 10; (with_reducible refine (laws_likeInts.calls kj70 _ _ t516 _ _ t460 true _ ?side1 ?side2 ?side3 ?side4 A91.out).mono ?_); (case side1 => exact cs ((Kd.R_reads' HO519.out).2.2)); (case side2 => exact (Kd.R_reads' HO519.out).2.1); (case side3 => exact cs ((Kd.R_reads' HO_4.out).2.2)); (case side4 => exact (Kd.R_reads' HO_4.out).2.1); rintro e w' ⟨rfl, ⟨nd, rfl⟩⟩))
                                              go_ret
                                              exact ⟨by first | rfl | (simp [errW_none, errW_some] <;> rfl) | (simp [*, errW_none, errW_some] <;> rfl), by repeat (first | (with_reducible first | exact HB.out | apply below_alloc | apply pw_below_drewN | apply below_drew1) | exact HB.out)⟩
                                          · rw [if_neg c93] at H
                                            have c93b0 : (t521 == 0) = false := beq_eq_false_iff_ne.mpr c93
                                            have c93b1 : (t521 != 0) = true := bne_iff_ne.mpr c93
                                            obtain rfl := Option.some.inj H
                                            obtain ⟨Ao105, co105, eo105⟩ := Kd.R_slice HO_6.out
                                            subst eo105
                                            go_wp2_with (first | ((with_reducible refine gate_callee (f := 8) rfl ?_); refine goesM_ (some 211) rfl rfl Try.func8 #[.int .i64 t459, .slice Ao105 t464.length co105, .int .i64 (Int.tmod (wrap64 (t459 - t461)) t459)] rfl ?_; (with_reducible refine (impl_MoveRoots.calls kj70 t459 _ _ t464 (Int.tmod (wrap64 (t459 - t461)) t459) t516 t517 _ ?side1 ?side2 A87.out).mono ?_); (case side1 => exact cs ((Kd.R_reads' HO_6.out).2.2)); (case side2 => exact (Kd.R_reads' HO_6.out).2.1); rintro e w106 ⟨v518, rfl, ho0, hb⟩; refine ⟨_, rfl, ?_⟩; have n0_ := Aside0.mk (Kd.R_elder' (rs HO_4) (Kd.R_base ho0) hb); have n1_ := Aside0.mk (Kd.R_elder' (rs HO_6) (Kd.R_base ho0) hb); have n2_ := Aside0.mk (Kd.R_lower (Kd.R_new' (Kd.R_new' ho0 (Kd.R_lt (rs HO_4))) (Kd.R_lt (rs HO_6))) (below_size (bs HB))); have n3_ := Aside0.mk (below_step (bs HB) hb); clear HO_4; clear HO_6; clear HB; have HO_4 := n0_; have HO_6 := n1_; have HO519 := n2_; have HB := n3_; clear n0_ n1_ n2_ n3_; (try clear hb); (try clear hb2); (try clear hk); (try clear hi); (try clear ho0)) | ((with_reducible refine gate_callee (f := 18) rfl ?_); refine goesM_ (some 218) rfl rfl Try.func18 #[.int .i64 t459, .slice Ao105 t464.length co105, .int .i64 t461] rfl ?_; (with_reducible refine (impl_ValueAt.calls kj70 t459 _ _ t464 t461 t520 t521 _ ?side1 ?side2 A88.out).mono ?_); (case side1 => exact cs ((Kd.R_reads' HO_6.out).2.2)); (case side2 => exact (Kd.R_reads' HO_6.out).2.1); rintro e w107 ⟨rfl, hb⟩; refine ⟨_, rfl, ?_⟩; have n0_ := Aside0.mk (Kd.R_below (rs HO_4) hb); have n1_ := Aside0.mk (Kd.R_below (rs HO_6) hb); have n2_ := Aside0.mk (Kd.R_below (rs HO519) hb); have n3_ := Aside0.mk (below_step (bs HB) hb); clear HO_4; clear HO_6; clear HO519; clear HB; have HO_4 := n0_; have HO_6 := n1_; have HO519 := n2_; have HB := n3_; clear n0_ n1_ n2_ n3_; (try clear hb); (try clear hb2); (try clear hk); (try clear hi)) | ((with_reducible refine gate_callee (f := 18) rfl ?_); refine goesM_ (some 224) rfl rfl Try.func18 #[.int .i64 t459, .slice Ao9 t460.length co9, .int .i64 0] rfl ?_; (with_reducible refine (impl_ValueAt.calls kj70 t459 _ _ t460 0 t522 t523 _ ?side1 ?side2 A89.out).mono ?_); (case side1 => exact cs ((Kd.R_reads' HO_4.out).2.2)); (case side2 => exact (Kd.R_reads' HO_4.out).2.1); rintro e w108 ⟨rfl, hb⟩; refine ⟨_, rfl, ?_⟩; have n0_ := Aside0.mk (Kd.R_below (rs HO_4) hb); have n1_ := Aside0.mk (Kd.R_below (rs HO_6) hb); have n2_ := Aside0.mk (Kd.R_below (rs HO519) hb); have n3_ := Aside0.mk (below_step (bs HB) hb); clear HO_4; clear HO_6; clear HO519; clear HB; have HO_4 := n0_; have HO_6 := n1_; have HO519 := n2_; have HB := n3_; clear n0_ n1_ n2_ n3_; (try clear hb); (try clear hb2); (try clear hk); (try clear hi); obtain ⟨Ao109, co109, eo109⟩ := Kd.R_slice HO519.out; subst eo109) | (go_at_call 10; (with_reducible refine (laws_likeInts.calls kj70 _ _ t516 _ _ t460 true _ ?side1 ?side2 ?side3 ?side4 A91.out).mono ?_); (case side1 => exact cs ((Kd.R_reads' HO519.out).2.2)); (case side2 => exact (Kd.R_reads' HO519.out).2.1); (case side3 => exact cs ((Kd.R_reads' HO_4.out).2.2)); (case side4 => exact (Kd.R_reads' HO_4.out).2.1); rintro e w' ⟨rfl, ⟨nd, rfl⟩⟩))
                                            go_ret
                                            exact ⟨by first | rfl | (simp [errW_none, errW_some] <;> rfl) | (simp [*, errW_none, errW_some] <;> rfl), by repeat (first | (with_reducible first | exact HB.out | apply below_alloc | apply pw_below_drewN | apply below_drew1) | exact HB.out)⟩
                                        · replace c92 := Bool.eq_false_iff.mpr c92
                                          subst c92
                                          have H1 : (some false) = some r := by rw [if_neg (show ¬ (false = true) by decide)] at H; exact H
                                          clear H
                                          have H := H1
                                          clear H1
                                          obtain rfl := Option.some.inj H
                                          obtain ⟨Ao110, co110, eo110⟩ := Kd.R_slice HO_6.out
                                          subst eo110
                                          go_wp2_with (first | ((with_reducible refine gate_callee (f := 8) rfl ?_); refine goesM_ (some 211) rfl rfl Try.func8 #[.int .i64 t459, .slice Ao110 t464.length co110, .int .i64 (Int.tmod (wrap64 (t459 - t461)) t459)] rfl ?_; (with_reducible refine (impl_MoveRoots.calls kj70 t459 _ _ t464 (Int.tmod (wrap64 (t459 - t461)) t459) t516 t517 _ ?side1 ?side2 A87.out).mono ?_); (case side1 => exact cs ((Kd.R_reads' HO_6.out).2.2)); (case side2 => exact (Kd.R_reads' HO_6.out).2.1); rintro e w111 ⟨v518, rfl, ho0, hb⟩; refine ⟨_, rfl, ?_⟩; have n0_ := Aside0.mk (Kd.R_elder' (rs HO_4) (Kd.R_base ho0) hb); have n1_ := Aside0.mk (Kd.R_elder' (rs HO_6) (Kd.R_base ho0) hb); have n2_ := Aside0.mk (Kd.R_lower (Kd.R_new' (Kd.R_new' ho0 (Kd.R_lt (rs HO_4))) (Kd.R_lt (rs HO_6))) (below_size (bs HB))); have n3_ := Aside0.mk (below_step (bs HB) hb); clear HO_4; clear HO_6; clear HB; have HO_4 := n0_; have HO_6 := n1_; have HO519 := n2_; have HB := n3_; clear n0_ n1_ n2_ n3_; (try clear hb); (try clear hb2); (try clear hk); (try clear hi); (try clear ho0)) | ((with_reducible refine gate_callee (f := 18) rfl ?_); refine goesM_ (some 218) rfl rfl Try.func18 #[.int .i64 t459, .slice Ao110 t464.length co110, .int .i64 t461] rfl ?_; (with_reducible refine (impl_ValueAt.calls kj70 t459 _ _ t464 t461 t520 t521 _ ?side1 ?side2 A88.out).mono ?_); (case side1 => exact cs ((Kd.R_reads' HO_6.out).2.2)); (case side2 => exact (Kd.R_reads' HO_6.out).2.1); rintro e w112 ⟨rfl, hb⟩; refine ⟨_, rfl, ?_⟩; have n0_ := Aside0.mk (Kd.R_below (rs HO_4) hb); have n1_ := Aside0.mk (Kd.R_below (rs HO_6) hb); have n2_ := Aside0.mk (Kd.R_below (rs HO519) hb); have n3_ := Aside0.mk (below_step (bs HB) hb); clear HO_4; clear HO_6; clear HO519; clear HB; have HO_4 := n0_; have HO_6 := n1_; have HO519 := n2_; have HB := n3_; clear n0_ n1_ n2_ n3_; (try clear hb); (try clear hb2); (try clear hk); (try clear hi)) | ((with_reducible refine gate_callee (f := 18) rfl ?_); refine goesM_ (some 224) rfl rfl Try.func18 #[.int .i64 t459, .slice Ao9 t460.length co9, .int .i64 0] rfl ?_; (with_reducible refine (impl_ValueAt.calls kj70 t459 _ _ t460 0 t522 t523 _ ?side1 ?side2 A89.out).mono ?_); (case side1 => exact cs ((Kd.R_reads' HO_4.out).2.2)); (case side2 => exact (Kd.R_reads' HO_4.out).2.1); rintro e w113 ⟨rfl, hb⟩; refine ⟨_, rfl, ?_⟩; have n0_ := Aside0.mk (Kd.R_below (rs HO_4) hb); have n1_ := Aside0.mk (Kd.R_below (rs HO_6) hb); have n2_ := Aside0.mk (Kd.R_below (rs HO519) hb); have n3_ := Aside0.mk (below_step (bs HB) hb); clear HO_4; clear HO_6; clear HO519; clear HB; have HO_4 := n0_; have HO_6 := n1_; have HO519 := n2_; have HB := n3_; clear n0_ n1_ n2_ n3_; (try clear hb); (try clear hb2); (try clear hk); (try clear hi); obtain ⟨Ao114, co114, eo114⟩ := Kd.R_slice HO519.out; subst eo114) | (go_at_call 10; (with_reducible refine (laws_likeInts.calls kj70 _ _ t516 _ _ t460 false _ ?side1 ?side2 ?side3 ?side4 A91.out).mono ?_); (case side1 => exact cs ((Kd.R_reads' HO519.out).2.2)); (case side2 => exact (Kd.R_reads' HO519.out).2.1); (case side3 => exact cs ((Kd.R_reads' HO_4.out).2.2)); (case side4 => exact (Kd.R_reads' HO_4.out).2.1); rintro e w' ⟨rfl, ⟨nd, rfl⟩⟩))
                                          go_ret
                                          exact ⟨by first | rfl | (simp [errW_none, errW_some] <;> rfl) | (simp [*, errW_none, errW_some] <;> rfl), by repeat (first | (with_reducible first | exact HB.out | apply below_alloc | apply pw_below_drewN | apply below_drew1) | exact HB.out)⟩
                                      · rw [if_neg c90] at H
                                        have c90b0 : (t517 == 0) = false := beq_eq_false_iff_ne.mpr c90
                                        have c90b1 : (t517 != 0) = true := bne_iff_ne.mpr c90
                                        obtain rfl := Option.some.inj H
                                        obtain ⟨Ao115, co115, eo115⟩ := Kd.R_slice HO_6.out
                                        subst eo115
                                        go_wp2_with (first | ((with_reducible refine gate_callee (f := 8) rfl ?_); refine goesM_ (some 211) rfl rfl Try.func8 #[.int .i64 t459, .slice Ao115 t464.length co115, .int .i64 (Int.tmod (wrap64 (t459 - t461)) t459)] rfl ?_; (with_reducible refine (impl_MoveRoots.calls kj70 t459 _ _ t464 (Int.tmod (wrap64 (t459 - t461)) t459) t516 t517 _ ?side1 ?side2 A87.out).mono ?_); (case side1 => exact cs ((Kd.R_reads' HO_6.out).2.2)); (case side2 => exact (Kd.R_reads' HO_6.out).2.1); rintro e w116 ⟨v518, rfl, ho0, hb⟩; refine ⟨_, rfl, ?_⟩; have n0_ := Aside0.mk (Kd.R_elder' (rs HO_4) (Kd.R_base ho0) hb); have n1_ := Aside0.mk (Kd.R_elder' (rs HO_6) (Kd.R_base ho0) hb); have n2_ := Aside0.mk (Kd.R_lower (Kd.R_new' (Kd.R_new' ho0 (Kd.R_lt (rs HO_4))) (Kd.R_lt (rs HO_6))) (below_size (bs HB))); have n3_ := Aside0.mk (below_step (bs HB) hb); clear HO_4; clear HO_6; clear HB; have HO_4 := n0_; have HO_6 := n1_; have HO519 := n2_; have HB := n3_; clear n0_ n1_ n2_ n3_; (try clear hb); (try clear hb2); (try clear hk); (try clear hi); (try clear ho0)) | ((with_reducible refine gate_callee (f := 18) rfl ?_); refine goesM_ (some 218) rfl rfl Try.func18 #[.int .i64 t459, .slice Ao115 t464.length co115, .int .i64 t461] rfl ?_; (with_reducible refine (impl_ValueAt.calls kj70 t459 _ _ t464 t461 t520 t521 _ ?side1 ?side2 A88.out).mono ?_); (case side1 => exact cs ((Kd.R_reads' HO_6.out).2.2)); (case side2 => exact (Kd.R_reads' HO_6.out).2.1); rintro e w117 ⟨rfl, hb⟩; refine ⟨_, rfl, ?_⟩; have n0_ := Aside0.mk (Kd.R_below (rs HO_4) hb); have n1_ := Aside0.mk (Kd.R_below (rs HO_6) hb); have n2_ := Aside0.mk (Kd.R_below (rs HO519) hb); have n3_ := Aside0.mk (below_step (bs HB) hb); clear HO_4; clear HO_6; clear HO519; clear HB; have HO_4 := n0_; have HO_6 := n1_; have HO519 := n2_; have HB := n3_; clear n0_ n1_ n2_ n3_; (try clear hb); (try clear hb2); (try clear hk); (try clear hi)) | ((with_reducible refine gate_callee (f := 18) rfl ?_); refine goesM_ (some 224) rfl rfl Try.func18 #[.int .i64 t459, .slice Ao9 t460.length co9, .int .i64 0] rfl ?_; (with_reducible refine (impl_ValueAt.calls kj70 t459 _ _ t460 0 t522 t523 _ ?side1 ?side2 A89.out).mono ?_); (case side1 => exact cs ((Kd.R_reads' HO_4.out).2.2)); (case side2 => exact (Kd.R_reads' HO_4.out).2.1); rintro e w118 ⟨rfl, hb⟩; refine ⟨_, rfl, ?_⟩; have n0_ := Aside0.mk (Kd.R_below (rs HO_4) hb); have n1_ := Aside0.mk (Kd.R_below (rs HO_6) hb); have n2_ := Aside0.mk (Kd.R_below (rs HO519) hb); have n3_ := Aside0.mk (below_step (bs HB) hb); clear HO_4; clear HO_6; clear HO519; clear HB; have HO_4 := n0_; have HO_6 := n1_; have HO519 := n2_; have HB := n3_; clear n0_ n1_ n2_ n3_; (try clear hb); (try clear hb2); (try clear hk); (try clear hi)))
                                        go_ret
                                        exact ⟨by first | rfl | (simp [errW_none, errW_some] <;> rfl) | (simp [*, errW_none, errW_some] <;> rfl), by repeat (first | (with_reducible first | exact HB.out | apply below_alloc | apply pw_below_drewN | apply below_drew1) | exact HB.out)⟩
                                  · rw [if_neg c85] at H
                                    have c85b0 : (t465 == 0) = false := beq_eq_false_iff_ne.mpr c85
                                    have c85b1 : (t465 != 0) = true := bne_iff_ne.mpr c85
                                    obtain rfl := Option.some.inj H
                                    obtain ⟨Ao119, co119, eo119⟩ := Kd.R_slice HO_6.out
                                    subst eo119
                                    go_wp2
                                    go_ret
                                    exact ⟨by first | rfl | (simp [errW_none, errW_some] <;> rfl) | (simp [*, errW_none, errW_some] <;> rfl), by repeat (first | (with_reducible first | exact HB.out | apply below_alloc | apply pw_below_drewN | apply below_drew1) | exact HB.out)⟩
/-- THE ONE PURE STATEMENT of laws_FnRootMoves: yours. -/
def laws_FnRootMoves.Pure : Prop := ∀ (l0 : List Int), l0.length ≤ maxLen → l0.length * 1 ≤ 140737488351232 → (∀ x ∈ l0, (Lit.int .u8 x).wf = true) → ∃ k, laws_FnRootMoves.f k l0 = some true
theorem laws_FnRootMoves.walk (P : laws_FnRootMoves.Pure) (a0 : Option Addr) (len0 cap0 : Nat) (z0 : List Int) (w : World) (w0 : (a0 = none ∧ len0 = 0 ∧ cap0 = 0 ∧ z0 = []) ∨ ∃ x, a0 = some x ∧ len0 ≤ cap0 ∧ cap0 ≤ maxLen ∧ z0.length = cap0 ∧ (∀ i, i < z0.length → w.cell? (x.add i) = some (.int .u8 (z0.getD i 0))) ∧ ∀ n ∈ z0, (Lit.int .u8 n).wf = true) (y0 : len0 * 1 ≤ 140737488351232) :
    Calls Try.prog 3 #[.slice a0 len0 cap0] w fun e w' => e = .returned (.bool true) ∧ Below w.heap.size w w' := by
  obtain ⟨l0, rfl, hr0, hm0, hw0, hc0⟩ := ReadsInt.ofRowC w0
  obtain ⟨k, h⟩ := P l0 hm0 y0 hw0
  refine (laws_FnRootMoves.calls k _ _ l0 true w (Kd.C_of_reads (d := (0 : Int)) (h1 := fun _ => rfl) hr0) hc0 h).mono ?_
  rintro e w' ⟨rfl, hd⟩
  exact ⟨rfl, hd⟩
end Go.Proofs.Ythiignohbooelaa.H
