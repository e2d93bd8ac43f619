/- Joined texts of a claim: the printed functions and what is proved of them. -/
import Derived.Test.YtlmolloallhclaaYHx0
import Derived.Test.YtlmolloallhclaaMa7
import Derived.Test.YtlmolloallhclaaMa1
import Derived.Test.YtlmolloallhclaaMa5
import Derived.Test.YtlmolloallhclaaMa2
import Derived.Test.YtlmolloallhclaaMa4
namespace Go.Proofs.Ytlmolloallhclaa.H
open Go.RowKit Go.Proofs.YtlmolloallhclaaW.PrintWords Go.Proofs.YtlmolloallhclaaW.PrintLast Go.Proofs.YtlmolloallhclaaW.PrintMore
attribute [local go_sem] max2_int min2_int max_two min_two max_three min_three max_four min_four   -- for this text's walks alone
set_option linter.unusedVariables false
set_option linter.unusedSimpArgs false
def laws_szInt64SS.l0 : Nat → List (List Int) → Int → Int → Option (Int)
 | 0, _, _, _ => none
 | k + 1, x0, x1, x5 => if x5 < (x0.length : Int) then (if 0 ≤ x5 then ((laws_szInt64S.f (rd_L1 x0 x5) x1).bind fun t226 => (if t226 < 0 then (some (-1)) else (laws_szInt64SS.l0 k x0 t226 (wrap64 (x5 + 1))))) else (none)) else (some x1)
def laws_szInt64SS.f (k : Nat) (l0 : List (List Int)) (a1 : Int) : Option (Int) := if (wrap64 (a1 - (l0.length : Int))) < 0 then (some (-1)) else (laws_szInt64SS.l0 k l0 (wrap64 (a1 - (l0.length : Int))) 0)
set_option maxHeartbeats 8000000 in
set_option maxRecDepth 100000 in
theorem laws_szInt64SS.calls (k : Nat) (A0 : Option Addr) (c0 : Nat) (l0 : List (List Int)) (a1 : Int) (r : Int) (w : World) (hr0 : Kd.C (Kd.slice 2 (Kd.int .i64)) w A0 l0.length l0) (hc0 : l0.length ≤ c0) (h : laws_szInt64SS.f k l0 a1 = some r) :
  Calls Try.prog 17 #[.slice A0 l0.length c0, .int .i64 a1] w fun e w' => e = .returned (.int .i64 r) ∧ Drawn0 w w' := by
 have HR0 := as0 hr0
 have HC0 := as0 hc0
 clear hr0 hc0
 have H : (if (wrap64 (a1 - (l0.length : Int))) < 0 then (some (-1)) else (laws_szInt64SS.l0 k l0 (wrap64 (a1 - (l0.length : Int))) 0)) = some r := h
 clear h
 by_cases c3 : (wrap64 (a1 - (l0.length : Int))) < 0
 ·
  rw [if_pos c3] at H
  have c3b0 : decide ((wrap64 (a1 - (l0.length : Int))) < 0) = true := decide_eq_true c3
  clear c3
  obtain rfl := Option.some.inj H
  go_enter Try.func17, Try.ntmps17
  go_wp2
  go_ret
  exact ⟨ea_, dr_⟩
 ·
  rw [if_neg c3] at H
  have c3b0 : decide ((wrap64 (a1 - (l0.length : Int))) < 0) = false := decide_eq_false c3
  clear c3
  have H' := as0 H
  clear H
  go_enter Try.func17, Try.ntmps17
  go_wp2
  go_loopg [1, 5] k (fun kq v1 v5 w' => ∃ (x1_1 : Int) (x5_1 : Int), v1 = .int .i64 x1_1 ∧ v5 = .int .i64 x5_1 ∧ Aside0 (laws_szInt64SS.l0 kq l0 x1_1 x5_1 = some r) ∧ Aside0 (kq ≤ k) ∧ Drawn0 w w')
  case atStart => exact ⟨(wrap64 (a1 - (l0.length : Int))), (0), ea_, ea_, H', ⟨Nat.le_refl _⟩, dr_⟩
  case round =>
   clear H'
   try clear c1
   try clear p2
   try clear c3
   try clear c3b0
   obtain ⟨x1_1, x5_1, rfl, rfl, HA, HK1, ⟨m1, rfl⟩⟩ := hrel
   cases gk with
   | zero => exact absurd HA.out (by simp [laws_szInt64SS.l0])
   | succ k1 =>
    have H := HA.out
    clear HA
    simp only [laws_szInt64SS.l0] at H
    by_cases c4 : x5_1 < (l0.length : Int)
    ·
     rw [if_pos c4] at H
     have c4b0 : decide (x5_1 < (l0.length : Int)) = true := decide_eq_true c4
     clear c4
     by_cases c5 : 0 ≤ x5_1
     ·
      rw [if_pos c5] at H
      have c5b0 : decide (0 ≤ x5_1) = true := decide_eq_true c5
      clear c5
      replace H := Option.bind_eq_some_iff.mp H
      obtain ⟨t226, A60, H⟩ := H
      have A6 := as0 A60
      clear A60
      by_cases c7 : t226 < 0
      ·
       rw [if_pos c7] at H
       have c7b0 : decide (t226 < 0) = true := decide_eq_true c7
       clear c7
       obtain rfl := Option.some.inj H
       have p225 : 0 ≤ (x5_1 : Int) := oa_
       have q225 : x5_1 < (l0.length : Int) := oa_
       obtain ⟨ad225, A225_0, c225_0, e225, hx225_0, hl225_0, hi225_0⟩ := at_L1 HR0.out x5_1 p225 q225
       cases e225
       have HR225_0 := as0 hi225_0
       have HC225_0 := as0 hl225_0
       clear hi225_0 hl225_0
       replace p225 := eq_true p225
       replace q225 := eq_true q225
       go_wp2_with (first | ((with_reducible refine gate_callee (f := 46) rfl ?_); refine goesM_ (some 23) rfl rfl Try.func46 #[.slice A225_0 (rd_L1 l0 x5_1).length c225_0, .int .i64 x1_1] rfl ?_; (with_reducible refine (laws_szInt64S.calls _ _ (rd_L1 l0 x5_1) x1_1 t226 _ ?side1 ?side2 A6.out).mono ?_); (case side1 => exact cs (HR225_0.out)); (case side2 => exact HC225_0.out); rintro e w' ⟨rfl, ⟨nd, rfl⟩⟩; refine ⟨_, rfl, ?_⟩))
       go_ret
       exact ⟨ea_, dr_⟩
      ·
       rw [if_neg c7] at H
       have c7b0 : decide (t226 < 0) = false := decide_eq_false c7
       clear c7
       have H' := as0 H
       clear H
       have p225 : 0 ≤ (x5_1 : Int) := oa_
       have q225 : x5_1 < (l0.length : Int) := oa_
       obtain ⟨ad225, A225_0, c225_0, e225, hx225_0, hl225_0, hi225_0⟩ := at_L1 HR0.out x5_1 p225 q225
       cases e225
       have HR225_0 := as0 hi225_0
       have HC225_0 := as0 hl225_0
       clear hi225_0 hl225_0
       replace p225 := eq_true p225
       replace q225 := eq_true q225
       go_wp2_with (first | ((with_reducible refine gate_callee (f := 46) rfl ?_); refine goesM_ (some 23) rfl rfl Try.func46 #[.slice A225_0 (rd_L1 l0 x5_1).length c225_0, .int .i64 x1_1] rfl ?_; (with_reducible refine (laws_szInt64S.calls _ _ (rd_L1 l0 x5_1) x1_1 t226 _ ?side1 ?side2 A6.out).mono ?_); (case side1 => exact cs (HR225_0.out)); (case side2 => exact HC225_0.out); rintro e w' ⟨rfl, ⟨nd, rfl⟩⟩; refine ⟨_, rfl, ?_⟩))
       go_roundg k1
       case measure => have := HK1.out; omega
       case rel => exact ⟨(t226), (wrap64 (x5_1 + 1)), ea_, ea_, H', ⟨by have := HK1.out; omega⟩, dr_⟩
     ·
      rw [if_neg c5] at H
      exact absurd H (by simp)
    ·
     rw [if_neg c4] at H
     have c4b0 : decide (x5_1 < (l0.length : Int)) = false := decide_eq_false c4
     clear c4
     obtain rfl := Option.some.inj H
     go_wp2
     go_ret
     exact ⟨ea_, dr_⟩
def laws_eqInt64SS.l0 : Nat → List (List Int) → List (List Int) → Int → Option (Bool)
 | 0, _, _, _ => none
 | k + 1, x0, x1, x5 => if x5 < (x0.length : Int) then (if 0 ≤ x5 then (if x5 < (x1.length : Int) then ((laws_eqInt64S.f k (rd_L1 x0 x5) (rd_L1 x1 x5)).bind fun t220 => (if t220 = true then (laws_eqInt64SS.l0 k x0 x1 (wrap64 (x5 + 1))) else (some false))) else (none)) else (none)) else (some true)
def laws_eqInt64SS.f (k : Nat) (l0 : List (List Int)) (l1 : List (List Int)) : Option (Bool) := if (l0.length : Int) = (l1.length : Int) then (laws_eqInt64SS.l0 k l0 l1 0) else (some false)
set_option maxHeartbeats 8000000 in
set_option maxRecDepth 100000 in
theorem laws_eqInt64SS.calls (k : Nat) (A0 : Option Addr) (c0 : Nat) (l0 : List (List Int)) (A1 : Option Addr) (c1 : Nat) (l1 : List (List Int)) (r : Bool) (w : World) (hr0 : Kd.C (Kd.slice 2 (Kd.int .i64)) w A0 l0.length l0) (hc0 : l0.length ≤ c0) (hr1 : Kd.C (Kd.slice 2 (Kd.int .i64)) w A1 l1.length l1) (hc1 : l1.length ≤ c1) (h : laws_eqInt64SS.f k l0 l1 = some r) :
  Calls Try.prog 12 #[.slice A0 l0.length c0, .slice A1 l1.length c1] w fun e w' => e = .returned (.bool r) ∧ Drawn0 w w' := by
 have HR0 := as0 hr0
 have HC0 := as0 hc0
 clear hr0 hc0
 have HR1 := as0 hr1
 have HC1 := as0 hc1
 clear hr1 hc1
 have H : (if (l0.length : Int) = (l1.length : Int) then (laws_eqInt64SS.l0 k l0 l1 0) else (some false)) = some r := h
 clear h
 by_cases c3 : (l0.length : Int) = (l1.length : Int)
 ·
  rw [if_pos c3] at H
  have c3b0 : ((l0.length : Int) == (l1.length : Int)) = true := beq_iff_eq.mpr c3
  have c3b1 : ((l0.length : Int) != (l1.length : Int)) = false := bne_eq_false_iff_eq.mpr c3
  have c3b2 : (l0.length == l1.length) = true := by first | simpa using c3 | (simp at c3 ⊢; omega)
  clear c3
  have H' := as0 H
  clear H
  go_enter Try.func12, Try.ntmps12
  go_wp2
  repeat (go_quiet (fail); try go_wp2)
  go_loopg [5] k (fun kq v5 w' => ∃ (x5_1 : Int), v5 = .int .i64 x5_1 ∧ Aside0 (laws_eqInt64SS.l0 kq l0 l1 x5_1 = some r) ∧ Aside0 (kq ≤ k) ∧ Drawn0 w w')
  case atStart => exact ⟨(0), ea_, H', ⟨Nat.le_refl _⟩, dr_⟩
  case round =>
   clear H'
   try clear c1
   try clear p2
   try clear c3
   try clear c3b0
   try clear c3b1
   try clear c3b2
   obtain ⟨x5_1, rfl, HA, HK1, ⟨m1, rfl⟩⟩ := hrel
   cases gk with
   | zero => exact absurd HA.out (by simp [laws_eqInt64SS.l0])
   | succ k1 =>
    have H := HA.out
    clear HA
    simp only [laws_eqInt64SS.l0] at H
    by_cases c4 : x5_1 < (l0.length : Int)
    ·
     rw [if_pos c4] at H
     have c4b0 : decide (x5_1 < (l0.length : Int)) = true := decide_eq_true c4
     clear c4
     by_cases c5 : 0 ≤ x5_1
     ·
      rw [if_pos c5] at H
      have c5b0 : decide (0 ≤ x5_1) = true := decide_eq_true c5
      clear c5
      by_cases c6 : x5_1 < (l1.length : Int)
      ·
       rw [if_pos c6] at H
       have c6b0 : decide (x5_1 < (l1.length : Int)) = true := decide_eq_true c6
       clear c6
       replace H := Option.bind_eq_some_iff.mp H
       obtain ⟨t220, A70, H⟩ := H
       have A7 := as0 A70
       clear A70
       by_cases c8 : t220 = true
       ·
        subst c8
        have H1 : (laws_eqInt64SS.l0 k1 l0 l1 (wrap64 (x5_1 + 1))) = some r := by rw [if_pos rfl] at H; exact H
        clear H
        have H := H1
        clear H1
        have H' := as0 H
        clear H
        have p218 : 0 ≤ (x5_1 : Int) := oa_
        have q218 : x5_1 < (l0.length : Int) := oa_
        obtain ⟨ad218, A218_0, c218_0, e218, hx218_0, hl218_0, hi218_0⟩ := at_L1 HR0.out x5_1 p218 q218
        cases e218
        have HR218_0 := as0 hi218_0
        have HC218_0 := as0 hl218_0
        clear hi218_0 hl218_0
        replace p218 := eq_true p218
        replace q218 := eq_true q218
        have p219 : 0 ≤ (x5_1 : Int) := oa_
        have q219 : x5_1 < (l1.length : Int) := oa_
        obtain ⟨ad219, A219_0, c219_0, e219, hx219_0, hl219_0, hi219_0⟩ := at_L1 HR1.out x5_1 p219 q219
        cases e219
        have HR219_0 := as0 hi219_0
        have HC219_0 := as0 hl219_0
        clear hi219_0 hl219_0
        replace p219 := eq_true p219
        replace q219 := eq_true q219
        go_wp2_with (first | (go_at_call 13; (with_reducible refine (laws_eqInt64S.calls k1 _ _ (rd_L1 l0 x5_1) _ _ (rd_L1 l1 x5_1) true _ ?side1 ?side2 ?side3 ?side4 A7.out).mono ?_); (case side1 => exact cs (HR218_0.out)); (case side2 => exact HC218_0.out); (case side3 => exact cs (HR219_0.out)); (case side4 => exact HC219_0.out); rintro e w' ⟨rfl, ⟨nd, rfl⟩⟩; (try first | exact ⟨rfl, _, World.drewN_drewN _ _ _⟩ | exact ⟨rfl, _, Eq.trans (World.drewN_drewN _ _ _) (congrArg (World.drewN _) (Nat.add_assoc _ _ _))⟩)))
        repeat (go_quiet (first | (go_at_call 13; (with_reducible refine (laws_eqInt64S.calls k1 _ _ (rd_L1 l0 x5_1) _ _ (rd_L1 l1 x5_1) true _ ?side1 ?side2 ?side3 ?side4 A7.out).mono ?_); (case side1 => exact cs (HR218_0.out)); (case side2 => exact HC218_0.out); (case side3 => exact cs (HR219_0.out)); (case side4 => exact HC219_0.out); rintro e w' ⟨rfl, ⟨nd, rfl⟩⟩; (try first | exact ⟨rfl, _, World.drewN_drewN _ _ _⟩ | exact ⟨rfl, _, Eq.trans (World.drewN_drewN _ _ _) (congrArg (World.drewN _) (Nat.add_assoc _ _ _))⟩))); try go_wp2_with (first | (go_at_call 13; (with_reducible refine (laws_eqInt64S.calls k1 _ _ (rd_L1 l0 x5_1) _ _ (rd_L1 l1 x5_1) true _ ?side1 ?side2 ?side3 ?side4 A7.out).mono ?_); (case side1 => exact cs (HR218_0.out)); (case side2 => exact HC218_0.out); (case side3 => exact cs (HR219_0.out)); (case side4 => exact HC219_0.out); rintro e w' ⟨rfl, ⟨nd, rfl⟩⟩; (try first | exact ⟨rfl, _, World.drewN_drewN _ _ _⟩ | exact ⟨rfl, _, Eq.trans (World.drewN_drewN _ _ _) (congrArg (World.drewN _) (Nat.add_assoc _ _ _))⟩))))
        go_roundg k1
        case measure => have := HK1.out; omega
        case rel => exact ⟨(wrap64 (x5_1 + 1)), ea_, H', ⟨by have := HK1.out; omega⟩, dr_⟩
       ·
        replace c8 := Bool.eq_false_iff.mpr c8
        subst c8
        have H1 : (some false) = some r := by rw [if_neg (show ¬ (false = true) by decide)] at H; exact H
        clear H
        have H := H1
        clear H1
        obtain rfl := Option.some.inj H
        have p218 : 0 ≤ (x5_1 : Int) := oa_
        have q218 : x5_1 < (l0.length : Int) := oa_
        obtain ⟨ad218, A218_0, c218_0, e218, hx218_0, hl218_0, hi218_0⟩ := at_L1 HR0.out x5_1 p218 q218
        cases e218
        have HR218_0 := as0 hi218_0
        have HC218_0 := as0 hl218_0
        clear hi218_0 hl218_0
        replace p218 := eq_true p218
        replace q218 := eq_true q218
        have p219 : 0 ≤ (x5_1 : Int) := oa_
        have q219 : x5_1 < (l1.length : Int) := oa_
        obtain ⟨ad219, A219_0, c219_0, e219, hx219_0, hl219_0, hi219_0⟩ := at_L1 HR1.out x5_1 p219 q219
        cases e219
        have HR219_0 := as0 hi219_0
        have HC219_0 := as0 hl219_0
        clear hi219_0 hl219_0
        replace p219 := eq_true p219
        replace q219 := eq_true q219
        go_wp2_with (first | (go_at_call 13; (with_reducible refine (laws_eqInt64S.calls k1 _ _ (rd_L1 l0 x5_1) _ _ (rd_L1 l1 x5_1) false _ ?side1 ?side2 ?side3 ?side4 A7.out).mono ?_); (case side1 => exact cs (HR218_0.out)); (case side2 => exact HC218_0.out); (case side3 => exact cs (HR219_0.out)); (case side4 => exact HC219_0.out); rintro e w' ⟨rfl, ⟨nd, rfl⟩⟩; (try first | exact ⟨rfl, _, World.drewN_drewN _ _ _⟩ | exact ⟨rfl, _, Eq.trans (World.drewN_drewN _ _ _) (congrArg (World.drewN _) (Nat.add_assoc _ _ _))⟩)))
        repeat (go_quiet (first | (go_at_call 13; (with_reducible refine (laws_eqInt64S.calls k1 _ _ (rd_L1 l0 x5_1) _ _ (rd_L1 l1 x5_1) false _ ?side1 ?side2 ?side3 ?side4 A7.out).mono ?_); (case side1 => exact cs (HR218_0.out)); (case side2 => exact HC218_0.out); (case side3 => exact cs (HR219_0.out)); (case side4 => exact HC219_0.out); rintro e w' ⟨rfl, ⟨nd, rfl⟩⟩; (try first | exact ⟨rfl, _, World.drewN_drewN _ _ _⟩ | exact ⟨rfl, _, Eq.trans (World.drewN_drewN _ _ _) (congrArg (World.drewN _) (Nat.add_assoc _ _ _))⟩))); try go_wp2_with (first | (go_at_call 13; (with_reducible refine (laws_eqInt64S.calls k1 _ _ (rd_L1 l0 x5_1) _ _ (rd_L1 l1 x5_1) false _ ?side1 ?side2 ?side3 ?side4 A7.out).mono ?_); (case side1 => exact cs (HR218_0.out)); (case side2 => exact HC218_0.out); (case side3 => exact cs (HR219_0.out)); (case side4 => exact HC219_0.out); rintro e w' ⟨rfl, ⟨nd, rfl⟩⟩; (try first | exact ⟨rfl, _, World.drewN_drewN _ _ _⟩ | exact ⟨rfl, _, Eq.trans (World.drewN_drewN _ _ _) (congrArg (World.drewN _) (Nat.add_assoc _ _ _))⟩))))
        go_ret
        exact ⟨ea_, dr_⟩
      ·
       rw [if_neg c6] at H
       exact absurd H (by simp)
     ·
      rw [if_neg c5] at H
      exact absurd H (by simp)
    ·
     rw [if_neg c4] at H
     have c4b0 : decide (x5_1 < (l0.length : Int)) = false := decide_eq_false c4
     clear c4
     obtain rfl := Option.some.inj H
     go_wp2
     repeat (go_quiet (fail); try go_wp2)
     go_ret
     exact ⟨ea_, dr_⟩
 ·
  rw [if_neg c3] at H
  have c3b0 : ((l0.length : Int) == (l1.length : Int)) = false := beq_eq_false_iff_ne.mpr c3
  have c3b1 : ((l0.length : Int) != (l1.length : Int)) = true := bne_iff_ne.mpr c3
  have c3b2 : (l0.length == l1.length) = false := by first | simpa using c3 | (simp at c3 ⊢; omega)
  obtain rfl := Option.some.inj H
  go_enter Try.func12, Try.ntmps12
  go_wp2
  repeat (go_quiet (fail); try go_wp2)
  go_ret
  exact ⟨ea_, dr_⟩
def laws_markInt64SS.l0 : Nat → List (List Int) → Int → Int → Option (Int × List (List Int))
 | 0, _, _, _ => none
 | k + 1, x0, x1, x5 => if x5 < (x0.length : Int) then (if 0 ≤ x5 then ((laws_markInt64S.f k (x0.getD x5.toNat []) x1).bind fun b => laws_markInt64SS.l0 k (x0.set x5.toNat b.2) b.1 (wrap64 (x5 + 1))) else none) else some (x1, x0)
def laws_markInt64SS.f (k : Nat) (l0 : List (List Int)) (a1 : Int) : Option (Int × List (List Int)) := laws_markInt64SS.l0 k l0 a1 0
set_option maxHeartbeats 8000000 in
set_option maxRecDepth 100000 in
theorem laws_markInt64SS.calls (k : Nat) (P0_ : Nat → Prop) (u9000_ : Value) (l0 : List (List Int)) (a1 : Int) (r1 : Int) (r2 : List (List Int)) (w0 w : World) (hB : Below w0.heap.size w0 w) (ho0 : Kd.S (Kd.slice 2 (Kd.int .i64)) 22 w w0.heap.size P0_ u9000_ l0) (h : laws_markInt64SS.f k l0 a1 = some (r1, r2)) :
  Calls Try.prog 15 #[u9000_, .int .i64 a1] w fun e w' => e = .returned (.int .i64 r1) ∧ Kd.S (Kd.slice 2 (Kd.int .i64)) 22 w' w0.heap.size (fun k_ => (P0_ k_ ∨ w.heap.size ≤ k_)) u9000_ r2 ∧ Below w0.heap.size w0 w' ∧ Kept w w' (fun k_ => P0_ k_) := by
 have HO := as0 (show Kd.S (Kd.slice 2 (Kd.int .i64)) 22 w w0.heap.size (fun k_ => (P0_ k_ ∨ w.heap.size ≤ k_)) u9000_ l0 from Kd.S_mono ho0 (fun k_ hk => .inl hk))
 have HK := as0 (Kept.refl w (fun k_ => P0_ k_))
 have HB := as0 hB
 clear hB ho0
 have H : (laws_markInt64SS.l0 k l0 a1 0) = some (r1, r2) := h
 clear h
 have H' := as0 H
 clear H
 go_enter Try.func15, Try.ntmps15
 go_wp2
 go_loopg [1, 5] k (fun kq v1 v5 w' => ∃ (x0 : List (List Int)) (x1 : Int) (x5 : Int), v1 = .int .i64 x1 ∧ v5 = .int .i64 x5 ∧ Aside0 (laws_markInt64SS.l0 kq x0 x1 x5 = some (r1, r2)) ∧ Aside0 (kq ≤ k) ∧ Aside0 (Kd.S (Kd.slice 2 (Kd.int .i64)) 22 w' w0.heap.size (fun k_ => (P0_ k_ ∨ w.heap.size ≤ k_)) u9000_ x0) ∧ Aside0 (Kept w w' (fun k_ => P0_ k_)) ∧ Aside0 (Below w0.heap.size w0 w'))
 case atStart => exact ⟨l0, a1, 0, rfl, rfl, H', ⟨Nat.le_refl _⟩, HO, HK, HB⟩
 case round =>
  clear H' HO HK HB
  obtain ⟨x0, x1, x5, rfl, rfl, HA, HK1, HO, HK, HB⟩ := hrel
  cases gk with
  | zero => exact absurd HA.out (by simp [laws_markInt64SS.l0])
  | succ k1 =>
   have H := HA.out
   clear HA
   simp only [laws_markInt64SS.l0] at H
   by_cases c3 : x5 < (x0.length : Int)
   ·
    rw [if_pos c3] at H
    have c3b0 : decide (x5 < (x0.length : Int)) = true := decide_eq_true c3
    by_cases c4 : 0 ≤ x5
    ·
     rw [if_pos c4] at H
     have c4b0 : decide (0 ≤ x5) = true := decide_eq_true c4
     replace H := Option.bind_eq_some_iff.mp H
     obtain ⟨⟨b1, b2⟩, hm, H⟩ := H
     have H' := as0 H
     clear H
     obtain ⟨g, cap, eu, hbg, hgl, _⟩ := Kd.S_form HO.out (by omega)
     subst eu
     obtain ⟨oki, c, hcl, hM, hcc, hoki, hH⟩ := Kd.S_lend HO.out [] x5 c4 c3
     obtain ⟨v, rfl, hR⟩ := hM
     have hcell : wr.cell? ⟨g, x5.toNat, none⟩ = some v := by
      have := hcc 0 v rfl
      simpa [Kd.slice] using this
     have HM := fun W (hw : W = wr) => laws_markInt64S.calls k1 oki v (x0.getD x5.toNat []) x1 b1 b2 w0 wr HB.out hR hm
     have Hgl := as0 hgl
     have Hbg := as0 hbg
     have Hoki := as0 hoki
     have HH := as0 hH
     clear hcc hR hm hH hoki hgl hbg hcl
     have p5 := eq_true c4
     have q5 := eq_true c3
     have HC3 := as0 c3
     have HC4 := as0 c4
     clear c3 c4
     go_wp2_with (go_at_call 14; refine (HM _ rfl).mono ?_; clear HM; rintro e w' ⟨rfl, hR', hb', hk'⟩; have HR' := as0 hR'; have HB' := as0 hb'; have HKm := as0 hk'; clear hR' hb' hk')
     go_roundg k1
     case measure => have := HK1.out; omega
     case rel =>
      refine ⟨x0.set x5.toNat b2, b1, wrap64 (x5 + 1), rfl, rfl, H', ⟨by have := HK1.out; omega⟩, ⟨?_⟩, ⟨?_⟩, HB'⟩
      ·
       have h1 := Kd.H_kept (Kd.H_widen HH.out) HKm.out (fun k_ _ hn hs => hn (.inl hs))
       refine Kd.H_back h1 (okp := fun k_ => oki k_ ∨ ((P0_ k_ ∨ w.heap.size ≤ k_) ∧ wr.heap.size ≤ k_)) ⟨v, rfl, Kd.R_mono HR'.out (fun k_ hk => hk.elim .inl fun h2 => .inr ⟨.inr (Nat.le_trans HK.out.1 h2), h2⟩)⟩ (fun _ hk => hk)
      ·
       exact HK.out.then_ HKm.out (fun k_ hk => (Hoki.out k_ hk).1)
    ·
     rw [if_neg c4] at H
     exact absurd H (by simp)
   ·
    rw [if_neg c3] at H
    have c3b0 : decide (x5 < (x0.length : Int)) = false := decide_eq_false c3
    clear c3
    simp only [Option.some.injEq, Prod.mk.injEq] at H
    obtain ⟨rfl, rfl⟩ := H
    obtain ⟨Ao, co, eo⟩ := Kd.S_slice HO.out
    subst eo
    go_wp2
    go_ret
    exact ⟨rfl, HO.out, HB.out, HK.out⟩
structure DM (W : World) (base g n : Nat) (b cp : Nat → Nat) (rows : List (List Int)) : Prop where
 lg : base ≤ g
 lb : ∀ i, i < rows.length → base ≤ b i
 ne : ∀ i, i < rows.length → b i ≠ g
 inj : ∀ i j, i < rows.length → j < rows.length → b i = b j → i = j
 cap : ∀ i, i < rows.length → n ≤ cp i
 top : ∃ cs : Array Value, W.heap[g]? = some (.cells cs 22 (0, 0)) ∧ n ≤ cs.size ∧ ∀ i, i < rows.length → cs[i]? = some (.slice (some ⟨b i, 0, none⟩) n (cp i))
 row : ∀ i, i < rows.length → ∃ cs : Array Value, W.heap[b i]? = some (.cells cs 2 (0, 0)) ∧ ∀ k, k < n → cs[k]? = some (.int .i64 (co (ro rows i) k))
section
variable {W W1 : World} {base g n : Nat} {b cp : Nat → Nat} {rows : List (List Int)}
theorem blk_lt' {W : World} {g : Nat} {o : Obj} (h : W.heap[g]? = some o) : g < W.heap.size := by
 rcases Nat.lt_or_ge g W.heap.size with h' | h'
 ·
  exact h'
 ·
  rw [Array.getElem?_eq_none h'] at h; cases h
theorem DM.step (h : DM W base g n b cp rows) (hm : ∀ k, k < W.heap.size → (k = g ∨ ∃ i, i < rows.length ∧ k = b i) → W1.heap[k]? = W.heap[k]?) : DM W1 base g n b cp rows := by
 refine ⟨h.lg, h.lb, h.ne, h.inj, h.cap, ?_, fun i hi => ?_⟩
 ·
  obtain ⟨cs, hc, h1, h2⟩ := h.top
  exact ⟨cs, (hm g (blk_lt' hc) (.inl rfl)).trans hc, h1, h2⟩
 ·
  obtain ⟨cs, hc, h1⟩ := h.row i hi
  exact ⟨cs, (hm (b i) (blk_lt' hc) (.inr ⟨i, hi, rfl⟩)).trans hc, h1⟩
theorem DM.below (h : DM W base g n b cp rows) (hb : Below W.heap.size W W1) : DM W1 base g n b cp rows := h.step fun k hk _ => hb.block k hk
theorem DM.drewN (h : DM W base g n b cp rows) (m : Nat) : DM (W.drewN m) base g n b cp rows := h.below (pw_below_drewN (Below.refl _ _) m)
theorem DM.drew (h : DM W base g n b cp rows) : DM W.drew base g n b cp rows := h.below (below_drew (Below.refl _ _))
theorem DM.cellg (h : DM W base g n b cp rows) {i : Nat} (hi : i < rows.length) : W.cell? ⟨g, i, none⟩ = some (.slice (some ⟨b i, 0, none⟩) n (cp i)) := by
 obtain ⟨cs, hc, _, h2⟩ := h.top
 rw [blk_cell hc]; exact h2 i hi
theorem DM.frg (h : DM W base g n b cp rows) (i : Nat) : W.frozen? ⟨g, i, none⟩ = false := by
 obtain ⟨cs, hc, _⟩ := h.top
 exact blk_frozen hc i
theorem DM.cell (h : DM W base g n b cp rows) {i k : Nat} (hi : i < rows.length) (hk : k < n) : W.cell? ⟨b i, k, none⟩ = some (.int .i64 (co (ro rows i) k)) := by
 obtain ⟨cs, hc, h1⟩ := h.row i hi
 rw [blk_cell hc]; exact h1 k hk
theorem DM.fr (h : DM W base g n b cp rows) {i : Nat} (hi : i < rows.length) (k : Nat) : W.frozen? ⟨b i, k, none⟩ = false := by
 obtain ⟨cs, hc, _⟩ := h.row i hi
 exact blk_frozen hc k
theorem DM.frg2 (h : DM W base g n b cp rows) (c j : Nat) (v : Value) : (W.setCell ⟨g, c, none⟩ v).frozen? ⟨g, j, none⟩ = false := by
 obtain ⟨cs, hc, _⟩ := h.top
 exact blk_frozen (blk_set hc c v) j
theorem DM.snoc (h : DM W base g n b cp rows) {q c : Nat} {x : List Int} {cur : Array Value} (hl : rows.length < n) (hq : W.heap[q]? = some (.cells cur 2 (0, 0))) (hbq : base ≤ q) (hqg : q ≠ g) (hqb : ∀ i, i < rows.length → b i ≠ q) (hnc : n ≤ c) (hx : ∀ k, k < n → cur[k]? = some (.int .i64 (co x k))) :
  DM (W.setCell ⟨g, rows.length, none⟩ (.slice (some ⟨q, 0, none⟩) n c)) base g n (fun i => if i = rows.length then q else b i) (fun i => if i = rows.length then c else cp i) (rows ++ [x]) := by
 have e : (rows ++ [x]).length = rows.length + 1 := by simp
 have hro : ∀ i, i < rows.length → ro (rows ++ [x]) i = ro rows i := fun i hi => by
  unfold ro
  rw [List.getD_eq_getElem?_getD, List.getD_eq_getElem?_getD, List.getElem?_append_left hi]
 have hrl : ro (rows ++ [x]) rows.length = x := by
  unfold ro
  rw [List.getD_eq_getElem?_getD, List.getElem?_append_right (Nat.le_refl _), Nat.sub_self]; rfl
 refine ⟨h.lg, fun i hi => ?_, fun i hi => ?_, fun i j hi hj he => ?_, fun i hi => ?_, ?_, fun i hi => ?_⟩
 ·
  show base ≤ if i = rows.length then q else b i
  split
  ·
   exact hbq
  ·
   exact h.lb i (by omega)
 ·
  show (if i = rows.length then q else b i) ≠ g
  split
  ·
   exact hqg
  ·
   exact h.ne i (by omega)
 ·
  replace he : (if i = rows.length then q else b i) = if j = rows.length then q else b j := he
  by_cases h1 : i = rows.length
  ·
   by_cases h2 : j = rows.length
   ·
    omega
   ·
    rw [if_pos h1, if_neg h2] at he
    exact absurd he.symm (hqb j (by omega))
  ·
   by_cases h2 : j = rows.length
   ·
    rw [if_neg h1, if_pos h2] at he
    exact absurd he (hqb i (by omega))
   ·
    rw [if_neg h1, if_neg h2] at he
    exact h.inj i j (by omega) (by omega) he
 ·
  show n ≤ if i = rows.length then c else cp i
  split
  ·
   exact hnc
  ·
   exact h.cap i (by omega)
 ·
  obtain ⟨cs, hc, h1, h2⟩ := h.top
  refine ⟨_, blk_set hc rows.length _, by simpa using h1, fun i hi => ?_⟩
  show _ = some (Value.slice (some ⟨if i = rows.length then q else b i, 0, none⟩) n (if i = rows.length then c else cp i))
  by_cases h3 : i = rows.length
  ·
   subst h3
   rw [if_pos rfl, if_pos rfl, Array.getElem?_setIfInBounds_self_of_lt (by omega)]
  ·
   rw [if_neg h3, if_neg h3, Array.getElem?_setIfInBounds_ne (by omega)]
   exact h2 i (by omega)
 ·
  show ∃ cs : Array Value, (W.setCell ⟨g, rows.length, none⟩ (.slice (some ⟨q, 0, none⟩) n c)).heap[if i = rows.length then q else b i]? = _ ∧ _
  by_cases h3 : i = rows.length
  ·
   subst h3
   rw [if_pos rfl, hrl]
   exact ⟨cur, blk_far hq hqg _, hx⟩
  ·
   rw [if_neg h3, hro i (by omega)]
   obtain ⟨cs, hc, h1⟩ := h.row i (by omega)
   exact ⟨cs, blk_far hc (h.ne i (by omega)) _, h1⟩
theorem DM.put (h : DM W base g n b cp rows) {i k : Nat} {x : Int} {R2 : List (List Int)} (hi : i < rows.length) (hk : k < n) (hl : R2.length = rows.length) (ho : ∀ j, j ≠ i → ro R2 j = ro rows j) (hx : ∀ t, t < n → co (ro R2 i) t = if t = k then x else co (ro rows i) t) :
  DM (W.setCell ⟨b i, k, none⟩ (.int .i64 x)) base g n b cp R2 := by
 refine ⟨h.lg, fun j hj => h.lb j (by omega), fun j hj => h.ne j (by omega), fun j m hj hm => h.inj j m (by omega) (by omega), fun j hj => h.cap j (by omega), ?_, fun j hj => ?_⟩
 ·
  obtain ⟨cs, hc, h1, h2⟩ := h.top
  exact ⟨cs, blk_far hc (fun e => h.ne i hi e.symm) _, h1, fun j hj => h2 j (by omega)⟩
 ·
  obtain ⟨cs, hc, h1⟩ := h.row j (by omega)
  by_cases e : j = i
  ·
   subst e
   refine ⟨_, blk_set hc k _, fun t ht => ?_⟩
   rw [hx t ht]
   by_cases e2 : t = k
   ·
    subst e2
    have : t < cs.size := by
     rcases Nat.lt_or_ge t cs.size with h' | h'
     ·
      exact h'
     ·
      have := h1 t ht; rw [Array.getElem?_eq_none h'] at this; cases this
    rw [if_pos rfl, Array.getElem?_setIfInBounds_self_of_lt this]
   ·
    rw [if_neg e2, Array.getElem?_setIfInBounds_ne (by omega)]
    exact h1 t ht
  ·
   rw [ho j e]
   exact ⟨cs, blk_far hc (fun e2 => e (h.inj j i (by omega) hi e2)) _, h1⟩
def sw2 (c d : Nat) (f : Nat → Nat) : Nat → Nat := fun i => f (if i = c then d else if i = d then c else i)
theorem DM.swap (h : DM W base g n b cp rows) {c d : Nat} {R2 : List (List Int)} (hn : rows.length ≤ n) (hc : c < rows.length) (hd : d < rows.length) (hcd : c ≠ d) (hl : R2.length = rows.length) (ho : ∀ j, j < rows.length → ro R2 j = ro rows (if j = c then d else if j = d then c else j)) :
  DM ((W.setCell ⟨g, c, none⟩ (.slice (some ⟨b d, 0, none⟩) n (cp d))).setCell ⟨g, d, none⟩ (.slice (some ⟨b c, 0, none⟩) n (cp c))) base g n (sw2 c d b) (sw2 c d cp) R2 := by
 have hs : ∀ j, j < rows.length → (if j = c then d else if j = d then c else j) < rows.length := fun j hj => by split; exact hd; split; exact hc; exact hj
 refine ⟨h.lg, fun j hj => h.lb _ (hs j (by omega)), fun j hj => h.ne _ (hs j (by omega)), fun j m hj hm he => ?_, fun j hj => h.cap _ (hs j (by omega)), ?_, fun j hj => ?_⟩
 ·
  have := h.inj _ _ (hs j (by omega)) (hs m (by omega)) he
  split at this <;> split at this <;> (try split at this) <;> (try split at this) <;> omega
 ·
  obtain ⟨cs, hcs, h1, h2⟩ := h.top
  refine ⟨_, blk_set (blk_set hcs c _) d _, by simpa using h1, fun j hj => ?_⟩
  show _ = some (Value.slice (some ⟨b (if j = c then d else if j = d then c else j), 0, none⟩) n (cp (if j = c then d else if j = d then c else j)))
  by_cases e : j = d
  ·
   subst e
   rw [Array.getElem?_setIfInBounds_self_of_lt (by simp; omega), if_neg (by omega), if_pos rfl]
  ·
   rw [Array.getElem?_setIfInBounds_ne (by omega)]
   by_cases e2 : j = c
   ·
    subst e2
    rw [Array.getElem?_setIfInBounds_self_of_lt (by omega), if_pos rfl]
   ·
    rw [Array.getElem?_setIfInBounds_ne (by omega), if_neg e2, if_neg e]
    exact h2 j (by omega)
 ·
  show ∃ cs : Array Value, _ = some (Obj.cells cs 2 (0, 0)) ∧ _
  rw [ho j (by omega)]
  obtain ⟨cs, hcs, h1⟩ := h.row _ (hs j (by omega))
  have hne := h.ne _ (hs j (by omega))
  exact ⟨cs, blk_far (blk_far hcs hne _) hne _, h1⟩
end
end Go.Proofs.Ytlmolloallhclaa.H
