/- Joined texts of a claim: the printed functions and what is proved of them. -/
import Derived.Test.YtlmolloallhclaaMa5
import Derived.Test.YtlmolloallhclaaMa1
import Derived.Test.YtlmolloallhclaaMa4
import Derived.Test.YtlmolloallhclaaYHx0
import Derived.Test.YtlmolloallhclaaMa2
set_option linter.unusedVariables false
set_option linter.unusedSimpArgs false
namespace Go.Proofs.Ytlmolloallhclaa.H
open Go.RowKit Go.Proofs.YtlmolloallhclaaW.PrintWords Go.Proofs.YtlmolloallhclaaW.PrintLast Go.Proofs.YtlmolloallhclaaW.PrintMore Go.Proofs.Ytlmolloallhclaa.Num
theorem co_ext {l l' : List Int} (hl : l.length = l'.length) (he : ∀ i, i < l.length → co l i = co l' i) : l = l' :=
 List.ext_getElem hl fun i a b => by
  have := he i a
  unfold co at this
  rwa [List.getD_eq_getElem?_getD, List.getD_eq_getElem?_getD, List.getElem?_eq_getElem a, List.getElem?_eq_getElem b] at this
theorem co_reverse (l : List Int) (i : Nat) (h : i < l.length) : co l.reverse i = co l (l.length - 1 - i) := by
 unfold co
 rw [List.getD_eq_getElem?_getD, List.getD_eq_getElem?_getD, List.getElem?_reverse h]
theorem impl_reverse (l : List Int) (hl : l.length ≤ 1000000) : Ev (fun k => slices_Reverse_int64_int64.f k l) l.reverse := by
 have loop : ∀ (d i : Nat) (xs : List Int), xs.length = l.length → i + d = l.length → (∀ t, t < l.length → co xs t = if t < i ∨ l.length - i ≤ t then co l (l.length - 1 - t) else co l t) →
   Ev (fun k => slices_Reverse_int64_int64.l0 k xs (i : Int) ((l.length : Int) - 1 - i)) l.reverse := by
  intro d
  induction d with
  | zero =>
   intro i xs h1 h2 h3
   refine Ev.succ ?_
   simp (disch := omega) only [slices_Reverse_int64_int64.l0, if_neg]
   refine Ev_to (Ev.now _) (co_ext (by simpa using h1) fun t ht => ?_)
   rw [h3 t (by omega), co_reverse l t (by omega), if_pos (by omega)]
  | succ d ih =>
   intro i xs h1 h2 h3
   refine Ev.succ ?_
   by_cases hlt : (i : Int) < (l.length : Int) - 1 - i
   ·
    have hj : (l.length : Int) - 1 - i = ((l.length - 1 - i : Nat) : Int) := by omega
    have hi := ih (i + 1) ((xs.set i (xs.getD (l.length - 1 - i) 0)).set (l.length - 1 - i) (xs.getD i 0)) (by simpa using h1) (by omega) (fun t ht => by
     rw [co_set _ _ _ _ (by simpa using by omega)]
     by_cases e1 : t = l.length - 1 - i
     ·
      rw [if_pos e1, if_pos (by omega)]
      have := h3 i (by omega)
      unfold co at this
      rw [this, if_neg (by omega), e1]
      show co l i = _
      rw [show l.length - 1 - (l.length - 1 - i) = i by omega]
     ·
      rw [if_neg e1, co_set _ _ _ _ (by omega)]
      by_cases e2 : t = i
      ·
       rw [if_pos e2, if_pos (by omega)]
       have := h3 (l.length - 1 - i) (by omega)
       unfold co at this
       rw [this, if_neg (by omega), e2]
       rfl
      ·
       rw [if_neg e2, h3 t ht]
       by_cases e3 : t < i ∨ l.length - i ≤ t
       ·
        rw [if_pos e3, if_pos (by omega)]
       ·
        rw [if_neg e3, if_neg (by omega)])
    rw [hj] at hlt ⊢
    simp (disch := omega) only [slices_Reverse_int64_int64.l0, if_pos hlt, if_pos, rd_n, Int.toNat_natCast, wp1, wm1]
    rw [show ((l.length - 1 - i : Nat) : Int) - 1 = (l.length : Int) - 1 - ((i + 1 : Nat) : Int) by omega]
    exact hi
   ·
    simp only [slices_Reverse_int64_int64.l0, if_neg hlt]
    refine Ev_to (Ev.now _) (co_ext (by simpa using h1) fun t ht => ?_)
    rw [h3 t (by omega), co_reverse l t (by omega)]
    by_cases e3 : t < i ∨ l.length - i ≤ t
    ·
     rw [if_pos e3]
    ·
     rw [if_neg e3, show l.length - 1 - t = t by omega]
 have h := loop l.length 0 l rfl (by omega) (fun t ht => by rw [if_neg (by omega)])
 simp only [slices_Reverse_int64_int64.f, wm1 (show l.length ≤ 1000000000000 by omega)]
 simpa using h
end Go.Proofs.Ytlmolloallhclaa.H
set_option linter.unusedVariables false
set_option linter.unusedSimpArgs false
namespace Go.Proofs.Ytlmolloallhclaa.H
open Go.RowKit Go.Proofs.YtlmolloallhclaaW.PrintWords Go.Proofs.YtlmolloallhclaaW.PrintLast Go.Proofs.YtlmolloallhclaaW.PrintMore Go.Proofs.Ytlmolloallhclaa.Num
theorem co_pad (f : List Int) (n t : Nat) : co (pad f n) t = co f t := by
 unfold pad co
 simp only [List.getD_eq_getElem?_getD]
 by_cases h : t < f.length
 ·
  rw [List.getElem?_append_left h]
 ·
  rw [List.getElem?_append_right (by omega), List.getElem?_eq_none (show f.length ≤ t by omega)]
  simp only [List.getElem?_replicate]
  split <;> rfl
theorem ad_get (p c : Int) (g : List Int) (t : Nat) : ∀ d i acc, i + d ≤ acc.length → co (ad p c g acc i d) t = if i ≤ t ∧ t < i + d then (co acc t + c * co g t) % p else co acc t
 | 0, i, acc, h => by rw [if_neg (by omega)]; rfl
 | d + 1, i, acc, h => by
  rw [ad, ad_get p c g t d (i + 1) _ (by simpa using by omega), co_set _ _ _ _ (by omega)]
  by_cases e : t = i
  ·
   subst e
   rw [if_neg (by omega), if_pos rfl, if_pos (by omega)]
   rfl
  ·
   rw [if_neg e]
   by_cases h2 : i + 1 ≤ t ∧ t < i + 1 + d
   ·
    rw [if_pos h2, if_pos (by omega)]
   ·
    rw [if_neg h2, if_neg (by omega)]
theorem co_addL {p : Int} (hp : 0 < p) {f : List Int} (hf : InR p f) (g : List Int) (c : Int) (t : Nat) : co (addL p f g c) t = (co f t + c * co g t) % p := by
 unfold addL
 rw [co_trim, ad_get _ _ _ _ _ _ _ (by rw [pad_len _ _ (Nat.le_max_left _ _)]; have := Nat.le_max_right f.length g.length; omega), co_pad]
 by_cases h : 0 ≤ t ∧ t < 0 + g.length
 ·
  rw [if_pos h]
 ·
  rw [if_neg h, co_ge (show g.length ≤ t by omega), Int.mul_zero, Int.add_zero, Int.emod_eq_of_lt (hf.co hp t).1 (hf.co hp t).2]
theorem addL_nz (p : Int) (f g : List Int) (c : Int) : Nz (addL p f g c) := Nz.trim _
theorem mulL_nz (p : Int) (f g : List Int) : Nz (mulL p f g) := by
 unfold mulL; split
 ·
  exact .inl rfl
 ·
  exact Nz.trim _
end Go.Proofs.Ytlmolloallhclaa.H
namespace Go.Proofs.Ytlmolloallhclaa.H
open Go.RowKit Go.Proofs.YtlmolloallhclaaW.PrintWords Go.Proofs.YtlmolloallhclaaW.PrintLast Go.Proofs.YtlmolloallhclaaW.PrintMore
attribute [local go_sem] max2_int min2_int max_two min_two max_three min_three max_four min_four   -- for this text's walks alone
set_option linter.unusedVariables false
set_option linter.unusedSimpArgs false
mutual
def spec_l01Points.l0 : Nat → Int → List Int → Bool → Int → Option (Bool)
 | 0, _, _, _, _ => none
 | k + 1, x0, x1, x2, x7 => if x7 < (x1.length : Int) then (if 0 ≤ x7 then ((spec_l01In.f (rd x1 x7) 0 (wrap64 (x0 - 1))).bind fun t403 => (if t403 = true then (spec_l01Points.l1 k x0 x1 x2 x7 0) else (some false))) else (none)) else (some true)
def spec_l01Points.l1 : Nat → Int → List Int → Bool → Int → Int → Option (Bool)
 | 0, _, _, _, _, _ => none
 | k + 1, x0, x1, x2, x7, x8 => if x8 < x7 then (spec_l01Points.j2 k x0 x1 x2 x7 x8 x2) else (spec_l01Points.j2 k x0 x1 x2 x7 x8 false)
def spec_l01Points.j2 : Nat → Int → List Int → Bool → Int → Int → Bool → Option (Bool)
 | 0, _, _, _, _, _, _ => none
 | k + 1, x0, x1, x2, x7, x8, x28 => if x28 = true then (if 0 ≤ x8 then (if x8 < (x1.length : Int) then (if 0 ≤ x7 then (if x7 < (x1.length : Int) then (if (rd x1 x8) = (rd x1 x7) then (some false) else (spec_l01Points.l1 k x0 x1 x2 x7 (wrap64 (x8 + 1)))) else (none)) else (none)) else (none)) else (none)) else (spec_l01Points.l0 k x0 x1 x2 (wrap64 (x7 + 1)))
end
def spec_l01Points.f (k : Nat) (a0 : Int) (l1 : List Int) (a2 : Bool) : Option (Bool) := spec_l01Points.l0 k a0 l1 a2 0
set_option maxHeartbeats 8000000 in
set_option maxRecDepth 100000 in
theorem spec_l01Points.calls (k : Nat) (a0 : Int) (A1 : Option Addr) (c1 : Nat) (l1 : List Int) (a2 : Bool) (r : Bool) (w : World) (hr1 : Kd.C (Kd.int .i64) w A1 l1.length l1) (hc1 : l1.length ≤ c1) (h : spec_l01Points.f k a0 l1 a2 = some r) :
  Calls Try.prog 66 #[.int .i64 a0, .slice A1 l1.length c1, .bool a2] w fun e w' => e = .returned (.bool r) ∧ Drawn0 w w' := by
 have HR1 := as0 hr1
 have HC1 := as0 hc1
 clear hr1 hc1
 have H : (spec_l01Points.l0 k a0 l1 a2 0) = some r := h
 clear h
 have H' := as0 H
 clear H
 go_enter Try.func66, Try.ntmps66
 go_wp2
 repeat (go_quiet (fail); try go_wp2)
 go_loopg [7] k (fun kq v7 w' => ∃ (x7_1 : Int), v7 = .int .i64 x7_1 ∧ Aside0 (spec_l01Points.l0 kq a0 l1 a2 x7_1 = some r) ∧ Aside0 (kq ≤ k) ∧ Drawn0 w w')
 case atStart => exact ⟨(0), ea_, H', ⟨Nat.le_refl _⟩, dr_⟩
 case round =>
  clear H'
  try clear c1
  try clear p2
  obtain ⟨x7_1, rfl, HA, HK1, ⟨m1, rfl⟩⟩ := hrel
  cases gk with
  | zero => exact absurd HA.out (by simp [spec_l01Points.l0])
  | succ k1 =>
   have H := HA.out
   clear HA
   simp only [spec_l01Points.l0] at H
   by_cases c4 : x7_1 < (l1.length : Int)
   ·
    rw [if_pos c4] at H
    have c4b0 : decide (x7_1 < (l1.length : Int)) = true := decide_eq_true c4
    clear c4
    by_cases c5 : 0 ≤ x7_1
    ·
     rw [if_pos c5] at H
     have c5b0 : decide (0 ≤ x7_1) = true := decide_eq_true c5
     clear c5
     replace H := Option.bind_eq_some_iff.mp H
     obtain ⟨t403, A60, H⟩ := H
     have A6 := as0 A60
     clear A60
     by_cases c7 : t403 = true
     ·
      subst c7
      have H1 : (spec_l01Points.l1 k1 a0 l1 a2 x7_1 0) = some r := by rw [if_pos rfl] at H; exact H
      clear H
      have H := H1
      clear H1
      have H' := as0 H
      clear H
      have p402 : 0 ≤ (x7_1 : Int) := oa_
      have q402 : x7_1 < (l1.length : Int) := oa_
      obtain ⟨ad402, e402, hx402_0⟩ := Kd.at_int HR1.out x7_1 p402 q402
      cases e402
      replace p402 := eq_true p402
      replace q402 := eq_true q402
      go_wp2_with (first | (go_at_call 98; (with_reducible refine (spec_l01In.calls (rd l1 x7_1) 0 (wrap64 (a0 - 1)) true _ A6.out).mono ?_); rintro e w' ⟨rfl, ⟨nd, rfl⟩⟩; (try first | exact ⟨rfl, _, World.drewN_drewN _ _ _⟩ | exact ⟨rfl, _, Eq.trans (World.drewN_drewN _ _ _) (congrArg (World.drewN _) (Nat.add_assoc _ _ _))⟩)))
      repeat (go_quiet (first | (go_at_call 98; (with_reducible refine (spec_l01In.calls (rd l1 x7_1) 0 (wrap64 (a0 - 1)) true _ A6.out).mono ?_); rintro e w' ⟨rfl, ⟨nd, rfl⟩⟩; (try first | exact ⟨rfl, _, World.drewN_drewN _ _ _⟩ | exact ⟨rfl, _, Eq.trans (World.drewN_drewN _ _ _) (congrArg (World.drewN _) (Nat.add_assoc _ _ _))⟩))); try go_wp2_with (first | (go_at_call 98; (with_reducible refine (spec_l01In.calls (rd l1 x7_1) 0 (wrap64 (a0 - 1)) true _ A6.out).mono ?_); rintro e w' ⟨rfl, ⟨nd, rfl⟩⟩; (try first | exact ⟨rfl, _, World.drewN_drewN _ _ _⟩ | exact ⟨rfl, _, Eq.trans (World.drewN_drewN _ _ _) (congrArg (World.drewN _) (Nat.add_assoc _ _ _))⟩))))
      go_loopg [8] k1 (fun kq v8 w' => ∃ (x8_2 : Int), v8 = .int .i64 x8_2 ∧ Aside0 (spec_l01Points.l1 kq a0 l1 a2 x7_1 x8_2 = some r) ∧ Aside0 (kq ≤ k1) ∧ Drawn0 w w')
      case atStart => exact ⟨(0), ea_, H', ⟨Nat.le_refl _⟩, dr_⟩
      case round =>
       clear H'
       try clear c1
       try clear p2
       try clear c4
       try clear c4b0
       try clear p4
       try clear q4
       try clear hx4
       try clear c5
       try clear c5b0
       try clear c6
       try clear p6
       try clear c7
       try clear hx402_0
       try clear p2
       try clear p402
       try clear q402
       obtain ⟨x8_2, rfl, HA, HK2, ⟨m2, rfl⟩⟩ := hrel
       cases gk with
       | zero => exact absurd HA.out (by simp [spec_l01Points.l1])
       | succ k2 =>
        have H := HA.out
        clear HA
        simp only [spec_l01Points.l1] at H
        have HC8 := as0 H
        clear H
        go_upto_region 7 with (fail)
        repeat (go_quiet (fail); go_upto_region 7 with (fail))
        go_cut [28] (fun v28 wc => ∃ (kq : Nat) (x28_7 : Bool), v28 = .bool x28_7 ∧ Aside0 (spec_l01Points.j2 kq a0 l1 a2 x7_1 x8_2 x28_7 = some r) ∧ Aside0 (kq ≤ k2) ∧ Drawn0 w wc)
        case first =>
         have H := HC8.out
         clear HC8
         by_cases c9 : x8_2 < x7_1
         ·
          rw [if_pos c9] at H
          have c9b0 : decide (x8_2 < x7_1) = true := decide_eq_true c9
          clear c9
          (first | rw [c9b0] | (simp only [i64_w, i32_w]; rw [c9b0]) | skip)
          have H' := as0 H
          clear H
          go_wp2
          repeat (go_quiet (fail); try go_wp2)
          go_meet
          case rel => exact ⟨_, (a2), ea_, H', ⟨by have := HK1.out; have := HK2.out; first | omega | exact Nat.le_refl _⟩, dr_⟩
         ·
          rw [if_neg c9] at H
          have c9b0 : decide (x8_2 < x7_1) = false := decide_eq_false c9
          clear c9
          (first | rw [c9b0] | (simp only [i64_w, i32_w]; rw [c9b0]) | skip)
          have H' := as0 H
          clear H
          go_wp2
          repeat (go_quiet (fail); try go_wp2)
          go_meet
          case rel => exact ⟨_, (false), ea_, H', ⟨by have := HK1.out; have := HK2.out; first | omega | exact Nat.le_refl _⟩, dr_⟩
        case rest =>
         clear HC8
         try clear c1
         try clear p2
         try clear c4
         try clear c4b0
         try clear p4
         try clear q4
         try clear hx4
         try clear c5
         try clear c5b0
         try clear c6
         try clear p6
         try clear c7
         try clear c9
         try clear c9b0
         try clear hx402_0
         try clear p2
         try clear p4
         try clear p402
         try clear p6
         try clear q4
         try clear q402
         obtain ⟨kq, x28_7, rfl, HA, HJ7, ⟨mc7, rfl⟩⟩ := hcut
         cases kq with
         | zero => exact absurd HA.out (by simp [spec_l01Points.j2])
         | succ kj7 =>
          have H := HA.out
          clear HA
          simp only [spec_l01Points.j2] at H
          by_cases c10 : x28_7 = true
          ·
           subst c10
           have H1 : (if 0 ≤ x8_2 then (if x8_2 < (l1.length : Int) then (if 0 ≤ x7_1 then (if x7_1 < (l1.length : Int) then (if (rd l1 x8_2) = (rd l1 x7_1) then (some false) else (spec_l01Points.l1 kj7 a0 l1 a2 x7_1 (wrap64 (x8_2 + 1)))) else (none)) else (none)) else (none)) else (none)) = some r := by rw [if_pos rfl] at H; exact H
           clear H
           have H := H1
           clear H1
           by_cases c11 : 0 ≤ x8_2
           ·
            rw [if_pos c11] at H
            have c11b0 : decide (0 ≤ x8_2) = true := decide_eq_true c11
            clear c11
            by_cases c12 : x8_2 < (l1.length : Int)
            ·
             rw [if_pos c12] at H
             have c12b0 : decide (x8_2 < (l1.length : Int)) = true := decide_eq_true c12
             clear c12
             by_cases c13 : 0 ≤ x7_1
             ·
              rw [if_pos c13] at H
              have c13b0 : decide (0 ≤ x7_1) = true := decide_eq_true c13
              clear c13
              by_cases c14 : x7_1 < (l1.length : Int)
              ·
               rw [if_pos c14] at H
               have c14b0 : decide (x7_1 < (l1.length : Int)) = true := decide_eq_true c14
               clear c14
               by_cases c15 : (rd l1 x8_2) = (rd l1 x7_1)
               ·
                rw [if_pos c15] at H
                have c15b0 : ((rd l1 x8_2) == (rd l1 x7_1)) = true := beq_iff_eq.mpr c15
                have c15b1 : ((rd l1 x8_2) != (rd l1 x7_1)) = false := bne_eq_false_iff_eq.mpr c15
                clear c15
                obtain rfl := Option.some.inj H
                have p404 : 0 ≤ (x8_2 : Int) := oa_
                have q404 : x8_2 < (l1.length : Int) := oa_
                obtain ⟨ad404, e404, hx404_0⟩ := Kd.at_int HR1.out x8_2 p404 q404
                obtain rfl : ad402 = ad404 := (by injection e404)
                replace p404 := eq_true p404
                replace q404 := eq_true q404
                have p405 : 0 ≤ (x7_1 : Int) := oa_
                have q405 : x7_1 < (l1.length : Int) := oa_
                obtain ⟨ad405, e405, hx405_0⟩ := Kd.at_int HR1.out x7_1 p405 q405
                obtain rfl : ad402 = ad405 := (by injection e405)
                replace p405 := eq_true p405
                replace q405 := eq_true q405
                go_wp2
                repeat (go_quiet (fail); try go_wp2)
                go_ret
                exact ⟨ea_, dr_⟩
               ·
                rw [if_neg c15] at H
                have c15b0 : ((rd l1 x8_2) == (rd l1 x7_1)) = false := beq_eq_false_iff_ne.mpr c15
                have c15b1 : ((rd l1 x8_2) != (rd l1 x7_1)) = true := bne_iff_ne.mpr c15
                have H' := as0 H
                clear H
                have p404 : 0 ≤ (x8_2 : Int) := oa_
                have q404 : x8_2 < (l1.length : Int) := oa_
                obtain ⟨ad404, e404, hx404_0⟩ := Kd.at_int HR1.out x8_2 p404 q404
                obtain rfl : ad402 = ad404 := (by injection e404)
                replace p404 := eq_true p404
                replace q404 := eq_true q404
                have p405 : 0 ≤ (x7_1 : Int) := oa_
                have q405 : x7_1 < (l1.length : Int) := oa_
                obtain ⟨ad405, e405, hx405_0⟩ := Kd.at_int HR1.out x7_1 p405 q405
                obtain rfl : ad402 = ad405 := (by injection e405)
                replace p405 := eq_true p405
                replace q405 := eq_true q405
                go_wp2
                repeat (go_quiet (fail); try go_wp2)
                go_roundg kj7
                case measure => have := HK1.out; have := HK2.out; have := HJ7.out; omega
                case rel => exact ⟨(wrap64 (x8_2 + 1)), ea_, H', ⟨by have := HK1.out; have := HK2.out; have := HJ7.out; omega⟩, dr_⟩
              ·
               rw [if_neg c14] at H
               exact absurd H (by simp)
             ·
              rw [if_neg c13] at H
              exact absurd H (by simp)
            ·
             rw [if_neg c12] at H
             exact absurd H (by simp)
           ·
            rw [if_neg c11] at H
            exact absurd H (by simp)
          ·
           replace c10 := Bool.eq_false_iff.mpr c10
           subst c10
           have H1 : (spec_l01Points.l0 kj7 a0 l1 a2 (wrap64 (x7_1 + 1))) = some r := by rw [if_neg (show ¬ (false = true) by decide)] at H; exact H
           clear H
           have H := H1
           clear H1
           have H' := as0 H
           clear H
           go_wp2
           repeat (go_quiet (fail); try go_wp2)
           go_roundg kj7
           case measure => have := HK1.out; have := HK2.out; have := HJ7.out; omega
           case rel => exact ⟨(wrap64 (x7_1 + 1)), ea_, H', ⟨by have := HK1.out; have := HK2.out; have := HJ7.out; omega⟩, dr_⟩
     ·
      replace c7 := Bool.eq_false_iff.mpr c7
      subst c7
      have H1 : (some false) = some r := by rw [if_neg (show ¬ (false = true) by decide)] at H; exact H
      clear H
      have H := H1
      clear H1
      obtain rfl := Option.some.inj H
      have p402 : 0 ≤ (x7_1 : Int) := oa_
      have q402 : x7_1 < (l1.length : Int) := oa_
      obtain ⟨ad402, e402, hx402_0⟩ := Kd.at_int HR1.out x7_1 p402 q402
      cases e402
      replace p402 := eq_true p402
      replace q402 := eq_true q402
      go_wp2_with (first | (go_at_call 98; (with_reducible refine (spec_l01In.calls (rd l1 x7_1) 0 (wrap64 (a0 - 1)) false _ A6.out).mono ?_); rintro e w' ⟨rfl, ⟨nd, rfl⟩⟩; (try first | exact ⟨rfl, _, World.drewN_drewN _ _ _⟩ | exact ⟨rfl, _, Eq.trans (World.drewN_drewN _ _ _) (congrArg (World.drewN _) (Nat.add_assoc _ _ _))⟩)))
      repeat (go_quiet (first | (go_at_call 98; (with_reducible refine (spec_l01In.calls (rd l1 x7_1) 0 (wrap64 (a0 - 1)) false _ A6.out).mono ?_); rintro e w' ⟨rfl, ⟨nd, rfl⟩⟩; (try first | exact ⟨rfl, _, World.drewN_drewN _ _ _⟩ | exact ⟨rfl, _, Eq.trans (World.drewN_drewN _ _ _) (congrArg (World.drewN _) (Nat.add_assoc _ _ _))⟩))); try go_wp2_with (first | (go_at_call 98; (with_reducible refine (spec_l01In.calls (rd l1 x7_1) 0 (wrap64 (a0 - 1)) false _ A6.out).mono ?_); rintro e w' ⟨rfl, ⟨nd, rfl⟩⟩; (try first | exact ⟨rfl, _, World.drewN_drewN _ _ _⟩ | exact ⟨rfl, _, Eq.trans (World.drewN_drewN _ _ _) (congrArg (World.drewN _) (Nat.add_assoc _ _ _))⟩))))
      go_ret
      exact ⟨ea_, dr_⟩
    ·
     rw [if_neg c5] at H
     exact absurd H (by simp)
   ·
    rw [if_neg c4] at H
    have c4b0 : decide (x7_1 < (l1.length : Int)) = false := decide_eq_false c4
    clear c4
    obtain rfl := Option.some.inj H
    go_wp2
    repeat (go_quiet (fail); try go_wp2)
    go_ret
    exact ⟨ea_, dr_⟩
end Go.Proofs.Ytlmolloallhclaa.H
set_option linter.unusedVariables false
set_option linter.unusedSimpArgs false
namespace Go.Proofs.Ytlmolloallhclaa.H
open Go.RowKit Go.Proofs.YtlmolloallhclaaW.PrintWords Go.Proofs.YtlmolloallhclaaW.PrintLast Go.Proofs.YtlmolloallhclaaW.PrintMore Go.Proofs.Ytlmolloallhclaa.Num
theorem spec_points {p : Int} (hp : IsP p) (l : List Int) (hl : l.length ≤ 1000000000) : Ev (fun k => spec_l01Points.f k p l false) (l.all (hasB p)) := by
 have loop : ∀ d i, i + d = l.length → Ev (fun k => spec_l01Points.l0 k p l false (i : Int)) ((l.drop i).all (hasB p)) := by
  intro d
  induction d with
  | zero => intro i h; refine Ev.succ ?_; simp (disch := omega) only [spec_l01Points.l0, if_neg, List.drop_of_length_le]; exact Ev.now _
  | succ d ih =>
   intro i h
   have hi := ih (i + 1) (by omega)
   refine Ev.succ ?_
   rw [List.drop_eq_getElem_cons (show i < l.length by omega), List.all_cons]
   simp (disch := omega) only [spec_l01Points.l0, if_pos, in_has hp, Option.bind_some, rd_lt l i (show i < l.length by omega)]
   cases hb : hasB p (l[i]'(by omega)) with
   | true =>
    simp only [if_true, Bool.true_and]
    refine Ev.succ ?_
    simp only [spec_l01Points.l1, ite_self]
    refine Ev.succ ?_
    simp (disch := omega) only [spec_l01Points.j2, Bool.false_eq_true, if_false, wp1]
    exact hi
   | false => simp only [Bool.false_eq_true, if_false, Bool.false_and]; exact Ev.now _
 have h := loop l.length 0 (by omega)
 simp only [spec_l01Points.f]
 exact h
end Go.Proofs.Ytlmolloallhclaa.H
set_option linter.unusedVariables false
set_option linter.unusedSimpArgs false
namespace Go.Proofs.Ytlmolloallhclaa.H
open Go.RowKit Go.Proofs.YtlmolloallhclaaW.PrintWords Go.Proofs.YtlmolloallhclaaW.PrintLast Go.Proofs.YtlmolloallhclaaW.PrintMore Go.Proofs.Ytlmolloallhclaa.Num
theorem pr1_cg (p x : Int) (g : List Int) (i t : Nat) : ∀ d j acc, i + j + d ≤ acc.length → cg p (co (pr1 p x g i acc j d) t) (co acc t + if i + j ≤ t ∧ t < i + j + d then x * co g (t - i) else 0)
 | 0, j, acc, _ => by rw [pr1, if_neg (by omega), Int.add_zero]; exact cg.refl _
 | d + 1, j, acc, h => by
  rw [pr1]
  refine (pr1_cg p x g i t d (j + 1) _ (by rw [List.length_set]; omega)).trans ?_
  rw [co_set _ _ _ _ (by omega)]
  by_cases ht : t = i + j
  ·
   rw [if_pos ht, if_neg (by omega), if_pos (by omega), Int.add_zero, ht, show i + j - i = j by omega]; exact cg.mod p _
  ·
   rw [if_neg ht]
   by_cases h2 : i + (j + 1) ≤ t ∧ t < i + (j + 1) + d
   ·
    rw [if_pos h2, if_pos (by omega)]; exact cg.refl _
   ·
    rw [if_neg h2, if_neg (by omega)]; exact cg.refl _
end Go.Proofs.Ytlmolloallhclaa.H
set_option linter.unusedVariables false
set_option linter.unusedSimpArgs false
namespace Go.Proofs.Ytlmolloallhclaa.H
open Go.RowKit Go.Proofs.YtlmolloallhclaaW.PrintWords Go.Proofs.YtlmolloallhclaaW.PrintLast Go.Proofs.YtlmolloallhclaaW.PrintMore Go.Proofs.Ytlmolloallhclaa.Num
theorem pr0_cg (p : Int) (f g : List Int) (t : Nat) (h0 : 0 < g.length) : ∀ d i acc, i + d ≤ f.length → acc.length = f.length + g.length - 1 →
  cg p (co (pr0 p f g acc i d) t) (co acc t + su (fun s => if i + s ≤ t ∧ t < i + s + g.length then co f (i + s) * co g (t - (i + s)) else 0) d)
 | 0, i, acc, _, _ => by rw [pr0, su, Int.add_zero]; exact cg.refl _
 | d + 1, i, acc, h, hl => by
  rw [pr0]
  refine (pr0_cg p f g t h0 d (i + 1) _ (by omega) (by rw [pr1_len]; exact hl)).trans ?_
  rw [su_head, su_congr (f := fun s => if i + 1 + s ≤ t ∧ t < i + 1 + s + g.length then co f (i + 1 + s) * co g (t - (i + 1 + s)) else 0) (g := fun s => if i + (s + 1) ≤ t ∧ t < i + (s + 1) + g.length then co f (i + (s + 1)) * co g (t - (i + (s + 1))) else 0) (fun s _ => by rw [show i + 1 + s = i + (s + 1) by omega])]
  refine ((pr1_cg p (f.getD i 0) g i t g.length 0 acc (by omega)).add (cg.refl _)).trans (cg.of_eq ?_)
  simp only [Nat.add_zero]
  rw [Int.add_assoc]
  rfl
theorem co_zeros (n t : Nat) : co (List.replicate n (0 : Int)) t = 0 := by
 unfold co
 rw [List.getD_eq_getElem?_getD, List.getElem?_replicate]
 split <;> rfl
theorem co_mulL {p : Int} (hp : 0 < p) (f g : List Int) (t : Nat) : co (mulL p f g) t = cv (co f) (co g) t % p := by
 by_cases h : f.length = 0 ∨ g.length = 0
 ·
  have e : mulL p f g = [] := by unfold mulL; rw [if_pos h]
  have z : cv (co f) (co g) t = 0 := su_zero fun i _ => by
   rcases h with h | h
   ·
    rw [co_ge (show f.length ≤ i by omega), Int.zero_mul]
   ·
    rw [co_ge (show g.length ≤ t - i by omega), Int.mul_zero]
  rw [e, z]; simp [co]
 ·
  have e : mulL p f g = trimL (mulW p f g) := by unfold mulL; rw [if_neg h]
  rw [e, co_trim]
  refine cg.eq ?_ ((mulW_inR hp f g).co hp t) (emod_bd hp)
  refine (pr0_cg p f g t (by omega) f.length 0 _ (by omega) (by simp)).trans ((cg.of_eq ?_).trans (cg.mod p _).symm)
  rw [co_zeros, Int.zero_add]
  have e1 : su (fun s => if 0 + s ≤ t ∧ t < 0 + s + g.length then co f (0 + s) * co g (t - (0 + s)) else 0) f.length = su (fun s => if s ≤ t then co f s * co g (t - s) else 0) f.length :=
   su_congr fun s _ => by
    simp only [Nat.zero_add]
    by_cases h1 : s ≤ t
    ·
     by_cases h2 : t < s + g.length
     ·
      rw [if_pos ⟨h1, h2⟩, if_pos h1]
     ·
      rw [if_neg (fun h => h2 h.2), if_pos h1, co_ge (show g.length ≤ t - s by omega), Int.mul_zero]
    ·
     rw [if_neg (fun h => h1 h.1), if_neg h1]
  rw [e1, ← su_ext (n := max f.length (t + 1)) (Nat.le_max_left _ _) (fun i hi _ => by rw [co_ge hi, Int.zero_mul]; split <;> rfl),
   su_ext (m := t + 1) (Nat.le_max_right _ _) (fun i hi _ => by rw [if_neg (by omega)])]
  exact su_congr fun i hi => by rw [if_pos (by omega)]
theorem mulL_comm {p : Int} (hp : 0 < p) (f g : List Int) : mulL p f g = mulL p g f :=
 (mulL_nz p f g).ext (mulL_nz p g f) fun t => by rw [co_mulL hp, co_mulL hp, cv_comm]
end Go.Proofs.Ytlmolloallhclaa.H
set_option linter.unusedVariables false
set_option linter.unusedSimpArgs false
namespace Go.Proofs.Ytlmolloallhclaa.H
open Go.RowKit Go.Proofs.YtlmolloallhclaaW.PrintWords Go.Proofs.YtlmolloallhclaaW.PrintLast Go.Proofs.YtlmolloallhclaaW.PrintMore Go.Proofs.Ytlmolloallhclaa.Num
theorem cv_lin (a : Int) (X : Nat → Int) (t : Nat) : cv X (co [a, 1]) t = a * X t + (if 1 ≤ t then X (t - 1) else 0) := by
 rw [cv_comm]
 unfold cv
 cases t with
 | zero => simp [su, co]
 | succ t =>
  rw [su_head, su_head, su_zero (n := t) fun i _ => by
   rw [show co [a, 1] (i + 1 + 1) = 0 from co_ge (by simp), Int.zero_mul]]
  simp [co]
end Go.Proofs.Ytlmolloallhclaa.H
set_option linter.unusedVariables false
set_option linter.unusedSimpArgs false
namespace Go.Proofs.Ytlmolloallhclaa.H
open Go.RowKit Go.Proofs.YtlmolloallhclaaW.PrintWords Go.Proofs.YtlmolloallhclaaW.PrintLast Go.Proofs.YtlmolloallhclaaW.PrintMore Go.Proofs.Ytlmolloallhclaa.Num
theorem co_mul_lin {p : Int} (hp : 0 < p) (f : List Int) (b : Int) (t : Nat) : cg p (co (mulL p f [b, 1]) t) (b * co f t + if 1 ≤ t then co f (t - 1) else 0) := by
 rw [co_mulL hp]; exact (cg.mod _ _).trans (cg.of_eq (cv_lin b (co f) t))
end Go.Proofs.Ytlmolloallhclaa.H
set_option linter.unusedVariables false
set_option linter.unusedSimpArgs false
namespace Go.Proofs.Ytlmolloallhclaa.H
open Go.RowKit Go.Proofs.YtlmolloallhclaaW.PrintWords Go.Proofs.YtlmolloallhclaaW.PrintLast Go.Proofs.YtlmolloallhclaaW.PrintMore Go.Proofs.Ytlmolloallhclaa.Num
def dL (p : Int) (n : Nat) (F : Nat → Int) : List Int := (List.range (n + 1)).map fun t => F (n - t) % p
theorem dL_len (p : Int) (n : Nat) (F : Nat → Int) : (dL p n F).length = n + 1 := by simp [dL]
theorem co_dL (p : Int) (n : Nat) (F : Nat → Int) (t : Nat) : co (dL p n F) t = if t ≤ n then F (n - t) % p else 0 := by
 by_cases h : t ≤ n
 ·
  rw [if_pos h]
  unfold co dL
  rw [List.getD_eq_getElem?_getD, List.getElem?_map, List.getElem?_range (by omega)]
  rfl
 ·
  rw [if_neg h, co_ge (by rw [dL_len]; omega)]
theorem dL_inR {p : Int} (hp : 0 < p) (n : Nat) (F : Nat → Int) : InR p (dL p n F) := fun x hx => by
 unfold dL at hx
 obtain ⟨t, _, rfl⟩ := List.mem_map.1 hx
 exact emod_bd hp
theorem dL_nz {p : Int} (hp : 2 ≤ p) (n : Nat) {F : Nat → Int} (h : F 0 = 1) : Nz (dL p n F) := by
 refine .inr ?_
 rw [dL_len, co_dL, if_pos (by omega), show n - (n + 1 - 1) = 0 by omega, h, Int.emod_eq_of_lt (by omega) (by omega)]
 omega
theorem dL_cg {p : Int} {n : Nat} {F G : Nat → Int} (h : ∀ t, t ≤ n → cg p (F t) (G t)) : dL p n F = dL p n G :=
 List.map_congr_left fun t _ => (h (n - t) (by omega)).emod
theorem Dy_at0 : ∀ (n : Nat) (A : Nat → Nat → Int), Dy n A 0 = 1
 | 0, A => rfl
 | n + 1, A => by
  rw [Dy_berk]
  show 0 + colB n A 0 * Dy n _ (0 - 0) = 1
  rw [show (0 - 0 : Nat) = 0 from rfl, Dy_at0 n]
  rfl
def chS (H : Nat → Nat → Int) (k e : Nat) : Nat → Int := fun t => Dy k H t - H k k * mvS (Dy k H) 1 t - su (fun e => prH H k (e + 1) * H (k - (e + 1)) k * mvS (Dy (k - (e + 1)) H) (e + 2) t) e
theorem chS_at0 (H : Nat → Nat → Int) (k e : Nat) : chS H k e 0 = 1 := by
 unfold chS
 rw [Dy_at0, su_zero fun i _ => by unfold mvS; rw [if_neg (by omega), Int.mul_zero]]
 unfold mvS
 rw [if_neg (by omega)]; omega
theorem chS_succ (H : Nat → Nat → Int) (k e t : Nat) : chS H k (e + 1) t = chS H k e t - prH H k (e + 1) * H (k - (e + 1)) k * mvS (Dy (k - (e + 1)) H) (e + 2) t := by
 unfold chS
 rw [show su (fun e => prH H k (e + 1) * H (k - (e + 1)) k * mvS (Dy (k - (e + 1)) H) (e + 2) t) (e + 1) = su (fun e => prH H k (e + 1) * H (k - (e + 1)) k * mvS (Dy (k - (e + 1)) H) (e + 2) t) e + prH H k (e + 1) * H (k - (e + 1)) k * mvS (Dy (k - (e + 1)) H) (e + 2) t from rfl]
 omega
theorem chS_end {n : Nat} {H : Nat → Nat → Int} (hH : ∀ i j, i < n → j + 1 < i → H i j = 0) {k : Nat} (hk : k < n) : chS H k k = Dy (k + 1) H := funext fun t => (Dy_hess hH hk t).symm
theorem ch_times {p : Int} (hp : 2 ≤ p) (H : Nat → Nat → Int) (k : Nat) : mulL p [(-(H k k)) % p, 1] (dL p k (Dy k H)) = dL p (k + 1) (chS H k 0) := by
 rw [mulL_comm (by omega)]
 refine (mulL_nz _ _ _).ext (dL_nz hp _ (chS_at0 H k 0)) fun t => ?_
 refine cg.eq ((co_mul_lin (by omega) _ _ t).trans ?_) ((mulL_inR (by omega) _ _).co (by omega) t) ((dL_inR (by omega) _ _).co (by omega) t)
 rw [co_dL, co_dL, co_dL]
 have e0 : ∀ t, chS H k 0 t = Dy k H t - H k k * mvS (Dy k H) 1 t := fun t => by unfold chS; rw [show su (fun e => prH H k (e + 1) * H (k - (e + 1)) k * mvS (Dy (k - (e + 1)) H) (e + 2) t) 0 = 0 from rfl]; omega
 have en : ∀ x y, cg p (-(H k k) % p * (x % p) + y % p) (y - H k k * x) := fun x y => by
  refine (((cg.mod p _).mul (cg.mod p _)).add (cg.mod p _)).trans (cg.of_eq ?_)
  grind
 rcases Nat.lt_or_ge k t with h | h
 ·
  rw [if_neg (show ¬ t ≤ k by omega), Int.mul_zero, Int.zero_add, if_pos (show 1 ≤ t by omega)]
  rcases Nat.lt_or_ge (k + 1) t with h1 | h1
  ·
   rw [if_neg (by omega), if_neg (by omega)]; exact cg.refl _
  ·
   rw [if_pos (by omega), if_pos (by omega), e0, show k + 1 - t = 0 by omega, show k - (t - 1) = 0 by omega]
   refine cg.of_eq ?_
   unfold mvS
   rw [if_neg (by omega), Dy_at0]; simp
 ·
  rw [if_pos h, if_pos (show t ≤ k + 1 by omega), e0]
  refine cg.trans ?_ (cg.mod p _).symm
  have e1 : mvS (Dy k H) 1 (k + 1 - t) = Dy k H (k - t) := by unfold mvS; rw [if_pos (by omega), show k + 1 - t - 1 = k - t by omega]
  rw [e1]
  by_cases h1 : 1 ≤ t
  ·
   rw [if_pos h1, if_pos (by omega), show k - (t - 1) = k + 1 - t by omega]; exact en _ _
  ·
   rw [if_neg h1, Dy_deg H (show k < k + 1 - t by omega)]
   have := en (Dy k H (k - t)) 0
   rwa [Int.zero_emod] at this
theorem ch_add {p : Int} (hp : 2 ≤ p) (H : Nat → Nat → Int) {k e : Nat} (he : e < k) {c : Int} (hc : cg p c (-(prH H k (e + 1) * H (k - (e + 1)) k))) :
  addL p (dL p (k + 1) (chS H k e)) (dL p (k - (e + 1)) (Dy (k - (e + 1)) H)) c = dL p (k + 1) (chS H k (e + 1)) := by
 refine (addL_nz _ _ _ _).ext (dL_nz hp _ (chS_at0 H k (e + 1))) fun t => ?_
 rw [co_addL (by omega) (dL_inR (by omega) _ _), co_dL, co_dL, co_dL]
 rcases Nat.lt_or_ge (k + 1) t with h | h
 ·
  rw [if_neg (by omega), if_neg (by omega), if_neg (by omega), Int.mul_zero]; rfl
 ·
  rw [if_pos h, if_pos h, chS_succ]
  refine cg.emod ?_
  by_cases h1 : t ≤ k - (e + 1)
  ·
   rw [if_pos h1]
   have e1 : mvS (Dy (k - (e + 1)) H) (e + 2) (k + 1 - t) = Dy (k - (e + 1)) H (k - (e + 1) - t) := by unfold mvS; rw [if_pos (by omega), show k + 1 - t - (e + 2) = k - (e + 1) - t by omega]
   rw [e1]
   refine ((cg.mod p _).add (hc.mul (cg.mod p _))).trans (cg.of_eq ?_)
   grind
  ·
   rw [if_neg h1, Int.mul_zero, Int.add_zero]
   refine (cg.mod p _).trans (cg.of_eq ?_)
   unfold mvS
   rw [if_neg (by omega), Int.mul_zero]; omega
def dLs (p : Int) (H : Nat → Nat → Int) (k : Nat) : List (List Int) := (List.range (k + 1)).map fun j => dL p j (Dy j H)
theorem dLs_len (p : Int) (H : Nat → Nat → Int) (k : Nat) : (dLs p H k).length = k + 1 := by simp [dLs]
theorem dLs_at (p : Int) (H : Nat → Nat → Int) {k j : Nat} (h : j ≤ k) : ro (dLs p H k) j = dL p j (Dy j H) := by
 unfold ro dLs
 rw [List.getD_eq_getElem?_getD, List.getElem?_map, List.getElem?_range (by omega)]
 rfl
theorem dLs_succ (p : Int) (H : Nat → Nat → Int) (k : Nat) : dLs p H (k + 1) = dLs p H k ++ [dL p (k + 1) (Dy (k + 1) H)] := by
 unfold dLs
 rw [List.range_succ, List.map_append]; rfl
theorem dLs_0 {p : Int} (hp : 2 ≤ p) (H : Nat → Nat → Int) : dLs p H 0 = [[1]] := by
 have : (1 : Int) % p = 1 := Int.emod_eq_of_lt (by omega) (by omega)
 simp [dLs, dL, Dy_at0, this]
def ChOk (p : Int) (l : List (List Int)) : Prop := IsP p ∧ l.length ≤ 12 ∧ Sq p l.length l
open Classical in
noncomputable def chA (p : Int) (l : List (List Int)) : List Int × Int := if ChOk p l then (dL p l.length (Dy l.length (mx l)), 0) else ([], 2)
theorem chA_no {p : Int} {l : List (List Int)} (h : ¬ ChOk p l) : chA p l = ([], 2) := if_neg h
theorem chA_yes {p : Int} {l : List (List Int)} (h : ChOk p l) : chA p l = (dL p l.length (Dy l.length (mx l)), 0) := if_pos h
theorem ro_mem {l : List (List Int)} {i : Nat} (h : i < l.length) : ro l i ∈ l := by
 have : ro l i = l[i] := by unfold ro; rw [List.getD_eq_getElem?_getD, List.getElem?_eq_getElem h]; rfl
 rw [this]; exact List.getElem_mem h
theorem rd_ro (l : List (List Int)) (i : Nat) : rd_L1 l (i : Int) = ro l i := by unfold rd_L1 ro; rw [Int.toNat_natCast]
theorem inR_all {p : Int} {l : List Int} : l.all (hasB p) = true ↔ InR p l := by
 rw [List.all_eq_true]
 exact ⟨fun h x hx => hasB_iff.1 (h x hx), fun h x hx => hasB_iff.2 (h x hx)⟩
end Go.Proofs.Ytlmolloallhclaa.H
namespace Go.Proofs.Ytlmolloallhclaa.H
open Go.RowKit Go.Proofs.YtlmolloallhclaaW.PrintWords Go.Proofs.YtlmolloallhclaaW.PrintLast Go.Proofs.YtlmolloallhclaaW.PrintMore
attribute [local go_sem] max2_int min2_int max_two min_two max_three min_three max_four min_four   -- for this text's walks alone
set_option linter.unusedVariables false
set_option linter.unusedSimpArgs false
mutual
def impl_field_apply.l0 : Nat → Int → List (List Int) → Int → List Int → List Int → Int → Int → Option (List Int)
 | 0, _, _, _, _, _, _, _ => none
 | k + 1, x0, x1, x2, x3, x9, x17, x18 => if x18 < x17 then (impl_field_apply.l1 k x0 x1 x2 x3 x9 x18 x17 x18 x3 (x3.length : Int) 0) else (some x9)
def impl_field_apply.l1 : Nat → Int → List (List Int) → Int → List Int → List Int → Int → Int → Int → List Int → Int → Int → Option (List Int)
 | 0, _, _, _, _, _, _, _, _, _, _, _ => none
 | k + 1, x0, x1, x2, x3, x9, x10, x17, x18, x21, x22, x23 => if x23 < x22 then (if 0 ≤ x23 then (if x23 < (x21.length : Int) then (if 0 ≤ x10 then (if x10 < (x9.length : Int) then (if 0 ≤ (wrap64 (x2 + x10)) then (if (wrap64 (x2 + x10)) < (x1.length : Int) then (if 0 ≤ (wrap64 (x2 + x23)) then (if (wrap64 (x2 + x23)) < ((rd_L1 x1 (wrap64 (x2 + x10))).length : Int) then ((impl_field_mod.f x0 (wrap64 ((rd x9 x10) + (wrap64 ((rd (rd_L1 x1 (wrap64 (x2 + x10))) (wrap64 (x2 + x23))) * (rd x21 x23)))))).bind fun t413 => (impl_field_apply.l1 k x0 x1 x2 x3 (x9.set (x10 : Int).toNat t413) x10 x17 x18 x21 x22 (wrap64 (x23 + 1)))) else (none)) else (none)) else (none)) else (none)) else (none)) else (none)) else (none)) else (none)) else (impl_field_apply.l0 k x0 x1 x2 x3 x9 x17 (wrap64 (x18 + 1)))
end
def impl_field_apply.f (k : Nat) (a0 : Int) (l1 : List (List Int)) (a2 : Int) (l3 : List Int) : Option (List Int) := if 0 ≤ (l3.length : Int) then (if ((l3.length : Int) : Int).toNat ≤ 35184372088832 then (impl_field_apply.l0 k a0 l1 a2 l3 (List.replicate ((l3.length : Int) : Int).toNat 0) (l3.length : Int) 0) else (none)) else (none)
def impl_field_apply.T8 : Bool × List (List Nat × List Nat) := (true, [([], []), ([], []), ([], []), ([], []), ([], []), ([3, 4], [3, 4]), ([5], [5]), ([], []), ([], []), ([], []), ([8, 9], [8, 9]), ([7, 10], [7, 10]), ([11], [11]), ([], []), ([], []), ([13, 14], [13, 14]), ([12, 15], [12, 15]), ([16], [16]), ([], []), ([17, 18], [17, 18]), ([6, 19], [6, 19]), ([2, 20], [2, 20]), ([0, 1, 0, 1, 2, 3, 4, 5, 6, 7, 8, 9, 10, 11, 12, 13, 14, 15, 16, 17, 18, 19, 20, 21], [0, 1]), ([22, 21, 21, 0, 1, 2, 3, 4, 5, 6, 7, 8, 9, 10, 11, 12, 13, 14, 15, 16, 17, 18, 19, 20, 21], [21, 22])])
def impl_field_apply.B8 : List Nat := [0, 0, 0, 0, 0, 24, 56, 0, 0, 0, 768, 1920, 3968, 0, 0, 24576, 65408, 130944, 0, 524160, 1048568, 2097148, 4194303, 8388607]
theorem impl_field_apply.tab8 : rtab .any (opsOf Try.f102 8) = impl_field_apply.T8 := by kernel_rfl
theorem impl_field_apply.bits8 : waitsOk impl_field_apply.T8.2 impl_field_apply.B8 = true := by kernel_rfl
set_option maxHeartbeats 8000000 in
set_option maxRecDepth 100000 in
theorem impl_field_apply.calls (k : Nat) (a0 : Int) (A1 : Option Addr) (c1 : Nat) (l1 : List (List Int)) (a2 : Int) (A3 : Option Addr) (c3 : Nat) (l3 : List Int) (r : List Int) (w : World) (hr1 : Kd.C (Kd.slice 2 (Kd.int .i64)) w A1 l1.length l1) (hc1 : l1.length ≤ c1) (hr3 : Kd.C (Kd.int .i64) w A3 l3.length l3) (hc3 : l3.length ≤ c3) (h : impl_field_apply.f k a0 l1 a2 l3 = some r) :
  Calls Try.prog 102 #[.int .i64 a0, .slice A1 l1.length c1, .int .i64 a2, .slice A3 l3.length c3] w fun e w' => ∃ v0_ : Value, e = .returned (v0_) ∧ Kd.R (Kd.int .i64) 2 w' w.heap.size (fun _ => True) v0_ r ∧ Below w.heap.size w w' := by
 have HR1 := as0 hr1
 have HC1 := as0 hc1
 clear hr1 hc1
 have HR3 := as0 hr3
 have HC3 := as0 hc3
 clear hr3 hc3
 have HB := as0 (Below.refl w.heap.size w)
 have H : (if 0 ≤ (l3.length : Int) then (if ((l3.length : Int) : Int).toNat ≤ 35184372088832 then (impl_field_apply.l0 k a0 l1 a2 l3 (List.replicate ((l3.length : Int) : Int).toNat 0) (l3.length : Int) 0) else (none)) else (none)) = some r := h
 clear h
 by_cases c5 : 0 ≤ (l3.length : Int)
 ·
  rw [if_pos c5] at H
  have c5b0 := eq_true c5
  have c5b1 : decide (0 ≤ (l3.length : Int)) = true := decide_eq_true c5
  clear c5
  by_cases c6 : ((l3.length : Int) : Int).toNat ≤ 35184372088832
  ·
   rw [if_pos c6] at H
   have c6b0 := eq_true c6
   have c6b1 : decide (((l3.length : Int) : Int).toNat ≤ 35184372088832) = true := decide_eq_true c6
   clear c6
   obtain ⟨y406, hy406⟩ : ∃ y_ : List Int, y_ = (List.replicate ((l3.length : Int) : Int).toNat 0) := ⟨_, rfl⟩
   replace H : (impl_field_apply.l0 k a0 l1 a2 l3 y406 (l3.length : Int) 0) = some r := by first | (rw [hy406]; with_reducible exact H) | (have H2_ := (Option.bind_some _ _).symm.trans H; rw [hy406]; with_reducible exact H2_) | (have H2_ := (Option.bind_some _ _).symm.trans H; with_reducible exact H2_) | with_reducible exact H | (rw [hy406]; exact H) | exact H
   have Ny406 := as0 hy406
   clear hy406
   have H' := as0 H
   clear H
   go_enter Try.func102, Try.ntmps102
   go_wp2_with (first | ((with_reducible refine gate_dst (N := 15) rfl ?_); refine Kd.R_make (Kd.int .i64) _ 2 rfl (N := 15) rfl 22 _ _ rfl (l3.length : Int) rfl rfl Try.underlying22 (.int .i64 0) 8 info2 rfl (by decide) (by omega) 0 (ok := fun _ => True) (okp := fun _ => True) rfl (fun _ hk => hk) trivial (oa_) (Nat.le_trans (Nat.mul_le_mul_right _ (oa_ : (l3.length : Int).toNat ≤ 35184372088832)) (by omega)) (Below.refl _ _) (Nat.le_refl _) ?_; intro v407 w7 ho8 hb hg_ hnew_; clear hg_ hnew_; (first | rw [← Ny406.out] at ho8 | (simp only [Int.reduceToNat] at ho8; rw [← Ny406.out] at ho8)); have n0_ := as0 (Kd.R_lower ho8 (below_size (bs HB))); have n1_ := as0 (below_step (bs HB) hb); clear HB; have HO408 := n0_; have HB := n1_; clear n0_ n1_; clear hb ho8))
   go_loopg [18] k (fun kq v18 w' => ∃ (x9_1 : List Int) (x18_1 : Int), v18 = .int .i64 x18_1 ∧ Aside0 (impl_field_apply.l0 kq a0 l1 a2 l3 x9_1 (l3.length : Int) x18_1 = some r) ∧ Aside0 (kq ≤ k) ∧ Aside0 (Kd.R (Kd.int .i64) 2 w' w.heap.size (fun _ => True) v407 x9_1) ∧ Aside0 (Below w.heap.size w w'))
   case atStart => exact ⟨(y406), (0), ea_, H', ⟨Nat.le_refl _⟩, ⟨rs HO408⟩, ⟨bs HB⟩⟩
   case round =>
    clear H'
    try clear c1
    try clear p2
    try clear c3
    try clear c5
    try clear c5b0
    try clear c5b1
    try clear c6
    try clear c6b0
    try clear c6b1
    obtain ⟨x9_1, x18_1, rfl, HA, HK1, HO_9, HB⟩ := hrel
    cases gk with
    | zero => exact absurd HA.out (by simp [impl_field_apply.l0])
    | succ k1 =>
     have H := HA.out
     clear HA
     simp only [impl_field_apply.l0] at H
     by_cases c9 : x18_1 < (l3.length : Int)
     ·
      rw [if_pos c9] at H
      have c9b0 : decide (x18_1 < (l3.length : Int)) = true := decide_eq_true c9
      clear c9
      have H' := as0 H
      clear H
      go_wp2
      go_loopg [23] k1 (fun kq v23 w' => ∃ (x9_2 : List Int) (x23_2 : Int), v23 = .int .i64 x23_2 ∧ Aside0 (impl_field_apply.l1 kq a0 l1 a2 l3 x9_2 x18_1 (l3.length : Int) x18_1 l3 (l3.length : Int) x23_2 = some r) ∧ Aside0 (kq ≤ k1) ∧ Aside0 (Kd.R (Kd.int .i64) 2 w' w.heap.size (fun _ => True) v407 x9_2) ∧ Aside0 (Below w.heap.size w w'))
      case atStart => exact ⟨(x9_1), (0), ea_, H', ⟨Nat.le_refl _⟩, ⟨rs HO_9⟩, ⟨bs HB⟩⟩
      case round =>
       clear H'
       try clear c1
       try clear p2
       try clear c3
       try clear c5
       try clear c5b0
       try clear c5b1
       try clear c6
       try clear c6b0
       try clear c6b1
       try clear c9
       try clear c9b0
       try clear p2
       obtain ⟨x9_2, x23_2, rfl, HA, HK2, HO_9, HB⟩ := hrel
       cases gk with
       | zero => exact absurd HA.out (by simp [impl_field_apply.l1])
       | succ k2 =>
        have H := HA.out
        clear HA
        simp only [impl_field_apply.l1] at H
        by_cases c10 : x23_2 < (l3.length : Int)
        ·
         rw [if_pos c10] at H
         have c10b0 : decide (x23_2 < (l3.length : Int)) = true := decide_eq_true c10
         clear c10
         by_cases c11 : 0 ≤ x23_2
         ·
          rw [if_pos c11] at H
          have c11b0 : decide (0 ≤ x23_2) = true := decide_eq_true c11
          clear c11
          by_cases c12 : x23_2 < (l3.length : Int)
          ·
           rw [if_pos c12] at H
           have c12b0 : decide (x23_2 < (l3.length : Int)) = true := decide_eq_true c12
           clear c12
           by_cases c13 : 0 ≤ x18_1
           ·
            rw [if_pos c13] at H
            have c13b0 : decide (0 ≤ x18_1) = true := decide_eq_true c13
            clear c13
            by_cases c14 : x18_1 < (x9_2.length : Int)
            ·
             rw [if_pos c14] at H
             have c14b0 : decide (x18_1 < (x9_2.length : Int)) = true := decide_eq_true c14
             clear c14
             obtain ⟨ji15, hji15⟩ : ∃ j_ : Int, (wrap64 (a2 + x18_1)) = j_ := ⟨_, rfl⟩
             replace H : (if 0 ≤ (ji15) then (if (ji15) < (l1.length : Int) then (if 0 ≤ (wrap64 (a2 + x23_2)) then (if (wrap64 (a2 + x23_2)) < ((rd_L1 l1 (ji15)).length : Int) then ((impl_field_mod.f a0 (wrap64 ((rd x9_2 x18_1) + (wrap64 ((rd (rd_L1 l1 (ji15)) (wrap64 (a2 + x23_2))) * (rd l3 x23_2)))))).bind fun t413 => (impl_field_apply.l1 k2 a0 l1 a2 l3 (x9_2.set (x18_1 : Int).toNat t413) x18_1 (l3.length : Int) x18_1 l3 (l3.length : Int) (wrap64 (x23_2 + 1)))) else (none)) else (none)) else (none)) else (none)) = some r := by first | (rw [hji15] at H; exact H) | (simp only [hji15] at H ⊢; exact H)
             have hji15w : (IntKind.i64.wrap (a2 + x18_1)) = ji15 := (i64_w _).trans hji15
             by_cases c16 : 0 ≤ (ji15)
             ·
              rw [if_pos c16] at H
              have c16b0 : decide (0 ≤ (ji15)) = true := decide_eq_true c16
              clear c16
              by_cases c17 : (ji15) < (l1.length : Int)
              ·
               rw [if_pos c17] at H
               have c17b0 : decide ((ji15) < (l1.length : Int)) = true := decide_eq_true c17
               clear c17
               obtain ⟨ji18, hji18⟩ : ∃ j_ : Int, (wrap64 (a2 + x23_2)) = j_ := ⟨_, rfl⟩
               replace H : (if 0 ≤ (ji18) then (if (ji18) < ((rd_L1 l1 (ji15)).length : Int) then ((impl_field_mod.f a0 (wrap64 ((rd x9_2 x18_1) + (wrap64 ((rd (rd_L1 l1 (ji15)) (ji18)) * (rd l3 x23_2)))))).bind fun t413 => (impl_field_apply.l1 k2 a0 l1 a2 l3 (x9_2.set (x18_1 : Int).toNat t413) x18_1 (l3.length : Int) x18_1 l3 (l3.length : Int) (wrap64 (x23_2 + 1)))) else (none)) else (none)) = some r := by first | (rw [hji18] at H; exact H) | (simp only [hji18] at H ⊢; exact H)
               have hji18w : (IntKind.i64.wrap (a2 + x23_2)) = ji18 := (i64_w _).trans hji18
               by_cases c19 : 0 ≤ (ji18)
               ·
                rw [if_pos c19] at H
                have c19b0 : decide (0 ≤ (ji18)) = true := decide_eq_true c19
                clear c19
                by_cases c20 : (ji18) < ((rd_L1 l1 (ji15)).length : Int)
                ·
                 rw [if_pos c20] at H
                 have c20b0 : decide ((ji18) < ((rd_L1 l1 (ji15)).length : Int)) = true := decide_eq_true c20
                 clear c20
                 replace H := Option.bind_eq_some_iff.mp H
                 obtain ⟨t413, A210, H⟩ := H
                 have A21 := as0 A210
                 clear A210
                 obtain ⟨y414, hy414⟩ : ∃ y_ : List Int, y_ = (x9_2.set (x18_1 : Int).toNat t413) := ⟨_, rfl⟩
                 replace H : (impl_field_apply.l1 k2 a0 l1 a2 l3 y414 x18_1 (l3.length : Int) x18_1 l3 (l3.length : Int) (wrap64 (x23_2 + 1))) = some r := by first | (rw [hy414]; with_reducible exact H) | (have H2_ := (Option.bind_some _ _).symm.trans H; rw [hy414]; with_reducible exact H2_) | (have H2_ := (Option.bind_some _ _).symm.trans H; with_reducible exact H2_) | with_reducible exact H | (rw [hy414]; exact H) | exact H
                 have Ny414 := as0 hy414
                 clear hy414
                 have H' := as0 H
                 clear H
                 have p409 : 0 ≤ (x23_2 : Int) := oa_
                 have q409 : x23_2 < (l3.length : Int) := oa_
                 obtain ⟨ad409, e409, hx409_0⟩ := Kd.at_int HR3.out x23_2 p409 q409
                 cases e409
                 replace hx409_0 := (HB.out.cell (World.block_lt_of_cell? w _ hx409_0)).trans hx409_0
                 replace p409 := eq_true p409
                 replace q409 := eq_true q409
                 try go_wp2
                 have n0_ := as0 (Kd.R_drew HO_9.out)
                 have n1_ := as0 (below_drew1 HB.out)
                 clear HO_9
                 clear HB
                 have HO_9 := n0_
                 have HB := n1_
                 clear n0_ n1_
                 obtain ⟨Ao24, co24, eo24⟩ := Kd.R_slice HO_9.out
                 (first | subst eo24 | (injection eo24 with f1_ f2_ f3_; have f4_ := f1_.symm; have f5_ := f3_.symm; clear f1_ f2_ f3_; subst f4_; subst f5_))
                 have p410 : 0 ≤ (x18_1 : Int) := oa_
                 have q410 : x18_1 < (x9_2.length : Int) := oa_
                 obtain ⟨ad410, e410, hx410_0⟩ := Kd.at_int (Kd.R_reads' HO_9.out).2.2 x18_1 p410 q410
                 cases e410
                 replace p410 := eq_true p410
                 replace q410 := eq_true q410
                 have p411 : 0 ≤ ((ji15) : Int) := oa_
                 have q411 : (ji15) < (l1.length : Int) := oa_
                 obtain ⟨ad411, A411_0, c411_0, e411, hx411_0, hl411_0, hi411_0⟩ := at_L1 HR1.out (ji15) p411 q411
                 have hw411_0 := hx411_0
                 cases e411
                 replace hx411_0 := (HB.out.cell (World.block_lt_of_cell? w _ hx411_0)).trans hx411_0
                 have HR411_0 := as0 hi411_0
                 have HC411_0 := as0 hl411_0
                 clear hi411_0 hl411_0
                 replace p411 := eq_true p411
                 replace q411 := eq_true q411
                 have p412 : 0 ≤ ((ji18) : Int) := oa_
                 have q412 : (ji18) < ((rd_L1 l1 (ji15)).length : Int) := oa_
                 obtain ⟨ad412, e412, hx412_0⟩ := Kd.at_int HR411_0.out (ji18) p412 q412
                 have hw412_0 := hx412_0
                 cases e412
                 replace hx412_0 := (HB.out.cell (World.block_lt_of_cell? w _ hx412_0)).trans hx412_0
                 replace p412 := eq_true p412
                 replace q412 := eq_true q412
                 refine start_ (n := 24) (S := fun w' => w'.cell? (ad410.add (x18_1).toNat) = some (.int .i64 (rd x9_2 x18_1)) ∧ w'.cell? (ad411.add ((ji15)).toNat) = some (.slice (some ad412) (rd_L1 l1 (ji15)).length c411_0) ∧ w'.cell? (ad412.add ((ji18)).toNat) = some (.int .i64 (rd (rd_L1 l1 (ji15)) (ji18)))) (ds := [23]) #[false, false, false, false, false, false, false, false, false, false, false, false, false, false, false, false, false, false, false, false, false, false, false, false] (by kernel_rfl) rfl rfl ⟨hx410_0, ((HB.out.cell (World.block_lt_of_cell? w _ hw411_0)).trans hw411_0), ((HB.out.cell (World.block_lt_of_cell? w _ hw412_0)).trans hw412_0)⟩ (fun hHeld => ?_); refine with_tabW impl_field_apply.tab8 impl_field_apply.bits8 (fun HT_ HW_ => ?_)
                 generalize wr.drew = w23 at HO_9 HB HR411_0 hx410_0 hx411_0 hx412_0 hHeld ⊢
                 refine pm_ HT_ (i := 0) (N := some 28) ?_
                 refine pm_ HT_ (i := 1) (N := some 29) ?_
                 refine pm_ HT_ (i := 2) (N := some 30) ?_
                 refine pm_ HT_ (i := 3) (N := some 31) ?_
                 refine pm_ HT_ (i := 4) (N := some 32) ?_
                 refine pm_ HT_ (i := 5) (N := some 33) ?_
                 refine pm_ HT_ (i := 7) (N := some 35) ?_
                 refine pm_ HT_ (i := 8) (N := some 36) ?_
                 refine pm_ HT_ (i := 9) (N := some 37) ?_
                 refine pm_ HT_ (i := 10) (N := some 38) ?_
                 refine pm_ HT_ (i := 11) (N := some 39) ?_
                 refine pm_ HT_ (i := 13) (N := some 41) ?_
                 refine pm_ HT_ (i := 14) (N := some 42) ?_
                 refine pm_ HT_ (i := 15) (N := some 43) ?_
                 refine pm_ HT_ (i := 18) (N := some 46) ?_
                 refine tm3_ HT_ HW_ (i := 6) (N := some 34) hHeld ?_
                 refine tm3_ HT_ HW_ (i := 12) (N := some 40) hHeld ?_
                 refine pm_ HT_ (i := 16) (N := some 44) ?_
                 refine tm3_ HT_ HW_ (i := 17) (N := some 45) hHeld ?_
                 refine pm_ HT_ (i := 19) (N := some 47) ?_
                 refine pm_ HT_ (i := 20) (N := some 48) ?_
                 refine one_ (i := 21) (N := some 49) #[true, true, true, true, true, true, true, true, true, true, true, true, true, true, true, true, true, true, true, true, true, true, false, false] rfl rfl (one_of HT_.out (by kernel_rfl)) (by decide) (fun K hK => ?_)
                 refine goes_ Try.func64 (by kernel_rfl) rfl #[.int .i64 a0, .int .i64 (wrap64 ((rd x9_2 x18_1) + (wrap64 ((rd (rd_L1 l1 (ji15)) (ji18)) * (rd l3 x23_2)))))] (by rfl) rfl rfl (by (try simp only [List.map_toArray, List.map_cons, List.map_nil]); first | done | (simp only [hji15, hji18]; rfl) | rfl | (simp only [List.length_drop, List.length_take]; rfl)) ?_
                 with_reducible refine (impl_field_mod.calls a0 (wrap64 ((rd x9_2 x18_1) + (wrap64 ((rd (rd_L1 l1 (ji15)) (ji18)) * (rd l3 x23_2))))) t413 _ A21.out).mono ?_
                 rintro e w' ⟨rfl, ⟨nd, rfl⟩⟩
                 refine ⟨_, rfl, ?_⟩
                 have p22 : 0 ≤ (x18_1 : Int) := oa_
                 have q22 : (x18_1 : Int) < ((x9_2.length : Int) : Int) := oa_
                 obtain ⟨go22, co22, eo22, gb22, gl22, cl22, HG22⟩ := Kd.R_form HO_9.out (by omega)
                 (first | cases eo22 | (injection eo22 with ea_ en_ ec_; (first | subst ea_ | (injection ea_ with ea_; subst ea_)); subst ec_; clear en_))
                 have GB22 := as0 gb22
                 have GG22 := as0 HG22
                 clear gb22 gl22 HG22
                 (first | simp only [add_plain] at hx410_0 | skip)
                 obtain ⟨hx22_0, hf22_0⟩ := Kd.R_celln 0 HO_9.out (x18_1 : Int) p22 q22
                 replace p22 := eq_true p22
                 replace q22 := eq_true q22
                 have HP25 := Kd.R_putn HO_9.out (x18_1 : Int) t413
                 rw [← Ny414.out] at HP25
                 have HQ25 := as0 HP25
                 clear HP25
                 refine hK.out _ _ ⟨hHeld.1, ((HB.out.cell (World.block_lt_of_cell? w _ hw411_0)).trans hw411_0), ((HB.out.cell (World.block_lt_of_cell? w _ hw412_0)).trans hw412_0)⟩ (fun hHeld => ?_)
                 clear hK K
                 refine nm_ (some 49) ?_
                 refine pm_ HT_ (i := 22) (N := some 50) ?_
                 refine last_ (i := 23) (N := none) #[true, true, true, true, true, true, true, true, true, true, true, true, true, true, true, true, true, true, true, true, true, true, true, true] rfl rfl (one_of HT_.out (by kernel_rfl)) (by decide) (fun K hK => ?_)
                 refine skip_ (w1 := ?_) (by rfl) rfl ?_ ?_
                 rotate_left
                 ·
                  go_simp
                  rfl
                 refine hK.out _ _ ?_
                 clear hK K
                 refine done_ (done_of HT_.out (by kernel_rfl)) ?_
                 try go_wp2
                 go_roundg k2
                 case measure => have := HK1.out; have := HK2.out; omega
                 case rel => exact ⟨(y414), (wrap64 (x23_2 + 1)), ea_, H', ⟨by have := HK1.out; have := HK2.out; omega⟩, ⟨by (with_reducible repeat (first | apply Kd.R_alloc | apply Kd.R_drewN | apply Kd.R_drew)); exact HQ25.out⟩, ⟨by repeat (first | (with_reducible first | exact HB.out | apply below_alloc | apply pw_below_drewN | apply below_drew1 | refine below_set ?_ GB22.out) | exact HB.out)⟩⟩
                ·
                 rw [if_neg c20] at H
                 exact absurd H (by simp)
               ·
                rw [if_neg c19] at H
                exact absurd H (by simp)
              ·
               rw [if_neg c17] at H
               exact absurd H (by simp)
             ·
              rw [if_neg c16] at H
              exact absurd H (by simp)
            ·
             rw [if_neg c14] at H
             exact absurd H (by simp)
           ·
            rw [if_neg c13] at H
            exact absurd H (by simp)
          ·
           rw [if_neg c12] at H
           exact absurd H (by simp)
         ·
          rw [if_neg c11] at H
          exact absurd H (by simp)
        ·
         rw [if_neg c10] at H
         have c10b0 : decide (x23_2 < (l3.length : Int)) = false := decide_eq_false c10
         clear c10
         have H' := as0 H
         clear H
         go_wp2
         go_roundg k2
         case measure => have := HK1.out; have := HK2.out; omega
         case rel => exact ⟨(x9_2), (wrap64 (x18_1 + 1)), ea_, H', ⟨by have := HK1.out; have := HK2.out; omega⟩, ⟨rs HO_9⟩, ⟨bs HB⟩⟩
     ·
      rw [if_neg c9] at H
      have c9b0 : decide (x18_1 < (l3.length : Int)) = false := decide_eq_false c9
      clear c9
      obtain rfl := Option.some.inj H
      go_wp2
      go_ret
      exact ⟨_, er_, rs HO_9, bs HB⟩
  ·
   rw [if_neg c6] at H
   exact absurd H (by simp)
 ·
  rw [if_neg c5] at H
  exact absurd H (by simp)
end Go.Proofs.Ytlmolloallhclaa.H
