/- Joined texts of a claim: the printed functions and what is proved of them. -/
import Derived.Test.YtlmolloallhclaaYHx0
import Derived.Test.YtlmolloallhclaaMa2
import Derived.Test.YtlmolloallhclaaMa1
namespace Go.Proofs.Ytlmolloallhclaa.H
open Go.RowKit Go.Proofs.YtlmolloallhclaaW.PrintWords Go.Proofs.YtlmolloallhclaaW.PrintLast Go.Proofs.YtlmolloallhclaaW.PrintMore
attribute [local go_sem] max2_int min2_int max_two min_two max_three min_three max_four min_four   -- for this text's walks alone
set_option linter.unusedVariables false
set_option linter.unusedSimpArgs false
mutual
def spec_l01Add.l0 : Nat → Int → List Int → List Int → Int → List Int → Int → Option (List Int)
 | 0, _, _, _, _, _, _ => none
 | k + 1, x0, x1, x2, x3, x9, x10 => if x10 < (x1.length : Int) then (if 0 ≤ x10 then (if x10 < (x9.length : Int) then (spec_l01Add.l0 k x0 x1 x2 x3 (x9.set (x10 : Int).toNat (rd x1 x10)) (wrap64 (x10 + 1))) else (none)) else (none)) else (spec_l01Add.l1 k x0 x2 x3 x9 0)
def spec_l01Add.l1 : Nat → Int → List Int → Int → List Int → Int → Option (List Int)
 | 0, _, _, _, _, _ => none
 | k + 1, x0, x2, x3, x9, x11 => if x11 < (x2.length : Int) then (if 0 ≤ x11 then (if x11 < (x9.length : Int) then ((spec_l01Mod.f x0 (wrap64 ((rd x9 x11) + (wrap64 (x3 * (rd x2 x11)))))).bind fun t234 => (spec_l01Add.l1 k x0 x2 x3 (x9.set (x11 : Int).toNat t234) (wrap64 (x11 + 1)))) else (none)) else (none)) else ((spec_l01Trim.f k x9).bind fun t236 => (some t236))
end
def spec_l01Add.f (k : Nat) (a0 : Int) (l1 : List Int) (l2 : List Int) (a3 : Int) : Option (List Int) := if (l1.length : Int) < (l2.length : Int) then (if 0 ≤ (l2.length : Int) then (if ((l2.length : Int) : Int).toNat ≤ 35184372088832 then (spec_l01Add.l0 k a0 l1 l2 a3 (List.replicate ((l2.length : Int) : Int).toNat 0) 0) else (none)) else (none)) else (if 0 ≤ (l1.length : Int) then (if ((l1.length : Int) : Int).toNat ≤ 35184372088832 then (spec_l01Add.l0 k a0 l1 l2 a3 (List.replicate ((l1.length : Int) : Int).toNat 0) 0) else (none)) else (none))
def spec_l01Add.T9 : Bool × List (List Nat × List Nat) := (true, [([], []), ([], []), ([], []), ([], []), ([], []), ([3, 4], [3, 4]), ([5], [5]), ([], []), ([], []), ([], []), ([8, 9], [8, 9]), ([10], [10]), ([7, 11], [7, 11]), ([6, 12], [6, 12]), ([2, 13], [2, 13]), ([0, 1, 0, 1, 2, 3, 4, 5, 6, 7, 8, 9, 10, 11, 12, 13, 14], [0, 1]), ([15, 14, 14, 0, 1, 2, 3, 4, 5, 6, 7, 8, 9, 10, 11, 12, 13, 14], [14, 15])])
def spec_l01Add.B9 : List Nat := [0, 0, 0, 0, 0, 24, 56, 0, 0, 0, 768, 1792, 3968, 8184, 16380, 32767, 65535]
theorem spec_l01Add.tab9 : rtab .any (opsOf Try.f47 9) = spec_l01Add.T9 := by kernel_rfl
theorem spec_l01Add.bits9 : waitsOk spec_l01Add.T9.2 spec_l01Add.B9 = true := by kernel_rfl
set_option maxHeartbeats 8000000 in
set_option maxRecDepth 100000 in
theorem spec_l01Add.calls (k : Nat) (a0 : Int) (A1 : Option Addr) (c1 : Nat) (l1 : List Int) (A2 : Option Addr) (c2 : Nat) (l2 : List Int) (a3 : Int) (r : List Int) (w : World) (hr1 : Kd.C (Kd.int .i64) w A1 l1.length l1) (hc1 : l1.length ≤ c1) (hr2 : Kd.C (Kd.int .i64) w A2 l2.length l2) (hc2 : l2.length ≤ c2) (h : spec_l01Add.f k a0 l1 l2 a3 = some r) :
  Calls Try.prog 47 #[.int .i64 a0, .slice A1 l1.length c1, .slice A2 l2.length c2, .int .i64 a3] w fun e w' => ∃ v0_ : Value, e = .returned (v0_) ∧ Kd.R (Kd.int .i64) 2 w' w.heap.size (fun _ => True) v0_ r ∧ Below w.heap.size w w' := by
 have HR1 := as0 hr1
 have HC1 := as0 hc1
 clear hr1 hc1
 have HR2 := as0 hr2
 have HC2 := as0 hc2
 clear hr2 hc2
 have HB := as0 (Below.refl w.heap.size w)
 have H : (if (l1.length : Int) < (l2.length : Int) then (if 0 ≤ (l2.length : Int) then (if ((l2.length : Int) : Int).toNat ≤ 35184372088832 then (spec_l01Add.l0 k a0 l1 l2 a3 (List.replicate ((l2.length : Int) : Int).toNat 0) 0) else (none)) else (none)) else (if 0 ≤ (l1.length : Int) then (if ((l1.length : Int) : Int).toNat ≤ 35184372088832 then (spec_l01Add.l0 k a0 l1 l2 a3 (List.replicate ((l1.length : Int) : Int).toNat 0) 0) else (none)) else (none))) = some r := h
 clear h
 by_cases c5 : (l1.length : Int) < (l2.length : Int)
 ·
  rw [if_pos c5] at H
  have c5i := eq_true c5
  have c5b0 : decide ((l1.length : Int) < (l2.length : Int)) = true := decide_eq_true c5
  have c5b1 : decide (l1.length < l2.length) = true := decide_eq_true (Int.ofNat_lt.mp c5)
  clear c5
  by_cases c6 : 0 ≤ (l2.length : Int)
  ·
   rw [if_pos c6] at H
   have c6b0 := eq_true c6
   have c6b1 : decide (0 ≤ (l2.length : Int)) = true := decide_eq_true c6
   clear c6
   by_cases c7 : ((l2.length : Int) : Int).toNat ≤ 35184372088832
   ·
    rw [if_pos c7] at H
    have c7b0 := eq_true c7
    have c7b1 : decide (((l2.length : Int) : Int).toNat ≤ 35184372088832) = true := decide_eq_true c7
    clear c7
    obtain ⟨y227, hy227⟩ : ∃ y_ : List Int, y_ = (List.replicate ((l2.length : Int) : Int).toNat 0) := ⟨_, rfl⟩
    replace H : (spec_l01Add.l0 k a0 l1 l2 a3 y227 0) = some r := by first | (rw [hy227]; with_reducible exact H) | (have H2_ := (Option.bind_some _ _).symm.trans H; rw [hy227]; with_reducible exact H2_) | (have H2_ := (Option.bind_some _ _).symm.trans H; with_reducible exact H2_) | with_reducible exact H | (rw [hy227]; exact H) | exact H
    have Ny227 := as0 hy227
    clear hy227
    have H' := as0 H
    clear H
    go_enter Try.func47, Try.ntmps47
    go_wp2_with (first | ((with_reducible refine gate_dst (N := 17) rfl ?_); refine Kd.R_make (Kd.int .i64) _ 2 rfl (N := 17) rfl 22 _ _ rfl (l2.length : Int) rfl rfl Try.underlying22 (.int .i64 0) 8 info2 rfl (by decide) (by omega) 0 (ok := fun _ => True) (okp := fun _ => True) rfl (fun _ hk => hk) trivial (oa_) (Nat.le_trans (Nat.mul_le_mul_right _ (oa_ : (l2.length : Int).toNat ≤ 35184372088832)) (by omega)) (Below.refl _ _) (Nat.le_refl _) ?_; intro v228 w8 ho9 hb hg_ hnew_; clear hg_ hnew_; (first | rw [← Ny227.out] at ho9 | (simp only [Int.reduceToNat] at ho9; rw [← Ny227.out] at ho9)); have n0_ := as0 (Kd.R_lower ho9 (below_size (bs HB))); have n1_ := as0 (below_step (bs HB) hb); clear HB; have HO229 := n0_; have HB := n1_; clear n0_ n1_; clear hb ho9))
    go_loopg [10] k (fun kq v10 w' => ∃ (x9_1 : List Int) (x10_1 : Int), v10 = .int .i64 x10_1 ∧ Aside0 (spec_l01Add.l0 kq a0 l1 l2 a3 x9_1 x10_1 = some r) ∧ Aside0 (kq ≤ k) ∧ Aside0 (Kd.R (Kd.int .i64) 2 w' w.heap.size (fun _ => True) v228 x9_1) ∧ Aside0 (Below w.heap.size w w'))
    case atStart => exact ⟨(y227), (0), ea_, H', ⟨Nat.le_refl _⟩, ⟨rs HO229⟩, ⟨bs HB⟩⟩
    case round =>
     clear H'
     try clear c1
     try clear c2
     try clear p2
     try clear c4
     try clear c5
     try clear c5b0
     try clear c5b1
     try clear c6
     try clear c6b0
     try clear c6b1
     try clear c7
     try clear c7b0
     try clear c7b1
     obtain ⟨x9_1, x10_1, rfl, HA, HK1, HO_9, HB⟩ := hrel
     cases gk with
     | zero => exact absurd HA.out (by simp [spec_l01Add.l0])
     | succ k1 =>
      have H := HA.out
      clear HA
      simp only [spec_l01Add.l0] at H
      by_cases c10 : x10_1 < (l1.length : Int)
      ·
       rw [if_pos c10] at H
       have c10b0 : decide (x10_1 < (l1.length : Int)) = true := decide_eq_true c10
       clear c10
       by_cases c11 : 0 ≤ x10_1
       ·
        rw [if_pos c11] at H
        have c11b0 : decide (0 ≤ x10_1) = true := decide_eq_true c11
        clear c11
        by_cases c12 : x10_1 < (x9_1.length : Int)
        ·
         rw [if_pos c12] at H
         have c12b0 : decide (x10_1 < (x9_1.length : Int)) = true := decide_eq_true c12
         clear c12
         obtain ⟨y231, hy231⟩ : ∃ y_ : List Int, y_ = (x9_1.set (x10_1 : Int).toNat (rd l1 x10_1)) := ⟨_, rfl⟩
         replace H : (spec_l01Add.l0 k1 a0 l1 l2 a3 y231 (wrap64 (x10_1 + 1))) = some r := by first | (rw [hy231]; with_reducible exact H) | (have H2_ := (Option.bind_some _ _).symm.trans H; rw [hy231]; with_reducible exact H2_) | (have H2_ := (Option.bind_some _ _).symm.trans H; with_reducible exact H2_) | with_reducible exact H | (rw [hy231]; exact H) | exact H
         have Ny231 := as0 hy231
         clear hy231
         have H' := as0 H
         clear H
         have p230 : 0 ≤ (x10_1 : Int) := oa_
         have q230 : x10_1 < (l1.length : Int) := oa_
         obtain ⟨ad230, e230, hx230_0⟩ := Kd.at_int HR1.out x10_1 p230 q230
         cases e230
         replace hx230_0 := (HB.out.cell (World.block_lt_of_cell? w _ hx230_0)).trans hx230_0
         replace p230 := eq_true p230
         replace q230 := eq_true q230
         have p13 : 0 ≤ (x10_1 : Int) := oa_
         have q13 : (x10_1 : Int) < ((x9_1.length : Int) : Int) := oa_
         obtain ⟨go13, co13, eo13, gb13, gl13, cl13, HG13⟩ := Kd.R_form HO_9.out (by omega)
         (first | cases eo13 | (injection eo13 with ea_ en_ ec_; (first | subst ea_ | (injection ea_ with ea_; subst ea_)); subst ec_; clear en_))
         have GB13 := as0 gb13
         have GG13 := as0 HG13
         clear gb13 gl13 HG13
         obtain ⟨hx13_0, hf13_0⟩ := Kd.R_celln 0 HO_9.out (x10_1 : Int) p13 q13
         replace p13 := eq_true p13
         replace q13 := eq_true q13
         have HP14 := Kd.R_putg HO_9.out (x10_1 : Int) (rd l1 x10_1)
         go_wp2_with (first | ((with_reducible refine gate_store (t := 2) (p := 30) rfl ?_); refine store_event (t := 2) (p := 30) (v := ?vo_w15) (w1 := (wr.setCell ⟨go13, (x10_1 : Int).toNat, none⟩ (.int .i64 (rd l1 x10_1)))) ?hg ?ho ?hn ?hr ?_; (case ho => rfl); (case hg => rfl); (case hn => rfl); (case hr => first | (go_simp; done) | (go_simp; rfl)); intro w15 hw; have hg : wr.grownBy w15 (some go13) := (by rw [hw]; exact HP14.2); have hp_ : Kd.R (Kd.int .i64) 2 w15 w.heap.size (fun _ => True) (.slice (some ⟨go13, 0, none⟩) x9_1.length co13) y231 := (by rw [hw, Ny231.out]; exact HP14.1); clear HP14; have n0_ := as0 (hp_); have n1_ := as0 ((by rw [hw]; exact below_set (HB.out) GB13.out : Below w.heap.size w w15)); clear HO_9; clear HB; have HO_9 := n0_; have HB := n1_; clear n0_ n1_; clear hg hw hp_))
         go_roundg k1
         case measure => have := HK1.out; omega
         case rel => exact ⟨(y231), (wrap64 (x10_1 + 1)), ea_, H', ⟨by have := HK1.out; omega⟩, ⟨rs HO_9⟩, ⟨bs HB⟩⟩
        ·
         rw [if_neg c12] at H
         exact absurd H (by simp)
       ·
        rw [if_neg c11] at H
        exact absurd H (by simp)
      ·
       rw [if_neg c10] at H
       have c10b0 : decide (x10_1 < (l1.length : Int)) = false := decide_eq_false c10
       clear c10
       have H' := as0 H
       clear H
       go_wp2
       go_loopg [11] k1 (fun kq v11 w' => ∃ (x9_2 : List Int) (x11_2 : Int), v11 = .int .i64 x11_2 ∧ Aside0 (spec_l01Add.l1 kq a0 l2 a3 x9_2 x11_2 = some r) ∧ Aside0 (kq ≤ k1) ∧ Aside0 (Kd.R (Kd.int .i64) 2 w' w.heap.size (fun _ => True) v228 x9_2) ∧ Aside0 (Below w.heap.size w w'))
       case atStart => exact ⟨(x9_1), (0), ea_, H', ⟨Nat.le_refl _⟩, ⟨rs HO_9⟩, ⟨bs HB⟩⟩
       case round =>
        clear H'
        try clear c1
        try clear p1
        try clear q1
        try clear hx1
        try clear c2
        try clear p2
        try clear q2
        try clear hx2
        try clear c4
        try clear c5
        try clear c5b0
        try clear c5b1
        try clear c6
        try clear c6b0
        try clear c6b1
        try clear p6
        try clear c7
        try clear c7b0
        try clear c7b1
        try clear c10
        try clear c10b0
        try clear c11
        try clear c11b0
        try clear c12
        try clear c12b0
        try clear p13
        try clear q13
        try clear hx13
        try clear hf13
        try clear hx13_0
        try clear hx230_0
        try clear p13
        try clear p2
        try clear p230
        try clear q13
        try clear q230
        obtain ⟨x9_2, x11_2, rfl, HA, HK2, HO_9, HB⟩ := hrel
        cases gk with
        | zero => exact absurd HA.out (by simp [spec_l01Add.l1])
        | succ k2 =>
         have H := HA.out
         clear HA
         simp only [spec_l01Add.l1] at H
         by_cases c16 : x11_2 < (l2.length : Int)
         ·
          rw [if_pos c16] at H
          have c16b0 : decide (x11_2 < (l2.length : Int)) = true := decide_eq_true c16
          clear c16
          by_cases c17 : 0 ≤ x11_2
          ·
           rw [if_pos c17] at H
           have c17b0 : decide (0 ≤ x11_2) = true := decide_eq_true c17
           clear c17
           by_cases c18 : x11_2 < (x9_2.length : Int)
           ·
            rw [if_pos c18] at H
            have c18b0 : decide (x11_2 < (x9_2.length : Int)) = true := decide_eq_true c18
            clear c18
            replace H := Option.bind_eq_some_iff.mp H
            obtain ⟨t234, A190, H⟩ := H
            have A19 := as0 A190
            clear A190
            obtain ⟨y235, hy235⟩ : ∃ y_ : List Int, y_ = (x9_2.set (x11_2 : Int).toNat t234) := ⟨_, rfl⟩
            replace H : (spec_l01Add.l1 k2 a0 l2 a3 y235 (wrap64 (x11_2 + 1))) = some r := by first | (rw [hy235]; with_reducible exact H) | (have H2_ := (Option.bind_some _ _).symm.trans H; rw [hy235]; with_reducible exact H2_) | (have H2_ := (Option.bind_some _ _).symm.trans H; with_reducible exact H2_) | with_reducible exact H | (rw [hy235]; exact H) | exact H
            have Ny235 := as0 hy235
            clear hy235
            have H' := as0 H
            clear H
            try go_wp2
            have n0_ := as0 (Kd.R_drew HO_9.out)
            have n1_ := as0 (below_drew1 HB.out)
            clear HO_9
            clear HB
            have HO_9 := n0_
            have HB := n1_
            clear n0_ n1_
            obtain ⟨Ao22, co22, eo22⟩ := Kd.R_slice HO_9.out
            (first | subst eo22 | (injection eo22 with f1_ f2_ f3_; have f4_ := f1_.symm; have f5_ := f3_.symm; clear f1_ f2_ f3_; subst f4_; subst f5_))
            have p232 : 0 ≤ (x11_2 : Int) := oa_
            have q232 : x11_2 < (x9_2.length : Int) := oa_
            obtain ⟨ad232, e232, hx232_0⟩ := Kd.at_int (Kd.R_reads' HO_9.out).2.2 x11_2 p232 q232
            cases e232
            replace p232 := eq_true p232
            replace q232 := eq_true q232
            have p233 : 0 ≤ (x11_2 : Int) := oa_
            have q233 : x11_2 < (l2.length : Int) := oa_
            obtain ⟨ad233, e233, hx233_0⟩ := Kd.at_int HR2.out x11_2 p233 q233
            have hw233_0 := hx233_0
            cases e233
            replace hx233_0 := (HB.out.cell (World.block_lt_of_cell? w _ hx233_0)).trans hx233_0
            replace p233 := eq_true p233
            replace q233 := eq_true q233
            refine start_ (n := 17) (S := fun w' => w'.cell? (ad232.add (x11_2).toNat) = some (.int .i64 (rd x9_2 x11_2)) ∧ w'.cell? (ad233.add (x11_2).toNat) = some (.int .i64 (rd l2 x11_2))) (ds := [16]) #[false, false, false, false, false, false, false, false, false, false, false, false, false, false, false, false, false] (by kernel_rfl) rfl rfl ⟨hx232_0, ((HB.out.cell (World.block_lt_of_cell? w _ hw233_0)).trans hw233_0)⟩ (fun hHeld => ?_); refine with_tabW spec_l01Add.tab9 spec_l01Add.bits9 (fun HT_ HW_ => ?_)
            generalize wr.drew = w21 at HO_9 HB hx232_0 hx233_0 hHeld ⊢
            refine pm_ HT_ (i := 0) (N := some 37) ?_
            refine pm_ HT_ (i := 1) (N := some 38) ?_
            refine pm_ HT_ (i := 2) (N := some 39) ?_
            refine pm_ HT_ (i := 3) (N := some 40) ?_
            refine pm_ HT_ (i := 4) (N := some 41) ?_
            refine pm_ HT_ (i := 5) (N := some 42) ?_
            refine pm_ HT_ (i := 7) (N := some 44) ?_
            refine pm_ HT_ (i := 8) (N := some 45) ?_
            refine pm_ HT_ (i := 9) (N := some 46) ?_
            refine pm_ HT_ (i := 10) (N := some 47) ?_
            refine tm2_ HT_ HW_ (i := 6) (N := some 43) hHeld ?_
            refine tm2_ HT_ HW_ (i := 11) (N := some 48) hHeld ?_
            refine pm_ HT_ (i := 12) (N := some 49) ?_
            refine pm_ HT_ (i := 13) (N := some 50) ?_
            refine one_ (i := 14) (N := some 51) #[true, true, true, true, true, true, true, true, true, true, true, true, true, true, true, false, false] rfl rfl (one_of HT_.out (by kernel_rfl)) (by decide) (fun K hK => ?_)
            refine goes_ Try.func61 (by kernel_rfl) rfl #[.int .i64 a0, .int .i64 (wrap64 ((rd x9_2 x11_2) + (wrap64 (a3 * (rd l2 x11_2)))))] (by rfl) rfl rfl (by (try simp only [List.map_toArray, List.map_cons, List.map_nil]); first | done | rfl | (simp only [List.length_drop, List.length_take]; rfl)) ?_
            with_reducible refine (spec_l01Mod.calls a0 (wrap64 ((rd x9_2 x11_2) + (wrap64 (a3 * (rd l2 x11_2))))) t234 _ A19.out).mono ?_
            rintro e w' ⟨rfl, ⟨nd, rfl⟩⟩
            refine ⟨_, rfl, ?_⟩
            have p20 : 0 ≤ (x11_2 : Int) := oa_
            have q20 : (x11_2 : Int) < ((x9_2.length : Int) : Int) := oa_
            obtain ⟨go20, co20, eo20, gb20, gl20, cl20, HG20⟩ := Kd.R_form HO_9.out (by omega)
            (first | cases eo20 | (injection eo20 with ea_ en_ ec_; (first | subst ea_ | (injection ea_ with ea_; subst ea_)); subst ec_; clear en_))
            have GB20 := as0 gb20
            have GG20 := as0 HG20
            clear gb20 gl20 HG20
            (first | simp only [add_plain] at hx232_0 | skip)
            obtain ⟨hx20_0, hf20_0⟩ := Kd.R_celln 0 HO_9.out (x11_2 : Int) p20 q20
            replace p20 := eq_true p20
            replace q20 := eq_true q20
            have HP23 := Kd.R_putn HO_9.out (x11_2 : Int) t234
            rw [← Ny235.out] at HP23
            have HQ23 := as0 HP23
            clear HP23
            refine hK.out _ _ ⟨hHeld.1, ((HB.out.cell (World.block_lt_of_cell? w _ hw233_0)).trans hw233_0)⟩ (fun hHeld => ?_)
            clear hK K
            refine nm_ (some 51) ?_
            refine pm_ HT_ (i := 15) (N := some 52) ?_
            refine last_ (i := 16) (N := none) #[true, true, true, true, true, true, true, true, true, true, true, true, true, true, true, true, true] rfl rfl (one_of HT_.out (by kernel_rfl)) (by decide) (fun K hK => ?_)
            refine skip_ (w1 := ?_) (by rfl) rfl ?_ ?_
            rotate_left
            ·
             go_simp
             rfl
            refine hK.out _ _ ?_
            clear hK K
            refine done_ (done_of HT_.out (by kernel_rfl)) ?_
            try go_wp2
            go_roundg k2
            case measure => have := HK1.out; have := HK2.out; omega
            case rel => exact ⟨(y235), (wrap64 (x11_2 + 1)), ea_, H', ⟨by have := HK1.out; have := HK2.out; omega⟩, ⟨by (with_reducible repeat (first | apply Kd.R_alloc | apply Kd.R_drewN | apply Kd.R_drew)); exact HQ23.out⟩, ⟨by repeat (first | (with_reducible first | exact HB.out | apply below_alloc | apply pw_below_drewN | apply below_drew1 | refine below_set ?_ GB20.out) | exact HB.out)⟩⟩
           ·
            rw [if_neg c18] at H
            exact absurd H (by simp)
          ·
           rw [if_neg c17] at H
           exact absurd H (by simp)
         ·
          rw [if_neg c16] at H
          have c16b0 : decide (x11_2 < (l2.length : Int)) = false := decide_eq_false c16
          clear c16
          replace H := Option.bind_eq_some_iff.mp H
          obtain ⟨t236, A240, H⟩ := H
          have A24 := as0 A240
          clear A240
          obtain rfl := Option.some.inj H
          obtain ⟨Ao25, co25, eo25⟩ := Kd.R_slice HO_9.out
          subst eo25
          go_wp2_with (first | ((with_reducible refine gate_callee (f := 82) rfl ?_); refine goesM_ (some 54) rfl rfl Try.func82 #[.slice Ao25 x9_2.length co25] rfl ?_; (with_reducible refine (spec_l01Trim.calls k2 _ _ x9_2 t236 _ ?side1 ?side2 A24.out).mono ?_); (case side1 => exact cs ((Kd.R_reads' HO_9.out).2.2)); (case side2 => exact (Kd.R_reads' HO_9.out).2.1); rintro e w26 ⟨v237, rfl, ho0, hb⟩; refine ⟨_, rfl, ?_⟩; have n0_ := as0 (Kd.R_elder' (rs HO_9) (Kd.R_base ho0) hb); have n1_ := as0 (Kd.R_lower (Kd.R_new' ho0 (Kd.R_lt (rs HO_9))) (below_size (bs HB))); have n2_ := as0 (below_step (bs HB) hb); clear HO_9; clear HB; have HO_9 := n0_; have HO238 := n1_; have HB := n2_; clear n0_ n1_ n2_; (try clear hb); (try clear hb2); (try clear hk); (try clear hi); (try clear ho0)))
          go_ret
          exact ⟨_, er_, by (with_reducible repeat (first | apply Kd.R_alloc | apply Kd.R_drewN | apply Kd.R_drew)); exact Kd.R_mono HO238.out (fun _ hk => trivial), bs HB⟩
   ·
    rw [if_neg c7] at H
    exact absurd H (by simp)
  ·
   rw [if_neg c6] at H
   exact absurd H (by simp)
 ·
  rw [if_neg c5] at H
  have c5i := eq_false c5
  have c5b0 : decide ((l1.length : Int) < (l2.length : Int)) = false := decide_eq_false c5
  have c5b1 : decide (l1.length < l2.length) = false := decide_eq_false (fun h => c5 (Int.ofNat_lt.mpr h))
  clear c5
  by_cases c27 : 0 ≤ (l1.length : Int)
  ·
   rw [if_pos c27] at H
   have c27b0 := eq_true c27
   have c27b1 : decide (0 ≤ (l1.length : Int)) = true := decide_eq_true c27
   clear c27
   by_cases c28 : ((l1.length : Int) : Int).toNat ≤ 35184372088832
   ·
    rw [if_pos c28] at H
    have c28b0 := eq_true c28
    have c28b1 : decide (((l1.length : Int) : Int).toNat ≤ 35184372088832) = true := decide_eq_true c28
    clear c28
    obtain ⟨y239, hy239⟩ : ∃ y_ : List Int, y_ = (List.replicate ((l1.length : Int) : Int).toNat 0) := ⟨_, rfl⟩
    replace H : (spec_l01Add.l0 k a0 l1 l2 a3 y239 0) = some r := by first | (rw [hy239]; with_reducible exact H) | (have H2_ := (Option.bind_some _ _).symm.trans H; rw [hy239]; with_reducible exact H2_) | (have H2_ := (Option.bind_some _ _).symm.trans H; with_reducible exact H2_) | with_reducible exact H | (rw [hy239]; exact H) | exact H
    have Ny239 := as0 hy239
    clear hy239
    have H' := as0 H
    clear H
    go_enter Try.func47, Try.ntmps47
    go_wp2_with (first | ((with_reducible refine gate_dst (N := 17) rfl ?_); refine Kd.R_make (Kd.int .i64) _ 2 rfl (N := 17) rfl 22 _ _ rfl (l1.length : Int) rfl rfl Try.underlying22 (.int .i64 0) 8 info2 rfl (by decide) (by omega) 0 (ok := fun _ => True) (okp := fun _ => True) rfl (fun _ hk => hk) trivial (oa_) (Nat.le_trans (Nat.mul_le_mul_right _ (oa_ : (l1.length : Int).toNat ≤ 35184372088832)) (by omega)) (Below.refl _ _) (Nat.le_refl _) ?_; intro v240 w29 ho30 hb hg_ hnew_; clear hg_ hnew_; (first | rw [← Ny239.out] at ho30 | (simp only [Int.reduceToNat] at ho30; rw [← Ny239.out] at ho30)); have n0_ := as0 (Kd.R_lower ho30 (below_size (bs HB))); have n1_ := as0 (below_step (bs HB) hb); clear HB; have HO241 := n0_; have HB := n1_; clear n0_ n1_; clear hb ho30))
    go_loopg [10] k (fun kq v10 w' => ∃ (x9_1 : List Int) (x10_1 : Int), v10 = .int .i64 x10_1 ∧ Aside0 (spec_l01Add.l0 kq a0 l1 l2 a3 x9_1 x10_1 = some r) ∧ Aside0 (kq ≤ k) ∧ Aside0 (Kd.R (Kd.int .i64) 2 w' w.heap.size (fun _ => True) v240 x9_1) ∧ Aside0 (Below w.heap.size w w'))
    case atStart => exact ⟨(y239), (0), ea_, H', ⟨Nat.le_refl _⟩, ⟨rs HO241⟩, ⟨bs HB⟩⟩
    case round =>
     clear H'
     try clear c1
     try clear p1
     try clear q1
     try clear hx1
     try clear c2
     try clear p2
     try clear q2
     try clear hx2
     try clear c4
     try clear c5
     try clear c5b0
     try clear c5b1
     try clear c6
     try clear c6b0
     try clear c6b1
     try clear p6
     try clear c7
     try clear c7b0
     try clear c7b1
     try clear c8
     try clear c10
     try clear c10b0
     try clear c11
     try clear c11b0
     try clear c12
     try clear c12b0
     try clear p13
     try clear q13
     try clear hx13
     try clear hf13
     try clear c16
     try clear c16b0
     try clear c17
     try clear c17b0
     try clear c18
     try clear c18b0
     try clear p20
     try clear q20
     try clear hx20
     try clear hf20
     try clear p23
     try clear q23
     try clear hx23
     try clear c27
     try clear c27b0
     try clear c27b1
     try clear c28
     try clear c28b0
     try clear c28b1
     try clear hx13_0
     try clear hx20_0
     try clear hx230_0
     try clear hx232_0
     try clear hx233_0
     try clear p1
     try clear p13
     try clear p2
     try clear p20
     try clear p230
     try clear p232
     try clear p233
     try clear p6
     try clear q1
     try clear q13
     try clear q2
     try clear q20
     try clear q230
     try clear q232
     try clear q233
     obtain ⟨x9_1, x10_1, rfl, HA, HK1, HO_9, HB⟩ := hrel
     cases gk with
     | zero => exact absurd HA.out (by simp [spec_l01Add.l0])
     | succ k1 =>
      have H := HA.out
      clear HA
      simp only [spec_l01Add.l0] at H
      by_cases c31 : x10_1 < (l1.length : Int)
      ·
       rw [if_pos c31] at H
       have c31b0 : decide (x10_1 < (l1.length : Int)) = true := decide_eq_true c31
       clear c31
       by_cases c32 : 0 ≤ x10_1
       ·
        rw [if_pos c32] at H
        have c32b0 : decide (0 ≤ x10_1) = true := decide_eq_true c32
        clear c32
        by_cases c33 : x10_1 < (x9_1.length : Int)
        ·
         rw [if_pos c33] at H
         have c33b0 : decide (x10_1 < (x9_1.length : Int)) = true := decide_eq_true c33
         clear c33
         obtain ⟨y231, hy231⟩ : ∃ y_ : List Int, y_ = (x9_1.set (x10_1 : Int).toNat (rd l1 x10_1)) := ⟨_, rfl⟩
         replace H : (spec_l01Add.l0 k1 a0 l1 l2 a3 y231 (wrap64 (x10_1 + 1))) = some r := by first | (rw [hy231]; with_reducible exact H) | (have H2_ := (Option.bind_some _ _).symm.trans H; rw [hy231]; with_reducible exact H2_) | (have H2_ := (Option.bind_some _ _).symm.trans H; with_reducible exact H2_) | with_reducible exact H | (rw [hy231]; exact H) | exact H
         have Ny231 := as0 hy231
         clear hy231
         have H' := as0 H
         clear H
         have p230 : 0 ≤ (x10_1 : Int) := oa_
         have q230 : x10_1 < (l1.length : Int) := oa_
         obtain ⟨ad230, e230, hx230_0⟩ := Kd.at_int HR1.out x10_1 p230 q230
         cases e230
         replace hx230_0 := (HB.out.cell (World.block_lt_of_cell? w _ hx230_0)).trans hx230_0
         replace p230 := eq_true p230
         replace q230 := eq_true q230
         have p34 : 0 ≤ (x10_1 : Int) := oa_
         have q34 : (x10_1 : Int) < ((x9_1.length : Int) : Int) := oa_
         obtain ⟨go34, co34, eo34, gb34, gl34, cl34, HG34⟩ := Kd.R_form HO_9.out (by omega)
         (first | cases eo34 | (injection eo34 with ea_ en_ ec_; (first | subst ea_ | (injection ea_ with ea_; subst ea_)); subst ec_; clear en_))
         have GB34 := as0 gb34
         have GG34 := as0 HG34
         clear gb34 gl34 HG34
         obtain ⟨hx34_0, hf34_0⟩ := Kd.R_celln 0 HO_9.out (x10_1 : Int) p34 q34
         replace p34 := eq_true p34
         replace q34 := eq_true q34
         have HP35 := Kd.R_putg HO_9.out (x10_1 : Int) (rd l1 x10_1)
         go_wp2_with (first | ((with_reducible refine gate_store (t := 2) (p := 30) rfl ?_); refine store_event (t := 2) (p := 30) (v := ?vo_w36) (w1 := (wr.setCell ⟨go34, (x10_1 : Int).toNat, none⟩ (.int .i64 (rd l1 x10_1)))) ?hg ?ho ?hn ?hr ?_; (case ho => rfl); (case hg => rfl); (case hn => rfl); (case hr => first | (go_simp; done) | (go_simp; rfl)); intro w36 hw; have hg : wr.grownBy w36 (some go34) := (by rw [hw]; exact HP35.2); have hp_ : Kd.R (Kd.int .i64) 2 w36 w.heap.size (fun _ => True) (.slice (some ⟨go34, 0, none⟩) x9_1.length co34) y231 := (by rw [hw, Ny231.out]; exact HP35.1); clear HP35; have n0_ := as0 (hp_); have n1_ := as0 ((by rw [hw]; exact below_set (HB.out) GB34.out : Below w.heap.size w w36)); clear HO_9; clear HB; have HO_9 := n0_; have HB := n1_; clear n0_ n1_; clear hg hw hp_))
         go_roundg k1
         case measure => have := HK1.out; omega
         case rel => exact ⟨(y231), (wrap64 (x10_1 + 1)), ea_, H', ⟨by have := HK1.out; omega⟩, ⟨rs HO_9⟩, ⟨bs HB⟩⟩
        ·
         rw [if_neg c33] at H
         exact absurd H (by simp)
       ·
        rw [if_neg c32] at H
        exact absurd H (by simp)
      ·
       rw [if_neg c31] at H
       have c31b0 : decide (x10_1 < (l1.length : Int)) = false := decide_eq_false c31
       clear c31
       have H' := as0 H
       clear H
       go_wp2
       go_loopg [11] k1 (fun kq v11 w' => ∃ (x9_2 : List Int) (x11_2 : Int), v11 = .int .i64 x11_2 ∧ Aside0 (spec_l01Add.l1 kq a0 l2 a3 x9_2 x11_2 = some r) ∧ Aside0 (kq ≤ k1) ∧ Aside0 (Kd.R (Kd.int .i64) 2 w' w.heap.size (fun _ => True) v240 x9_2) ∧ Aside0 (Below w.heap.size w w'))
       case atStart => exact ⟨(x9_1), (0), ea_, H', ⟨Nat.le_refl _⟩, ⟨rs HO_9⟩, ⟨bs HB⟩⟩
       case round =>
        clear H'
        try clear c1
        try clear p1
        try clear q1
        try clear hx1
        try clear c2
        try clear p2
        try clear q2
        try clear hx2
        try clear c3
        try clear p3
        try clear q3
        try clear hx3
        try clear c4
        try clear c5
        try clear c5b0
        try clear c5b1
        try clear c6
        try clear c6b0
        try clear c6b1
        try clear p6
        try clear c7
        try clear c7b0
        try clear c7b1
        try clear c8
        try clear c10
        try clear c10b0
        try clear c11
        try clear c11b0
        try clear c12
        try clear c12b0
        try clear p13
        try clear q13
        try clear hx13
        try clear hf13
        try clear c16
        try clear c16b0
        try clear c17
        try clear c17b0
        try clear c18
        try clear c18b0
        try clear p20
        try clear q20
        try clear hx20
        try clear hf20
        try clear p23
        try clear q23
        try clear hx23
        try clear c27
        try clear c27b0
        try clear c27b1
        try clear c28
        try clear c28b0
        try clear c28b1
        try clear c31
        try clear c31b0
        try clear c32
        try clear c32b0
        try clear c33
        try clear c33b0
        try clear p34
        try clear q34
        try clear hx34
        try clear hf34
        try clear hx13_0
        try clear hx20_0
        try clear hx230_0
        try clear hx232_0
        try clear hx233_0
        try clear hx34_0
        try clear p1
        try clear p13
        try clear p2
        try clear p20
        try clear p23
        try clear p230
        try clear p232
        try clear p233
        try clear p34
        try clear p6
        try clear q1
        try clear q13
        try clear q2
        try clear q20
        try clear q23
        try clear q230
        try clear q232
        try clear q233
        try clear q34
        obtain ⟨x9_2, x11_2, rfl, HA, HK2, HO_9, HB⟩ := hrel
        cases gk with
        | zero => exact absurd HA.out (by simp [spec_l01Add.l1])
        | succ k2 =>
         have H := HA.out
         clear HA
         simp only [spec_l01Add.l1] at H
         by_cases c37 : x11_2 < (l2.length : Int)
         ·
          rw [if_pos c37] at H
          have c37b0 : decide (x11_2 < (l2.length : Int)) = true := decide_eq_true c37
          clear c37
          by_cases c38 : 0 ≤ x11_2
          ·
           rw [if_pos c38] at H
           have c38b0 : decide (0 ≤ x11_2) = true := decide_eq_true c38
           clear c38
           by_cases c39 : x11_2 < (x9_2.length : Int)
           ·
            rw [if_pos c39] at H
            have c39b0 : decide (x11_2 < (x9_2.length : Int)) = true := decide_eq_true c39
            clear c39
            replace H := Option.bind_eq_some_iff.mp H
            obtain ⟨t234, A400, H⟩ := H
            have A40 := as0 A400
            clear A400
            obtain ⟨y235, hy235⟩ : ∃ y_ : List Int, y_ = (x9_2.set (x11_2 : Int).toNat t234) := ⟨_, rfl⟩
            replace H : (spec_l01Add.l1 k2 a0 l2 a3 y235 (wrap64 (x11_2 + 1))) = some r := by first | (rw [hy235]; with_reducible exact H) | (have H2_ := (Option.bind_some _ _).symm.trans H; rw [hy235]; with_reducible exact H2_) | (have H2_ := (Option.bind_some _ _).symm.trans H; with_reducible exact H2_) | with_reducible exact H | (rw [hy235]; exact H) | exact H
            have Ny235 := as0 hy235
            clear hy235
            have H' := as0 H
            clear H
            try go_wp2
            have n0_ := as0 (Kd.R_drew HO_9.out)
            have n1_ := as0 (below_drew1 HB.out)
            clear HO_9
            clear HB
            have HO_9 := n0_
            have HB := n1_
            clear n0_ n1_
            obtain ⟨Ao43, co43, eo43⟩ := Kd.R_slice HO_9.out
            (first | subst eo43 | (injection eo43 with f1_ f2_ f3_; have f4_ := f1_.symm; have f5_ := f3_.symm; clear f1_ f2_ f3_; subst f4_; subst f5_))
            have p232 : 0 ≤ (x11_2 : Int) := oa_
            have q232 : x11_2 < (x9_2.length : Int) := oa_
            obtain ⟨ad232, e232, hx232_0⟩ := Kd.at_int (Kd.R_reads' HO_9.out).2.2 x11_2 p232 q232
            cases e232
            replace p232 := eq_true p232
            replace q232 := eq_true q232
            have p233 : 0 ≤ (x11_2 : Int) := oa_
            have q233 : x11_2 < (l2.length : Int) := oa_
            obtain ⟨ad233, e233, hx233_0⟩ := Kd.at_int HR2.out x11_2 p233 q233
            have hw233_0 := hx233_0
            cases e233
            replace hx233_0 := (HB.out.cell (World.block_lt_of_cell? w _ hx233_0)).trans hx233_0
            replace p233 := eq_true p233
            replace q233 := eq_true q233
            refine start_ (n := 17) (S := fun w' => w'.cell? (ad232.add (x11_2).toNat) = some (.int .i64 (rd x9_2 x11_2)) ∧ w'.cell? (ad233.add (x11_2).toNat) = some (.int .i64 (rd l2 x11_2))) (ds := [16]) #[false, false, false, false, false, false, false, false, false, false, false, false, false, false, false, false, false] (by kernel_rfl) rfl rfl ⟨hx232_0, ((HB.out.cell (World.block_lt_of_cell? w _ hw233_0)).trans hw233_0)⟩ (fun hHeld => ?_); refine with_tabW spec_l01Add.tab9 spec_l01Add.bits9 (fun HT_ HW_ => ?_)
            generalize wr.drew = w42 at HO_9 HB hx232_0 hx233_0 hHeld ⊢
            refine pm_ HT_ (i := 0) (N := some 37) ?_
            refine pm_ HT_ (i := 1) (N := some 38) ?_
            refine pm_ HT_ (i := 2) (N := some 39) ?_
            refine pm_ HT_ (i := 3) (N := some 40) ?_
            refine pm_ HT_ (i := 4) (N := some 41) ?_
            refine pm_ HT_ (i := 5) (N := some 42) ?_
            refine pm_ HT_ (i := 7) (N := some 44) ?_
            refine pm_ HT_ (i := 8) (N := some 45) ?_
            refine pm_ HT_ (i := 9) (N := some 46) ?_
            refine pm_ HT_ (i := 10) (N := some 47) ?_
            refine tm2_ HT_ HW_ (i := 6) (N := some 43) hHeld ?_
            refine tm2_ HT_ HW_ (i := 11) (N := some 48) hHeld ?_
            refine pm_ HT_ (i := 12) (N := some 49) ?_
            refine pm_ HT_ (i := 13) (N := some 50) ?_
            refine one_ (i := 14) (N := some 51) #[true, true, true, true, true, true, true, true, true, true, true, true, true, true, true, false, false] rfl rfl (one_of HT_.out (by kernel_rfl)) (by decide) (fun K hK => ?_)
            refine goes_ Try.func61 (by kernel_rfl) rfl #[.int .i64 a0, .int .i64 (wrap64 ((rd x9_2 x11_2) + (wrap64 (a3 * (rd l2 x11_2)))))] (by rfl) rfl rfl (by (try simp only [List.map_toArray, List.map_cons, List.map_nil]); first | done | rfl | (simp only [List.length_drop, List.length_take]; rfl)) ?_
            with_reducible refine (spec_l01Mod.calls a0 (wrap64 ((rd x9_2 x11_2) + (wrap64 (a3 * (rd l2 x11_2))))) t234 _ A40.out).mono ?_
            rintro e w' ⟨rfl, ⟨nd, rfl⟩⟩
            refine ⟨_, rfl, ?_⟩
            have p41 : 0 ≤ (x11_2 : Int) := oa_
            have q41 : (x11_2 : Int) < ((x9_2.length : Int) : Int) := oa_
            obtain ⟨go41, co41, eo41, gb41, gl41, cl41, HG41⟩ := Kd.R_form HO_9.out (by omega)
            (first | cases eo41 | (injection eo41 with ea_ en_ ec_; (first | subst ea_ | (injection ea_ with ea_; subst ea_)); subst ec_; clear en_))
            have GB41 := as0 gb41
            have GG41 := as0 HG41
            clear gb41 gl41 HG41
            (first | simp only [add_plain] at hx232_0 | skip)
            obtain ⟨hx41_0, hf41_0⟩ := Kd.R_celln 0 HO_9.out (x11_2 : Int) p41 q41
            replace p41 := eq_true p41
            replace q41 := eq_true q41
            have HP44 := Kd.R_putn HO_9.out (x11_2 : Int) t234
            rw [← Ny235.out] at HP44
            have HQ44 := as0 HP44
            clear HP44
            refine hK.out _ _ ⟨hHeld.1, ((HB.out.cell (World.block_lt_of_cell? w _ hw233_0)).trans hw233_0)⟩ (fun hHeld => ?_)
            clear hK K
            refine nm_ (some 51) ?_
            refine pm_ HT_ (i := 15) (N := some 52) ?_
            refine last_ (i := 16) (N := none) #[true, true, true, true, true, true, true, true, true, true, true, true, true, true, true, true, true] rfl rfl (one_of HT_.out (by kernel_rfl)) (by decide) (fun K hK => ?_)
            refine skip_ (w1 := ?_) (by rfl) rfl ?_ ?_
            rotate_left
            ·
             go_simp
             rfl
            refine hK.out _ _ ?_
            clear hK K
            refine done_ (done_of HT_.out (by kernel_rfl)) ?_
            try go_wp2
            go_roundg k2
            case measure => have := HK1.out; have := HK2.out; omega
            case rel => exact ⟨(y235), (wrap64 (x11_2 + 1)), ea_, H', ⟨by have := HK1.out; have := HK2.out; omega⟩, ⟨by (with_reducible repeat (first | apply Kd.R_alloc | apply Kd.R_drewN | apply Kd.R_drew)); exact HQ44.out⟩, ⟨by repeat (first | (with_reducible first | exact HB.out | apply below_alloc | apply pw_below_drewN | apply below_drew1 | refine below_set ?_ GB41.out) | exact HB.out)⟩⟩
           ·
            rw [if_neg c39] at H
            exact absurd H (by simp)
          ·
           rw [if_neg c38] at H
           exact absurd H (by simp)
         ·
          rw [if_neg c37] at H
          have c37b0 : decide (x11_2 < (l2.length : Int)) = false := decide_eq_false c37
          clear c37
          replace H := Option.bind_eq_some_iff.mp H
          obtain ⟨t236, A450, H⟩ := H
          have A45 := as0 A450
          clear A450
          obtain rfl := Option.some.inj H
          obtain ⟨Ao46, co46, eo46⟩ := Kd.R_slice HO_9.out
          subst eo46
          go_wp2_with (first | ((with_reducible refine gate_callee (f := 82) rfl ?_); refine goesM_ (some 54) rfl rfl Try.func82 #[.slice Ao46 x9_2.length co46] rfl ?_; (with_reducible refine (spec_l01Trim.calls k2 _ _ x9_2 t236 _ ?side1 ?side2 A45.out).mono ?_); (case side1 => exact cs ((Kd.R_reads' HO_9.out).2.2)); (case side2 => exact (Kd.R_reads' HO_9.out).2.1); rintro e w47 ⟨v237, rfl, ho0, hb⟩; refine ⟨_, rfl, ?_⟩; have n0_ := as0 (Kd.R_elder' (rs HO_9) (Kd.R_base ho0) hb); have n1_ := as0 (Kd.R_lower (Kd.R_new' ho0 (Kd.R_lt (rs HO_9))) (below_size (bs HB))); have n2_ := as0 (below_step (bs HB) hb); clear HO_9; clear HB; have HO_9 := n0_; have HO238 := n1_; have HB := n2_; clear n0_ n1_ n2_; (try clear hb); (try clear hb2); (try clear hk); (try clear hi); (try clear ho0)))
          go_ret
          exact ⟨_, er_, by (with_reducible repeat (first | apply Kd.R_alloc | apply Kd.R_drewN | apply Kd.R_drew)); exact Kd.R_mono HO238.out (fun _ hk => trivial), bs HB⟩
   ·
    rw [if_neg c28] at H
    exact absurd H (by simp)
  ·
   rw [if_neg c27] at H
   exact absurd H (by simp)
end Go.Proofs.Ytlmolloallhclaa.H
set_option linter.unusedVariables false
set_option linter.unusedSimpArgs false
namespace Go.Proofs.Ytlmolloallhclaa.H
open Go.RowKit Go.Proofs.YtlmolloallhclaaW.PrintWords Go.Proofs.YtlmolloallhclaaW.PrintLast Go.Proofs.Ytlmolloallhclaa.Num
def ad (p c : Int) (g : List Int) : List Int → Nat → Nat → List Int
 | acc, _, 0 => acc
 | acc, i, d + 1 => ad p c g (acc.set i ((acc.getD i 0 + c * g.getD i 0) % p)) (i + 1) d
def pad (f : List Int) (n : Nat) : List Int := f ++ List.replicate (n - f.length) 0
def addL (p : Int) (f g : List Int) (c : Int) : List Int := trimL (ad p c g (pad f (max f.length g.length)) 0 g.length)
theorem pad_len (f : List Int) (n : Nat) (h : f.length ≤ n) : (pad f n).length = n := by simp [pad]; omega
theorem pad_inR {p : Int} (hp : 0 < p) {f : List Int} (h : InR p f) (n : Nat) : InR p (pad f n) := h.append (InR.zeros hp _)
theorem spec_add {p c : Int} {f g : List Int} (hp : 2 ≤ p) (hp2 : p ≤ 10007) (hf : f.length ≤ 1000) (hg : g.length ≤ 1000) (rf : InR p f) (rg : InR p g) (c0 : 0 ≤ c) (c1 : c ≤ 100000) :
  Ev (fun k => spec_l01Add.f k p f g c) (addL p f g c) := by
 have loop2 : ∀ d i (acc : List Int), i + d = g.length → g.length ≤ acc.length → acc.length ≤ 1000 → InR p acc → Ev (fun k => spec_l01Add.l1 k p g c acc (i : Int)) (trimL (ad p c g acc i d)) := by
  intro d
  induction d with
  | zero =>
   intro i acc h1 h2 h3 h4
   obtain ⟨K, h⟩ := spec_trim acc (by omega)
   refine ⟨K + 1, fun k hk => ?_⟩
   obtain ⟨k, rfl⟩ : ∃ m, k = m + 1 := ⟨k - 1, by omega⟩
   have e := h k (by omega)
   simp only at e
   simp only [spec_l01Add.l1]
   rw [if_neg (by omega), e]
   simp [ad]
  | succ d ih =>
   intro i acc h1 h2 h3 h4
   obtain ⟨K, h⟩ := ih (i + 1) (acc.set i ((acc.getD i 0 + c * g.getD i 0) % p)) (by omega) (by simpa using h2) (by simpa using h3) (h4.set i (emod_bd (by omega)))
   refine ⟨K + 1, fun k hk => ?_⟩
   obtain ⟨k, rfl⟩ : ∃ m, k = m + 1 := ⟨k - 1, by omega⟩
   have e := h k (by omega)
   simp only at e
   have hb := mul_bd2 hp2 (rg.get (by omega) i) (y := c) (by omega)
   rw [Int.mul_comm] at hb
   have ha := h4.get (by omega) i
   simp only [spec_l01Add.l1]
   rw [if_pos (by omega), if_pos (by omega), if_pos (by omega), rd_nat, rd_nat, w64 (x := c * g.getD i 0) (by omega) (by omega), w64 (by omega) (by omega), spec_mod (by omega) (by omega), Option.bind_some, wn (by omega), Int.toNat_natCast, e]
   simp [ad]
 have loop1 : ∀ d i (acc : List Int), i + d = f.length → acc.length = max f.length g.length → acc.take i = f.take i → acc.drop i = List.replicate (acc.length - i) 0 →
   Ev (fun k => spec_l01Add.l0 k p f g c acc (i : Int)) (addL p f g c) := by
  intro d
  induction d with
  | zero =>
   intro i acc h1 h2 h3 h4
   have hacc : acc = pad f (max f.length g.length) := by
    have := List.take_append_drop i acc
    rw [h3, h4, List.take_of_length_le (by omega)] at this
    rw [← this, pad, h2, show i = f.length by omega]
   obtain ⟨K, h⟩ := loop2 g.length 0 acc (by omega) (by omega) (by omega) (by rw [hacc]; exact pad_inR (by omega) rf _)
   refine ⟨K + 1, fun k hk => ?_⟩
   obtain ⟨k, rfl⟩ : ∃ m, k = m + 1 := ⟨k - 1, by omega⟩
   have e := h k (by omega)
   simp only [Int.natCast_zero] at e
   simp only [spec_l01Add.l0]
   rw [if_neg (by omega), e, hacc]
   rfl
  | succ d ih =>
   intro i acc h1 h2 h3 h4
   obtain ⟨K, h⟩ := ih (i + 1) (acc.set i (f.getD i 0)) (by omega) (by simpa using h2)
    (by rw [List.take_succ_eq_append_getElem (by simp; omega), List.take_succ_eq_append_getElem (by omega), List.getElem_set_self, List.take_set_of_le (Nat.le_refl i), h3, List.getD_eq_getElem?_getD, List.getElem?_eq_getElem (by omega)]; rfl)
    (by
     rw [List.drop_set_of_lt (by omega), List.length_set]
     have e1 : acc.drop (i + 1) = (acc.drop i).drop 1 := by rw [List.drop_drop]
     rw [e1, h4, List.drop_replicate]
     congr 1)
   refine ⟨K + 1, fun k hk => ?_⟩
   obtain ⟨k, rfl⟩ : ∃ m, k = m + 1 := ⟨k - 1, by omega⟩
   have e := h k (by omega)
   simp only at e
   simp only [spec_l01Add.l0]
   rw [if_pos (by omega), if_pos (by omega), if_pos (by omega), rd_nat, wn (by omega), Int.toNat_natCast, e]
 unfold spec_l01Add.f
 by_cases hlt : (f.length : Int) < (g.length : Int)
 ·
  obtain ⟨K, h⟩ := loop1 f.length 0 (List.replicate g.length 0) (by omega) (by simp; omega) (by simp) (by simp)
  refine ⟨K, fun k hk => ?_⟩
  have e := h k hk
  simp only [Int.natCast_zero] at e
  simp only
  rw [if_pos hlt, if_pos (by omega), if_pos (by omega), Int.toNat_natCast, e]
 ·
  obtain ⟨K, h⟩ := loop1 f.length 0 (List.replicate f.length 0) (by omega) (by simp; omega) (by simp) (by simp)
  refine ⟨K, fun k hk => ?_⟩
  have e := h k hk
  simp only [Int.natCast_zero] at e
  simp only
  rw [if_neg hlt, if_pos (by omega), if_pos (by omega), Int.toNat_natCast, e]
def inv (p x : Int) : Int := x ^ (p - 2).toNat % p
end Go.Proofs.Ytlmolloallhclaa.H
namespace Go.Proofs.Ytlmolloallhclaa.H
open Go.RowKit Go.Proofs.YtlmolloallhclaaW.PrintWords Go.Proofs.YtlmolloallhclaaW.PrintLast Go.Proofs.YtlmolloallhclaaW.PrintMore
attribute [local go_sem] max2_int min2_int max_two min_two max_three min_three max_four min_four   -- for this text's walks alone
set_option linter.unusedVariables false
set_option linter.unusedSimpArgs false
mutual
def spec_l01Times.j0 : Nat → Int → List Int → List Int → Bool → Option (List Int)
 | 0, _, _, _, _ => none
 | k + 1, x0, x1, x2, x17 => if x17 = true then (some (([] : List Int))) else (if 0 ≤ (wrap64 ((wrap64 ((x1.length : Int) + (x2.length : Int))) - 1)) then (if (wrap64 ((wrap64 ((x1.length : Int) + (x2.length : Int))) - 1) : Int).toNat ≤ 35184372088832 then (spec_l01Times.l0 k x0 x1 x2 (List.replicate (wrap64 ((wrap64 ((x1.length : Int) + (x2.length : Int))) - 1) : Int).toNat 0) 0) else (none)) else (none))
def spec_l01Times.l0 : Nat → Int → List Int → List Int → List Int → Int → Option (List Int)
 | 0, _, _, _, _, _ => none
 | k + 1, x0, x1, x2, x7, x8 => if x8 < (x1.length : Int) then (spec_l01Times.l1 k x0 x1 x2 x7 x8 0) else ((spec_l01Trim.f k x7).bind fun t248 => (some t248))
def spec_l01Times.l1 : Nat → Int → List Int → List Int → List Int → Int → Int → Option (List Int)
 | 0, _, _, _, _, _, _ => none
 | k + 1, x0, x1, x2, x7, x8, x9 => if x9 < (x2.length : Int) then (if 0 ≤ (wrap64 (x8 + x9)) then (if (wrap64 (x8 + x9)) < (x7.length : Int) then (if 0 ≤ x8 then (if x8 < (x1.length : Int) then (if 0 ≤ x9 then (if x0 = 0 then (none) else (spec_l01Times.l1 k x0 x1 x2 (x7.set ((wrap64 (x8 + x9)) : Int).toNat (Int.tmod (wrap64 ((rd x7 (wrap64 (x8 + x9))) + (wrap64 ((rd x1 x8) * (rd x2 x9))))) x0)) x8 (wrap64 (x9 + 1)))) else (none)) else (none)) else (none)) else (none)) else (none)) else (spec_l01Times.l0 k x0 x1 x2 x7 (wrap64 (x8 + 1)))
end
def spec_l01Times.f (k : Nat) (a0 : Int) (l1 : List Int) (l2 : List Int) : Option (List Int) := if (l1.length : Int) = 0 then (spec_l01Times.j0 k a0 l1 l2 true) else (spec_l01Times.j0 k a0 l1 l2 ((l2.length : Int) == 0))
def spec_l01Times.T10 : Bool × List (List Nat × List Nat) := (true, [([], []), ([], []), ([], []), ([1, 2], [1, 2]), ([], []), ([], []), ([], []), ([5, 6], [5, 6]), ([4, 7], [4, 7]), ([8], [8]), ([], []), ([], []), ([10, 11], [10, 11]), ([12], [12]), ([], []), ([], []), ([14, 15], [14, 15]), ([16], [16]), ([13, 17], [13, 17]), ([9, 18], [9, 18]), ([], []), ([19, 20], [19, 20]), ([0, 3, 0, 1, 2, 3, 4, 5, 6, 7, 8, 9, 10, 11, 12, 13, 14, 15, 16, 17, 18, 19, 20, 21], [0, 3]), ([22, 21, 0, 1, 2, 3, 4, 5, 6, 7, 8, 9, 10, 11, 12, 13, 14, 15, 16, 17, 18, 19, 20, 21], [21, 22])])
def spec_l01Times.B10 : List Nat := [0, 0, 0, 6, 0, 0, 0, 96, 240, 496, 0, 0, 3072, 7168, 0, 0, 49152, 114688, 261120, 524272, 0, 2097136, 4194303, 8388607]
theorem spec_l01Times.tab10 : rtab .any (opsOf Try.f48 10) = spec_l01Times.T10 := by kernel_rfl
theorem spec_l01Times.bits10 : waitsOk spec_l01Times.T10.2 spec_l01Times.B10 = true := by kernel_rfl
set_option maxHeartbeats 8000000 in
set_option maxRecDepth 100000 in
theorem spec_l01Times.calls (k : Nat) (a0 : Int) (A1 : Option Addr) (c1 : Nat) (l1 : List Int) (A2 : Option Addr) (c2 : Nat) (l2 : List Int) (r : List Int) (w : World) (hr1 : Kd.C (Kd.int .i64) w A1 l1.length l1) (hc1 : l1.length ≤ c1) (hr2 : Kd.C (Kd.int .i64) w A2 l2.length l2) (hc2 : l2.length ≤ c2) (h : spec_l01Times.f k a0 l1 l2 = some r) :
  Calls Try.prog 48 #[.int .i64 a0, .slice A1 l1.length c1, .slice A2 l2.length c2] w fun e w' => ∃ v0_ : Value, e = .returned (v0_) ∧ Kd.R (Kd.int .i64) 2 w' w.heap.size (fun _ => True) v0_ r ∧ Below w.heap.size w w' := by
 have HR1 := as0 hr1
 have HC1 := as0 hc1
 clear hr1 hc1
 have HR2 := as0 hr2
 have HC2 := as0 hc2
 clear hr2 hc2
 have HB := as0 (Below.refl w.heap.size w)
 have H : (if (l1.length : Int) = 0 then (spec_l01Times.j0 k a0 l1 l2 true) else (spec_l01Times.j0 k a0 l1 l2 ((l2.length : Int) == 0))) = some r := h
 clear h
 have HC4 := as0 H
 clear H
 go_enter Try.func48, Try.ntmps48
 go_upto_region 1 with (fail)
 go_cut [17] (fun v17 wc => ∃ (kq : Nat) (x17_3 : Bool), v17 = .bool x17_3 ∧ Aside0 (spec_l01Times.j0 kq a0 l1 l2 x17_3 = some r) ∧ Aside0 (kq ≤ k) ∧ Aside0 (Below w.heap.size w wc))
 case first =>
  have H := HC4.out
  clear HC4
  by_cases c5 : (l1.length : Int) = 0
  ·
   rw [if_pos c5] at H
   have c5b0 : ((l1.length : Int) == 0) = true := beq_iff_eq.mpr c5
   have c5b1 : ((l1.length : Int) != 0) = false := bne_eq_false_iff_eq.mpr c5
   clear c5
   (first | rw [c5b0] | (simp only [i64_w, i32_w]; rw [c5b0]) | skip)
   have H' := as0 H
   clear H
   go_wp2
   go_meet
   case rel => exact ⟨_, (true), ea_, H', ⟨by first | omega | exact Nat.le_refl _⟩, ⟨bs HB⟩⟩
  ·
   rw [if_neg c5] at H
   have c5b0 : ((l1.length : Int) == 0) = false := beq_eq_false_iff_ne.mpr c5
   have c5b1 : ((l1.length : Int) != 0) = true := bne_iff_ne.mpr c5
   have c5b2 : ¬ (l1 = []) := fun h_ => c5 (by rw [h_]; rfl)
   (first | rw [c5b0] | (simp only [i64_w, i32_w]; rw [c5b0]) | skip)
   have H' := as0 H
   clear H
   go_wp2
   go_meet
   case rel => exact ⟨_, (((l2.length : Int) == 0)), ea_, H', ⟨by first | omega | exact Nat.le_refl _⟩, ⟨bs HB⟩⟩
 case rest =>
  clear HC4
  try clear c1
  try clear c2
  try clear p2
  try clear c4
  try clear c5
  try clear c5b0
  try clear c5b1
  try clear c5b2
  obtain ⟨kq, x17_3, rfl, HA, HJ3, HB⟩ := hcut
  cases kq with
  | zero => exact absurd HA.out (by simp [spec_l01Times.j0])
  | succ kj3 =>
   have H := HA.out
   clear HA
   simp only [spec_l01Times.j0] at H
   by_cases c6 : x17_3 = true
   ·
    subst c6
    have H1 : (some (([] : List Int))) = some r := by rw [if_pos rfl] at H; exact H
    clear H
    have H := H1
    clear H1
    obtain ⟨y242, hy242⟩ : ∃ y_ : List Int, y_ = (([] : List Int)) := ⟨_, rfl⟩
    replace H : (some y242) = some r := by first | (rw [hy242]; with_reducible exact H) | (have H2_ := (Option.bind_some _ _).symm.trans H; rw [hy242]; with_reducible exact H2_) | (have H2_ := (Option.bind_some _ _).symm.trans H; with_reducible exact H2_) | with_reducible exact H | (rw [hy242]; exact H) | exact H
    have Ny242 := as0 hy242
    clear hy242
    obtain rfl := Option.some.inj H
    go_wp2_with (first | ((with_reducible refine gate_dst (N := 18) rfl ?_); (try (refine gate_guard (by rfl) ?_; dsimp only)); refine Kd.R_lit (Kd.int .i64) _ 2 ?hg (N := 18) ?hd (xs := ([] : List Int)) (inner := []) (ok := fun _ => True) (okp := fun _ => True) ?hr ?hp (fun _ hk => hk) trivial (Below.refl _ _) (Nat.le_refl _) (by simp) ?_; (case hd => rfl); (case hg => rfl); (case hr => first | (go_simp; done) | (go_simp; rfl)); (case hp => exact (Reps.none _ _)); intro v243 w7 ho8 hb hg_ hnew_; clear hg_ hnew_; (first | rw [← Ny242.out] at ho8 | (simp only [Int.reduceToNat] at ho8; rw [← Ny242.out] at ho8)); have n0_ := as0 (Kd.R_lower ho8 (below_size (bs HB))); have n1_ := as0 (below_step (bs HB) hb); clear HB; have HO244 := n0_; have HB := n1_; clear n0_ n1_; clear hb ho8))
    go_ret
    exact ⟨_, er_, rs HO244, bs HB⟩
   ·
    replace c6 := Bool.eq_false_iff.mpr c6
    subst c6
    have H1 : (if 0 ≤ (wrap64 ((wrap64 ((l1.length : Int) + (l2.length : Int))) - 1)) then (if (wrap64 ((wrap64 ((l1.length : Int) + (l2.length : Int))) - 1) : Int).toNat ≤ 35184372088832 then (spec_l01Times.l0 kj3 a0 l1 l2 (List.replicate (wrap64 ((wrap64 ((l1.length : Int) + (l2.length : Int))) - 1) : Int).toNat 0) 0) else (none)) else (none)) = some r := by rw [if_neg (show ¬ (false = true) by decide)] at H; exact H
    clear H
    have H := H1
    clear H1
    obtain ⟨ji9, hji9⟩ : ∃ j_ : Int, (wrap64 ((wrap64 ((l1.length : Int) + (l2.length : Int))) - 1)) = j_ := ⟨_, rfl⟩
    replace H : (if 0 ≤ (ji9) then (if (ji9 : Int).toNat ≤ 35184372088832 then (spec_l01Times.l0 kj3 a0 l1 l2 (List.replicate (ji9 : Int).toNat 0) 0) else (none)) else (none)) = some r := by first | (rw [hji9] at H; exact H) | (simp only [hji9] at H ⊢; exact H)
    have hji9w : (IntKind.i64.wrap ((wrap64 ((l1.length : Int) + (l2.length : Int))) - 1)) = ji9 := (i64_w _).trans hji9
    by_cases c10 : 0 ≤ (ji9)
    ·
     rw [if_pos c10] at H
     have c10b0 := eq_true c10
     have c10b1 : decide (0 ≤ (ji9)) = true := decide_eq_true c10
     clear c10
     by_cases c11 : (ji9 : Int).toNat ≤ 35184372088832
     ·
      rw [if_pos c11] at H
      have c11b0 := eq_true c11
      have c11b1 : decide ((ji9 : Int).toNat ≤ 35184372088832) = true := decide_eq_true c11
      clear c11
      obtain ⟨y245, hy245⟩ : ∃ y_ : List Int, y_ = (List.replicate (ji9 : Int).toNat 0) := ⟨_, rfl⟩
      replace H : (spec_l01Times.l0 kj3 a0 l1 l2 y245 0) = some r := by first | (rw [hy245]; with_reducible exact H) | (have H2_ := (Option.bind_some _ _).symm.trans H; rw [hy245]; with_reducible exact H2_) | (have H2_ := (Option.bind_some _ _).symm.trans H; with_reducible exact H2_) | with_reducible exact H | (rw [hy245]; exact H) | exact H
      have Ny245 := as0 hy245
      clear hy245
      have H' := as0 H
      clear H
      go_wp2_with (first | ((with_reducible refine gate_dst (N := 25) rfl ?_); (try (refine gate_guard (by rfl) ?_; dsimp only)); refine Kd.R_make (Kd.int .i64) _ 2 rfl (N := 25) rfl 22 _ _ rfl ji9 rfl rfl Try.underlying22 (.int .i64 0) 8 info2 rfl (by decide) (by omega) 0 (ok := fun _ => True) (okp := fun _ => True) rfl (fun _ hk => hk) trivial (oa_) (Nat.le_trans (Nat.mul_le_mul_right _ (oa_ : ji9.toNat ≤ 35184372088832)) (by omega)) (Below.refl _ _) (Nat.le_refl _) ?_; intro v246 w12 ho13 hb hg_ hnew_; clear hg_ hnew_; (first | rw [← Ny245.out] at ho13 | (simp only [Int.reduceToNat] at ho13; rw [← Ny245.out] at ho13)); have n0_ := as0 (Kd.R_lower ho13 (below_size (bs HB))); have n1_ := as0 (below_step (bs HB) hb); clear HB; have HO247 := n0_; have HB := n1_; clear n0_ n1_; clear hb ho13))
      go_loopg [8] kj3 (fun kq v8 w' => ∃ (x7_2 : List Int) (x8_2 : Int), v8 = .int .i64 x8_2 ∧ Aside0 (spec_l01Times.l0 kq a0 l1 l2 x7_2 x8_2 = some r) ∧ Aside0 (kq ≤ kj3) ∧ Aside0 (Kd.R (Kd.int .i64) 2 w' w.heap.size (fun _ => True) v246 x7_2) ∧ Aside0 (Below w.heap.size w w'))
      case atStart => exact ⟨(y245), (0), ea_, H', ⟨Nat.le_refl _⟩, ⟨rs HO247⟩, ⟨bs HB⟩⟩
      case round =>
       clear H'
       try clear c1
       try clear c2
       try clear p2
       try clear c4
       try clear c5
       try clear c5b0
       try clear c5b1
       try clear c5b2
       try clear c6
       try clear p6
       try clear c10
       try clear c10b0
       try clear c10b1
       try clear c11
       try clear c11b0
       try clear c11b1
       try clear p2
       obtain ⟨x7_2, x8_2, rfl, HA, HK2, HO_7, HB⟩ := hrel
       cases gk with
       | zero => exact absurd HA.out (by simp [spec_l01Times.l0])
       | succ k2 =>
        have H := HA.out
        clear HA
        simp only [spec_l01Times.l0] at H
        by_cases c14 : x8_2 < (l1.length : Int)
        ·
         rw [if_pos c14] at H
         have c14b0 : decide (x8_2 < (l1.length : Int)) = true := decide_eq_true c14
         clear c14
         have H' := as0 H
         clear H
         go_wp2
         go_loopg [9] k2 (fun kq v9 w' => ∃ (x7_3 : List Int) (x9_3 : Int), v9 = .int .i64 x9_3 ∧ Aside0 (spec_l01Times.l1 kq a0 l1 l2 x7_3 x8_2 x9_3 = some r) ∧ Aside0 (kq ≤ k2) ∧ Aside0 (Kd.R (Kd.int .i64) 2 w' w.heap.size (fun _ => True) v246 x7_3) ∧ Aside0 (Below w.heap.size w w'))
         case atStart => exact ⟨(x7_2), (0), ea_, H', ⟨Nat.le_refl _⟩, ⟨rs HO_7⟩, ⟨bs HB⟩⟩
         case round =>
          clear H'
          try clear c1
          try clear c2
          try clear p2
          try clear c4
          try clear c5
          try clear c5b0
          try clear c5b1
          try clear c5b2
          try clear c6
          try clear p6
          try clear c10
          try clear c10b0
          try clear c10b1
          try clear c11
          try clear c11b0
          try clear c11b1
          try clear c14
          try clear c14b0
          try clear p2
          try clear p6
          obtain ⟨x7_3, x9_3, rfl, HA, HK3, HO_7, HB⟩ := hrel
          cases gk with
          | zero => exact absurd HA.out (by simp [spec_l01Times.l1])
          | succ k3 =>
           have H := HA.out
           clear HA
           simp only [spec_l01Times.l1] at H
           by_cases c15 : x9_3 < (l2.length : Int)
           ·
            rw [if_pos c15] at H
            have c15b0 : decide (x9_3 < (l2.length : Int)) = true := decide_eq_true c15
            clear c15
            obtain ⟨ji16, hji16⟩ : ∃ j_ : Int, (wrap64 (x8_2 + x9_3)) = j_ := ⟨_, rfl⟩
            replace H : (if 0 ≤ (ji16) then (if (ji16) < (x7_3.length : Int) then (if 0 ≤ x8_2 then (if x8_2 < (l1.length : Int) then (if 0 ≤ x9_3 then (if a0 = 0 then (none) else (spec_l01Times.l1 k3 a0 l1 l2 (x7_3.set ((ji16) : Int).toNat (Int.tmod (wrap64 ((rd x7_3 (ji16)) + (wrap64 ((rd l1 x8_2) * (rd l2 x9_3))))) a0)) x8_2 (wrap64 (x9_3 + 1)))) else (none)) else (none)) else (none)) else (none)) else (none)) = some r := by first | (rw [hji16] at H; exact H) | (simp only [hji16] at H ⊢; exact H)
            have hji16w : (IntKind.i64.wrap (x8_2 + x9_3)) = ji16 := (i64_w _).trans hji16
            by_cases c17 : 0 ≤ (ji16)
            ·
             rw [if_pos c17] at H
             have c17b0 : decide (0 ≤ (ji16)) = true := decide_eq_true c17
             clear c17
             by_cases c18 : (ji16) < (x7_3.length : Int)
             ·
              rw [if_pos c18] at H
              have c18b0 : decide ((ji16) < (x7_3.length : Int)) = true := decide_eq_true c18
              clear c18
              by_cases c19 : 0 ≤ x8_2
              ·
               rw [if_pos c19] at H
               have c19b0 : decide (0 ≤ x8_2) = true := decide_eq_true c19
               clear c19
               by_cases c20 : x8_2 < (l1.length : Int)
               ·
                rw [if_pos c20] at H
                have c20b0 : decide (x8_2 < (l1.length : Int)) = true := decide_eq_true c20
                clear c20
                by_cases c21 : 0 ≤ x9_3
                ·
                 rw [if_pos c21] at H
                 have c21b0 : decide (0 ≤ x9_3) = true := decide_eq_true c21
                 clear c21
                 by_cases c22 : a0 = 0
                 ·
                  rw [if_pos c22] at H
                  exact absurd H (by simp)
                 ·
                  rw [if_neg c22] at H
                  have c22b0 : (a0 == 0) = false := beq_eq_false_iff_ne.mpr c22
                  have c22b1 : (a0 != 0) = true := bne_iff_ne.mpr c22
                  obtain ⟨y254, hy254⟩ : ∃ y_ : List Int, y_ = (x7_3.set ((ji16) : Int).toNat (Int.tmod (wrap64 ((rd x7_3 (ji16)) + (wrap64 ((rd l1 x8_2) * (rd l2 x9_3))))) a0)) := ⟨_, rfl⟩
                  replace H : (spec_l01Times.l1 k3 a0 l1 l2 y254 x8_2 (wrap64 (x9_3 + 1))) = some r := by first | (rw [hy254]; with_reducible exact H) | (have H2_ := (Option.bind_some _ _).symm.trans H; rw [hy254]; with_reducible exact H2_) | (have H2_ := (Option.bind_some _ _).symm.trans H; with_reducible exact H2_) | with_reducible exact H | (rw [hy254]; exact H) | exact H
                  have Ny254 := as0 hy254
                  clear hy254
                  have H' := as0 H
                  clear H
                  try go_wp2
                  have n0_ := as0 (Kd.R_drew HO_7.out)
                  have n1_ := as0 (below_drew1 HB.out)
                  clear HO_7
                  clear HB
                  have HO_7 := n0_
                  have HB := n1_
                  clear n0_ n1_
                  obtain ⟨Ao25, co25, eo25⟩ := Kd.R_slice HO_7.out
                  (first | subst eo25 | (injection eo25 with f1_ f2_ f3_; have f4_ := f1_.symm; have f5_ := f3_.symm; clear f1_ f2_ f3_; subst f4_; subst f5_))
                  have p251 : 0 ≤ ((ji16) : Int) := oa_
                  have q251 : (ji16) < (x7_3.length : Int) := oa_
                  obtain ⟨ad251, e251, hx251_0⟩ := Kd.at_int (Kd.R_reads' HO_7.out).2.2 (ji16) p251 q251
                  cases e251
                  replace p251 := eq_true p251
                  replace q251 := eq_true q251
                  have p252 : 0 ≤ (x8_2 : Int) := oa_
                  have q252 : x8_2 < (l1.length : Int) := oa_
                  obtain ⟨ad252, e252, hx252_0⟩ := Kd.at_int HR1.out x8_2 p252 q252
                  have hw252_0 := hx252_0
                  cases e252
                  replace hx252_0 := (HB.out.cell (World.block_lt_of_cell? w _ hx252_0)).trans hx252_0
                  replace p252 := eq_true p252
                  replace q252 := eq_true q252
                  have p253 : 0 ≤ (x9_3 : Int) := oa_
                  have q253 : x9_3 < (l2.length : Int) := oa_
                  obtain ⟨ad253, e253, hx253_0⟩ := Kd.at_int HR2.out x9_3 p253 q253
                  have hw253_0 := hx253_0
                  cases e253
                  replace hx253_0 := (HB.out.cell (World.block_lt_of_cell? w _ hx253_0)).trans hx253_0
                  replace p253 := eq_true p253
                  replace q253 := eq_true q253
                  have p23 : 0 ≤ ((ji16) : Int) := oa_
                  have q23 : ((ji16) : Int) < ((x7_3.length : Int) : Int) := oa_
                  obtain ⟨go23, co23, eo23, gb23, gl23, cl23, HG23⟩ := Kd.R_form HO_7.out (by omega)
                  (first | cases eo23 | (injection eo23 with ea_ en_ ec_; (first | subst ea_ | (injection ea_ with ea_; subst ea_)); subst ec_; clear en_))
                  have GB23 := as0 gb23
                  have GG23 := as0 HG23
                  clear gb23 gl23 HG23
                  (first | simp only [add_plain] at hx251_0 | skip)
                  obtain ⟨hx23_0, hf23_0⟩ := Kd.R_celln 0 HO_7.out ((ji16) : Int) p23 q23
                  replace p23 := eq_true p23
                  replace q23 := eq_true q23
                  have HP26 := Kd.R_putn HO_7.out ((ji16) : Int) (Int.tmod (wrap64 ((rd x7_3 (ji16)) + (wrap64 ((rd l1 x8_2) * (rd l2 x9_3))))) a0)
                  rw [← Ny254.out] at HP26
                  have HQ26 := as0 HP26
                  clear HP26
                  refine start_ (n := 24) (S := fun w' => w'.cell? ⟨go23, ((ji16)).toNat, none⟩ = some (.int .i64 (rd x7_3 (ji16))) ∧ w'.cell? (ad252.add (x8_2).toNat) = some (.int .i64 (rd l1 x8_2)) ∧ w'.cell? (ad253.add (x9_3).toNat) = some (.int .i64 (rd l2 x9_3))) (ds := [23]) #[false, false, false, false, false, false, false, false, false, false, false, false, false, false, false, false, false, false, false, false, false, false, false, false] (by kernel_rfl) rfl rfl ⟨hx251_0, ((HB.out.cell (World.block_lt_of_cell? w _ hw252_0)).trans hw252_0), ((HB.out.cell (World.block_lt_of_cell? w _ hw253_0)).trans hw253_0)⟩ (fun hHeld => ?_); refine with_tabW spec_l01Times.tab10 spec_l01Times.bits10 (fun HT_ HW_ => ?_)
                  generalize wr.drew = w24 at HO_7 HB GG23 HQ26 hf23_0 hx23_0 hx251_0 hx252_0 hx253_0 hHeld ⊢
                  refine pm_ HT_ (i := 0) (N := some 38) ?_
                  refine pm_ HT_ (i := 1) (N := some 39) ?_
                  refine pm_ HT_ (i := 2) (N := some 40) ?_
                  refine pm_ HT_ (i := 3) (N := some 41) ?_
                  refine pm_ HT_ (i := 4) (N := some 42) ?_
                  refine pm_ HT_ (i := 5) (N := some 43) ?_
                  refine pm_ HT_ (i := 6) (N := some 44) ?_
                  refine pm_ HT_ (i := 7) (N := some 45) ?_
                  refine pm_ HT_ (i := 8) (N := some 46) ?_
                  refine pm_ HT_ (i := 10) (N := some 48) ?_
                  refine pm_ HT_ (i := 11) (N := some 49) ?_
                  refine pm_ HT_ (i := 12) (N := some 50) ?_
                  refine pm_ HT_ (i := 14) (N := some 52) ?_
                  refine pm_ HT_ (i := 15) (N := some 53) ?_
                  refine pm_ HT_ (i := 16) (N := some 54) ?_
                  refine pm_ HT_ (i := 20) (N := some 58) ?_
                  refine tm3_ HT_ HW_ (i := 9) (N := some 47) hHeld ?_
                  refine tm3_ HT_ HW_ (i := 13) (N := some 51) hHeld ?_
                  refine tm3_ HT_ HW_ (i := 17) (N := some 55) hHeld ?_
                  refine pm_ HT_ (i := 18) (N := some 56) ?_
                  refine pm_ HT_ (i := 19) (N := some 57) ?_
                  refine pm_ HT_ (i := 21) (N := some 59) ?_
                  refine pm_ HT_ (i := 22) (N := some 60) ?_
                  refine last_ (i := 23) (N := none) #[true, true, true, true, true, true, true, true, true, true, true, true, true, true, true, true, true, true, true, true, true, true, true, true] rfl rfl (one_of HT_.out (by kernel_rfl)) (by decide) (fun K hK => ?_)
                  refine skip_ (w1 := ?_) (by rfl) rfl ?_ ?_
                  rotate_left
                  ·
                   go_simp
                   rfl
                  refine hK.out _ _ ?_
                  clear hK K
                  refine done_ (done_of HT_.out (by kernel_rfl)) ?_
                  try go_wp2
                  go_roundg k3
                  case measure => have := HJ3.out; have := HK2.out; have := HK3.out; omega
                  case rel => exact ⟨(y254), (wrap64 (x9_3 + 1)), ea_, H', ⟨by have := HJ3.out; have := HK2.out; have := HK3.out; omega⟩, ⟨by (with_reducible repeat (first | apply Kd.R_alloc | apply Kd.R_drewN | apply Kd.R_drew)); exact HQ26.out⟩, ⟨by repeat (first | (with_reducible first | exact HB.out | apply below_alloc | apply pw_below_drewN | apply below_drew1 | refine below_set ?_ GB23.out) | exact HB.out)⟩⟩
                ·
                 rw [if_neg c21] at H
                 exact absurd H (by simp)
               ·
                rw [if_neg c20] at H
                exact absurd H (by simp)
              ·
               rw [if_neg c19] at H
               exact absurd H (by simp)
             ·
              rw [if_neg c18] at H
              exact absurd H (by simp)
            ·
             rw [if_neg c17] at H
             exact absurd H (by simp)
           ·
            rw [if_neg c15] at H
            have c15b0 : decide (x9_3 < (l2.length : Int)) = false := decide_eq_false c15
            clear c15
            have H' := as0 H
            clear H
            go_wp2
            go_roundg k3
            case measure => have := HJ3.out; have := HK2.out; have := HK3.out; omega
            case rel => exact ⟨(x7_3), (wrap64 (x8_2 + 1)), ea_, H', ⟨by have := HJ3.out; have := HK2.out; have := HK3.out; omega⟩, ⟨rs HO_7⟩, ⟨bs HB⟩⟩
        ·
         rw [if_neg c14] at H
         have c14b0 : decide (x8_2 < (l1.length : Int)) = false := decide_eq_false c14
         clear c14
         replace H := Option.bind_eq_some_iff.mp H
         obtain ⟨t248, A270, H⟩ := H
         have A27 := as0 A270
         clear A270
         obtain rfl := Option.some.inj H
         obtain ⟨Ao28, co28, eo28⟩ := Kd.R_slice HO_7.out
         subst eo28
         go_wp2_with (first | ((with_reducible refine gate_callee (f := 82) rfl ?_); refine goesM_ (some 62) rfl rfl Try.func82 #[.slice Ao28 x7_2.length co28] rfl ?_; (with_reducible refine (spec_l01Trim.calls k2 _ _ x7_2 t248 _ ?side1 ?side2 A27.out).mono ?_); (case side1 => exact cs ((Kd.R_reads' HO_7.out).2.2)); (case side2 => exact (Kd.R_reads' HO_7.out).2.1); rintro e w29 ⟨v249, rfl, ho0, hb⟩; refine ⟨_, rfl, ?_⟩; have n0_ := as0 (Kd.R_elder' (rs HO_7) (Kd.R_base ho0) hb); have n1_ := as0 (Kd.R_lower (Kd.R_new' ho0 (Kd.R_lt (rs HO_7))) (below_size (bs HB))); have n2_ := as0 (below_step (bs HB) hb); clear HO_7; clear HB; have HO_7 := n0_; have HO250 := n1_; have HB := n2_; clear n0_ n1_ n2_; (try clear hb); (try clear hb2); (try clear hk); (try clear hi); (try clear ho0)))
         go_ret
         exact ⟨_, by first | rfl | (simp [errW_none, errW_some] <;> rfl) | (simp only [← hji9]; first | rfl | (simp [errW_none, errW_some] <;> rfl)) | (simp [*, errW_none, errW_some] <;> rfl), by (with_reducible repeat (first | apply Kd.R_alloc | apply Kd.R_drewN | apply Kd.R_drew)); exact Kd.R_mono HO250.out (fun _ hk => trivial), bs HB⟩
     ·
      rw [if_neg c11] at H
      exact absurd H (by simp)
    ·
     rw [if_neg c10] at H
     exact absurd H (by simp)
end Go.Proofs.Ytlmolloallhclaa.H
