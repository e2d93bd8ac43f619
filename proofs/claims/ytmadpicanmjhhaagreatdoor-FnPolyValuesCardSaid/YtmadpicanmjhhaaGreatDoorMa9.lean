/- Joined texts of a claim: the printed functions and what is proved of them. -/
import Derived.Test.YtmadpicanmjhhaaGreatDoorYHx0
import Derived.Test.YtmadpicanmjhhaaGreatDoorMa8
import Derived.Test.YtmadpicanmjhhaaGreatDoorMa5
import Derived.Test.YtmadpicanmjhhaaGreatDoorMa4
import Derived.Test.YtmadpicanmjhhaaGreatDoorMa1
import Derived.Test.YtmadpicanmjhhaaGreatDoorMa3
import Derived.Test.YtmadpicanmjhhaaGreatDoorMa6
import Derived.Test.YtmadpicanmjhhaaGreatDoorMa7
namespace Go.Proofs.YtmadpicanmjhhaaGreatDoor.H
open Go.RowKit Go.Proofs.YtmadpicanmjhhaaGreatDoorW.PrintWords Go.Proofs.YtmadpicanmjhhaaGreatDoorW.PrintLast Go.Proofs.YtmadpicanmjhhaaGreatDoorW.PrintMore
attribute [local go_sem] max2_int min2_int max_two min_two max_three min_three max_four min_four   -- for this text's walks alone
set_option linter.unusedVariables false
set_option linter.unusedSimpArgs false
def spec_l01Split.l0 : Nat → ByteArray → Int → List ByteArray → Int → Int → Option (List ByteArray)
 | 0, _, _, _, _, _ => none
 | k + 1, x0, x1, x5, x6, x7 => if x7 < (x0.size : Int) then (if 0 ≤ x7 then (if (bt x0 x7) = x1 then (if 0 ≤ x6 then (if x6 ≤ x7 then (if x7 ≤ (x0.size : Int) then (if x5.length < 8796093022208 then (spec_l01Split.l0 k x0 x1 (x5 ++ [x0.extract (x6 : Int).toNat (x7 : Int).toNat]) (wrap64 (x7 + 1)) (wrap64 (x7 + 1))) else (none)) else (none)) else (none)) else (none)) else (spec_l01Split.l0 k x0 x1 x5 x6 (wrap64 (x7 + 1)))) else (none)) else (if 0 ≤ x6 then (if x6 ≤ (x0.size : Int) then (if x5.length < 8796093022208 then (some (x5 ++ [x0.extract (x6 : Int).toNat x0.size])) else (none)) else (none)) else (none))
def spec_l01Split.f (k : Nat) (a0 : ByteArray) (a1 : Int) : Option (List ByteArray) := spec_l01Split.l0 k a0 a1 (([] : List ByteArray)) 0 0
set_option maxHeartbeats 8000000 in
set_option maxRecDepth 100000 in
theorem spec_l01Split.calls (k : Nat) (a0 : ByteArray) (a1 : Int) (r : List ByteArray) (w : World) (h : spec_l01Split.f k a0 a1 = some r) :
  Calls Tryz.prog 84 #[.string a0, .int .u8 a1] w fun e w' => ∃ v0_ : Value, e = .returned (v0_) ∧ Kd.R Kd.string 9 w' w.heap.size (fun _ => True) v0_ r ∧ Below w.heap.size w w' := by
 have HB := as0 (Below.refl w.heap.size w)
 have H : (spec_l01Split.l0 k a0 a1 (([] : List ByteArray)) 0 0) = some r := h
 clear h
 obtain ⟨y740, hy740⟩ : ∃ y_ : List ByteArray, y_ = (([] : List ByteArray)) := ⟨_, rfl⟩
 replace H : (spec_l01Split.l0 k a0 a1 y740 0 0) = some r := by first | (rw [hy740]; with_reducible exact H) | (have H2_ := (Option.bind_some _ _).symm.trans H; rw [hy740]; with_reducible exact H2_) | (have H2_ := (Option.bind_some _ _).symm.trans H; with_reducible exact H2_) | with_reducible exact H | (rw [hy740]; exact H) | exact H
 have Ny740 := as0 hy740
 clear hy740
 have H' := as0 H
 clear H
 go_enter Tryz.func84, Tryz.ntmps84
 go_wp2_with (first | ((with_reducible refine gate_dst (N := 8) rfl ?_); refine Kd.R_lit Kd.string _ 9 ?hg (N := 8) ?hd (xs := ([] : List ByteArray)) (inner := []) (ok := fun _ => True) (okp := fun _ => True) ?hr ?hp (fun _ hk => hk) trivial (Below.refl _ _) (Nat.le_refl _) (by simp) ?_; (case hd => rfl); (case hg => rfl); (case hr => first | (go_simp; done) | (go_simp; rfl)); (case hp => exact (Reps.none _ _)); intro v741 w3 ho4 hb hg_ hnew_; clear hg_ hnew_; (first | rw [← Ny740.out] at ho4 | (simp only [Int.reduceToNat] at ho4; rw [← Ny740.out] at ho4)); have n0_ := as0 (Kd.R_lower ho4 (below_size (bs HB))); have n1_ := as0 (below_step (bs HB) hb); clear HB; have HO742 := n0_; have HB := n1_; clear n0_ n1_; clear hb ho4))
 go_loopg [5, 6, 7] k (fun kq v5 v6 v7 w' => ∃ (x5_1 : List ByteArray) (x6_1 : Int) (x7_1 : Int), v6 = .int .i64 x6_1 ∧ v7 = .int .i64 x7_1 ∧ Aside0 (spec_l01Split.l0 kq a0 a1 x5_1 x6_1 x7_1 = some r) ∧ Aside0 (kq ≤ k) ∧ Aside0 (Kd.R Kd.string 9 w' w.heap.size (fun _ => True) v5 x5_1) ∧ Aside0 (Below w.heap.size w w'))
 case atStart => exact ⟨(y740), (0), (0), ea_, ea_, H', ⟨Nat.le_refl _⟩, ⟨rs HO742⟩, ⟨bs HB⟩⟩
 case round =>
  clear H'
  try clear p2
  obtain ⟨x5_1, x6_1, x7_1, rfl, rfl, HA, HK1, HO_5, HB⟩ := hrel
  cases gk with
  | zero => exact absurd HA.out (by simp [spec_l01Split.l0])
  | succ k1 =>
   have H := HA.out
   clear HA
   simp only [spec_l01Split.l0] at H
   by_cases c5 : x7_1 < (a0.size : Int)
   ·
    rw [if_pos c5] at H
    have c5b0 : decide (x7_1 < (a0.size : Int)) = true := decide_eq_true c5
    clear c5
    by_cases c6 : 0 ≤ x7_1
    ·
     rw [if_pos c6] at H
     have c6b0 : decide (0 ≤ x7_1) = true := decide_eq_true c6
     clear c6
     by_cases c8 : (bt a0 x7_1) = a1
     ·
      rw [if_pos c8] at H
      have c8b0 : ((bt a0 x7_1) == a1) = true := beq_iff_eq.mpr c8
      have c8b1 : ((bt a0 x7_1) != a1) = false := bne_eq_false_iff_eq.mpr c8
      clear c8
      by_cases c9 : 0 ≤ x6_1
      ·
       rw [if_pos c9] at H
       have c9b0 := eq_true c9
       have c9b1 : decide (0 ≤ x6_1) = true := decide_eq_true c9
       clear c9
       by_cases c10 : x6_1 ≤ x7_1
       ·
        rw [if_pos c10] at H
        have c10b0 := eq_true c10
        have c10b1 : decide (x6_1 ≤ x7_1) = true := decide_eq_true c10
        clear c10
        by_cases c11 : x7_1 ≤ (a0.size : Int)
        ·
         rw [if_pos c11] at H
         have c11b0 := eq_true c11
         have c11b1 : decide (x7_1 ≤ (a0.size : Int)) = true := decide_eq_true c11
         clear c11
         by_cases c12 : x5_1.length < 8796093022208
         ·
          rw [if_pos c12] at H
          have LMc12 := as0 c12
          clear c12
          obtain ⟨y743, hy743⟩ : ∃ y_ : List ByteArray, y_ = (x5_1 ++ [a0.extract (x6_1 : Int).toNat (x7_1 : Int).toNat]) := ⟨_, rfl⟩
          replace H : (spec_l01Split.l0 k1 a0 a1 y743 (wrap64 (x7_1 + 1)) (wrap64 (x7_1 + 1))) = some r := by first | (rw [hy743]; with_reducible exact H) | (have H2_ := (Option.bind_some _ _).symm.trans H; rw [hy743]; with_reducible exact H2_) | (have H2_ := (Option.bind_some _ _).symm.trans H; with_reducible exact H2_) | with_reducible exact H | (rw [hy743]; exact H) | exact H
          have Ny743 := as0 hy743
          clear hy743
          have H' := as0 H
          clear H
          have p7 : 0 ≤ (x7_1 : Int) := oa_
          have q7 : x7_1 < (a0.size : Int) := oa_
          have hx7 := bt_at a0 x7_1
          replace p7 := eq_true p7
          replace q7 := eq_true q7
          go_wp2_with (first | ((with_reducible refine gate_builtin (b := .append) (xs := #[.tmp 20, .tmp 25]) rfl ?_); at_builtin; refine Kd.R_append Kd.string (w0 := w) w.heap.size rfl (.tmp 20) (.tmp 25) 63 9 (.string ⟨#[]⟩) 16 rfl Tryz.underlying63 info9 rfl (by decide) (by omega) u5 x5_1 (a0.extract (x6_1 : Int).toNat (x7_1 : Int).toNat) [.string (a0.extract (x6_1 : Int).toNat (x7_1 : Int).toNat)] (fun _ => True) (fun _ => False) rfl rfl ?aP (fun _ hk => hk.elim) ?aF ?aO ?aB ?aS ?aL ?_; (case aP => exact rfl); (case aB => exact (bs HB)); (case aF => exact (fun _ _ => trivial)); (case aO => exact (rs HO_5)); (case aS => exact (below_size (bs HB))); (case aL => have := LMc12.out; omega); intro v744 w13 ho hb hg hat; rw [← Ny743.out] at ho; have n0_ := as0 (hb); have n1_ := as0 (ho); clear HB; clear HO_5; have HB := n0_; have HO745 := n1_; clear n0_ n1_; clear ho hb hg hat))
          go_roundg k1
          case measure => have := HK1.out; omega
          case rel => exact ⟨(y743), (wrap64 (x7_1 + 1)), (wrap64 (x7_1 + 1)), ea_, ea_, H', ⟨by have := HK1.out; omega⟩, ⟨rs HO745⟩, ⟨bs HB⟩⟩
         ·
          rw [if_neg c12] at H
          exact absurd H (by simp)
        ·
         rw [if_neg c11] at H
         exact absurd H (by simp)
       ·
        rw [if_neg c10] at H
        exact absurd H (by simp)
      ·
       rw [if_neg c9] at H
       exact absurd H (by simp)
     ·
      rw [if_neg c8] at H
      have c8b0 : ((bt a0 x7_1) == a1) = false := beq_eq_false_iff_ne.mpr c8
      have c8b1 : ((bt a0 x7_1) != a1) = true := bne_iff_ne.mpr c8
      have H' := as0 H
      clear H
      have p7 : 0 ≤ (x7_1 : Int) := oa_
      have q7 : x7_1 < (a0.size : Int) := oa_
      have hx7 := bt_at a0 x7_1
      replace p7 := eq_true p7
      replace q7 := eq_true q7
      go_wp2
      go_roundg k1
      case measure => have := HK1.out; omega
      case rel => exact ⟨(x5_1), (x6_1), (wrap64 (x7_1 + 1)), ea_, ea_, H', ⟨by have := HK1.out; omega⟩, ⟨rs HO_5⟩, ⟨bs HB⟩⟩
    ·
     rw [if_neg c6] at H
     exact absurd H (by simp)
   ·
    rw [if_neg c5] at H
    have c5b0 : decide (x7_1 < (a0.size : Int)) = false := decide_eq_false c5
    clear c5
    by_cases c14 : 0 ≤ x6_1
    ·
     rw [if_pos c14] at H
     have c14b0 := eq_true c14
     have c14b1 : decide (0 ≤ x6_1) = true := decide_eq_true c14
     clear c14
     by_cases c15 : x6_1 ≤ (a0.size : Int)
     ·
      rw [if_pos c15] at H
      have c15b0 := eq_true c15
      have c15b1 : decide (x6_1 ≤ (a0.size : Int)) = true := decide_eq_true c15
      clear c15
      by_cases c16 : x5_1.length < 8796093022208
      ·
       rw [if_pos c16] at H
       have LMc16 := as0 c16
       clear c16
       obtain ⟨y746, hy746⟩ : ∃ y_ : List ByteArray, y_ = (x5_1 ++ [a0.extract (x6_1 : Int).toNat a0.size]) := ⟨_, rfl⟩
       replace H : (some y746) = some r := by first | (rw [hy746]; with_reducible exact H) | (have H2_ := (Option.bind_some _ _).symm.trans H; rw [hy746]; with_reducible exact H2_) | (have H2_ := (Option.bind_some _ _).symm.trans H; with_reducible exact H2_) | with_reducible exact H | (rw [hy746]; exact H) | exact H
       have Ny746 := as0 hy746
       clear hy746
       obtain rfl := Option.some.inj H
       go_wp2_with (first | ((with_reducible refine gate_builtin (b := .append) (xs := #[.tmp 29, .tmp 33]) rfl ?_); at_builtin; refine Kd.R_append Kd.string (w0 := w) w.heap.size rfl (.tmp 29) (.tmp 33) 63 9 (.string ⟨#[]⟩) 16 rfl Tryz.underlying63 info9 rfl (by decide) (by omega) u5 x5_1 (a0.extract (x6_1 : Int).toNat a0.size) [.string (a0.extract (x6_1 : Int).toNat a0.size)] (fun _ => True) (fun _ => False) rfl rfl ?aP (fun _ hk => hk.elim) ?aF ?aO ?aB ?aS ?aL ?_; (case aP => exact rfl); (case aB => exact (bs HB)); (case aF => exact (fun _ _ => trivial)); (case aO => exact (rs HO_5)); (case aS => exact (below_size (bs HB))); (case aL => have := LMc16.out; omega); intro v747 w17 ho hb hg hat; rw [← Ny746.out] at ho; have n0_ := as0 (hb); have n1_ := as0 (ho); clear HB; clear HO_5; have HB := n0_; have HO748 := n1_; clear n0_ n1_; clear ho hb hg hat))
       go_ret
       exact ⟨_, er_, rs HO748, bs HB⟩
      ·
       rw [if_neg c16] at H
       exact absurd H (by simp)
     ·
      rw [if_neg c15] at H
      exact absurd H (by simp)
    ·
     rw [if_neg c14] at H
     exact absurd H (by simp)
def spec_l01Read.l0 : Nat → Int → List Int → List ByteArray → Int → Option (List Int × Bool)
 | 0, _, _, _, _ => none
 | k + 1, x0, x6, x7, x8 => if x8 ≥ 0 then (if 0 ≤ x8 then (if x8 < (x7.length : Int) then ((spec_l01Number.f k (rdOf ByteArray.empty x7 x8)).bind fun t756 => (if x6.length < 17592186044416 then (spec_l01Read.l0 k x0 (x6 ++ [t756]) x7 (wrap64 (x8 - 1))) else (none))) else (none)) else (none)) else ((spec_l01Poly.f k x0 x6).bind fun t760 => (some (x6, t760)))
def spec_l01Read.f (k : Nat) (a0 : Int) (a1 : ByteArray) : Option (List Int × Bool) := (some (([] : List Int) : List Int)).bind fun y749 => (if a1.toList = ([48] : List UInt8) then (some (y749, true)) else ((spec_l01Split.f k a1 44).bind fun t752 => (spec_l01Read.l0 k a0 y749 t752 (wrap64 ((t752.length : Int) - 1)))))
set_option maxHeartbeats 8000000 in
set_option maxRecDepth 100000 in
theorem spec_l01Read.calls (k : Nat) (a0 : Int) (a1 : ByteArray) (r1 : List Int) (r2 : Bool) (w : World) (h : spec_l01Read.f k a0 a1 = some (r1, r2)) :
  Calls Tryz.prog 57 #[.int .i64 a0, .string a1] w fun e w' => ∃ v0_ : Value, e = .returned (.tuple #[v0_, .bool r2]) ∧ Kd.R (Kd.int .i64) 2 w' w.heap.size (fun _ => True) v0_ r1 ∧ Below w.heap.size w w' := by
 have HB := as0 (Below.refl w.heap.size w)
 have H : ((some (([] : List Int) : List Int)).bind fun y749 => (if a1.toList = ([48] : List UInt8) then (some (y749, true)) else ((spec_l01Split.f k a1 44).bind fun t752 => (spec_l01Read.l0 k a0 y749 t752 (wrap64 ((t752.length : Int) - 1)))))) = some (r1, r2) := h
 clear h
 obtain ⟨y749, hy749⟩ : ∃ y_ : List Int, y_ = (([] : List Int)) := ⟨_, rfl⟩
 replace H : (if a1.toList = ([48] : List UInt8) then (some (y749, true)) else ((spec_l01Split.f k a1 44).bind fun t752 => (spec_l01Read.l0 k a0 y749 t752 (wrap64 ((t752.length : Int) - 1))))) = some (r1, r2) := by first | (rw [hy749]; with_reducible exact H) | (have H2_ := (Option.bind_some _ _).symm.trans H; rw [hy749]; with_reducible exact H2_) | (have H2_ := (Option.bind_some _ _).symm.trans H; with_reducible exact H2_) | with_reducible exact H | (rw [hy749]; exact H) | exact H
 have Ny749 := as0 hy749
 clear hy749
 by_cases c3 : a1.toList = ([48] : List UInt8)
 ·
  rw [if_pos c3] at H
  have c3b0 : (a1.toList == ([48] : List UInt8)) = true := beq_iff_eq.mpr c3
  have c3b1 : (a1.toList != ([48] : List UInt8)) = false := bne_eq_false_iff_eq.mpr c3
  clear c3
  simp only [Option.some.injEq, Prod.mk.injEq] at H
  obtain ⟨rfl, rfl⟩ := H
  go_enter Tryz.func57, Tryz.ntmps57
  go_wp2_with (first | ((with_reducible refine gate_dst (N := 9) rfl ?_); refine Kd.R_lit (Kd.int .i64) _ 2 ?hg (N := 9) ?hd (xs := ([] : List Int)) (inner := []) (ok := fun _ => True) (okp := fun _ => True) ?hr ?hp (fun _ hk => hk) trivial (Below.refl _ _) (Nat.le_refl _) (by simp) ?_; (case hd => rfl); (case hg => rfl); (case hr => first | (go_simp; done) | (go_simp; rfl)); (case hp => exact (Reps.none _ _)); intro v750 w4 ho5 hb hg_ hnew_; clear hg_ hnew_; (first | rw [← Ny749.out] at ho5 | (simp only [Int.reduceToNat] at ho5; rw [← Ny749.out] at ho5)); have n0_ := as0 (Kd.R_lower ho5 (below_size (bs HB))); have n1_ := as0 (below_step (bs HB) hb); clear HB; have HO751 := n0_; have HB := n1_; clear n0_ n1_; clear hb ho5))
  go_ret2
  exact ⟨_, er_, rs HO751, bs HB⟩
 ·
  rw [if_neg c3] at H
  have c3b0 : (a1.toList == ([48] : List UInt8)) = false := beq_eq_false_iff_ne.mpr c3
  have c3b1 : (a1.toList != ([48] : List UInt8)) = true := bne_iff_ne.mpr c3
  replace H := Option.bind_eq_some_iff.mp H
  obtain ⟨t752, A60, H⟩ := H
  have A6 := as0 A60
  clear A60
  have H' := as0 H
  clear H
  go_enter Tryz.func57, Tryz.ntmps57
  go_wp2_with (first | ((with_reducible refine gate_dst (N := 9) rfl ?_); refine Kd.R_lit (Kd.int .i64) _ 2 ?hg (N := 9) ?hd (xs := ([] : List Int)) (inner := []) (ok := fun _ => True) (okp := fun _ => True) ?hr ?hp (fun _ hk => hk) trivial (Below.refl _ _) (Nat.le_refl _) (by simp) ?_; (case hd => rfl); (case hg => rfl); (case hr => first | (go_simp; done) | (go_simp; rfl)); (case hp => exact (Reps.none _ _)); intro v750 w7 ho8 hb hg_ hnew_; clear hg_ hnew_; (first | rw [← Ny749.out] at ho8 | (simp only [Int.reduceToNat] at ho8; rw [← Ny749.out] at ho8)); have n0_ := as0 (Kd.R_lower ho8 (below_size (bs HB))); have n1_ := as0 (below_step (bs HB) hb); clear HB; have HO751 := n0_; have HB := n1_; clear n0_ n1_; clear hb ho8) | ((with_reducible refine gate_callee (f := 84) rfl ?_); refine goesM_ (some 14) rfl rfl Tryz.func84 #[.string a1, .int .u8 44] rfl ?_; (with_reducible refine (spec_l01Split.calls k a1 44 t752 _ A6.out).mono ?_); rintro e w9 ⟨v753, rfl, ho0, hb⟩; refine ⟨_, rfl, ?_⟩; have n0_ := as0 (Kd.R_below (rs HO751) hb); have n1_ := as0 (Kd.R_lower ho0 (below_size (bs HB))); have n2_ := as0 (below_step (bs HB) hb); clear HO751; clear HB; have HO751 := n0_; have HO754 := n1_; have HB := n2_; clear n0_ n1_ n2_; (try clear hb); (try clear hb2); (try clear hk); (try clear hi); (try clear ho0); obtain ⟨Ao10, co10, eo10⟩ := Kd.R_slice HO754.out; subst eo10))
  go_loopg [6, 8] k (fun kq v6 v8 w' => ∃ (x6_1 : List Int) (x8_1 : Int), v8 = .int .i64 x8_1 ∧ Aside0 (spec_l01Read.l0 kq a0 x6_1 t752 x8_1 = some (r1, r2)) ∧ Aside0 (kq ≤ k) ∧ Aside0 (Kd.R (Kd.int .i64) 2 w' w.heap.size (fun _ => True) v6 x6_1) ∧ Aside0 (Kd.R Kd.string 9 w' w.heap.size (fun _ => True) (.slice Ao10 t752.length co10) t752) ∧ Aside0 (Below w.heap.size w w'))
  case atStart => exact ⟨(y749), (wrap64 ((t752.length : Int) - 1)), ea_, H', ⟨Nat.le_refl _⟩, ⟨rs HO751⟩, ⟨rs HO754⟩, ⟨bs HB⟩⟩
  case round =>
   clear H'
   try clear p2
   try clear c3
   try clear c3b0
   try clear c3b1
   try clear c5
   try clear p6
   try clear c8
   obtain ⟨x6_1, x8_1, rfl, HA, HK1, HO_6, HO_7, HB⟩ := hrel
   cases gk with
   | zero => exact absurd HA.out (by simp [spec_l01Read.l0])
   | succ k1 =>
    have H := HA.out
    clear HA
    simp only [spec_l01Read.l0] at H
    by_cases c11 : x8_1 ≥ 0
    ·
     rw [if_pos c11] at H
     have c11b0 : decide (0 ≤ x8_1) = true := decide_eq_true c11
     clear c11
     by_cases c12 : 0 ≤ x8_1
     ·
      rw [if_pos c12] at H
      have c12b0 : decide (0 ≤ x8_1) = true := decide_eq_true c12
      clear c12
      by_cases c13 : x8_1 < (t752.length : Int)
      ·
       rw [if_pos c13] at H
       have c13b0 : decide (x8_1 < (t752.length : Int)) = true := decide_eq_true c13
       clear c13
       replace H := Option.bind_eq_some_iff.mp H
       obtain ⟨t756, A140, H⟩ := H
       have A14 := as0 A140
       clear A140
       by_cases c15 : x6_1.length < 17592186044416
       ·
        rw [if_pos c15] at H
        have LMc15 := as0 c15
        clear c15
        obtain ⟨y757, hy757⟩ : ∃ y_ : List Int, y_ = (x6_1 ++ [t756]) := ⟨_, rfl⟩
        replace H : (spec_l01Read.l0 k1 a0 y757 t752 (wrap64 (x8_1 - 1))) = some (r1, r2) := by first | (rw [hy757]; with_reducible exact H) | (have H2_ := (Option.bind_some _ _).symm.trans H; rw [hy757]; with_reducible exact H2_) | (have H2_ := (Option.bind_some _ _).symm.trans H; with_reducible exact H2_) | with_reducible exact H | (rw [hy757]; exact H) | exact H
        have Ny757 := as0 hy757
        clear hy757
        have H' := as0 H
        clear H
        have p755 : 0 ≤ (x8_1 : Int) := oa_
        have q755 : x8_1 < (t752.length : Int) := oa_
        obtain ⟨ad755, e755, hx755_0⟩ := Kd.at_string (Kd.R_reads' HO_7.out).2.2 x8_1 p755 q755
        cases e755
        replace p755 := eq_true p755
        replace q755 := eq_true q755
        go_wp2_with (first | ((with_reducible refine gate_callee (f := 85) rfl ?_); refine goesM_ (some 27) rfl rfl Tryz.func85 #[.string (rdOf ByteArray.empty t752 x8_1)] rfl ?_; (with_reducible refine (spec_l01Number.calls k1 (rdOf ByteArray.empty t752 x8_1) t756 _ A14.out).mono ?_); rintro e w' ⟨rfl, ⟨nd, rfl⟩⟩; refine ⟨_, rfl, ?_⟩) | ((with_reducible refine gate_builtin (b := .append) (xs := #[.tmp 22, .tmp 28]) rfl ?_); at_builtin; refine Kd.R_append (Kd.int .i64) (w0 := w) w.heap.size rfl (.tmp 22) (.tmp 28) 24 2 (.int .i64 0) 8 rfl Tryz.underlying24 info2 rfl (by decide) (by omega) u6 x6_1 t756 [.int .i64 t756] (fun _ => True) (fun _ => False) rfl rfl ?aP (fun _ hk => hk.elim) ?aF ?aO ?aB ?aS ?aL ?_; (case aP => exact rfl); (case aB => exact (bs HB)); (case aF => exact (fun _ _ => trivial)); (case aO => exact (rs HO_6)); (case aS => exact (below_size (bs HB))); (case aL => have := LMc15.out; omega); intro v758 w16 ho hb hg hat; rw [← Ny757.out] at ho; have n0_ := as0 (Kd.R_over' (rs HO_7) (Kd.R_typed (rs HO_6)) (by decide) hg); have n1_ := as0 (hb); have n2_ := as0 (ho); clear HO_7; clear HB; clear HO_6; have HO_7 := n0_; have HB := n1_; have HO759 := n2_; clear n0_ n1_ n2_; clear ho hb hg hat))
        go_roundg k1
        case measure => have := HK1.out; omega
        case rel => exact ⟨(y757), (wrap64 (x8_1 - 1)), ea_, H', ⟨by have := HK1.out; omega⟩, ⟨rs HO759⟩, ⟨rs HO_7⟩, ⟨bs HB⟩⟩
       ·
        rw [if_neg c15] at H
        exact absurd H (by simp)
      ·
       rw [if_neg c13] at H
       exact absurd H (by simp)
     ·
      rw [if_neg c12] at H
      exact absurd H (by simp)
    ·
     rw [if_neg c11] at H
     have c11b0 : decide (0 ≤ x8_1) = false := decide_eq_false c11
     clear c11
     replace H := Option.bind_eq_some_iff.mp H
     obtain ⟨t760, A170, H⟩ := H
     have A17 := as0 A170
     clear A170
     simp only [Option.some.injEq, Prod.mk.injEq] at H
     obtain ⟨rfl, rfl⟩ := H
     obtain ⟨Ao18, co18, eo18⟩ := Kd.R_slice HO_6.out
     subst eo18
     go_wp2_with (first | ((with_reducible refine gate_callee (f := 73) rfl ?_); refine goesM_ (some 33) rfl rfl Tryz.func73 #[.int .i64 a0, .slice Ao18 x6_1.length co18] rfl ?_; (with_reducible refine (spec_l01Poly.calls k1 a0 _ _ x6_1 t760 _ ?side1 ?side2 A17.out).mono ?_); (case side1 => exact cs ((Kd.R_reads' HO_6.out).2.2)); (case side2 => exact (Kd.R_reads' HO_6.out).2.1); rintro e w' ⟨rfl, ⟨nd, rfl⟩⟩; refine ⟨_, rfl, ?_⟩))
     go_ret2
     exact ⟨_, er_, rs HO_6, bs HB⟩
def spec_ParsePoly.f (k : Nat) (a0 : Int) (a1 : ByteArray) : Option (List Int × Int) := (spec_l01Prime.f k a0).bind fun t761 => (if t761 = true then ((spec_l01Read.f k a0 a1).bind fun bt762 => (if bt762.2 = true then (some (bt762.1, 0)) else (some (([] : List Int), 6)))) else (some (([] : List Int), 2)))
set_option maxHeartbeats 8000000 in
set_option maxRecDepth 100000 in
theorem spec_ParsePoly.calls (k : Nat) (a0 : Int) (a1 : ByteArray) (r1 : List Int) (r2 : Int) (w : World) (h : spec_ParsePoly.f k a0 a1 = some (r1, r2)) :
  Calls Tryz.prog 21 #[.int .i64 a0, .string a1] w fun e w' => ∃ v0_ : Value, e = .returned (.tuple #[v0_, .int .i64 r2]) ∧ Kd.R (Kd.int .i64) 2 w' w.heap.size (fun _ => True) v0_ r1 ∧ Below w.heap.size w w' := by
 have HB := as0 (Below.refl w.heap.size w)
 have H : ((spec_l01Prime.f k a0).bind fun t761 => (if t761 = true then ((spec_l01Read.f k a0 a1).bind fun bt762 => (if bt762.2 = true then (some (bt762.1, 0)) else (some (([] : List Int), 6)))) else (some (([] : List Int), 2)))) = some (r1, r2) := h
 clear h
 replace H := Option.bind_eq_some_iff.mp H
 obtain ⟨t761, A30, H⟩ := H
 have A3 := as0 A30
 clear A30
 by_cases c4 : t761 = true
 ·
  subst c4
  have H1 : ((spec_l01Read.f k a0 a1).bind fun bt762 => (if bt762.2 = true then (some (bt762.1, 0)) else (some (([] : List Int), 6)))) = some (r1, r2) := by rw [if_pos rfl] at H; exact H
  clear H
  have H := H1
  clear H1
  replace H := Option.bind_eq_some_iff.mp H
  obtain ⟨⟨t762, t763⟩, A50, H⟩ := H
  have A5 := as0 A50
  clear A50
  by_cases c6 : t763 = true
  ·
   subst c6
   have H1 : (some (t762, 0)) = some (r1, r2) := by rw [if_pos rfl] at H; exact H
   clear H
   have H := H1
   clear H1
   simp only [Option.some.injEq, Prod.mk.injEq] at H
   obtain ⟨rfl, rfl⟩ := H
   go_enter Tryz.func21, Tryz.ntmps21
   go_wp2_with (first | ((with_reducible refine gate_callee (f := 31) rfl ?_); refine goesM_ (some 9) rfl rfl Tryz.func31 #[.int .i64 a0] rfl ?_; (with_reducible refine (spec_l01Prime.calls k a0 true _ A3.out).mono ?_); rintro e w' ⟨rfl, ⟨nd, rfl⟩⟩; refine ⟨_, rfl, ?_⟩) | ((with_reducible refine gate_callee (f := 57) rfl ?_); refine goesM_ (some 14) rfl rfl Tryz.func57 #[.int .i64 a0, .string a1] rfl ?_; (with_reducible refine (spec_l01Read.calls k a0 a1 t762 true _ A5.out).mono ?_); rintro e w7 ⟨v764, rfl, ho0, hb⟩; refine ⟨_, rfl, ?_⟩; have n0_ := as0 (Kd.R_lower ho0 (below_size (bs HB))); have n1_ := as0 (below_step (bs HB) hb); clear HB; have HO765 := n0_; have HB := n1_; clear n0_ n1_; (try clear hb); (try clear hb2); (try clear hk); (try clear hi); (try clear ho0)))
   go_ret2
   exact ⟨_, er_, rs HO765, bs HB⟩
  ·
   replace c6 := Bool.eq_false_iff.mpr c6
   subst c6
   have H1 : (some (([] : List Int), 6)) = some (r1, r2) := by rw [if_neg (show ¬ (false = true) by decide)] at H; exact H
   clear H
   have H := H1
   clear H1
   simp only [Option.some.injEq, Prod.mk.injEq] at H
   obtain ⟨rfl, rfl⟩ := H
   go_enter Tryz.func21, Tryz.ntmps21
   go_wp2_with (first | ((with_reducible refine gate_callee (f := 31) rfl ?_); refine goesM_ (some 9) rfl rfl Tryz.func31 #[.int .i64 a0] rfl ?_; (with_reducible refine (spec_l01Prime.calls k a0 true _ A3.out).mono ?_); rintro e w' ⟨rfl, ⟨nd, rfl⟩⟩; refine ⟨_, rfl, ?_⟩) | ((with_reducible refine gate_callee (f := 57) rfl ?_); refine goesM_ (some 14) rfl rfl Tryz.func57 #[.int .i64 a0, .string a1] rfl ?_; (with_reducible refine (spec_l01Read.calls k a0 a1 t762 false _ A5.out).mono ?_); rintro e w8 ⟨v764, rfl, ho0, hb⟩; refine ⟨_, rfl, ?_⟩; have n0_ := as0 (Kd.R_lower ho0 (below_size (bs HB))); have n1_ := as0 (below_step (bs HB) hb); clear HB; have HO765 := n0_; have HB := n1_; clear n0_ n1_; (try clear hb); (try clear hb2); (try clear hk); (try clear hi); (try clear ho0)))
   go_ret2
   exact ⟨_, er_, by first | exact Kd.R_nil _ _ _ _ _ | exact Kd.N_nil _ _ _ _ _ | exact Kd.V_nil _ _ _ _ _ | exact Kd.Q_nil _ _ _ _ _ | exact Kd.S_nil _ _ _ _ _, bs HB⟩
 ·
  replace c4 := Bool.eq_false_iff.mpr c4
  subst c4
  have H1 : (some (([] : List Int), 2)) = some (r1, r2) := by rw [if_neg (show ¬ (false = true) by decide)] at H; exact H
  clear H
  have H := H1
  clear H1
  simp only [Option.some.injEq, Prod.mk.injEq] at H
  obtain ⟨rfl, rfl⟩ := H
  go_enter Tryz.func21, Tryz.ntmps21
  go_wp2_with (first | ((with_reducible refine gate_callee (f := 31) rfl ?_); refine goesM_ (some 9) rfl rfl Tryz.func31 #[.int .i64 a0] rfl ?_; (with_reducible refine (spec_l01Prime.calls k a0 false _ A3.out).mono ?_); rintro e w' ⟨rfl, ⟨nd, rfl⟩⟩; refine ⟨_, rfl, ?_⟩))
  go_ret2
  exact ⟨_, er_, by first | exact Kd.R_nil _ _ _ _ _ | exact Kd.N_nil _ _ _ _ _ | exact Kd.V_nil _ _ _ _ _ | exact Kd.Q_nil _ _ _ _ _ | exact Kd.S_nil _ _ _ _ _, bs HB⟩
def spec_DrawValueAt.f (k : Nat) (l0 : List Int) : Option (Int × List Int × Int) := (spec_l01From.f k l0).bind fun bt766 => ((spec_l01One.f k bt766.1 bt766.2.1 bt766.2.2).bind fun bt770 => ((spec_l01Near.f bt766.1 bt770.2.2.1 bt770.2.2.2 (mx (wrap64 (bt770.1 - 1)) 0)).bind fun bt776 => (some (bt770.1, bt770.2.1, bt776.1))))
set_option maxHeartbeats 8000000 in
set_option maxRecDepth 100000 in
theorem spec_DrawValueAt.calls (k : Nat) (A0 : Option Addr) (c0 : Nat) (l0 : List Int) (r1 : Int) (r2 : List Int) (r3 : Int) (w : World) (hr0 : Kd.C (Kd.int .u8) w A0 l0.length l0) (hc0 : l0.length ≤ c0) (h : spec_DrawValueAt.f k l0 = some (r1, r2, r3)) :
  Calls Tryz.prog 22 #[.slice A0 l0.length c0] w fun e w' => ∃ v1_ : Value, e = .returned (.tuple #[.int .i64 r1, v1_, .int .i64 r3]) ∧ Kd.R (Kd.int .i64) 2 w' w.heap.size (fun _ => True) v1_ r2 ∧ Below w.heap.size w w' := by
 have HR0 := as0 hr0
 have HC0 := as0 hc0
 clear hr0 hc0
 have HB := as0 (Below.refl w.heap.size w)
 have H : ((spec_l01From.f k l0).bind fun bt766 => ((spec_l01One.f k bt766.1 bt766.2.1 bt766.2.2).bind fun bt770 => ((spec_l01Near.f bt766.1 bt770.2.2.1 bt770.2.2.2 (mx (wrap64 (bt770.1 - 1)) 0)).bind fun bt776 => (some (bt770.1, bt770.2.1, bt776.1))))) = some (r1, r2, r3) := h
 clear h
 replace H := Option.bind_eq_some_iff.mp H
 obtain ⟨⟨t766, t767, t768⟩, A20, H⟩ := H
 have A2 := as0 A20
 clear A20
 replace H := Option.bind_eq_some_iff.mp H
 obtain ⟨⟨t770, t771, t774, t775⟩, A30, H⟩ := H
 have A3 := as0 A30
 clear A30
 obtain ⟨ji4, hji4⟩ : ∃ j_ : Int, (mx (wrap64 (t770 - 1)) 0) = j_ := ⟨_, rfl⟩
 replace H : ((spec_l01Near.f t766 t774 t775 (ji4)).bind fun bt776 => (some (t770, t771, bt776.1))) = some (r1, r2, r3) := by first | (rw [hji4] at H; exact H) | (simp only [hji4] at H ⊢; exact H)
 (try rw [hji4] at A2)
 (try rw [hji4] at A3)
 (try (have hji4l : 0 ≤ ji4 := by (rw [← hji4]; unfold mx; (repeat' split) <;> omega)))
 (try (have hji4m : 0 ≤ ji4 := by omega))
 have hji4_ : (if (wrap64 (t770 - 1)) < 0 then 0 else (wrap64 (t770 - 1))) = ji4 := hji4
 replace H := Option.bind_eq_some_iff.mp H
 obtain ⟨⟨t776, t777, t778⟩, A50, H⟩ := H
 have A5 := as0 A50
 clear A50
 simp only [Option.some.injEq, Prod.mk.injEq] at H
 obtain ⟨rfl, rfl, rfl⟩ := H
 go_enter Tryz.func22, Tryz.ntmps22
 go_wp2_with (first | ((with_reducible refine gate_callee (f := 24) rfl ?_); refine goesM_ (some 9) rfl rfl Tryz.func24 #[.slice A0 l0.length c0] rfl ?_; (with_reducible refine (spec_l01From.calls k _ _ l0 t766 t767 t768 w _ ?side1 ?side2 ?side3 A2.out).mono ?_); (case side1 => exact bs HB); (case side2 => exact HR0.out); (case side3 => exact HC0.out); rintro e w6 ⟨g769, rfl, hi, hb, hb2⟩; refine ⟨_, rfl, ?_⟩; have n0_ := as0 (hb); have n1_ := as0 (hi); clear HB; have HB := n0_; have HI769 := n1_; clear n0_ n1_; (try clear hb); (try clear hb2); (try clear hk); (try clear hi)) | ((with_reducible refine gate_callee (f := 38) rfl ?_); refine goesM_ (some 12) rfl rfl Tryz.func38 #[.pointer (some ⟨g769, 0, none⟩)] rfl ?_; (with_reducible refine (spec_l01One.calls k g769 t766 t767 t768 t770 t771 t774 t775 w _ ?side1 ?side2 A3.out).mono ?_); (case side1 => repeat (first | (with_reducible first | exact HI769.out | apply IsS77.alloc | apply IsS77.drewN | apply IsS77.drew | apply IsS77.set_1 | apply IsS77.set_2) | exact HI769.out)); (case side2 => repeat (first | (with_reducible first | exact HB.out | apply below_alloc | apply pw_below_drewN | apply below_drew1 | refine below_set ?_ (IsS77.ge HI769.out)) | exact HB.out)); rintro e w7 ⟨v772, rfl, ho0, hi, hb, hk⟩; refine ⟨_, rfl, ?_⟩; have n0_ := as0 (Kd.R_lower ho0 (below_size (by repeat (first | (with_reducible first | exact HB.out | apply below_alloc | apply pw_below_drewN | apply below_drew1 | refine below_set ?_ (IsS77.ge HI769.out)) | exact HB.out)))); have n1_ := as0 (hb); have n2_ := as0 (hi); clear HB; clear HI769; have HO773 := n0_; have HB := n1_; have HI769 := n2_; clear n0_ n1_ n2_; (try clear hb); (try clear hb2); (try clear hk); (try clear hi); (try clear ho0)) | ((with_reducible refine gate_callee (f := 39) rfl ?_); refine goesL_ (some 21) rfl rfl Tryz.func39 (by kernel_rfl) rfl #[.pointer (some ⟨g769, 0, none⟩), .int .i64 ji4] rfl (by (try simp only [List.map_toArray, List.map_cons, List.map_nil]); first | done | (simp only [hji4]; rfl) | rfl | (simp only [List.length_drop, List.length_take]; rfl)) ?_; (with_reducible refine (spec_l01Near.calls g769 t766 t774 t775 ji4 t776 t777 t778 w _ ?side1 ?side2 A5.out).mono ?_); (case side1 => repeat (first | (with_reducible first | exact HI769.out | apply IsS77.alloc | apply IsS77.drewN | apply IsS77.drew | apply IsS77.set_1 | apply IsS77.set_2) | exact HI769.out)); (case side2 => repeat (first | (with_reducible first | exact HB.out | apply below_alloc | apply pw_below_drewN | apply below_drew1 | refine below_set ?_ (IsS77.ge HI769.out)) | exact HB.out)); rintro e w8 ⟨rfl, hi, hb, hk⟩; refine ⟨_, rfl, ?_⟩; have n0_ := as0 (Kd.R_mono (Kd.R_keep (IsS77.apart (show IsS77 w _ g769 t766 t774 t775 from by repeat (first | (with_reducible first | exact HI769.out | apply IsS77.alloc | apply IsS77.drewN | apply IsS77.drew | apply IsS77.set_1 | apply IsS77.set_2) | exact HI769.out)) (rs HO773) (by decide)) hk (fun _ h => h.2)) (fun _ h => h.1)); have n1_ := as0 (hb); have n2_ := as0 (hi); clear HO773; clear HB; clear HI769; have HO773 := n0_; have HB := n1_; have HI769 := n2_; clear n0_ n1_ n2_; (try clear hb); (try clear hb2); (try clear hk); (try clear hi)))
 go_ret3
 exact ⟨_, by first | rfl | (simp [errW_none, errW_some] <;> rfl) | (simp only [← hji4]; first | rfl | (simp [errW_none, errW_some] <;> rfl)) | (simp [*, errW_none, errW_some] <;> rfl), rs HO773, by repeat (first | (with_reducible first | exact HB.out | apply below_alloc | apply pw_below_drewN | apply below_drew1 | refine below_set ?_ (IsS77.ge HI769.out)) | exact HB.out)⟩
def spec_ValueAt.j0 : Nat → Int → List Int → Int → Int → Bool → Option (Int × Int)
 | 0, _, _, _, _, _ => none
 | k + 1, x0, x1, x2, x8, x21 => if x21 = true then (some (0, 2)) else (if x8 = 0 then ((spec_l01At.f k x0 x1 x2).bind fun t784 => (some (t784, 0))) else (some (0, x8)))
def spec_ValueAt.f (k : Nat) (a0 : Int) (l1 : List Int) (a2 : Int) : Option (Int × Int) := (spec_l01Code.f k a0 (([l1] : List (List Int)))).bind fun t782 => (if t782 = 0 then ((spec_l01In.f a2 0 (wrap64 (a0 - 1))).bind fun t783 => (spec_ValueAt.j0 k a0 l1 a2 t782 (!t783))) else (spec_ValueAt.j0 k a0 l1 a2 t782 false))
set_option maxHeartbeats 8000000 in
set_option maxRecDepth 100000 in
theorem spec_ValueAt.calls (k : Nat) (a0 : Int) (P1_ : Nat → Prop) (A1 : Option Addr) (c1 : Nat) (l1 : List Int) (a2 : Int) (r1 : Int) (r2 : Int) (w : World) (hs1 : Kd.V (Kd.int .i64) 2 w w.heap.size (fun k_ => P1_ k_) (.slice A1 l1.length c1) l1) (h : spec_ValueAt.f k a0 l1 a2 = some (r1, r2)) :
  Calls Tryz.prog 23 #[.int .i64 a0, .slice A1 l1.length c1, .int .i64 a2] w fun e w' => e = .returned (.tuple #[.int .i64 r1, .int .i64 r2]) ∧ Below w.heap.size w w' := by
 have HO1 := as0 (show Kd.V (Kd.int .i64) 2 w w.heap.size (fun k_ => (P1_ k_ ∨ w.heap.size ≤ k_)) (.slice A1 l1.length c1) l1 from Kd.V_mono hs1 (fun k_ hk => .inl hk))
 have HB := as0 (Below.refl w.heap.size w)
 have H : ((spec_l01Code.f k a0 (([l1] : List (List Int)))).bind fun t782 => (if t782 = 0 then ((spec_l01In.f a2 0 (wrap64 (a0 - 1))).bind fun t783 => (spec_ValueAt.j0 k a0 l1 a2 t782 (!t783))) else (spec_ValueAt.j0 k a0 l1 a2 t782 false))) = some (r1, r2) := h
 clear h
 obtain ⟨y779, hy779⟩ : ∃ y_ : List (List Int), y_ = (([l1] : List (List Int))) := ⟨_, rfl⟩
 replace H : ((spec_l01Code.f k a0 y779).bind fun t782 => (if t782 = 0 then ((spec_l01In.f a2 0 (wrap64 (a0 - 1))).bind fun t783 => (spec_ValueAt.j0 k a0 l1 a2 t782 (!t783))) else (spec_ValueAt.j0 k a0 l1 a2 t782 false))) = some (r1, r2) := by first | (rw [hy779]; with_reducible exact H) | (have H2_ := (Option.bind_some _ _).symm.trans H; rw [hy779]; with_reducible exact H2_) | (have H2_ := (Option.bind_some _ _).symm.trans H; with_reducible exact H2_) | with_reducible exact H | (rw [hy779]; exact H) | exact H
 have Ny779 := as0 hy779
 clear hy779
 replace H := Option.bind_eq_some_iff.mp H
 obtain ⟨t782, A40, H⟩ := H
 have A4 := as0 A40
 clear A40
 have HC5 := as0 H
 clear H
 go_enter Tryz.func23, Tryz.ntmps23
 go_upto_region 2 with (first | ((with_reducible refine gate_dst (N := 11) rfl ?_); refine Kd.N_lit (Kd.slice 2 (Kd.int .i64)) _ 24 ?hg (N' := 11) ?hd (xs := ([l1] : List (List Int))) (inner := [.slice A1 l1.length c1]) (ok := (fun k_ => (P1_ k_ ∨ w.heap.size ≤ k_))) (okp := (fun k_ => (P1_ k_ ∨ w.heap.size ≤ k_))) ?hr ?hp (fun _ hk => hk) ((show ∀ k_, w.heap.size ≤ k_ → (fun k_ => (P1_ k_ ∨ w.heap.size ≤ k_)) k_ from fun k_ hk => (.inr (Nat.le_trans (below_size (bs HB)) hk))) _ (Nat.le_refl _)) (Below.refl _ _) (Nat.le_refl _) (by simp) ?_; (case hd => rfl); (case hg => rfl); (case hr => first | (go_simp; done) | (go_simp; rfl)); (case hp => exact (Reps.one (show Kd.FK (Kd.slice 2 (Kd.int .i64)) _ _ l1 [.slice A1 l1.length c1] from (Kd.FK_slice_mk (Kd.V_reads' (Kd.V_mono (ok' := (fun k_ => (P1_ k_ ∨ w.heap.size ≤ k_))) (HO1.out) (fun k_ hk => hk))).2.1 (Kd.V_F (Kd.V_mono (ok' := (fun k_ => (P1_ k_ ∨ w.heap.size ≤ k_))) (HO1.out) (fun k_ hk => hk))))) (Reps.none _ _))); intro v780 w6 ho7 hb hg_ hnew_; clear hg_ hnew_; (first | rw [← Ny779.out] at ho7 | (simp only [Int.reduceToNat] at ho7; rw [← Ny779.out] at ho7)); have n0_ := as0 (Kd.V_elder' (by (with_reducible repeat (first | apply Kd.V_alloc | apply Kd.V_drewN | apply Kd.V_drew)); exact HO1.out) (Kd.N_base ho7) hb); have n1_ := as0 (Kd.N_lower ho7 (below_size (bs HB))); have n2_ := as0 (below_step (bs HB) hb); clear HO1; clear HB; have HO1 := n0_; have HO781 := n1_; have HB := n2_; clear n0_ n1_ n2_; clear hb ho7; obtain ⟨Ao8, co8, eo8⟩ := Kd.N_slice HO781.out; subst eo8) | ((with_reducible refine gate_callee (f := 42) rfl ?_); refine goesM_ (some 12) rfl rfl Tryz.func42 #[.int .i64 a0, .slice Ao8 y779.length co8] rfl ?_; (with_reducible refine (spec_l01Code.calls k a0 _ _ y779 t782 _ ?side1 ?side2 A4.out).mono ?_); (case side1 => exact cs ((Kd.N_reads' HO781.out).2.2)); (case side2 => exact (Kd.N_reads' HO781.out).2.1); rintro e w' ⟨rfl, ⟨nd, rfl⟩⟩; refine ⟨_, rfl, ?_⟩))
 (try simp only [Act.put, List.setIfInBounds_toArray, List.set_cons_zero, List.set_cons_succ])
 go_cut [21] (fun v21 wc => ∃ (kq : Nat) (x21_4 : Bool), v21 = .bool x21_4 ∧ Aside0 (spec_ValueAt.j0 kq a0 l1 a2 t782 x21_4 = some (r1, r2)) ∧ Aside0 (kq ≤ k) ∧ Aside0 (Kd.V (Kd.int .i64) 2 wc w.heap.size (fun k_ => (P1_ k_ ∨ w.heap.size ≤ k_)) (.slice A1 l1.length c1) l1) ∧ Aside0 (Below w.heap.size w wc))
 case first =>
  have H := HC5.out
  clear HC5
  by_cases c9 : t782 = 0
  ·
   rw [if_pos c9] at H
   have c9b0 : (t782 == 0) = true := beq_iff_eq.mpr c9
   have c9b1 : (t782 != 0) = false := bne_eq_false_iff_eq.mpr c9
   clear c9
   (first | rw [c9b0] | (simp only [i64_w, i32_w]; rw [c9b0]) | skip)
   replace H := Option.bind_eq_some_iff.mp H
   obtain ⟨t783, A100, H⟩ := H
   have A10 := as0 A100
   clear A100
   have H' := as0 H
   clear H
   go_wp2_with (first | (go_at_call 43; (with_reducible refine (spec_l01In.calls a2 0 (wrap64 (a0 - 1)) t783 _ A10.out).mono ?_); rintro e w' ⟨rfl, ⟨nd, rfl⟩⟩))
   go_meet
   case rel => exact ⟨_, (!t783), ea_, H', ⟨by first | omega | exact Nat.le_refl _⟩, ⟨by (with_reducible repeat (first | apply Kd.V_alloc | apply Kd.V_drewN | apply Kd.V_drew)); exact Kd.V_mono HO1.out (fun _ hk => hk.1)⟩, ⟨bs HB⟩⟩
  ·
   rw [if_neg c9] at H
   have c9b0 : (t782 == 0) = false := beq_eq_false_iff_ne.mpr c9
   have c9b1 : (t782 != 0) = true := bne_iff_ne.mpr c9
   (first | rw [c9b0] | (simp only [i64_w, i32_w]; rw [c9b0]) | skip)
   have H' := as0 H
   clear H
   go_wp2
   go_meet
   case rel => exact ⟨_, (false), ea_, H', ⟨by first | omega | exact Nat.le_refl _⟩, ⟨by (with_reducible repeat (first | apply Kd.V_alloc | apply Kd.V_drewN | apply Kd.V_drew)); exact Kd.V_mono HO1.out (fun _ hk => hk.1)⟩, ⟨bs HB⟩⟩
 case rest =>
  clear HC5
  try clear c1
  try clear c2
  try clear p2
  try clear c4
  try clear p6
  try clear c9
  try clear c9b0
  try clear c9b1
  obtain ⟨kq, x21_4, rfl, HA, HJ4, HO_1, HB⟩ := hcut
  cases kq with
  | zero => exact absurd HA.out (by simp [spec_ValueAt.j0])
  | succ kj4 =>
   have H := HA.out
   clear HA
   simp only [spec_ValueAt.j0] at H
   by_cases c11 : x21_4 = true
   ·
    subst c11
    have H1 : (some (0, 2)) = some (r1, r2) := by rw [if_pos rfl] at H; exact H
    clear H
    have H := H1
    clear H1
    simp only [Option.some.injEq, Prod.mk.injEq] at H
    obtain ⟨rfl, rfl⟩ := H
    go_wp2
    go_ret2
    exact ⟨er_, bs HB⟩
   ·
    replace c11 := Bool.eq_false_iff.mpr c11
    subst c11
    have H1 : (if t782 = 0 then ((spec_l01At.f kj4 a0 l1 a2).bind fun t784 => (some (t784, 0))) else (some (0, t782))) = some (r1, r2) := by rw [if_neg (show ¬ (false = true) by decide)] at H; exact H
    clear H
    have H := H1
    clear H1
    by_cases c12 : t782 = 0
    ·
     rw [if_pos c12] at H
     have c12b0 : (t782 == 0) = true := beq_iff_eq.mpr c12
     have c12b1 : (t782 != 0) = false := bne_eq_false_iff_eq.mpr c12
     clear c12
     replace H := Option.bind_eq_some_iff.mp H
     obtain ⟨t784, A130, H⟩ := H
     have A13 := as0 A130
     clear A130
     simp only [Option.some.injEq, Prod.mk.injEq] at H
     obtain ⟨rfl, rfl⟩ := H
     go_wp2_with (first | ((with_reducible refine gate_callee (f := 58) rfl ?_); refine goesM_ (some 28) rfl rfl Tryz.func58 #[.int .i64 a0, .slice A1 l1.length c1, .int .i64 a2] rfl ?_; (with_reducible refine (spec_l01At.calls kj4 a0 _ _ l1 a2 t784 _ ?side1 ?side2 A13.out).mono ?_); (case side1 => exact cs ((Kd.V_reads' HO_1.out).2.2)); (case side2 => exact (Kd.V_reads' HO_1.out).2.1); rintro e w' ⟨rfl, ⟨nd, rfl⟩⟩; refine ⟨_, rfl, ?_⟩))
     go_ret2
     exact ⟨er_, bs HB⟩
    ·
     rw [if_neg c12] at H
     have c12b0 : (t782 == 0) = false := beq_eq_false_iff_ne.mpr c12
     have c12b1 : (t782 != 0) = true := bne_iff_ne.mpr c12
     simp only [Option.some.injEq, Prod.mk.injEq] at H
     obtain ⟨rfl, rfl⟩ := H
     go_wp2
     go_ret2
     exact ⟨er_, bs HB⟩
def pvA (k : Nat) (l0 : List Int) : Prop := ∃ (p : Int) (xs ys f : List Int) (er : Int), spec_DrawInterpolatePoly.f k l0 = some (p, xs, ys) ∧ impl_InterpolatePoly.f k p xs ys = some (f, er) ∧ spec_InterpolatePoly.f k p xs ys = some (f, er) ∧ laws_likeInts.f k f f = some true ∧ xs.length ≤ 1000 ∧ (er = 0 → f.length ≤ xs.length ∧ xs.length = ys.length ∧ ∀ i : Nat, i < xs.length → impl_ValueAt.f k p f (xs.getD i 0) = some (ys.getD i 0, 0))
def pvB (k : Nat) (l0 : List Int) : Prop := ∃ (q : Int) (g : List Int) (c : Int) (s : List Int) (er : Int), spec_DrawShiftPoly.f k l0 = some (q, g, c) ∧ impl_ShiftPoly.f k q g c = some (s, er) ∧ spec_ShiftPoly.f k q g c = some (s, er) ∧ laws_likeInts.f k s s = some true ∧ (er = 0 → q ≠ 0 ∧ impl_ShiftPoly.f k q s (Int.tmod (wrap64 (q - c)) q) = some (g, 0) ∧ laws_likeInts.f k g g = some true)
def pvC (k : Nat) (l0 : List Int) : Prop := ∃ (r : Int) (a b m : List Int) (er : Int), spec_DrawComposePolys.f k l0 = some (r, a, b) ∧ impl_ComposePolys.f k r a b = some (m, er) ∧ spec_ComposePolys.f k r a b = some (m, er) ∧ laws_likeInts.f k m m = some true ∧ (er = 0 → ∃ x y : Int, impl_ValueAt.f k r b 1 = some (x, 0) ∧ impl_ValueAt.f k r a x = some (y, 0) ∧ impl_ValueAt.f k r m 1 = some (y, 0))
def pvD (k : Nat) (l0 : List Int) : Prop := ∃ (s : Int) (h : List Int) (t : List UInt8) (er : Int), spec_DrawPolyText.f k l0 = some (s, h) ∧ ptA s h = (t, er) ∧ spec_PolyText.f k s h = some ((⟨t.toArray⟩ : ByteArray), er) ∧ (er = 0 → t.length ≤ 1000000 ∧ prA s t = (h, 0) ∧ laws_likeInts.f k h h = some true)
def pvE (k : Nat) (l0 : List Int) : Prop := ∃ (t : Int) (line : ByteArray) (rl : List Int) (er : Int) (u : Int) (f : List Int) (x v ev : Int), spec_DrawParsePoly.f k l0 = some (t, line) ∧ line.size ≤ 2147483648 ∧ prA t line.data.toList = (rl, er) ∧ spec_ParsePoly.f k t line = some (rl, er) ∧ laws_likeInts.f k rl rl = some true ∧ spec_DrawValueAt.f k l0 = some (u, f, x) ∧ impl_ValueAt.f k u f x = some (v, ev) ∧ spec_ValueAt.f k u f x = some (v, ev)
theorem ba_of_list (t : List UInt8) : (⟨t.toArray⟩ : ByteArray).data.toList = t := rfl
theorem ba_size_list (t : List UInt8) : (⟨t.toArray⟩ : ByteArray).size = t.length := by simp [ByteArray.size]
set_option maxHeartbeats 8000000 in
set_option maxRecDepth 100000 in
theorem laws_FnPolyValues.calls (k : Nat) (A0 : Option Addr) (c0 : Nat) (l0 : List Int) (mm : Int) (tp1 tp2 : TypeId) (p1 p2 : Value) (w : World) (hr0 : Kd.C (Kd.int .u8) w A0 l0.length l0) (hc0 : l0.length ≤ c0) (hl : laws_big.f l0 = some false)
  (hA : pvA k l0) (hBB : pvB k l0) (hCC : pvC k l0) (hD : pvD k l0) (hE : pvE k l0)
  (hm : w.cell? ⟨2, 0, none⟩ = some (.int .i64 mm)) (hsyn : w.var? Tryz.prog "strconv.ErrSyntax" = some #[.iface tp1 p1]) (hrng : w.var? Tryz.prog "strconv.ErrRange" = some #[.iface tp2 p2]) (htab : Lib.TabIs Tryz.prog w "internal/strconv.uint64pow10" .u64 Lib.pow10Tab) :
  Calls Tryz.prog 3 #[.slice A0 l0.length c0] w fun e w' => e = .returned (.bool true) ∧ Below w.heap.size w w' := by
 have HIP := fun (W : World) (hW : Below w.heap.size w W) (a : Int) (s : ByteArray) (rl : List Int) (er : Int) (hs : s.size ≤ 2147483648) (hp : prA a s.data.toList = (rl, er)) => impl_ParsePoly.calls a s rl er mm tp1 tp2 p1 p2 W hs hp (pw_cell_below hW hm) (var_below hsyn hW) (var_below hrng hW) (tab_below htab hW)
 have HIT := fun (W : World) (hW : Below w.heap.size w W) (a : Int) (A : Option Addr) (c : Nat) (l : List Int) (s : List UInt8) (er : Int) h1 h2 h3 => impl_PolyText.calls a A c l s er W h1 h2 h3 (tab_below htab hW)
 replace HIP := as0 HIP
 replace HIT := as0 HIT
 have HR0 := as0 hr0
 have HC0 := as0 hc0
 have HL := as0 hl
 have PA := as0 hA
 have PB := as0 hBB
 have PC := as0 hCC
 have PD := as0 hD
 have PE := as0 hE
 have HB := as0 (Below.refl w.heap.size w)
 clear hr0 hc0 hl hA hBB hCC hD hE hm hsyn hrng htab
 go_enter Tryz.func3, Tryz.ntmps3
 go_wp2_with fail
 go_at_call 4
 refine (laws_big.calls A0 c0 l0 false _ HR0.out HC0.out HL.out).mono ?_
 rintro e w1 ⟨rfl, dr⟩
 have b1 := dr.below
 clear dr
 have HB := as0 (below_step HB.out b1)
 clear b1 HL
 obtain ⟨p, xs, ys, f, er, hd, hi, hs, hq, hxl, hin⟩ := PA.out
 replace hd := as0 hd
 replace hi := as0 hi
 replace hs := as0 hs
 replace hq := as0 hq
 replace hxl := as0 hxl
 replace hin := as0 hin
 clear PA
 go_wp2_with fail
 go_at_call 5
 refine (spec_DrawInterpolatePoly.calls k A0 c0 l0 p xs ys _ (Kd.C_below HR0.out HB.out) HC0.out hd.out).mono ?_
 rintro e w2 ⟨vx, vy, rfl, ox, oy, b2⟩
 have HB := as0 (below_step HB.out b2)
 clear b2 hd
 obtain ⟨Ax, cx, eqx⟩ := Kd.R_slice ox
 subst eqx
 have Ox := as0 (Kd.R_mono (ok' := fun _ => True) ox (fun _ _ => trivial))
 clear ox
 obtain ⟨Ay, cy, eqy⟩ := Kd.R_slice oy
 subst eqy
 have Oy := as0 (Kd.R_mono (ok' := fun _ => True) oy (fun _ _ => trivial))
 clear oy
 go_wp2_with fail
 go_at_call 6
 refine (impl_InterpolatePoly.calls k p Ax cx xs Ay cy ys f er _ (Kd.R_reads' Ox.out).2.2 (Kd.R_reads' Ox.out).2.1 (Kd.R_reads' Oy.out).2.2 (Kd.R_reads' Oy.out).2.1 hi.out).mono ?_
 rintro e w3 ⟨vf, rfl, of_, b3⟩
 have Ox := as0 (Kd.R_below Ox.out b3)
 have Oy := as0 (Kd.R_below Oy.out b3)
 have HB := as0 (below_step HB.out b3)
 clear b3 hi
 obtain ⟨Af, cf, eqf⟩ := Kd.R_slice of_
 subst eqf
 have Of := as0 (Kd.R_mono (ok' := fun _ => True) of_ (fun _ _ => trivial))
 clear of_
 go_wp2_with fail
 go_at_call 7
 refine (spec_InterpolatePoly.calls k p Ax cx xs Ay cy ys f er _ (Kd.R_reads' Ox.out).2.2 (Kd.R_reads' Ox.out).2.1 (Kd.R_reads' Oy.out).2.2 (Kd.R_reads' Oy.out).2.1 hs.out).mono ?_
 rintro e w4 ⟨vg, rfl, og, b4⟩
 have Ox := as0 (Kd.R_below Ox.out b4)
 have Oy := as0 (Kd.R_below Oy.out b4)
 have Of := as0 (Kd.R_below Of.out b4)
 have HB := as0 (below_step HB.out b4)
 clear b4 hs
 obtain ⟨Ag, cg, eqg⟩ := Kd.R_slice og
 subst eqg
 have Og := as0 (Kd.R_mono (ok' := fun _ => True) og (fun _ _ => trivial))
 clear og
 have dn : (er != er) = false := bne_self_eq_false er
 go_wp2_with fail
 go_at_call 8
 refine (laws_likeInts.calls k Af cf f Ag cg f true _ (Kd.R_reads' Of.out).2.2 (Kd.R_reads' Of.out).2.1 (Kd.R_reads' Og.out).2.2 (Kd.R_reads' Og.out).2.1 hq.out).mono ?_
 rintro e w' ⟨rfl, dr⟩
 have bl := dr.below
 clear dr
 have Ox := as0 (Kd.R_below Ox.out bl)
 have Oy := as0 (Kd.R_below Oy.out bl)
 have Of := as0 (Kd.R_below Of.out bl)
 have HB := as0 (below_step HB.out bl)
 clear bl hq Og
 have hx1 := as0 (Kd.R_reads' Ox.out).2.2
 have hx2 := as0 (Kd.R_reads' Ox.out).2.1
 have hy1 := as0 (Kd.R_reads' Oy.out).2.2
 have hy2 := as0 (Kd.R_reads' Oy.out).2.1
 have hf1 := as0 (Kd.R_reads' Of.out).2.2
 have hf2 := as0 (Kd.R_reads' Of.out).2.1
 clear Ox Oy Of
 go_upto_if 88 with fail
 go_cut [] from 56 to 119 (fun wc => Aside0 (Below w.heap.size w wc))
 case first =>
  by_cases he : er = 0
  ·
   have d0 : (er == 0) = true := beq_iff_eq.mpr he
   have hz := hin.out he
   subst he
   clear hin
   obtain ⟨z1, z2, z3⟩ := hz
   replace z3 := as0 z3
   replace z2 := as0 z2
   have d1 : decide ((f.length : Int) > (xs.length : Int)) = false := decide_eq_false (by omega)
   have d1a : decide ((xs.length : Int) < (f.length : Int)) = false := decide_eq_false (by omega)
   have d1b : decide (xs.length < f.length) = false := decide_eq_false (by omega)
   clear z1
   go_wp2_with fail
   go_loopg [10] xs.length (fun kq v10 w5 => ∃ x10 : Int, v10 = .int .i64 x10 ∧ Aside0 (0 ≤ x10) ∧ Aside0 (x10 + kq = xs.length) ∧ Aside0 (Below w'.heap.size w' w5))
   case atStart => exact ⟨0, rfl, ⟨Int.le_refl 0⟩, ⟨by omega⟩, ⟨Below.refl _ _⟩⟩
   case round =>
    obtain ⟨x10, rfl, X0, X1, BW⟩ := hrel
    cases gk with
    | zero =>
     have hx10 : x10 = (xs.length : Int) := by have := X1.out; simpa using this
     subst hx10
     have dt : decide ((xs.length : Int) < (xs.length : Int)) = false := decide_eq_false (by omega)
     have dt2 : decide (xs.length < xs.length) = false := decide_eq_false (by omega)
     go_wp2_with fail
     go_meet
     case rel => exact ⟨below_step HB.out BW.out⟩
    | succ k1 =>
     have hlt : x10 < (xs.length : Int) := by have := X1.out; omega
     have h0 : 0 ≤ x10 := X0.out
     have hlty : x10 < (ys.length : Int) := by have := z2.out; omega
     have dt : decide (x10 < (xs.length : Int)) = true := decide_eq_true hlt
     have hv := z3.out x10.toNat (by omega)
     replace hv := as0 hv
     obtain ⟨adx, ex, hcx⟩ := Kd.at_int (Kd.C_below hx1.out BW.out) x10 h0 hlt
     obtain ⟨ady, ey, hcy0⟩ := Kd.at_int hy1.out x10 h0 hlty
     replace hcy0 := as0 hcy0
     cases ex
     cases ey
     have P10 := eq_true h0
     have Q10 := eq_true hlt
     have Q10y := eq_true hlty
     have HLT := as0 hlt
     clear h0 hlt hlty
     go_wp2_with fail
     go_at_call 9
     refine (impl_ValueAt.calls k p Af cf f (rd xs x10) (rd ys x10) 0 _ (Kd.C_below hf1.out BW.out) hf2.out hv.out).mono ?_
     rintro e w6 ⟨rfl, b6⟩
     have BW := as0 (below_step BW.out b6)
     clear b6 hv hcx
     obtain ⟨ady2, ey2, hcy⟩ := Kd.at_int (Kd.C_below hy1.out BW.out) x10 X0.out (by have := z2.out; have := HLT.out; omega)
     cases ey2
     have dv : ((rd ys x10) != (rd ys x10)) = false := bne_self_eq_false _
     clear hcy0
     go_wp2_with fail
     go_roundg k1
     case measure => have := X1.out; omega
     case rel => exact ⟨wrap64 (x10 + 1), rfl, ⟨by rw [Num.w64 (by have := X0.out; omega) (by have := X1.out; have := hxl.out; omega)]; have := X0.out; omega⟩, ⟨by rw [Num.w64 (by have := X0.out; omega) (by have := X1.out; have := hxl.out; omega)]; have := X1.out; omega⟩, BW⟩
  ·
   have d0 : (er == 0) = false := beq_eq_false_iff_ne.mpr he
   clear hin
   go_wp2_with fail
   go_meet
   case rel => exact HB
 case rest => as_aux_lemma =>
  as_aux_lemma =>
   have HB := hcut
   clear hcut
   obtain ⟨q, g, c, s, er, hd, hi, hs, hq, hin⟩ := PB.out
   replace hd := as0 hd
   replace hi := as0 hi
   replace hs := as0 hs
   replace hq := as0 hq
   replace hin := as0 hin
   clear PB
   go_wp2_with fail
   go_at_call 10
   refine (spec_DrawShiftPoly.calls k A0 c0 l0 q g c _ (Kd.C_below HR0.out HB.out) HC0.out hd.out).mono ?_
   rintro e w2 ⟨vx, rfl, ox, b2⟩
   have HB := as0 (below_step HB.out b2)
   clear b2 hd
   obtain ⟨Ax, cx, eqx⟩ := Kd.R_slice ox
   subst eqx
   have Ox := as0 (Kd.R_mono (ok' := fun _ => True) ox (fun _ _ => trivial))
   clear ox
   go_wp2_with fail
   go_at_call 11
   refine (impl_ShiftPoly.calls k q Ax cx g c s er _ (Kd.R_reads' Ox.out).2.2 (Kd.R_reads' Ox.out).2.1 hi.out).mono ?_
   rintro e w3 ⟨vf, rfl, of_, b3⟩
   have Ox := as0 (Kd.R_below Ox.out b3)
   have HB := as0 (below_step HB.out b3)
   clear b3 hi
   obtain ⟨Af, cf, eqf⟩ := Kd.R_slice of_
   subst eqf
   have Of := as0 (Kd.R_mono (ok' := fun _ => True) of_ (fun _ _ => trivial))
   clear of_
   go_wp2_with fail
   go_at_call 12
   refine (spec_ShiftPoly.calls k q _ Ax cx g c s er _ (Kd.R_V Ox.out) hs.out).mono ?_
   rintro e w4 ⟨vg, rfl, og, b4⟩
   have Ox := as0 (Kd.R_below Ox.out b4)
   have Of := as0 (Kd.R_below Of.out b4)
   have HB := as0 (below_step HB.out b4)
   clear b4 hs
   obtain ⟨Ag, cg, eqg⟩ := Kd.R_slice og
   subst eqg
   have Og := as0 (Kd.R_mono (ok' := fun _ => True) og (fun _ _ => trivial))
   clear og
   have dn : (er != er) = false := bne_self_eq_false er
   go_wp2_with fail
   go_at_call 8
   refine (laws_likeInts.calls k Af cf s Ag cg s true _ (Kd.R_reads' Of.out).2.2 (Kd.R_reads' Of.out).2.1 (Kd.R_reads' Og.out).2.2 (Kd.R_reads' Og.out).2.1 hq.out).mono ?_
   rintro e w' ⟨rfl, dr⟩
   have bl := dr.below
   clear dr
   have Ox := as0 (Kd.R_below Ox.out bl)
   have Of := as0 (Kd.R_below Of.out bl)
   have HB := as0 (below_step HB.out bl)
   clear bl hq Og
   go_upto_if 150 with fail
   go_cut [] from 120 to 169 (fun wc => Aside0 (Below w.heap.size w wc))
   case first =>
    by_cases he : er = 0
    ·
     have d0 : (er == 0) = true := beq_iff_eq.mpr he
     have hz := hin.out he
     subst he
     clear hin
     obtain ⟨z1, z2, z3⟩ := hz
     replace z2 := as0 z2
     replace z3 := as0 z3
     have dz : (q == 0) = false := beq_eq_false_iff_ne.mpr z1
     have dz2 : (q = 0) = False := eq_false z1
     clear z1
     go_wp2_with fail
     go_at_call 11
     refine (impl_ShiftPoly.calls k q Af cf s (Int.tmod (wrap64 (q - c)) q) g 0 _ (Kd.R_reads' Of.out).2.2 (Kd.R_reads' Of.out).2.1 z2.out).mono ?_
     rintro e w5 ⟨vh, rfl, oh, b5⟩
     have Ox := as0 (Kd.R_below Ox.out b5)
     have HB := as0 (below_step HB.out b5)
     clear b5 z2 Of
     obtain ⟨Ah, ch, eqh⟩ := Kd.R_slice oh
     subst eqh
     have Oh := as0 (Kd.R_mono (ok' := fun _ => True) oh (fun _ _ => trivial))
     clear oh
     go_wp2_with fail
     go_at_call 8
     refine (laws_likeInts.calls k Ah ch g Ax cx g true _ (Kd.R_reads' Oh.out).2.2 (Kd.R_reads' Oh.out).2.1 (Kd.R_reads' Ox.out).2.2 (Kd.R_reads' Ox.out).2.1 z3.out).mono ?_
     rintro e w' ⟨rfl, dr⟩
     have bl := dr.below
     clear dr
     have HB := as0 (below_step HB.out bl)
     clear bl z3 Ox Oh
     go_wp2_with fail
     go_meet
     case rel => exact HB
    ·
     have d0 : (er == 0) = false := beq_eq_false_iff_ne.mpr he
     clear hin
     go_wp2_with fail
     go_meet
     case rel => exact HB
   case rest => as_aux_lemma =>
    as_aux_lemma =>
     have HB := hcut
     clear hcut
     obtain ⟨r, a, b, m, er, hd, hi, hs, hq, hin⟩ := PC.out
     replace hd := as0 hd
     replace hi := as0 hi
     replace hs := as0 hs
     replace hq := as0 hq
     replace hin := as0 hin
     clear PC
     go_wp2_with fail
     go_at_call 13
     refine (spec_DrawComposePolys.calls k A0 c0 l0 r a b _ (Kd.C_below HR0.out HB.out) HC0.out hd.out).mono ?_
     rintro e w2 ⟨vx, vy, rfl, ox, oy, b2⟩
     have HB := as0 (below_step HB.out b2)
     clear b2 hd
     obtain ⟨Ax, cx, eqx⟩ := Kd.R_slice ox
     subst eqx
     have Ox := as0 (Kd.R_mono (ok' := fun _ => True) ox (fun _ _ => trivial))
     clear ox
     obtain ⟨Ay, cy, eqy⟩ := Kd.R_slice oy
     subst eqy
     have Oy := as0 (Kd.R_mono (ok' := fun _ => True) oy (fun _ _ => trivial))
     clear oy
     go_wp2_with fail
     go_at_call 14
     refine (impl_ComposePolys.calls k r Ax cx a Ay cy b m er _ (Kd.R_reads' Ox.out).2.2 (Kd.R_reads' Ox.out).2.1 (Kd.R_reads' Oy.out).2.2 (Kd.R_reads' Oy.out).2.1 hi.out).mono ?_
     rintro e w3 ⟨vf, rfl, of_, b3⟩
     have Ox := as0 (Kd.R_below Ox.out b3)
     have Oy := as0 (Kd.R_below Oy.out b3)
     have HB := as0 (below_step HB.out b3)
     clear b3 hi
     obtain ⟨Af, cf, eqf⟩ := Kd.R_slice of_
     subst eqf
     have Of := as0 (Kd.R_mono (ok' := fun _ => True) of_ (fun _ _ => trivial))
     clear of_
     go_wp2_with fail
     go_at_call 15
     refine (spec_ComposePolys.calls k r _ Ax cx a _ Ay cy b m er _ (Kd.R_V Ox.out) (Kd.R_V Oy.out) hs.out).mono ?_
     rintro e w4 ⟨vg, rfl, og, b4⟩
     have Ox := as0 (Kd.R_below Ox.out b4)
     have Oy := as0 (Kd.R_below Oy.out b4)
     have Of := as0 (Kd.R_below Of.out b4)
     have HB := as0 (below_step HB.out b4)
     clear b4 hs
     obtain ⟨Ag, cg, eqg⟩ := Kd.R_slice og
     subst eqg
     have Og := as0 (Kd.R_mono (ok' := fun _ => True) og (fun _ _ => trivial))
     clear og
     have dn : (er != er) = false := bne_self_eq_false er
     go_wp2_with fail
     go_at_call 8
     refine (laws_likeInts.calls k Af cf m Ag cg m true _ (Kd.R_reads' Of.out).2.2 (Kd.R_reads' Of.out).2.1 (Kd.R_reads' Og.out).2.2 (Kd.R_reads' Og.out).2.1 hq.out).mono ?_
     rintro e w' ⟨rfl, dr⟩
     have bl := dr.below
     clear dr
     have Ox := as0 (Kd.R_below Ox.out bl)
     have Oy := as0 (Kd.R_below Oy.out bl)
     have Of := as0 (Kd.R_below Of.out bl)
     have HB := as0 (below_step HB.out bl)
     clear bl hq Og
     go_upto_if 200 with fail
     go_cut [] from 170 to 234 (fun wc => Aside0 (Below w.heap.size w wc))
     case first =>
      by_cases he : er = 0
      ·
       have d0 : (er == 0) = true := beq_iff_eq.mpr he
       have hz := hin.out he
       subst he
       clear hin
       obtain ⟨x, y, z1, z2, z3⟩ := hz
       replace z1 := as0 z1
       replace z2 := as0 z2
       replace z3 := as0 z3
       have dv : (y != y) = false := bne_self_eq_false y
       go_wp2_with fail
       go_at_call 9
       refine (impl_ValueAt.calls k r Ay cy b 1 x 0 _ (Kd.R_reads' Oy.out).2.2 (Kd.R_reads' Oy.out).2.1 z1.out).mono ?_
       rintro e w5 ⟨rfl, b5⟩
       have Ox := as0 (Kd.R_below Ox.out b5)
       have Of := as0 (Kd.R_below Of.out b5)
       have HB := as0 (below_step HB.out b5)
       clear b5 z1 Oy
       go_wp2_with fail
       go_at_call 9
       refine (impl_ValueAt.calls k r Ax cx a x y 0 _ (Kd.R_reads' Ox.out).2.2 (Kd.R_reads' Ox.out).2.1 z2.out).mono ?_
       rintro e w6 ⟨rfl, b6⟩
       have Of := as0 (Kd.R_below Of.out b6)
       have HB := as0 (below_step HB.out b6)
       clear b6 z2 Ox
       go_wp2_with fail
       go_at_call 9
       refine (impl_ValueAt.calls k r Af cf m 1 y 0 _ (Kd.R_reads' Of.out).2.2 (Kd.R_reads' Of.out).2.1 z3.out).mono ?_
       rintro e w7 ⟨rfl, b7⟩
       have HB := as0 (below_step HB.out b7)
       clear b7 z3 Of
       go_wp2_with fail
       go_meet
       case rel => exact HB
      ·
       have d0 : (er == 0) = false := beq_eq_false_iff_ne.mpr he
       clear hin
       go_wp2_with fail
       go_meet
       case rel => exact HB
     case rest => as_aux_lemma =>
      as_aux_lemma =>
       have HB := hcut
       clear hcut
       obtain ⟨s, h, t, er, hd, hi, hs, hin⟩ := PD.out
       replace hd := as0 hd
       replace hi := as0 hi
       replace hs := as0 hs
       replace hin := as0 hin
       clear PD
       obtain ⟨bt, hbt⟩ : ∃ bt : ByteArray, bt = ⟨t.toArray⟩ := ⟨_, rfl⟩
       have HI2 := fun (W : World) (hW : Below w.heap.size w W) (A : Option Addr) (c : Nat) h1 h2 => HIT.out W hW s A c h t er h1 h2 hi.out
       rw [← hbt] at HI2
       replace HI2 := as0 HI2
       have HBT := as0 hbt
       clear hbt hi HIT
       go_wp2_with fail
       go_at_call 16
       refine (spec_DrawPolyText.calls k A0 c0 l0 s h _ (Kd.C_below HR0.out HB.out) HC0.out hd.out).mono ?_
       rintro e w2 ⟨vx, rfl, ox, b2⟩
       have HB := as0 (below_step HB.out b2)
       clear b2 hd
       obtain ⟨Ax, cx, eqx⟩ := Kd.R_slice ox
       subst eqx
       have Ox := as0 (Kd.R_mono (ok' := fun _ => True) ox (fun _ _ => trivial))
       clear ox
       go_wp2_with fail
       go_at_call 17
       refine (HI2.out _ HB.out Ax cx (Kd.R_reads' Ox.out).2.2 (Kd.R_reads' Ox.out).2.1).mono ?_
       rintro e w3 ⟨rfl, b3⟩
       have Ox := as0 (Kd.R_below Ox.out b3)
       have HB := as0 (below_step HB.out b3)
       clear b3 HI2
       go_wp2_with fail
       go_at_call 18
       refine (spec_PolyText.calls k s _ Ax cx h bt er _ (Kd.R_V Ox.out) (by rw [HBT.out]; exact hs.out)).mono ?_
       rintro e w4 ⟨rfl, b4⟩
       have Ox := as0 (Kd.R_below Ox.out b4)
       have HB := as0 (below_step HB.out b4)
       clear b4 hs
       have dn : (er != er) = false := bne_self_eq_false er
       go_upto_if 261 with fail
       go_cut [] from 235 to 275 (fun wc => Aside0 (Below w.heap.size w wc))
       case first =>
        by_cases he : er = 0
        ·
         have d0 : (er == 0) = true := beq_iff_eq.mpr he
         have hz := hin.out he
         subst he
         clear hin
         obtain ⟨z1, z2, z3⟩ := hz
         replace z2 := as0 z2
         replace z3 := as0 z3
         replace z1 := as0 z1
         go_wp2_with fail
         go_at_call 19
         refine (HIP.out _ HB.out s bt h 0 (by rw [HBT.out, ba_size_list]; have := z1.out; omega) (by rw [HBT.out, ba_of_list]; exact z2.out)).mono ?_
         rintro e w5 ⟨vh, rfl, oh, b5⟩
         have Ox := as0 (Kd.R_below Ox.out b5)
         have HB := as0 (below_step HB.out b5)
         clear b5 z2 z1
         obtain ⟨Ah, ch, eqh⟩ := Kd.R_slice oh
         subst eqh
         have Oh := as0 (Kd.R_mono (ok' := fun _ => True) oh (fun _ _ => trivial))
         clear oh
         go_wp2_with fail
         go_at_call 8
         refine (laws_likeInts.calls k Ah ch h Ax cx h true _ (Kd.R_reads' Oh.out).2.2 (Kd.R_reads' Oh.out).2.1 (Kd.R_reads' Ox.out).2.2 (Kd.R_reads' Ox.out).2.1 z3.out).mono ?_
         rintro e w' ⟨rfl, dr⟩
         have bl := dr.below
         clear dr
         have HB := as0 (below_step HB.out bl)
         clear bl z3 Ox Oh
         go_wp2_with fail
         go_meet
         case rel => exact HB
        ·
         have d0 : (er == 0) = false := beq_eq_false_iff_ne.mpr he
         clear hin
         go_wp2_with fail
         go_meet
         case rel => exact HB
       case rest => as_aux_lemma =>
        as_aux_lemma =>
         have HB := hcut
         clear hcut
         obtain ⟨t, line, rl, er, u, f, x, v, ev, hd, hsz, hi, hs, hq, hd2, hi2, hs2⟩ := PE.out
         replace hd := as0 hd
         replace hsz := as0 hsz
         replace hi := as0 hi
         replace hs := as0 hs
         replace hq := as0 hq
         replace hd2 := as0 hd2
         replace hi2 := as0 hi2
         replace hs2 := as0 hs2
         clear PE
         go_wp2_with fail
         go_at_call 20
         refine (spec_DrawParsePoly.calls k A0 c0 l0 t line _ (Kd.C_below HR0.out HB.out) HC0.out hd.out).mono ?_
         rintro e w2 ⟨rfl, b2⟩
         have HB := as0 (below_step HB.out b2)
         clear b2 hd
         go_wp2_with fail
         go_at_call 19
         refine (HIP.out _ HB.out t line rl er hsz.out hi.out).mono ?_
         rintro e w3 ⟨vf, rfl, of_, b3⟩
         have HB := as0 (below_step HB.out b3)
         clear b3 hi
         obtain ⟨Af, cf, eqf⟩ := Kd.R_slice of_
         subst eqf
         have Of := as0 (Kd.R_mono (ok' := fun _ => True) of_ (fun _ _ => trivial))
         clear of_
         go_wp2_with fail
         go_at_call 21
         refine (spec_ParsePoly.calls k t line rl er _ hs.out).mono ?_
         rintro e w4 ⟨vg, rfl, og, b4⟩
         have Of := as0 (Kd.R_below Of.out b4)
         have HB := as0 (below_step HB.out b4)
         clear b4 hs
         obtain ⟨Ag, cg, eqg⟩ := Kd.R_slice og
         subst eqg
         have Og := as0 (Kd.R_mono (ok' := fun _ => True) og (fun _ _ => trivial))
         clear og
         go_wp2_with fail
         go_at_call 22
         refine (spec_DrawValueAt.calls k A0 c0 l0 u f x _ (Kd.C_below HR0.out HB.out) HC0.out hd2.out).mono ?_
         rintro e w5 ⟨vx, rfl, ox, b5⟩
         have Of := as0 (Kd.R_below Of.out b5)
         have Og := as0 (Kd.R_below Og.out b5)
         have HB := as0 (below_step HB.out b5)
         clear b5 hd2
         obtain ⟨Ax, cx, eqx⟩ := Kd.R_slice ox
         subst eqx
         have Ox := as0 (Kd.R_mono (ok' := fun _ => True) ox (fun _ _ => trivial))
         clear ox
         go_wp2_with fail
         go_at_call 9
         refine (impl_ValueAt.calls k u Ax cx f x v ev _ (Kd.R_reads' Ox.out).2.2 (Kd.R_reads' Ox.out).2.1 hi2.out).mono ?_
         rintro e w6 ⟨rfl, b6⟩
         have Of := as0 (Kd.R_below Of.out b6)
         have Og := as0 (Kd.R_below Og.out b6)
         have Ox := as0 (Kd.R_below Ox.out b6)
         have HB := as0 (below_step HB.out b6)
         clear b6 hi2
         go_wp2_with fail
         go_at_call 23
         refine (spec_ValueAt.calls k u _ Ax cx f x v ev _ (Kd.R_V Ox.out) hs2.out).mono ?_
         rintro e w7 ⟨rfl, b7⟩
         have Of := as0 (Kd.R_below Of.out b7)
         have Og := as0 (Kd.R_below Og.out b7)
         have HB := as0 (below_step HB.out b7)
         clear b7 hs2 Ox
         have dn : (er == er) = true := beq_self_eq_true er
         have de : (ev == ev) = true := beq_self_eq_true ev
         have dv : (v == v) = true := beq_self_eq_true v
         go_wp2_with fail
         go_at_call 8
         refine (laws_likeInts.calls k Af cf rl Ag cg rl true _ (Kd.R_reads' Of.out).2.2 (Kd.R_reads' Of.out).2.1 (Kd.R_reads' Og.out).2.2 (Kd.R_reads' Og.out).2.1 hq.out).mono ?_
         rintro e w' ⟨rfl, dr⟩
         have bl := dr.below
         clear dr
         have HB := as0 (below_step HB.out bl)
         clear bl hq Of Og
         go_wp2_with fail
         go_ret
         exact ⟨rfl, HB.out⟩
def laws_FnPolyValues.Pure : Prop := ∀ (l0 : List Int), l0.length ≤ 4096 → (∀ x ∈ l0, 0 ≤ x ∧ x ≤ 255) → ∃ k, pvA k l0 ∧ pvB k l0 ∧ pvC k l0 ∧ pvD k l0 ∧ pvE k l0
set_option maxHeartbeats 8000000 in
set_option maxRecDepth 100000 in
theorem laws_FnPolyValues.walk (P : laws_FnPolyValues.Pure) (a0 : Option Addr) (len0 cap0 : Nat) (z0 : List Int) (w : World) (w0 : (a0 = none ∧ len0 = 0 ∧ cap0 = 0 ∧ z0 = []) ∨ ∃ x, a0 = some x ∧ len0 ≤ cap0 ∧ cap0 ≤ maxLen ∧ z0.length = cap0 ∧ (∀ i, i < z0.length → w.cell? (x.add i) = some (.int .u8 (z0.getD i 0))) ∧ ∀ n ∈ z0, (Lit.int .u8 n).wf = true) (mm : Int) (tp1 tp2 : TypeId) (p1 p2 : Value)
  (hm : w.cell? ⟨2, 0, none⟩ = some (.int .i64 mm)) (hsyn : w.var? Tryz.prog "strconv.ErrSyntax" = some #[.iface tp1 p1]) (hrng : w.var? Tryz.prog "strconv.ErrRange" = some #[.iface tp2 p2]) (htab : Lib.TabIs Tryz.prog w "internal/strconv.uint64pow10" .u64 Lib.pow10Tab) :
  Calls Tryz.prog 3 #[.slice a0 len0 cap0] w fun e w' => e = .returned (.bool true) ∧ Below w.heap.size w w' := by
 obtain ⟨l0, rfl, hr0, hm0, hw0, hc0⟩ := ReadsInt.ofRowC w0
 have hR := Kd.C_of_reads (d := (0 : Int)) (h1 := fun _ => rfl) hr0
 by_cases hl : l0.length ≤ 4096
 ·
  have hby : ∀ x ∈ l0, 0 ≤ x ∧ x ≤ 255 := fun x hx => by
   have h2 := hw0 x hx
   simp [Lit.wf, IntKind.min, IntKind.max, IntKind.signed, IntKind.bits] at h2
   omega
  obtain ⟨k, hA, hB, hC, hD, hE⟩ := P l0 hl hby
  have hbig : laws_big.f l0 = some false := by
   unfold laws_big.f
   rw [decide_eq_false (by omega)]
  exact laws_FnPolyValues.calls k _ _ l0 mm tp1 tp2 p1 p2 w hR hc0 hbig hA hB hC hD hE hm hsyn hrng htab
 ·
  have hbig : laws_big.f l0 = some true := by
   unfold laws_big.f
   rw [decide_eq_true (by omega)]
  have HR0 := as0 hR
  have HC0 := as0 hc0
  have HL := as0 hbig
  clear hl w0 hr0 hm0 hw0 hc0 hm hsyn hrng htab P hR hbig
  go_enter Tryz.func3, Tryz.ntmps3
  go_wp2_with fail
  go_at_call 4
  refine (laws_big.calls _ _ l0 true _ HR0.out HC0.out HL.out).mono ?_
  rintro e w1 ⟨rfl, dr⟩
  have HB := as0 dr.below
  clear dr
  go_wp2_with fail
  go_ret
  exact ⟨rfl, HB.out⟩
end Go.Proofs.YtmadpicanmjhhaaGreatDoor.H
