/- Joined texts of a claim: the printed functions and what is proved of them. -/
import Derived.Test.YtlmolloallhclaaYHx0
import Derived.Test.YtlmolloallhclaaMa2
import Derived.Test.YtlmolloallhclaaMa1
namespace Go.Proofs.Ytlmolloallhclaa.H
open Go.RowKit Go.Proofs.YtlmolloallhclaaW.PrintWords Go.Proofs.YtlmolloallhclaaW.PrintLast Go.Proofs.YtlmolloallhclaaW.PrintMore
attribute [local go_sem] max2_int min2_int max_two min_two max_three min_three max_four min_four   -- for this text's walks alone
set_option linter.unusedVariables false
set_option linter.unusedSimpArgs false
def spec_l01Trim.l0 : Nat → List Int → Int → Option (List Int)
 | 0, _, _ => none
 | k + 1, x0, x3 => if x3 > 0 then (if 0 ≤ (wrap64 (x3 - 1)) then (if (wrap64 (x3 - 1)) < (x0.length : Int) then (if (rd x0 (wrap64 (x3 - 1))) = 0 then (spec_l01Trim.l0 k x0 (wrap64 (x3 - 1))) else (if 0 ≤ x3 then (if x3 ≤ (x0.length : Int) then ((spec_l01Own.f (x0.take (x3 : Int).toNat)).bind fun t118 => (some t118)) else (none)) else (none))) else (none)) else (none)) else (if 0 ≤ x3 then (if x3 ≤ (x0.length : Int) then ((spec_l01Own.f (x0.take (x3 : Int).toNat)).bind fun t122 => (some t122)) else (none)) else (none))
def spec_l01Trim.f (k : Nat) (l0 : List Int) : Option (List Int) := spec_l01Trim.l0 k l0 (l0.length : Int)
set_option maxHeartbeats 8000000 in
set_option maxRecDepth 100000 in
theorem spec_l01Trim.calls (k : Nat) (A0 : Option Addr) (c0 : Nat) (l0 : List Int) (r : List Int) (w : World) (hr0 : Kd.C (Kd.int .i64) w A0 l0.length l0) (hc0 : l0.length ≤ c0) (h : spec_l01Trim.f k l0 = some r) :
  Calls Try.prog 82 #[.slice A0 l0.length c0] w fun e w' => ∃ v0_ : Value, e = .returned (v0_) ∧ Kd.R (Kd.int .i64) 2 w' w.heap.size (fun _ => True) v0_ r ∧ Below w.heap.size w w' := by
 have HR0 := as0 hr0
 have HC0 := as0 hc0
 clear hr0 hc0
 have HB := as0 (Below.refl w.heap.size w)
 have H : (spec_l01Trim.l0 k l0 (l0.length : Int)) = some r := h
 clear h
 have H' := as0 H
 clear H
 go_enter Try.func82, Try.ntmps82
 go_wp2
 go_loopg [3] k (fun kq v3 w' => ∃ (x3_1 : Int), v3 = .int .i64 x3_1 ∧ Aside0 (spec_l01Trim.l0 kq l0 x3_1 = some r) ∧ Aside0 (kq ≤ k) ∧ Aside0 (Below w.heap.size w w'))
 case atStart => exact ⟨((l0.length : Int)), ea_, H', ⟨Nat.le_refl _⟩, ⟨bs HB⟩⟩
 case round =>
  clear H'
  obtain ⟨x3_1, rfl, HA, HK1, HB⟩ := hrel
  cases gk with
  | zero => exact absurd HA.out (by simp [spec_l01Trim.l0])
  | succ k1 =>
   have H := HA.out
   clear HA
   simp only [spec_l01Trim.l0] at H
   by_cases c2 : x3_1 > 0
   ·
    rw [if_pos c2] at H
    have c2b0 : decide (0 < x3_1) = true := decide_eq_true c2
    clear c2
    obtain ⟨ji3, hji3⟩ : ∃ j_ : Int, (wrap64 (x3_1 - 1)) = j_ := ⟨_, rfl⟩
    replace H : (if 0 ≤ (ji3) then (if (ji3) < (l0.length : Int) then (if (rd l0 (ji3)) = 0 then (spec_l01Trim.l0 k1 l0 ji3) else (if 0 ≤ x3_1 then (if x3_1 ≤ (l0.length : Int) then ((spec_l01Own.f (l0.take (x3_1 : Int).toNat)).bind fun t118 => (some t118)) else (none)) else (none))) else (none)) else (none)) = some r := by first | (rw [hji3] at H; exact H) | (simp only [hji3] at H ⊢; exact H)
    have hji3w : (IntKind.i64.wrap (x3_1 - 1)) = ji3 := (i64_w _).trans hji3
    by_cases c4 : 0 ≤ (ji3)
    ·
     rw [if_pos c4] at H
     have c4b0 : decide (0 ≤ (ji3)) = true := decide_eq_true c4
     clear c4
     by_cases c5 : (ji3) < (l0.length : Int)
     ·
      rw [if_pos c5] at H
      have c5b0 : decide ((ji3) < (l0.length : Int)) = true := decide_eq_true c5
      clear c5
      by_cases c6 : (rd l0 (ji3)) = 0
      ·
       rw [if_pos c6] at H
       have c6b0 : ((rd l0 (ji3)) == 0) = true := beq_iff_eq.mpr c6
       have c6b1 : ((rd l0 (ji3)) != 0) = false := bne_eq_false_iff_eq.mpr c6
       clear c6
       have H' := as0 H
       clear H
       have p116 : 0 ≤ ((ji3) : Int) := oa_
       have q116 : (ji3) < (l0.length : Int) := oa_
       obtain ⟨ad116, e116, hx116_0⟩ := Kd.at_int HR0.out (ji3) p116 q116
       cases e116
       replace hx116_0 := (HB.out.cell (World.block_lt_of_cell? w _ hx116_0)).trans hx116_0
       replace p116 := eq_true p116
       replace q116 := eq_true q116
       go_wp2
       go_roundg k1
       case measure => have := HK1.out; omega
       case rel => exact ⟨(ji3), (by first | rfl | (simp; done) | (simp only [← hji3] <;> (first | rfl | simp)) | (simp [*]; done)), H', ⟨by have := HK1.out; omega⟩, ⟨bs HB⟩⟩
      ·
       rw [if_neg c6] at H
       have c6b0 : ((rd l0 (ji3)) == 0) = false := beq_eq_false_iff_ne.mpr c6
       have c6b1 : ((rd l0 (ji3)) != 0) = true := bne_iff_ne.mpr c6
       by_cases c7 : 0 ≤ x3_1
       ·
        rw [if_pos c7] at H
        have c7b0 := eq_true c7
        have c7b1 : decide (0 ≤ x3_1) = true := decide_eq_true c7
        clear c7
        by_cases c8 : x3_1 ≤ (l0.length : Int)
        ·
         rw [if_pos c8] at H
         have c8b0 := eq_true c8
         have c8b1 : decide (x3_1 ≤ (l0.length : Int)) = true := decide_eq_true c8
         clear c8
         replace H := Option.bind_eq_some_iff.mp H
         obtain ⟨t118, A90, H⟩ := H
         have A9 := as0 A90
         clear A90
         obtain rfl := Option.some.inj H
         have p116 : 0 ≤ ((ji3) : Int) := oa_
         have q116 : (ji3) < (l0.length : Int) := oa_
         obtain ⟨ad116, e116, hx116_0⟩ := Kd.at_int HR0.out (ji3) p116 q116
         cases e116
         replace hx116_0 := (HB.out.cell (World.block_lt_of_cell? w _ hx116_0)).trans hx116_0
         replace p116 := eq_true p116
         replace q116 := eq_true q116
         obtain ⟨i010, hi010, _, hsz10, _⟩ := info_parts info2
         obtain ⟨hcut10, hA10, hC10⟩ := print_take_of (P := Try.prog) (Value.int .i64) 0 22 2 .i64 Try.underlying22 hi010 hsz10 (some ad116) c0 l0 x3_1 (oa_) (oa_) HC0.out
         have HR117 := as0 (Kd.C_of_reads (h1 := fun _ => rfl) (hA10 _ (Kd.reads_of_C HR0.out)))
         have HC117 := as0 hC10
         clear hA10 hC10 hi010 hsz10
         go_wp2_with (first | ((with_reducible refine gate_callee (f := 81) rfl ?_); refine goesL_ (some 21) rfl rfl Try.func81 (by kernel_rfl) rfl #[.slice (some ad116) (l0.take (x3_1 : Int).toNat).length c0] rfl (by (try simp only [List.map_toArray, List.map_cons, List.map_nil]); first | done | (rw [show (l0.take (x3_1 : Int).toNat).length = x3_1.toNat from (by rw [List.length_take]; have h_ : (x3_1 : Int) ≤ (l0.length : Int) := oa_; omega)] <;> rfl) | rfl | (simp only [List.length_drop, List.length_take]; rfl)) ?_; (with_reducible refine (spec_l01Own.calls _ _ (l0.take (x3_1 : Int).toNat) t118 _ ?side1 ?side2 A9.out).mono ?_); (case side1 => exact cs ((Kd.C_below HR117.out HB.out))); (case side2 => exact HC117.out); rintro e w11 ⟨v119, rfl, ho0, hb⟩; refine ⟨_, rfl, ?_⟩; have n0_ := as0 (Kd.R_lower ho0 (below_size (bs HB))); have n1_ := as0 (below_step (bs HB) hb); clear HB; have HO120 := n0_; have HB := n1_; clear n0_ n1_; (try clear hb); (try clear hb2); (try clear hk); (try clear hi); (try clear ho0)))
         go_ret
         exact ⟨_, by first | rfl | (simp [errW_none, errW_some] <;> rfl) | (simp only [← hji3]; first | rfl | (simp [errW_none, errW_some] <;> rfl)) | (simp [*, errW_none, errW_some] <;> rfl), rs HO120, bs HB⟩
        ·
         rw [if_neg c8] at H
         exact absurd H (by simp)
       ·
        rw [if_neg c7] at H
        exact absurd H (by simp)
     ·
      rw [if_neg c5] at H
      exact absurd H (by simp)
    ·
     rw [if_neg c4] at H
     exact absurd H (by simp)
   ·
    rw [if_neg c2] at H
    have c2b0 : decide (0 < x3_1) = false := decide_eq_false c2
    clear c2
    by_cases c12 : 0 ≤ x3_1
    ·
     rw [if_pos c12] at H
     have c12b0 := eq_true c12
     have c12b1 : decide (0 ≤ x3_1) = true := decide_eq_true c12
     clear c12
     by_cases c13 : x3_1 ≤ (l0.length : Int)
     ·
      rw [if_pos c13] at H
      have c13b0 := eq_true c13
      have c13b1 : decide (x3_1 ≤ (l0.length : Int)) = true := decide_eq_true c13
      clear c13
      replace H := Option.bind_eq_some_iff.mp H
      obtain ⟨t122, A140, H⟩ := H
      have A14 := as0 A140
      clear A140
      obtain rfl := Option.some.inj H
      obtain ⟨i015, hi015, _, hsz15, _⟩ := info_parts info2
      obtain ⟨hcut15, hA15, hC15⟩ := print_take_of (P := Try.prog) (Value.int .i64) 0 22 2 .i64 Try.underlying22 hi015 hsz15 A0 c0 l0 x3_1 (oa_) (oa_) HC0.out
      have HR121 := as0 (Kd.C_of_reads (h1 := fun _ => rfl) (hA15 _ (Kd.reads_of_C HR0.out)))
      have HC121 := as0 hC15
      clear hA15 hC15 hi015 hsz15
      go_wp2_with (first | ((with_reducible refine gate_callee (f := 81) rfl ?_); refine goesL_ (some 21) rfl rfl Try.func81 (by kernel_rfl) rfl #[.slice A0 (l0.take (x3_1 : Int).toNat).length c0] rfl (by (try simp only [List.map_toArray, List.map_cons, List.map_nil]); first | done | (rw [show (l0.take (x3_1 : Int).toNat).length = x3_1.toNat from (by rw [List.length_take]; have h_ : (x3_1 : Int) ≤ (l0.length : Int) := oa_; omega)] <;> rfl) | rfl | (simp only [List.length_drop, List.length_take]; rfl)) ?_; (with_reducible refine (spec_l01Own.calls _ _ (l0.take (x3_1 : Int).toNat) t122 _ ?side1 ?side2 A14.out).mono ?_); (case side1 => exact cs ((Kd.C_below HR121.out HB.out))); (case side2 => exact HC121.out); rintro e w16 ⟨v123, rfl, ho0, hb⟩; refine ⟨_, rfl, ?_⟩; have n0_ := as0 (Kd.R_lower ho0 (below_size (bs HB))); have n1_ := as0 (below_step (bs HB) hb); clear HB; have HO124 := n0_; have HB := n1_; clear n0_ n1_; (try clear hb); (try clear hb2); (try clear hk); (try clear hi); (try clear ho0)))
      go_ret
      exact ⟨_, er_, rs HO124, bs HB⟩
     ·
      rw [if_neg c13] at H
      exact absurd H (by simp)
    ·
     rw [if_neg c12] at H
     exact absurd H (by simp)
end Go.Proofs.Ytlmolloallhclaa.H
set_option linter.unusedVariables false
set_option linter.unusedSimpArgs false
namespace Go.Proofs.Ytlmolloallhclaa.H
open Go.RowKit Go.Proofs.YtlmolloallhclaaW.PrintWords Go.Proofs.YtlmolloallhclaaW.PrintLast Go.Proofs.Ytlmolloallhclaa.Num
theorem spec_prime (p : Int) : Ev (fun k => spec_l01Prime.f k p) (primeB p) := by
 refine ⟨200, fun k hk => ?_⟩
 unfold spec_l01Prime.f spec_l01In.f
 by_cases h1 : p ≥ 2
 ·
  by_cases h2 : p ≤ 10007
  ·
   obtain ⟨b, hb, hiff⟩ := prime_loop spec_l01Prime.l0 p h1 h2 (fun k i => rfl) 102 k 2 (by omega) (by omega) (by omega) (by omega)
   simp only [if_pos h1, Option.bind_some, decide_eq_true h2, if_true, hb, primeB_loop h1 h2 hiff]
  ·
   simp [if_pos h1, decide_eq_false h2, primeB_hi h2]
 ·
  simp [if_neg h1, primeB_lo h1]
theorem impl_prime (p : Int) : Ev (fun k => impl_IsPrime.f k p) (primeB p) := by
 refine ⟨200, fun k hk => ?_⟩
 unfold impl_IsPrime.f impl_within.f
 by_cases h1 : 2 ≤ p
 ·
  by_cases h2 : p ≤ 10007
  ·
   obtain ⟨b, hb, hiff⟩ := prime_loop impl_IsPrime.l0 p h1 h2 (fun k i => rfl) 102 k 2 (by omega) (by omega) (by omega) (by omega)
   simp only [if_pos h1, Option.bind_some, decide_eq_true h2, if_true, hb, primeB_loop h1 h2 hiff]
  ·
   simp [if_pos h1, decide_eq_false h2, primeB_hi h2]
 ·
  simp [if_neg h1, primeB_lo h1]
theorem spec_mod {p x : Int} (hp : 0 < p) (hp2 : p ≤ 1000000000) : spec_l01Mod.f p x = some (x % p) := by
 unfold spec_l01Mod.f; rw [if_neg (by omega), md hp hp2]
theorem impl_mod {p x : Int} (hp : 0 < p) (hp2 : p ≤ 1000000000) : impl_field_mod.f p x = some (x % p) := by
 unfold impl_field_mod.f; rw [if_neg (by omega), md hp hp2]
theorem impl_mul {p x y : Int} (hp : 0 < p) (hp2 : p ≤ 1000000000) (h1 : -9223372036854775808 ≤ x * y) (h2 : x * y ≤ 9223372036854775807) : impl_field_mul.f p x y = some (x * y % p) := by
 unfold impl_field_mul.f; rw [impl_mod hp hp2, w64 h1 h2]; rfl
theorem spec_power {p x e : Int} (hp : 2 ≤ p) (hp2 : p ≤ 10007) (e0 : 0 ≤ e) (e1 : e ≤ 1000000000) : Ev (fun k => spec_l01Power.f k p x e) (x ^ e.toNat % p) := by
 refine ⟨e.toNat + 2, fun k hk => ?_⟩
 have hb := emod_bd (x := x) (p := p) (by omega)
 simp only [spec_l01Power.f, spec_mod (show 0 < p by omega) (show p ≤ 1000000000 by omega), Option.bind_some]
 rw [pow_loop spec_l01Power.l0 (fun p out => some (Int.tmod out p)) (fun y => Int.tmod y p) p hp (by omega) (fun y hy => tmod_nn hy) (fun k e out x => by
   simp only [spec_l01Power.l0, if_neg (show ¬ p = 0 by omega)]) (e.toNat + 1) k e 1 (x % p) (by omega) (by omega) e0 e1 (by omega) (by omega) hb.1 hb.2]
 rw [Int.one_mul, pow_emod, tmod_nn (emod_bd (by omega)).1, Int.emod_emod]
theorem impl_power {p x e : Int} (hp : 2 ≤ p) (hp2 : p ≤ 10007) (x0 : 0 ≤ x) (x1 : x < p) (e0 : 0 ≤ e) (e1 : e ≤ 1000000000) : Ev (fun k => impl_field_power.f k p x e) (x ^ e.toNat % p) := by
 refine ⟨e.toNat + 2, fun k hk => ?_⟩
 simp only [impl_field_power.f, impl_mod (show 0 < p by omega) (show p ≤ 1000000000 by omega), Option.bind_some]
 rw [Int.emod_eq_of_lt (a := 1) (by omega) (by omega)]
 rw [pow_loop (fun k p e out x => impl_field_power.l0 k p x e out) (fun p out => some out) (fun y => y % p) p hp (by omega) (fun y hy => rfl) (fun k e out x => by
   simp only [impl_field_power.l0, impl_field_mul.f, impl_mod (show 0 < p by omega) (show p ≤ 1000000000 by omega), Option.bind_some]) (e.toNat + 1) k e 1 x (by omega) (by omega) e0 e1 (by omega) (by omega) x0 x1]
 rw [Int.one_mul]
theorem spec_inverse {p x : Int} (hp : 2 ≤ p) (hp2 : p ≤ 10007) : Ev (fun k => spec_l01Inverse.f k p x) (x ^ (p - 2).toNat % p) := by
 obtain ⟨K, h⟩ := spec_power (x := x) (e := p - 2) hp hp2 (by omega) (by omega)
 refine ⟨K, fun k hk => ?_⟩
 have hw : wrap64 (p - 2) = p - 2 := w64 (by omega) (by omega)
 have e := h k hk
 simp only at e
 simp only [spec_l01Inverse.f, hw, e, Option.bind_some]
theorem impl_inverse {p x : Int} (hp : 2 ≤ p) (hp2 : p ≤ 10007) (x0 : 0 ≤ x) (x1 : x < p) : Ev (fun k => impl_field_inverse.f k p x) (x ^ (p - 2).toNat % p) := by
 obtain ⟨K, h⟩ := impl_power (x := x) (e := p - 2) hp hp2 x0 x1 (by omega) (by omega)
 refine ⟨K, fun k hk => ?_⟩
 have hw : wrap64 (p - 2) = p - 2 := w64 (by omega) (by omega)
 have e := h k hk
 simp only at e
 simp only [impl_field_inverse.f, hw, e, Option.bind_some]
theorem hasB_iff {p x : Int} : hasB p x = true ↔ 0 ≤ x ∧ x < p := by unfold hasB; simp
theorem poly_loop (p : Int) (l : List Int) (hl : l.length ≤ 1000000000) (d : Nat) : ∀ (k i : Nat), i + d = l.length → d < k → spec_l01Poly.l0 k p l (i : Int) = some ((l.drop i).all (hasB p) && (decide (l.length ≤ 25) && (decide (l.length = 0) || decide (rd l ((l.length : Int) - 1) ≠ 0)))) := by
 induction d with
 | zero =>
  intro k i h1 hk
  obtain ⟨k, rfl⟩ : ∃ m, k = m + 1 := ⟨k - 1, by omega⟩
  simp only [spec_l01Poly.l0]
  rw [if_neg (by omega), List.drop_of_length_le (by omega)]
  by_cases h25 : l.length ≤ 25
  ·
   rw [if_pos (by omega)]
   by_cases h0 : l.length = 0
   ·
    rw [if_pos (by omega)]; simp [h0]
   ·
    have hw : wrap64 ((l.length : Int) - 1) = (l.length : Int) - 1 := w64 (by omega) (by omega)
    rw [if_neg (by omega), hw, if_pos (by omega), if_pos (by omega)]
    simp [h25, h0, bne]
    rfl
  ·
   rw [if_neg (by omega)]; simp [h25]
 | succ d ih =>
  intro k i h1 hk
  obtain ⟨k, rfl⟩ : ∃ m, k = m + 1 := ⟨k - 1, by omega⟩
  simp only [spec_l01Poly.l0]
  rw [if_pos (by omega), if_pos (by omega), rd_lt l i (by omega), wn (by omega), ih k (i + 1) (by omega) (by omega), List.drop_eq_getElem_cons (show i < l.length by omega), List.all_cons]
  by_cases h0 : l[i] < 0
  ·
   rw [if_pos h0]; simp [hasB]; omega
  ·
   rw [if_neg h0]
   by_cases hp : l[i] ≥ p
   ·
    rw [if_pos hp]; simp [hasB]; omega
   ·
    rw [if_neg hp]
    have : hasB p l[i] = true := hasB_iff.2 (by omega)
    rw [this, Bool.true_and]
theorem spec_poly (p : Int) (l : List Int) (hl : l.length ≤ 1000000000) : Ev (fun k => spec_l01Poly.f k p l) (polyB p l) := by
 refine ⟨l.length + 2, fun k hk => ?_⟩
 unfold spec_l01Poly.f
 have h := poly_loop p l hl l.length k 0 (by omega) (by omega)
 simp only [Int.natCast_zero, List.drop_zero] at h
 show spec_l01Poly.l0 k p l 0 = _
 rw [h]
 unfold polyB
 cases decide (l.length ≤ 25) <;> simp [Bool.and_comm]
structure Po (p : Int) (l : List Int) : Prop where
 len : l.length ≤ 25
 el : ∀ x ∈ l, 0 ≤ x ∧ x < p
 last : l.length = 0 ∨ rd l ((l.length : Int) - 1) ≠ 0
theorem polyB_iff {p : Int} {l : List Int} : polyB p l = true ↔ Po p l := by
 unfold polyB
 simp only [Bool.and_eq_true, Bool.or_eq_true, decide_eq_true_eq, List.all_eq_true, hasB_iff]
 exact ⟨fun ⟨⟨a, b⟩, c⟩ => ⟨a, b, c⟩, fun h => ⟨⟨h.len, h.el⟩, h.last⟩⟩
noncomputable def codeL (p : Int) (b : Bool) (ls : List (List Int)) : Int := if ls.all (polyB p) = true then (if (primeB p && b) = true then 0 else 2) else 1
theorem code_loop (p : Int) (ls : List (List Int)) (hl : ls.length ≤ 1000000000) (hls : ∀ l ∈ ls, l.length ≤ 1000000000) (K : Nat) (hK : ∀ l ∈ ls, ∀ k, K ≤ k → spec_l01Poly.f k p l = some (polyB p l)) (hP : ∀ k, K ≤ k → spec_l01Prime.f k p = some (primeB p)) (d : Nat) :
  ∀ (k i : Nat), i + d = ls.length → K + d < k → spec_l01Code.l0 k p ls (i : Int) = some (codeL p true (ls.drop i)) := by
 induction d with
 | zero =>
  intro k i h1 hk
  obtain ⟨k, rfl⟩ : ∃ m, k = m + 1 := ⟨k - 1, by omega⟩
  simp only [spec_l01Code.l0]
  rw [if_neg (by omega), List.drop_of_length_le (by omega), hP k (by omega)]
  simp [codeL]
  cases primeB p <;> simp
 | succ d ih =>
  intro k i h1 hk
  obtain ⟨k, rfl⟩ : ∃ m, k = m + 1 := ⟨k - 1, by omega⟩
  simp only [spec_l01Code.l0]
  have hrd : rd_L1 ls (i : Int) = ls[i]'(by omega) := by
   simp [rd_L1, List.getD_eq_getElem?_getD, show i < ls.length by omega]
  rw [if_pos (by omega), if_pos (by omega), hrd, hK _ (List.getElem_mem _) k (by omega), Option.bind_some, wn (by omega), ih k (i + 1) (by omega) (by omega), List.drop_eq_getElem_cons (show i < ls.length by omega)]
  cases hq : polyB p (ls[i]'(by omega)) with
  | true => simp only [codeL, List.all_cons, hq, Bool.true_and, if_true]
  | false => simp [codeL, List.all_cons, hq, -List.getElem_cons_drop]
theorem spec_code (p : Int) (ls : List (List Int)) (hl : ls.length ≤ 1000000) (hls : ∀ l ∈ ls, l.length ≤ 1000000000) : Ev (fun k => spec_l01Code.f k p ls) (codeL p true ls) := by
 obtain ⟨K1, h1⟩ : ∃ K, ∀ l ∈ ls, ∀ k, K ≤ k → spec_l01Poly.f k p l = some (polyB p l) := by
  clear hl
  induction ls with
  | nil => exact ⟨0, fun l hl => by simp at hl⟩
  | cons a ls ih =>
   obtain ⟨K, h⟩ := ih (fun l hl => hls l (by simp [hl]))
   obtain ⟨K', h'⟩ := spec_poly p a (hls a (by simp))
   refine ⟨K + K', fun l hl k hk => ?_⟩
   rcases List.mem_cons.1 hl with rfl | hl
   ·
    exact h' k (by omega)
   ·
    exact h l hl k (by omega)
 obtain ⟨K2, h2⟩ := spec_prime p
 refine ⟨K1 + K2 + ls.length + 2, fun k hk => ?_⟩
 unfold spec_l01Code.f
 exact code_loop p ls (by omega) hls (K1 + K2) (fun l hl k hk => h1 l hl k (by omega)) (fun k hk => h2 k (by omega)) ls.length k 0 (by omega) (by omega)
theorem impl_code1 (p : Int) (b : Bool) (l : List Int) : Ev (fun k => impl_polyCode_1.f k p b l) (codeL p b [l]) := by
 obtain ⟨K, h⟩ := impl_prime p
 refine ⟨K, fun k hk => ?_⟩
 have e := h k hk
 simp only at e
 simp only [impl_polyCode_1.f, codeL, e, Option.bind_some, List.all_cons, List.all_nil, Bool.and_true]
 split <;> rfl
theorem impl_code2 (p : Int) (b : Bool) (l l' : List Int) : Ev (fun k => impl_polyCode_2.f k p b l l') (codeL p b [l, l']) := by
 obtain ⟨K, h⟩ := impl_prime p
 refine ⟨K, fun k hk => ?_⟩
 have e := h k hk
 simp only at e
 simp only [impl_polyCode_2.f, codeL, e, Option.bind_some, List.all_cons, List.all_nil, Bool.and_true]
 split <;> rfl
theorem codeL_0 {p : Int} {b : Bool} {ls : List (List Int)} (h : codeL p b ls = 0) : IsP p ∧ b = true ∧ ∀ l ∈ ls, Po p l := by
 unfold codeL at h
 split at h
 ·
  split at h
  ·
   rename_i h1 h2
   simp only [Bool.and_eq_true] at h2
   exact ⟨primeB_iff.1 h2.1, h2.2, fun l hl => polyB_iff.1 (List.all_eq_true.1 h1 l hl)⟩
  ·
   cases h
 ·
  cases h
def tlen (l : List Int) : Nat → Nat
 | 0 => 0
 | n + 1 => if l.getD n 0 = 0 then tlen l n else n + 1
def trimL (l : List Int) : List Int := l.take (tlen l l.length)
theorem tlen_le (l : List Int) : ∀ n, tlen l n ≤ n
 | 0 => Nat.le_refl _
 | n + 1 => by unfold tlen; split; (have := tlen_le l n; omega); omega
theorem tlen_take (l : List Int) (m : Nat) : ∀ n, n ≤ m → tlen (l.take m) n = tlen l n
 | 0, _ => rfl
 | n + 1, h => by
  have e : (l.take m).getD n 0 = l.getD n 0 := by simp [List.getD_eq_getElem?_getD, show n < m by omega]
  unfold tlen
  rw [e, tlen_take l m n (by omega)]
theorem own_some (l : List Int) (h : l.length < 17592186044416) : spec_l01Own.f l = some l := by
 simp [spec_l01Own.f, h]
theorem specTrim_loop (l : List Int) (hl : l.length ≤ 1000000000) : ∀ (n k : Nat), n ≤ l.length → n < k → spec_l01Trim.l0 k l (n : Int) = some (l.take (tlen l n))
 | 0, k, h, hk => by
  obtain ⟨k, rfl⟩ : ∃ m, k = m + 1 := ⟨k - 1, by omega⟩
  simp only [spec_l01Trim.l0]
  rw [if_neg (by omega), if_pos (by omega), if_pos (by omega), own_some _ (by rw [List.length_take]; omega)]
  simp [tlen]
 | n + 1, k, h, hk => by
  obtain ⟨k, rfl⟩ : ∃ m, k = m + 1 := ⟨k - 1, by omega⟩
  simp only [spec_l01Trim.l0]
  have hw : wrap64 (((n + 1 : Nat) : Int) - 1) = (n : Int) := by rw [w64 (by omega) (by omega)]; omega
  rw [if_pos (by omega), hw, if_pos (by omega), if_pos (by omega), rd_nat]
  by_cases h0 : l.getD n 0 = 0
  ·
   rw [if_pos h0, specTrim_loop l hl n k (by omega) (by omega)]
   simp only [tlen, if_pos h0]
  ·
   rw [if_neg h0, if_pos (by omega), if_pos (by omega), own_some _ (by rw [List.length_take]; omega), Int.toNat_natCast]
   simp only [tlen, if_neg h0, Option.bind_some]
theorem spec_trim (l : List Int) (hl : l.length ≤ 1000000000) : Ev (fun k => spec_l01Trim.f k l) (trimL l) :=
 ⟨l.length + 2, fun k hk => specTrim_loop l hl l.length k (Nat.le_refl _) (by omega)⟩
theorem implTrim_loop : ∀ (n k : Nat) (l : List Int), l.length = n → n ≤ 1000000000 → n < k → impl_trimmed.l0 k l = some (trimL l)
 | 0, k, l, h, hl, hk => by
  obtain ⟨k, rfl⟩ : ∃ m, k = m + 1 := ⟨k - 1, by omega⟩
  simp only [impl_trimmed.l0]
  rw [if_neg (by omega)]
  simp [trimL, h, List.eq_nil_of_length_eq_zero h]
 | n + 1, k, l, h, hl, hk => by
  obtain ⟨k, rfl⟩ : ∃ m, k = m + 1 := ⟨k - 1, by omega⟩
  simp only [impl_trimmed.l0]
  have hw : wrap64 ((l.length : Int) - 1) = (n : Int) := by rw [w64 (by omega) (by omega)]; omega
  rw [if_pos (by omega), hw, if_pos (by omega), if_pos (by omega), rd_nat, Int.toNat_natCast]
  by_cases h0 : l.getD n 0 = 0
  ·
   rw [if_pos h0, if_pos (by omega), implTrim_loop n k (l.take n) (by simp; omega) (by omega) (by omega)]
   simp only [trimL, h, tlen, if_pos h0]
   rw [show (l.take n).length = n by simp [h], tlen_take l n n (Nat.le_refl _), List.take_take]
   congr 2
   have := tlen_le l n
   omega
  ·
   rw [if_neg h0]
   simp only [trimL, h, tlen, if_neg h0]
   rw [List.take_of_length_le (by omega)]
theorem impl_trim (l : List Int) (hl : l.length ≤ 1000000000) : Ev (fun k => impl_trimmed.f k l) (trimL l) :=
 ⟨l.length + 2, fun k hk => implTrim_loop l.length k l rfl hl (by omega)⟩
theorem trimL_len (l : List Int) : (trimL l).length ≤ l.length := by unfold trimL; rw [List.length_take]; omega
end Go.Proofs.Ytlmolloallhclaa.H
namespace Go.Proofs.Ytlmolloallhclaa.H
open Go.RowKit Go.Proofs.YtlmolloallhclaaW.PrintWords Go.Proofs.YtlmolloallhclaaW.PrintLast Go.Proofs.YtlmolloallhclaaW.PrintMore
attribute [local go_sem] max2_int min2_int max_two min_two max_three min_three max_four min_four   -- for this text's walks alone
set_option linter.unusedVariables false
set_option linter.unusedSimpArgs false
def spec_l01Derive.l0 : Nat → Int → List Int → List Int → Int → Option (List Int)
 | 0, _, _, _, _ => none
 | k + 1, x0, x1, x5, x6 => if x6 < (x1.length : Int) then (if 0 ≤ x6 then (if x0 = 0 then (none) else (if x5.length < 17592186044416 then (spec_l01Derive.l0 k x0 x1 (x5 ++ [Int.tmod (wrap64 (x6 * (rd x1 x6))) x0]) (wrap64 (x6 + 1))) else (none))) else (none)) else ((spec_l01Trim.f k x5).bind fun t374 => (some t374))
def spec_l01Derive.f (k : Nat) (a0 : Int) (l1 : List Int) : Option (List Int) := spec_l01Derive.l0 k a0 l1 (([] : List Int)) 1
set_option maxHeartbeats 8000000 in
set_option maxRecDepth 100000 in
theorem spec_l01Derive.calls (k : Nat) (a0 : Int) (A1 : Option Addr) (c1 : Nat) (l1 : List Int) (r : List Int) (w : World) (hr1 : Kd.C (Kd.int .i64) w A1 l1.length l1) (hc1 : l1.length ≤ c1) (h : spec_l01Derive.f k a0 l1 = some r) :
  Calls Try.prog 59 #[.int .i64 a0, .slice A1 l1.length c1] w fun e w' => ∃ v0_ : Value, e = .returned (v0_) ∧ Kd.R (Kd.int .i64) 2 w' w.heap.size (fun _ => True) v0_ r ∧ Below w.heap.size w w' := by
 have HR1 := as0 hr1
 have HC1 := as0 hc1
 clear hr1 hc1
 have HB := as0 (Below.refl w.heap.size w)
 have H : (spec_l01Derive.l0 k a0 l1 (([] : List Int)) 1) = some r := h
 clear h
 obtain ⟨y367, hy367⟩ : ∃ y_ : List Int, y_ = (([] : List Int)) := ⟨_, rfl⟩
 replace H : (spec_l01Derive.l0 k a0 l1 y367 1) = some r := by first | (rw [hy367]; with_reducible exact H) | (have H2_ := (Option.bind_some _ _).symm.trans H; rw [hy367]; with_reducible exact H2_) | (have H2_ := (Option.bind_some _ _).symm.trans H; with_reducible exact H2_) | with_reducible exact H | (rw [hy367]; exact H) | exact H
 have Ny367 := as0 hy367
 clear hy367
 have H' := as0 H
 clear H
 go_enter Try.func59, Try.ntmps59
 go_wp2_with (first | ((with_reducible refine gate_dst (N := 7) rfl ?_); refine Kd.R_lit (Kd.int .i64) _ 2 ?hg (N := 7) ?hd (xs := ([] : List Int)) (inner := []) (ok := fun _ => True) (okp := fun _ => True) ?hr ?hp (fun _ hk => hk) trivial (Below.refl _ _) (Nat.le_refl _) (by simp) ?_; (case hd => rfl); (case hg => rfl); (case hr => first | (go_simp; done) | (go_simp; rfl)); (case hp => exact (Reps.none _ _)); intro v368 w3 ho4 hb hg_ hnew_; clear hg_ hnew_; (first | rw [← Ny367.out] at ho4 | (simp only [Int.reduceToNat] at ho4; rw [← Ny367.out] at ho4)); have n0_ := as0 (Kd.R_lower ho4 (below_size (bs HB))); have n1_ := as0 (below_step (bs HB) hb); clear HB; have HO369 := n0_; have HB := n1_; clear n0_ n1_; clear hb ho4))
 go_loopg [5, 6] k (fun kq v5 v6 w' => ∃ (x5_1 : List Int) (x6_1 : Int), v6 = .int .i64 x6_1 ∧ Aside0 (spec_l01Derive.l0 kq a0 l1 x5_1 x6_1 = some r) ∧ Aside0 (kq ≤ k) ∧ Aside0 (Kd.R (Kd.int .i64) 2 w' w.heap.size (fun _ => True) v5 x5_1) ∧ Aside0 (Below w.heap.size w w'))
 case atStart => exact ⟨(y367), (1), ea_, H', ⟨Nat.le_refl _⟩, ⟨rs HO369⟩, ⟨bs HB⟩⟩
 case round =>
  clear H'
  try clear c1
  try clear p2
  obtain ⟨x5_1, x6_1, rfl, HA, HK1, HO_5, HB⟩ := hrel
  cases gk with
  | zero => exact absurd HA.out (by simp [spec_l01Derive.l0])
  | succ k1 =>
   have H := HA.out
   clear HA
   simp only [spec_l01Derive.l0] at H
   by_cases c5 : x6_1 < (l1.length : Int)
   ·
    rw [if_pos c5] at H
    have c5b0 : decide (x6_1 < (l1.length : Int)) = true := decide_eq_true c5
    clear c5
    by_cases c6 : 0 ≤ x6_1
    ·
     rw [if_pos c6] at H
     have c6b0 : decide (0 ≤ x6_1) = true := decide_eq_true c6
     clear c6
     by_cases c7 : a0 = 0
     ·
      rw [if_pos c7] at H
      exact absurd H (by simp)
     ·
      rw [if_neg c7] at H
      have c7b0 : (a0 == 0) = false := beq_eq_false_iff_ne.mpr c7
      have c7b1 : (a0 != 0) = true := bne_iff_ne.mpr c7
      by_cases c8 : x5_1.length < 17592186044416
      ·
       rw [if_pos c8] at H
       have LMc8 := as0 c8
       clear c8
       obtain ⟨y371, hy371⟩ : ∃ y_ : List Int, y_ = (x5_1 ++ [Int.tmod (wrap64 (x6_1 * (rd l1 x6_1))) a0]) := ⟨_, rfl⟩
       replace H : (spec_l01Derive.l0 k1 a0 l1 y371 (wrap64 (x6_1 + 1))) = some r := by first | (rw [hy371]; with_reducible exact H) | (have H2_ := (Option.bind_some _ _).symm.trans H; rw [hy371]; with_reducible exact H2_) | (have H2_ := (Option.bind_some _ _).symm.trans H; with_reducible exact H2_) | with_reducible exact H | (rw [hy371]; exact H) | exact H
       have Ny371 := as0 hy371
       clear hy371
       have H' := as0 H
       clear H
       have p370 : 0 ≤ (x6_1 : Int) := oa_
       have q370 : x6_1 < (l1.length : Int) := oa_
       obtain ⟨ad370, e370, hx370_0⟩ := Kd.at_int HR1.out x6_1 p370 q370
       cases e370
       replace hx370_0 := (HB.out.cell (World.block_lt_of_cell? w _ hx370_0)).trans hx370_0
       replace p370 := eq_true p370
       replace q370 := eq_true q370
       go_wp2_with (first | ((with_reducible refine gate_builtin (b := .append) (xs := #[.tmp 14, .tmp 23]) rfl ?_); at_builtin; refine Kd.R_append (Kd.int .i64) (w0 := w) w.heap.size rfl (.tmp 14) (.tmp 23) 22 2 (.int .i64 0) 8 rfl Try.underlying22 info2 rfl (by decide) (by omega) u5 x5_1 (Int.tmod (wrap64 (x6_1 * (rd l1 x6_1))) a0) [.int .i64 (Int.tmod (wrap64 (x6_1 * (rd l1 x6_1))) a0)] (fun _ => True) (fun _ => False) rfl rfl ?aP (fun _ hk => hk.elim) ?aF ?aO ?aB ?aS ?aL ?_; (case aP => exact rfl); (case aB => exact (bs HB)); (case aF => exact (fun _ _ => trivial)); (case aO => exact (rs HO_5)); (case aS => exact (below_size (bs HB))); (case aL => have := LMc8.out; omega); intro v372 w9 ho hb hg hat; rw [← Ny371.out] at ho; have n0_ := as0 (hb); have n1_ := as0 (ho); clear HB; clear HO_5; have HB := n0_; have HO373 := n1_; clear n0_ n1_; clear ho hb hg hat))
       go_roundg k1
       case measure => have := HK1.out; omega
       case rel => exact ⟨(y371), (wrap64 (x6_1 + 1)), ea_, H', ⟨by have := HK1.out; omega⟩, ⟨rs HO373⟩, ⟨bs HB⟩⟩
      ·
       rw [if_neg c8] at H
       exact absurd H (by simp)
    ·
     rw [if_neg c6] at H
     exact absurd H (by simp)
   ·
    rw [if_neg c5] at H
    have c5b0 : decide (x6_1 < (l1.length : Int)) = false := decide_eq_false c5
    clear c5
    replace H := Option.bind_eq_some_iff.mp H
    obtain ⟨t374, A100, H⟩ := H
    have A10 := as0 A100
    clear A100
    obtain rfl := Option.some.inj H
    obtain ⟨Ao11, co11, eo11⟩ := Kd.R_slice HO_5.out
    subst eo11
    go_wp2_with (first | ((with_reducible refine gate_callee (f := 82) rfl ?_); refine goesM_ (some 26) rfl rfl Try.func82 #[.slice Ao11 x5_1.length co11] rfl ?_; (with_reducible refine (spec_l01Trim.calls k1 _ _ x5_1 t374 _ ?side1 ?side2 A10.out).mono ?_); (case side1 => exact cs ((Kd.R_reads' HO_5.out).2.2)); (case side2 => exact (Kd.R_reads' HO_5.out).2.1); rintro e w12 ⟨v375, rfl, ho0, hb⟩; refine ⟨_, rfl, ?_⟩; have n0_ := as0 (Kd.R_elder' (rs HO_5) (Kd.R_base ho0) hb); have n1_ := as0 (Kd.R_lower (Kd.R_new' ho0 (Kd.R_lt (rs HO_5))) (below_size (bs HB))); have n2_ := as0 (below_step (bs HB) hb); clear HO_5; clear HB; have HO_5 := n0_; have HO376 := n1_; have HB := n2_; clear n0_ n1_ n2_; (try clear hb); (try clear hb2); (try clear hk); (try clear hi); (try clear ho0)))
    go_ret
    exact ⟨_, er_, by (with_reducible repeat (first | apply Kd.R_alloc | apply Kd.R_drewN | apply Kd.R_drew)); exact Kd.R_mono HO376.out (fun _ hk => trivial), bs HB⟩
end Go.Proofs.Ytlmolloallhclaa.H
set_option linter.unusedVariables false
set_option linter.unusedSimpArgs false
namespace Go.Proofs.Ytlmolloallhclaa.H
open Go.RowKit Go.Proofs.YtlmolloallhclaaW.PrintWords Go.Proofs.YtlmolloallhclaaW.PrintLast Go.Proofs.Ytlmolloallhclaa.Num
def InR (p : Int) (l : List Int) : Prop := ∀ x ∈ l, 0 ≤ x ∧ x < p
theorem InR.get {p : Int} {l : List Int} (h : InR p l) (hp : 0 < p) (i : Nat) : 0 ≤ l.getD i 0 ∧ l.getD i 0 < p := by
 rcases Nat.lt_or_ge i l.length with hi | hi
 ·
  rw [List.getD_eq_getElem?_getD, List.getElem?_eq_getElem hi]; exact h _ (List.getElem_mem hi)
 ·
  rw [List.getD_eq_getElem?_getD, List.getElem?_eq_none hi]; exact ⟨Int.le_refl _, hp⟩
theorem InR.set {p : Int} {l : List Int} (h : InR p l) (i : Nat) {x : Int} (hx : 0 ≤ x ∧ x < p) : InR p (l.set i x) := by
 intro y hy
 rcases List.mem_or_eq_of_mem_set hy with h' | h'
 ·
  exact h y h'
 ·
  rw [h']; exact hx
theorem InR.take {p : Int} {l : List Int} (h : InR p l) (n : Nat) : InR p (l.take n) := fun x hx => h x (List.mem_of_mem_take hx)
theorem InR.trim {p : Int} {l : List Int} (h : InR p l) : InR p (trimL l) := h.take _
theorem InR.zeros {p : Int} (hp : 0 < p) (n : Nat) : InR p (List.replicate n 0) := fun x hx => by
 have := (List.mem_replicate.1 hx).2; subst this; exact ⟨Int.le_refl _, hp⟩
theorem InR.append {p : Int} {l l' : List Int} (h : InR p l) (h' : InR p l') : InR p (l ++ l') := fun x hx => by
 rcases List.mem_append.1 hx with hx | hx
 ·
  exact h x hx
 ·
  exact h' x hx
theorem InR.drop {p : Int} {l : List Int} (h : InR p l) (n : Nat) : InR p (l.drop n) := fun x hx => h x (List.mem_of_mem_drop hx)
theorem Po.inR {p : Int} {l : List Int} (h : Po p l) : InR p l := h.el
theorem InR.nil {p : Int} : InR p [] := fun x hx => by simp at hx
theorem InR.one {p x : Int} (h : 0 ≤ x ∧ x < p) : InR p [x] := fun y hy => by rw [List.mem_singleton.1 hy]; exact h
def dl (p : Int) (l : List Int) : Nat → Nat → List Int
 | _, 0 => []
 | i, d + 1 => ((i : Int) * l.getD i 0 % p) :: dl p l (i + 1) d
def derivL (p : Int) (l : List Int) : List Int := trimL (dl p l 1 (l.length - 1))
theorem dl_len (p : Int) (l : List Int) : ∀ d i, (dl p l i d).length = d
 | 0, _ => rfl
 | d + 1, i => by simp [dl, dl_len p l d (i + 1)]
theorem derivL_len (p : Int) (l : List Int) : (derivL p l).length ≤ l.length := by
 have := trimL_len (dl p l 1 (l.length - 1)); unfold derivL; rw [dl_len] at this; omega
theorem mul_bd2 {p x y : Int} (hp : p ≤ 10007) (hx : 0 ≤ x ∧ x < p) (hy : 0 ≤ y ∧ y ≤ 100000) : 0 ≤ x * y ∧ x * y ≤ 1000700000 := by
 have := mul_bd (a := 10007) (b := 100000) hx.1 (by omega) hy.1 hy.2; omega
theorem spec_derive {p : Int} {l : List Int} (hp : 2 ≤ p) (hp2 : p ≤ 10007) (hl : l.length ≤ 1000) (hr : InR p l) : Ev (fun k => spec_l01Derive.f k p l) (derivL p l) := by
 have loop : ∀ d i (acc : List Int), i + d = l.length → 1 ≤ i → acc.length ≤ i → Ev (fun k => spec_l01Derive.l0 k p l acc (i : Int)) (trimL (acc ++ dl p l i d)) := by
  intro d
  induction d with
  | zero =>
   intro i acc h1 h2 h3
   obtain ⟨K, h⟩ := spec_trim acc (by omega)
   refine ⟨K + 1, fun k hk => ?_⟩
   obtain ⟨k, rfl⟩ : ∃ m, k = m + 1 := ⟨k - 1, by omega⟩
   have e := h k (by omega)
   simp only at e
   simp only [spec_l01Derive.l0]
   rw [if_neg (by omega), e]
   simp [dl]
  | succ d ih =>
   intro i acc h1 h2 h3
   obtain ⟨K, h⟩ := ih (i + 1) (acc ++ [(i : Int) * l.getD i 0 % p]) (by omega) (by omega) (by simp; omega)
   refine ⟨K + 1, fun k hk => ?_⟩
   obtain ⟨k, rfl⟩ : ∃ m, k = m + 1 := ⟨k - 1, by omega⟩
   have e := h k (by omega)
   simp only at e
   have hb := mul_bd2 hp2 (hr.get (by omega) i) (y := i) (by omega)
   rw [Int.mul_comm] at hb
   simp only [spec_l01Derive.l0]
   rw [if_pos (by omega), if_pos (by omega), if_neg (by omega), if_pos (by omega), rd_nat, w64 (by omega) (by omega), tmod_nn hb.1, wn (by omega), e]
   simp [dl]
 rcases Nat.eq_zero_or_pos l.length with h0 | h0
 ·
  obtain ⟨K, h⟩ := spec_trim [] (by simp)
  refine ⟨K + 1, fun k hk => ?_⟩
  obtain ⟨k, rfl⟩ : ∃ m, k = m + 1 := ⟨k - 1, by omega⟩
  have e := h k (by omega)
  simp only at e
  simp only [spec_l01Derive.f, spec_l01Derive.l0]
  rw [if_neg (by omega), e]
  simp [derivL, h0, dl]
 ·
  obtain ⟨K, h⟩ := loop (l.length - 1) 1 [] (by omega) (by omega) (by simp)
  exact ⟨K, fun k hk => by have := h k hk; simpa [spec_l01Derive.f, derivL] using this⟩
theorem impl_derive {p : Int} {l : List Int} (hp : 2 ≤ p) (hp2 : p ≤ 10007) (hl : l.length ≤ 1000) (hr : InR p l) : Ev (fun k => impl_field_derivative.f k p l) (derivL p l) := by
 have loop : ∀ d i (acc : List Int), i + d = l.length → 1 ≤ i → acc.length ≤ i → Ev (fun k => impl_field_derivative.l0 k p l acc (i : Int)) (trimL (acc ++ dl p l i d)) := by
  intro d
  induction d with
  | zero =>
   intro i acc h1 h2 h3
   obtain ⟨K, h⟩ := impl_trim acc (by omega)
   refine ⟨K + 1, fun k hk => ?_⟩
   obtain ⟨k, rfl⟩ : ∃ m, k = m + 1 := ⟨k - 1, by omega⟩
   have e := h k (by omega)
   simp only at e
   simp only [impl_field_derivative.l0]
   rw [if_neg (by omega), e]
   simp [dl]
  | succ d ih =>
   intro i acc h1 h2 h3
   obtain ⟨K, h⟩ := ih (i + 1) (acc ++ [(i : Int) * l.getD i 0 % p]) (by omega) (by omega) (by simp; omega)
   refine ⟨K + 1, fun k hk => ?_⟩
   obtain ⟨k, rfl⟩ : ∃ m, k = m + 1 := ⟨k - 1, by omega⟩
   have e := h k (by omega)
   simp only at e
   have hb := mul_bd2 hp2 (hr.get (by omega) i) (y := i) (by omega)
   rw [Int.mul_comm] at hb
   simp only [impl_field_derivative.l0]
   rw [if_pos (by omega), if_pos (by omega), rd_nat, impl_mul (by omega) (by omega) (by omega) (by omega), Option.bind_some, if_pos (by omega), wn (by omega), e]
   simp [dl]
 rcases Nat.eq_zero_or_pos l.length with h0 | h0
 ·
  obtain ⟨K, h⟩ := impl_trim [] (by simp)
  refine ⟨K + 1, fun k hk => ?_⟩
  obtain ⟨k, rfl⟩ : ∃ m, k = m + 1 := ⟨k - 1, by omega⟩
  have e := h k (by omega)
  simp only at e
  simp only [impl_field_derivative.f, impl_field_derivative.l0]
  rw [if_neg (by omega), e]
  simp [derivL, h0, dl]
 ·
  obtain ⟨K, h⟩ := loop (l.length - 1) 1 [] (by omega) (by omega) (by simp)
  exact ⟨K, fun k hk => by have := h k hk; simpa [impl_field_derivative.f, derivL] using this⟩
end Go.Proofs.Ytlmolloallhclaa.H
namespace Go.Proofs.Ytlmolloallhclaa.H
open Go.RowKit Go.Proofs.YtlmolloallhclaaW.PrintWords Go.Proofs.YtlmolloallhclaaW.PrintLast Go.Proofs.YtlmolloallhclaaW.PrintMore
attribute [local go_sem] max2_int min2_int max_two min_two max_three min_three max_four min_four   -- for this text's walks alone
set_option linter.unusedVariables false
set_option linter.unusedSimpArgs false
mutual
def spec_l01Add.l0 : Nat → Int → List Int → List Int → Int → List Int → Int → Option (List Int)
 | 0, _, _, _, _, _, _ => none
 | k + 1, x0, x1, x2, x3, x9, x10 => if x10 < (x1.length : Int) then (if 0 ≤ x10 then (if x10 < (x9.length : Int) then (spec_l01Add.l0 k x0 x1 x2 x3 (x9.set (x10 : Int).toNat (rd x1 x10)) (wrap64 (x10 + 1))) else (none)) else (none)) else (spec_l01Add.l1 k x0 x2 x3 x9 0)
def spec_l01Add.l1 : Nat → Int → List Int → Int → List Int → Int → Option (List Int)
 | 0, _, _, _, _, _ => none
 | k + 1, x0, x2, x3, x9, x11 => if x11 < (x2.length : Int) then (if 0 ≤ x11 then (if x11 < (x9.length : Int) then ((spec_l01Mod.f x0 (wrap64 ((rd x9 x11) + (wrap64 (x3 * (rd x2 x11)))))).bind fun t234 => (spec_l01Add.l1 k x0 x2 x3 (x9.set (x11 : Int).toNat t234) (wrap64 (x11 + 1)))) else (none)) else (none)) else ((spec_l01Trim.f k x9).bind fun t236 => (some t236))
end
def spec_l01Add.f (k : Nat) (a0 : Int) (l1 : List Int) (l2 : List Int) (a3 : Int) : Option (List Int) := if (l1.length : Int) < (l2.length : Int) then (if 0 ≤ (l2.length : Int) then (if ((l2.length : Int) : Int).toNat ≤ 35184372088832 then (spec_l01Add.l0 k a0 l1 l2 a3 (List.replicate ((l2.length : Int) : Int).toNat 0) 0) else (none)) else (none)) else (if 0 ≤ (l1.length : Int) then (if ((l1.length : Int) : Int).toNat ≤ 35184372088832 then (spec_l01Add.l0 k a0 l1 l2 a3 (List.replicate ((l1.length : Int) : Int).toNat 0) 0) else (none)) else (none))
def spec_l01Add.T9 : Bool × List (List Nat × List Nat) := (true, [([], []), ([], []), ([], []), ([], []), ([], []), ([3, 4], [3, 4]), ([5], [5]), ([], []), ([], []), ([], []), ([8, 9], [8, 9]), ([10], [10]), ([7, 11], [7, 11]), ([6, 12], [6, 12]), ([2, 13], [2, 13]), ([0, 1, 0, 1, 2, 3, 4, 5, 6, 7, 8, 9, 10, 11, 12, 13, 14], [0, 1]), ([15, 14, 14, 0, 1, 2, 3, 4, 5, 6, 7, 8, 9, 10, 11, 12, 13, 14], [14, 15])])
def spec_l01Add.B9 : List Nat := [0, 0, 0, 0, 0, 24, 56, 0, 0, 0, 768, 1792, 3968, 8184, 16380, 32767, 65535]
theorem spec_l01Add.tab9 : rtab .any (opsOf Try.f47 9) = spec_l01Add.T9 := by kernel_rfl
theorem spec_l01Add.bits9 : waitsOk spec_l01Add.T9.2 spec_l01Add.B9 = true := by kernel_rfl
set_option maxHeartbeats 8000000 in
set_option maxRecDepth 100000 in
theorem spec_l01Add.calls (k : Nat) (a0 : Int) (A1 : Option Addr) (c1 : Nat) (l1 : List Int) (A2 : Option Addr) (c2 : Nat) (l2 : List Int) (a3 : Int) (r : List Int) (w : World) (hr1 : Kd.C (Kd.int .i64) w A1 l1.length l1) (hc1 : l1.length ≤ c1) (hr2 : Kd.C (Kd.int .i64) w A2 l2.length l2) (hc2 : l2.length ≤ c2) (h : spec_l01Add.f k a0 l1 l2 a3 = some r) :
  Calls Try.prog 47 #[.int .i64 a0, .slice A1 l1.length c1, .slice A2 l2.length c2, .int .i64 a3] w fun e w' => ∃ v0_ : Value, e = .returned (v0_) ∧ Kd.R (Kd.int .i64) 2 w' w.heap.size (fun _ => True) v0_ r ∧ Below w.heap.size w w' := by
 have HR1 := as0 hr1
 have HC1 := as0 hc1
 clear hr1 hc1
 have HR2 := as0 hr2
 have HC2 := as0 hc2
 clear hr2 hc2
 have HB := as0 (Below.refl w.heap.size w)
 have H : (if (l1.length : Int) < (l2.length : Int) then (if 0 ≤ (l2.length : Int) then (if ((l2.length : Int) : Int).toNat ≤ 35184372088832 then (spec_l01Add.l0 k a0 l1 l2 a3 (List.replicate ((l2.length : Int) : Int).toNat 0) 0) else (none)) else (none)) else (if 0 ≤ (l1.length : Int) then (if ((l1.length : Int) : Int).toNat ≤ 35184372088832 then (spec_l01Add.l0 k a0 l1 l2 a3 (List.replicate ((l1.length : Int) : Int).toNat 0) 0) else (none)) else (none))) = some r := h
 clear h
 by_cases c5 : (l1.length : Int) < (l2.length : Int)
 ·
  rw [if_pos c5] at H
  have c5i := eq_true c5
  have c5b0 : decide ((l1.length : Int) < (l2.length : Int)) = true := decide_eq_true c5
  have c5b1 : decide (l1.length < l2.length) = true := decide_eq_true (Int.ofNat_lt.mp c5)
  clear c5
  by_cases c6 : 0 ≤ (l2.length : Int)
  ·
   rw [if_pos c6] at H
   have c6b0 := eq_true c6
   have c6b1 : decide (0 ≤ (l2.length : Int)) = true := decide_eq_true c6
   clear c6
   by_cases c7 : ((l2.length : Int) : Int).toNat ≤ 35184372088832
   ·
    rw [if_pos c7] at H
    have c7b0 := eq_true c7
    have c7b1 : decide (((l2.length : Int) : Int).toNat ≤ 35184372088832) = true := decide_eq_true c7
    clear c7
    obtain ⟨y227, hy227⟩ : ∃ y_ : List Int, y_ = (List.replicate ((l2.length : Int) : Int).toNat 0) := ⟨_, rfl⟩
    replace H : (spec_l01Add.l0 k a0 l1 l2 a3 y227 0) = some r := by first | (rw [hy227]; with_reducible exact H) | (have H2_ := (Option.bind_some _ _).symm.trans H; rw [hy227]; with_reducible exact H2_) | (have H2_ := (Option.bind_some _ _).symm.trans H; with_reducible exact H2_) | with_reducible exact H | (rw [hy227]; exact H) | exact H
    have Ny227 := as0 hy227
    clear hy227
    have H' := as0 H
    clear H
    go_enter Try.func47, Try.ntmps47
    go_wp2_with (first | ((with_reducible refine gate_dst (N := 17) rfl ?_); refine Kd.R_make (Kd.int .i64) _ 2 rfl (N := 17) rfl 22 _ _ rfl (l2.length : Int) rfl rfl Try.underlying22 (.int .i64 0) 8 info2 rfl (by decide) (by omega) 0 (ok := fun _ => True) (okp := fun _ => True) rfl (fun _ hk => hk) trivial (oa_) (Nat.le_trans (Nat.mul_le_mul_right _ (oa_ : (l2.length : Int).toNat ≤ 35184372088832)) (by omega)) (Below.refl _ _) (Nat.le_refl _) ?_; intro v228 w8 ho9 hb hg_ hnew_; clear hg_ hnew_; (first | rw [← Ny227.out] at ho9 | (simp only [Int.reduceToNat] at ho9; rw [← Ny227.out] at ho9)); have n0_ := as0 (Kd.R_lower ho9 (below_size (bs HB))); have n1_ := as0 (below_step (bs HB) hb); clear HB; have HO229 := n0_; have HB := n1_; clear n0_ n1_; clear hb ho9))
    go_loopg [10] k (fun kq v10 w' => ∃ (x9_1 : List Int) (x10_1 : Int), v10 = .int .i64 x10_1 ∧ Aside0 (spec_l01Add.l0 kq a0 l1 l2 a3 x9_1 x10_1 = some r) ∧ Aside0 (kq ≤ k) ∧ Aside0 (Kd.R (Kd.int .i64) 2 w' w.heap.size (fun _ => True) v228 x9_1) ∧ Aside0 (Below w.heap.size w w'))
    case atStart => exact ⟨(y227), (0), ea_, H', ⟨Nat.le_refl _⟩, ⟨rs HO229⟩, ⟨bs HB⟩⟩
    case round =>
     clear H'
     try clear c1
     try clear c2
     try clear p2
     try clear c4
     try clear c5
     try clear c5b0
     try clear c5b1
     try clear c6
     try clear c6b0
     try clear c6b1
     try clear c7
     try clear c7b0
     try clear c7b1
     obtain ⟨x9_1, x10_1, rfl, HA, HK1, HO_9, HB⟩ := hrel
     cases gk with
     | zero => exact absurd HA.out (by simp [spec_l01Add.l0])
     | succ k1 =>
      have H := HA.out
      clear HA
      simp only [spec_l01Add.l0] at H
      by_cases c10 : x10_1 < (l1.length : Int)
      ·
       rw [if_pos c10] at H
       have c10b0 : decide (x10_1 < (l1.length : Int)) = true := decide_eq_true c10
       clear c10
       by_cases c11 : 0 ≤ x10_1
       ·
        rw [if_pos c11] at H
        have c11b0 : decide (0 ≤ x10_1) = true := decide_eq_true c11
        clear c11
        by_cases c12 : x10_1 < (x9_1.length : Int)
        ·
         rw [if_pos c12] at H
         have c12b0 : decide (x10_1 < (x9_1.length : Int)) = true := decide_eq_true c12
         clear c12
         obtain ⟨y231, hy231⟩ : ∃ y_ : List Int, y_ = (x9_1.set (x10_1 : Int).toNat (rd l1 x10_1)) := ⟨_, rfl⟩
         replace H : (spec_l01Add.l0 k1 a0 l1 l2 a3 y231 (wrap64 (x10_1 + 1))) = some r := by first | (rw [hy231]; with_reducible exact H) | (have H2_ := (Option.bind_some _ _).symm.trans H; rw [hy231]; with_reducible exact H2_) | (have H2_ := (Option.bind_some _ _).symm.trans H; with_reducible exact H2_) | with_reducible exact H | (rw [hy231]; exact H) | exact H
         have Ny231 := as0 hy231
         clear hy231
         have H' := as0 H
         clear H
         have p230 : 0 ≤ (x10_1 : Int) := oa_
         have q230 : x10_1 < (l1.length : Int) := oa_
         obtain ⟨ad230, e230, hx230_0⟩ := Kd.at_int HR1.out x10_1 p230 q230
         cases e230
         replace hx230_0 := (HB.out.cell (World.block_lt_of_cell? w _ hx230_0)).trans hx230_0
         replace p230 := eq_true p230
         replace q230 := eq_true q230
         have p13 : 0 ≤ (x10_1 : Int) := oa_
         have q13 : (x10_1 : Int) < ((x9_1.length : Int) : Int) := oa_
         obtain ⟨go13, co13, eo13, gb13, gl13, cl13, HG13⟩ := Kd.R_form HO_9.out (by omega)
         (first | cases eo13 | (injection eo13 with ea_ en_ ec_; (first | subst ea_ | (injection ea_ with ea_; subst ea_)); subst ec_; clear en_))
         have GB13 := as0 gb13
         have GG13 := as0 HG13
         clear gb13 gl13 HG13
         obtain ⟨hx13_0, hf13_0⟩ := Kd.R_celln 0 HO_9.out (x10_1 : Int) p13 q13
         replace p13 := eq_true p13
         replace q13 := eq_true q13
         have HP14 := Kd.R_putg HO_9.out (x10_1 : Int) (rd l1 x10_1)
         go_wp2_with (first | ((with_reducible refine gate_store (t := 2) (p := 30) rfl ?_); refine store_event (t := 2) (p := 30) (v := ?vo_w15) (w1 := (wr.setCell ⟨go13, (x10_1 : Int).toNat, none⟩ (.int .i64 (rd l1 x10_1)))) ?hg ?ho ?hn ?hr ?_; (case ho => rfl); (case hg => rfl); (case hn => rfl); (case hr => first | (go_simp; done) | (go_simp; rfl)); intro w15 hw; have hg : wr.grownBy w15 (some go13) := (by rw [hw]; exact HP14.2); have hp_ : Kd.R (Kd.int .i64) 2 w15 w.heap.size (fun _ => True) (.slice (some ⟨go13, 0, none⟩) x9_1.length co13) y231 := (by rw [hw, Ny231.out]; exact HP14.1); clear HP14; have n0_ := as0 (hp_); have n1_ := as0 ((by rw [hw]; exact below_set (HB.out) GB13.out : Below w.heap.size w w15)); clear HO_9; clear HB; have HO_9 := n0_; have HB := n1_; clear n0_ n1_; clear hg hw hp_))
         go_roundg k1
         case measure => have := HK1.out; omega
         case rel => exact ⟨(y231), (wrap64 (x10_1 + 1)), ea_, H', ⟨by have := HK1.out; omega⟩, ⟨rs HO_9⟩, ⟨bs HB⟩⟩
        ·
         rw [if_neg c12] at H
         exact absurd H (by simp)
       ·
        rw [if_neg c11] at H
        exact absurd H (by simp)
      ·
       rw [if_neg c10] at H
       have c10b0 : decide (x10_1 < (l1.length : Int)) = false := decide_eq_false c10
       clear c10
       have H' := as0 H
       clear H
       go_wp2
       go_loopg [11] k1 (fun kq v11 w' => ∃ (x9_2 : List Int) (x11_2 : Int), v11 = .int .i64 x11_2 ∧ Aside0 (spec_l01Add.l1 kq a0 l2 a3 x9_2 x11_2 = some r) ∧ Aside0 (kq ≤ k1) ∧ Aside0 (Kd.R (Kd.int .i64) 2 w' w.heap.size (fun _ => True) v228 x9_2) ∧ Aside0 (Below w.heap.size w w'))
       case atStart => exact ⟨(x9_1), (0), ea_, H', ⟨Nat.le_refl _⟩, ⟨rs HO_9⟩, ⟨bs HB⟩⟩
       case round =>
        clear H'
        try clear c1
        try clear p1
        try clear q1
        try clear hx1
        try clear c2
        try clear p2
        try clear q2
        try clear hx2
        try clear c4
        try clear c5
        try clear c5b0
        try clear c5b1
        try clear c6
        try clear c6b0
        try clear c6b1
        try clear p6
        try clear c7
        try clear c7b0
        try clear c7b1
        try clear c10
        try clear c10b0
        try clear c11
        try clear c11b0
        try clear c12
        try clear c12b0
        try clear p13
        try clear q13
        try clear hx13
        try clear hf13
        try clear hx13_0
        try clear hx230_0
        try clear p13
        try clear p2
        try clear p230
        try clear q13
        try clear q230
        obtain ⟨x9_2, x11_2, rfl, HA, HK2, HO_9, HB⟩ := hrel
        cases gk with
        | zero => exact absurd HA.out (by simp [spec_l01Add.l1])
        | succ k2 =>
         have H := HA.out
         clear HA
         simp only [spec_l01Add.l1] at H
         by_cases c16 : x11_2 < (l2.length : Int)
         ·
          rw [if_pos c16] at H
          have c16b0 : decide (x11_2 < (l2.length : Int)) = true := decide_eq_true c16
          clear c16
          by_cases c17 : 0 ≤ x11_2
          ·
           rw [if_pos c17] at H
           have c17b0 : decide (0 ≤ x11_2) = true := decide_eq_true c17
           clear c17
           by_cases c18 : x11_2 < (x9_2.length : Int)
           ·
            rw [if_pos c18] at H
            have c18b0 : decide (x11_2 < (x9_2.length : Int)) = true := decide_eq_true c18
            clear c18
            replace H := Option.bind_eq_some_iff.mp H
            obtain ⟨t234, A190, H⟩ := H
            have A19 := as0 A190
            clear A190
            obtain ⟨y235, hy235⟩ : ∃ y_ : List Int, y_ = (x9_2.set (x11_2 : Int).toNat t234) := ⟨_, rfl⟩
            replace H : (spec_l01Add.l1 k2 a0 l2 a3 y235 (wrap64 (x11_2 + 1))) = some r := by first | (rw [hy235]; with_reducible exact H) | (have H2_ := (Option.bind_some _ _).symm.trans H; rw [hy235]; with_reducible exact H2_) | (have H2_ := (Option.bind_some _ _).symm.trans H; with_reducible exact H2_) | with_reducible exact H | (rw [hy235]; exact H) | exact H
            have Ny235 := as0 hy235
            clear hy235
            have H' := as0 H
            clear H
            try go_wp2
            have n0_ := as0 (Kd.R_drew HO_9.out)
            have n1_ := as0 (below_drew1 HB.out)
            clear HO_9
            clear HB
            have HO_9 := n0_
            have HB := n1_
            clear n0_ n1_
            obtain ⟨Ao22, co22, eo22⟩ := Kd.R_slice HO_9.out
            (first | subst eo22 | (injection eo22 with f1_ f2_ f3_; have f4_ := f1_.symm; have f5_ := f3_.symm; clear f1_ f2_ f3_; subst f4_; subst f5_))
            have p232 : 0 ≤ (x11_2 : Int) := oa_
            have q232 : x11_2 < (x9_2.length : Int) := oa_
            obtain ⟨ad232, e232, hx232_0⟩ := Kd.at_int (Kd.R_reads' HO_9.out).2.2 x11_2 p232 q232
            cases e232
            replace p232 := eq_true p232
            replace q232 := eq_true q232
            have p233 : 0 ≤ (x11_2 : Int) := oa_
            have q233 : x11_2 < (l2.length : Int) := oa_
            obtain ⟨ad233, e233, hx233_0⟩ := Kd.at_int HR2.out x11_2 p233 q233
            have hw233_0 := hx233_0
            cases e233
            replace hx233_0 := (HB.out.cell (World.block_lt_of_cell? w _ hx233_0)).trans hx233_0
            replace p233 := eq_true p233
            replace q233 := eq_true q233
            refine start_ (n := 17) (S := fun w' => w'.cell? (ad232.add (x11_2).toNat) = some (.int .i64 (rd x9_2 x11_2)) ∧ w'.cell? (ad233.add (x11_2).toNat) = some (.int .i64 (rd l2 x11_2))) (ds := [16]) #[false, false, false, false, false, false, false, false, false, false, false, false, false, false, false, false, false] (by kernel_rfl) rfl rfl ⟨hx232_0, ((HB.out.cell (World.block_lt_of_cell? w _ hw233_0)).trans hw233_0)⟩ (fun hHeld => ?_); refine with_tabW spec_l01Add.tab9 spec_l01Add.bits9 (fun HT_ HW_ => ?_)
            generalize wr.drew = w21 at HO_9 HB hx232_0 hx233_0 hHeld ⊢
            refine pm_ HT_ (i := 0) (N := some 37) ?_
            refine pm_ HT_ (i := 1) (N := some 38) ?_
            refine pm_ HT_ (i := 2) (N := some 39) ?_
            refine pm_ HT_ (i := 3) (N := some 40) ?_
            refine pm_ HT_ (i := 4) (N := some 41) ?_
            refine pm_ HT_ (i := 5) (N := some 42) ?_
            refine pm_ HT_ (i := 7) (N := some 44) ?_
            refine pm_ HT_ (i := 8) (N := some 45) ?_
            refine pm_ HT_ (i := 9) (N := some 46) ?_
            refine pm_ HT_ (i := 10) (N := some 47) ?_
            refine tm2_ HT_ HW_ (i := 6) (N := some 43) hHeld ?_
            refine tm2_ HT_ HW_ (i := 11) (N := some 48) hHeld ?_
            refine pm_ HT_ (i := 12) (N := some 49) ?_
            refine pm_ HT_ (i := 13) (N := some 50) ?_
            refine one_ (i := 14) (N := some 51) #[true, true, true, true, true, true, true, true, true, true, true, true, true, true, true, false, false] rfl rfl (one_of HT_.out (by kernel_rfl)) (by decide) (fun K hK => ?_)
            refine goes_ Try.func61 (by kernel_rfl) rfl #[.int .i64 a0, .int .i64 (wrap64 ((rd x9_2 x11_2) + (wrap64 (a3 * (rd l2 x11_2)))))] (by rfl) rfl rfl (by (try simp only [List.map_toArray, List.map_cons, List.map_nil]); first | done | rfl | (simp only [List.length_drop, List.length_take]; rfl)) ?_
            with_reducible refine (spec_l01Mod.calls a0 (wrap64 ((rd x9_2 x11_2) + (wrap64 (a3 * (rd l2 x11_2))))) t234 _ A19.out).mono ?_
            rintro e w' ⟨rfl, ⟨nd, rfl⟩⟩
            refine ⟨_, rfl, ?_⟩
            have p20 : 0 ≤ (x11_2 : Int) := oa_
            have q20 : (x11_2 : Int) < ((x9_2.length : Int) : Int) := oa_
            obtain ⟨go20, co20, eo20, gb20, gl20, cl20, HG20⟩ := Kd.R_form HO_9.out (by omega)
            (first | cases eo20 | (injection eo20 with ea_ en_ ec_; (first | subst ea_ | (injection ea_ with ea_; subst ea_)); subst ec_; clear en_))
            have GB20 := as0 gb20
            have GG20 := as0 HG20
            clear gb20 gl20 HG20
            (first | simp only [add_plain] at hx232_0 | skip)
            obtain ⟨hx20_0, hf20_0⟩ := Kd.R_celln 0 HO_9.out (x11_2 : Int) p20 q20
            replace p20 := eq_true p20
            replace q20 := eq_true q20
            have HP23 := Kd.R_putn HO_9.out (x11_2 : Int) t234
            rw [← Ny235.out] at HP23
            have HQ23 := as0 HP23
            clear HP23
            refine hK.out _ _ ⟨hHeld.1, ((HB.out.cell (World.block_lt_of_cell? w _ hw233_0)).trans hw233_0)⟩ (fun hHeld => ?_)
            clear hK K
            refine nm_ (some 51) ?_
            refine pm_ HT_ (i := 15) (N := some 52) ?_
            refine last_ (i := 16) (N := none) #[true, true, true, true, true, true, true, true, true, true, true, true, true, true, true, true, true] rfl rfl (one_of HT_.out (by kernel_rfl)) (by decide) (fun K hK => ?_)
            refine skip_ (w1 := ?_) (by rfl) rfl ?_ ?_
            rotate_left
            ·
             go_simp
             rfl
            refine hK.out _ _ ?_
            clear hK K
            refine done_ (done_of HT_.out (by kernel_rfl)) ?_
            try go_wp2
            go_roundg k2
            case measure => have := HK1.out; have := HK2.out; omega
            case rel => exact ⟨(y235), (wrap64 (x11_2 + 1)), ea_, H', ⟨by have := HK1.out; have := HK2.out; omega⟩, ⟨by (with_reducible repeat (first | apply Kd.R_alloc | apply Kd.R_drewN | apply Kd.R_drew)); exact HQ23.out⟩, ⟨by repeat (first | (with_reducible first | exact HB.out | apply below_alloc | apply pw_below_drewN | apply below_drew1 | refine below_set ?_ GB20.out) | exact HB.out)⟩⟩
           ·
            rw [if_neg c18] at H
            exact absurd H (by simp)
          ·
           rw [if_neg c17] at H
           exact absurd H (by simp)
         ·
          rw [if_neg c16] at H
          have c16b0 : decide (x11_2 < (l2.length : Int)) = false := decide_eq_false c16
          clear c16
          replace H := Option.bind_eq_some_iff.mp H
          obtain ⟨t236, A240, H⟩ := H
          have A24 := as0 A240
          clear A240
          obtain rfl := Option.some.inj H
          obtain ⟨Ao25, co25, eo25⟩ := Kd.R_slice HO_9.out
          subst eo25
          go_wp2_with (first | ((with_reducible refine gate_callee (f := 82) rfl ?_); refine goesM_ (some 54) rfl rfl Try.func82 #[.slice Ao25 x9_2.length co25] rfl ?_; (with_reducible refine (spec_l01Trim.calls k2 _ _ x9_2 t236 _ ?side1 ?side2 A24.out).mono ?_); (case side1 => exact cs ((Kd.R_reads' HO_9.out).2.2)); (case side2 => exact (Kd.R_reads' HO_9.out).2.1); rintro e w26 ⟨v237, rfl, ho0, hb⟩; refine ⟨_, rfl, ?_⟩; have n0_ := as0 (Kd.R_elder' (rs HO_9) (Kd.R_base ho0) hb); have n1_ := as0 (Kd.R_lower (Kd.R_new' ho0 (Kd.R_lt (rs HO_9))) (below_size (bs HB))); have n2_ := as0 (below_step (bs HB) hb); clear HO_9; clear HB; have HO_9 := n0_; have HO238 := n1_; have HB := n2_; clear n0_ n1_ n2_; (try clear hb); (try clear hb2); (try clear hk); (try clear hi); (try clear ho0)))
          go_ret
          exact ⟨_, er_, by (with_reducible repeat (first | apply Kd.R_alloc | apply Kd.R_drewN | apply Kd.R_drew)); exact Kd.R_mono HO238.out (fun _ hk => trivial), bs HB⟩
   ·
    rw [if_neg c7] at H
    exact absurd H (by simp)
  ·
   rw [if_neg c6] at H
   exact absurd H (by simp)
 ·
  rw [if_neg c5] at H
  have c5i := eq_false c5
  have c5b0 : decide ((l1.length : Int) < (l2.length : Int)) = false := decide_eq_false c5
  have c5b1 : decide (l1.length < l2.length) = false := decide_eq_false (fun h => c5 (Int.ofNat_lt.mpr h))
  clear c5
  by_cases c27 : 0 ≤ (l1.length : Int)
  ·
   rw [if_pos c27] at H
   have c27b0 := eq_true c27
   have c27b1 : decide (0 ≤ (l1.length : Int)) = true := decide_eq_true c27
   clear c27
   by_cases c28 : ((l1.length : Int) : Int).toNat ≤ 35184372088832
   ·
    rw [if_pos c28] at H
    have c28b0 := eq_true c28
    have c28b1 : decide (((l1.length : Int) : Int).toNat ≤ 35184372088832) = true := decide_eq_true c28
    clear c28
    obtain ⟨y239, hy239⟩ : ∃ y_ : List Int, y_ = (List.replicate ((l1.length : Int) : Int).toNat 0) := ⟨_, rfl⟩
    replace H : (spec_l01Add.l0 k a0 l1 l2 a3 y239 0) = some r := by first | (rw [hy239]; with_reducible exact H) | (have H2_ := (Option.bind_some _ _).symm.trans H; rw [hy239]; with_reducible exact H2_) | (have H2_ := (Option.bind_some _ _).symm.trans H; with_reducible exact H2_) | with_reducible exact H | (rw [hy239]; exact H) | exact H
    have Ny239 := as0 hy239
    clear hy239
    have H' := as0 H
    clear H
    go_enter Try.func47, Try.ntmps47
    go_wp2_with (first | ((with_reducible refine gate_dst (N := 17) rfl ?_); refine Kd.R_make (Kd.int .i64) _ 2 rfl (N := 17) rfl 22 _ _ rfl (l1.length : Int) rfl rfl Try.underlying22 (.int .i64 0) 8 info2 rfl (by decide) (by omega) 0 (ok := fun _ => True) (okp := fun _ => True) rfl (fun _ hk => hk) trivial (oa_) (Nat.le_trans (Nat.mul_le_mul_right _ (oa_ : (l1.length : Int).toNat ≤ 35184372088832)) (by omega)) (Below.refl _ _) (Nat.le_refl _) ?_; intro v240 w29 ho30 hb hg_ hnew_; clear hg_ hnew_; (first | rw [← Ny239.out] at ho30 | (simp only [Int.reduceToNat] at ho30; rw [← Ny239.out] at ho30)); have n0_ := as0 (Kd.R_lower ho30 (below_size (bs HB))); have n1_ := as0 (below_step (bs HB) hb); clear HB; have HO241 := n0_; have HB := n1_; clear n0_ n1_; clear hb ho30))
    go_loopg [10] k (fun kq v10 w' => ∃ (x9_1 : List Int) (x10_1 : Int), v10 = .int .i64 x10_1 ∧ Aside0 (spec_l01Add.l0 kq a0 l1 l2 a3 x9_1 x10_1 = some r) ∧ Aside0 (kq ≤ k) ∧ Aside0 (Kd.R (Kd.int .i64) 2 w' w.heap.size (fun _ => True) v240 x9_1) ∧ Aside0 (Below w.heap.size w w'))
    case atStart => exact ⟨(y239), (0), ea_, H', ⟨Nat.le_refl _⟩, ⟨rs HO241⟩, ⟨bs HB⟩⟩
    case round =>
     clear H'
     try clear c1
     try clear p1
     try clear q1
     try clear hx1
     try clear c2
     try clear p2
     try clear q2
     try clear hx2
     try clear c4
     try clear c5
     try clear c5b0
     try clear c5b1
     try clear c6
     try clear c6b0
     try clear c6b1
     try clear p6
     try clear c7
     try clear c7b0
     try clear c7b1
     try clear c8
     try clear c10
     try clear c10b0
     try clear c11
     try clear c11b0
     try clear c12
     try clear c12b0
     try clear p13
     try clear q13
     try clear hx13
     try clear hf13
     try clear c16
     try clear c16b0
     try clear c17
     try clear c17b0
     try clear c18
     try clear c18b0
     try clear p20
     try clear q20
     try clear hx20
     try clear hf20
     try clear p23
     try clear q23
     try clear hx23
     try clear c27
     try clear c27b0
     try clear c27b1
     try clear c28
     try clear c28b0
     try clear c28b1
     try clear hx13_0
     try clear hx20_0
     try clear hx230_0
     try clear hx232_0
     try clear hx233_0
     try clear p1
     try clear p13
     try clear p2
     try clear p20
     try clear p230
     try clear p232
     try clear p233
     try clear p6
     try clear q1
     try clear q13
     try clear q2
     try clear q20
     try clear q230
     try clear q232
     try clear q233
     obtain ⟨x9_1, x10_1, rfl, HA, HK1, HO_9, HB⟩ := hrel
     cases gk with
     | zero => exact absurd HA.out (by simp [spec_l01Add.l0])
     | succ k1 =>
      have H := HA.out
      clear HA
      simp only [spec_l01Add.l0] at H
      by_cases c31 : x10_1 < (l1.length : Int)
      ·
       rw [if_pos c31] at H
       have c31b0 : decide (x10_1 < (l1.length : Int)) = true := decide_eq_true c31
       clear c31
       by_cases c32 : 0 ≤ x10_1
       ·
        rw [if_pos c32] at H
        have c32b0 : decide (0 ≤ x10_1) = true := decide_eq_true c32
        clear c32
        by_cases c33 : x10_1 < (x9_1.length : Int)
        ·
         rw [if_pos c33] at H
         have c33b0 : decide (x10_1 < (x9_1.length : Int)) = true := decide_eq_true c33
         clear c33
         obtain ⟨y231, hy231⟩ : ∃ y_ : List Int, y_ = (x9_1.set (x10_1 : Int).toNat (rd l1 x10_1)) := ⟨_, rfl⟩
         replace H : (spec_l01Add.l0 k1 a0 l1 l2 a3 y231 (wrap64 (x10_1 + 1))) = some r := by first | (rw [hy231]; with_reducible exact H) | (have H2_ := (Option.bind_some _ _).symm.trans H; rw [hy231]; with_reducible exact H2_) | (have H2_ := (Option.bind_some _ _).symm.trans H; with_reducible exact H2_) | with_reducible exact H | (rw [hy231]; exact H) | exact H
         have Ny231 := as0 hy231
         clear hy231
         have H' := as0 H
         clear H
         have p230 : 0 ≤ (x10_1 : Int) := oa_
         have q230 : x10_1 < (l1.length : Int) := oa_
         obtain ⟨ad230, e230, hx230_0⟩ := Kd.at_int HR1.out x10_1 p230 q230
         cases e230
         replace hx230_0 := (HB.out.cell (World.block_lt_of_cell? w _ hx230_0)).trans hx230_0
         replace p230 := eq_true p230
         replace q230 := eq_true q230
         have p34 : 0 ≤ (x10_1 : Int) := oa_
         have q34 : (x10_1 : Int) < ((x9_1.length : Int) : Int) := oa_
         obtain ⟨go34, co34, eo34, gb34, gl34, cl34, HG34⟩ := Kd.R_form HO_9.out (by omega)
         (first | cases eo34 | (injection eo34 with ea_ en_ ec_; (first | subst ea_ | (injection ea_ with ea_; subst ea_)); subst ec_; clear en_))
         have GB34 := as0 gb34
         have GG34 := as0 HG34
         clear gb34 gl34 HG34
         obtain ⟨hx34_0, hf34_0⟩ := Kd.R_celln 0 HO_9.out (x10_1 : Int) p34 q34
         replace p34 := eq_true p34
         replace q34 := eq_true q34
         have HP35 := Kd.R_putg HO_9.out (x10_1 : Int) (rd l1 x10_1)
         go_wp2_with (first | ((with_reducible refine gate_store (t := 2) (p := 30) rfl ?_); refine store_event (t := 2) (p := 30) (v := ?vo_w36) (w1 := (wr.setCell ⟨go34, (x10_1 : Int).toNat, none⟩ (.int .i64 (rd l1 x10_1)))) ?hg ?ho ?hn ?hr ?_; (case ho => rfl); (case hg => rfl); (case hn => rfl); (case hr => first | (go_simp; done) | (go_simp; rfl)); intro w36 hw; have hg : wr.grownBy w36 (some go34) := (by rw [hw]; exact HP35.2); have hp_ : Kd.R (Kd.int .i64) 2 w36 w.heap.size (fun _ => True) (.slice (some ⟨go34, 0, none⟩) x9_1.length co34) y231 := (by rw [hw, Ny231.out]; exact HP35.1); clear HP35; have n0_ := as0 (hp_); have n1_ := as0 ((by rw [hw]; exact below_set (HB.out) GB34.out : Below w.heap.size w w36)); clear HO_9; clear HB; have HO_9 := n0_; have HB := n1_; clear n0_ n1_; clear hg hw hp_))
         go_roundg k1
         case measure => have := HK1.out; omega
         case rel => exact ⟨(y231), (wrap64 (x10_1 + 1)), ea_, H', ⟨by have := HK1.out; omega⟩, ⟨rs HO_9⟩, ⟨bs HB⟩⟩
        ·
         rw [if_neg c33] at H
         exact absurd H (by simp)
       ·
        rw [if_neg c32] at H
        exact absurd H (by simp)
      ·
       rw [if_neg c31] at H
       have c31b0 : decide (x10_1 < (l1.length : Int)) = false := decide_eq_false c31
       clear c31
       have H' := as0 H
       clear H
       go_wp2
       go_loopg [11] k1 (fun kq v11 w' => ∃ (x9_2 : List Int) (x11_2 : Int), v11 = .int .i64 x11_2 ∧ Aside0 (spec_l01Add.l1 kq a0 l2 a3 x9_2 x11_2 = some r) ∧ Aside0 (kq ≤ k1) ∧ Aside0 (Kd.R (Kd.int .i64) 2 w' w.heap.size (fun _ => True) v240 x9_2) ∧ Aside0 (Below w.heap.size w w'))
       case atStart => exact ⟨(x9_1), (0), ea_, H', ⟨Nat.le_refl _⟩, ⟨rs HO_9⟩, ⟨bs HB⟩⟩
       case round =>
        clear H'
        try clear c1
        try clear p1
        try clear q1
        try clear hx1
        try clear c2
        try clear p2
        try clear q2
        try clear hx2
        try clear c3
        try clear p3
        try clear q3
        try clear hx3
        try clear c4
        try clear c5
        try clear c5b0
        try clear c5b1
        try clear c6
        try clear c6b0
        try clear c6b1
        try clear p6
        try clear c7
        try clear c7b0
        try clear c7b1
        try clear c8
        try clear c10
        try clear c10b0
        try clear c11
        try clear c11b0
        try clear c12
        try clear c12b0
        try clear p13
        try clear q13
        try clear hx13
        try clear hf13
        try clear c16
        try clear c16b0
        try clear c17
        try clear c17b0
        try clear c18
        try clear c18b0
        try clear p20
        try clear q20
        try clear hx20
        try clear hf20
        try clear p23
        try clear q23
        try clear hx23
        try clear c27
        try clear c27b0
        try clear c27b1
        try clear c28
        try clear c28b0
        try clear c28b1
        try clear c31
        try clear c31b0
        try clear c32
        try clear c32b0
        try clear c33
        try clear c33b0
        try clear p34
        try clear q34
        try clear hx34
        try clear hf34
        try clear hx13_0
        try clear hx20_0
        try clear hx230_0
        try clear hx232_0
        try clear hx233_0
        try clear hx34_0
        try clear p1
        try clear p13
        try clear p2
        try clear p20
        try clear p23
        try clear p230
        try clear p232
        try clear p233
        try clear p34
        try clear p6
        try clear q1
        try clear q13
        try clear q2
        try clear q20
        try clear q23
        try clear q230
        try clear q232
        try clear q233
        try clear q34
        obtain ⟨x9_2, x11_2, rfl, HA, HK2, HO_9, HB⟩ := hrel
        cases gk with
        | zero => exact absurd HA.out (by simp [spec_l01Add.l1])
        | succ k2 =>
         have H := HA.out
         clear HA
         simp only [spec_l01Add.l1] at H
         by_cases c37 : x11_2 < (l2.length : Int)
         ·
          rw [if_pos c37] at H
          have c37b0 : decide (x11_2 < (l2.length : Int)) = true := decide_eq_true c37
          clear c37
          by_cases c38 : 0 ≤ x11_2
          ·
           rw [if_pos c38] at H
           have c38b0 : decide (0 ≤ x11_2) = true := decide_eq_true c38
           clear c38
           by_cases c39 : x11_2 < (x9_2.length : Int)
           ·
            rw [if_pos c39] at H
            have c39b0 : decide (x11_2 < (x9_2.length : Int)) = true := decide_eq_true c39
            clear c39
            replace H := Option.bind_eq_some_iff.mp H
            obtain ⟨t234, A400, H⟩ := H
            have A40 := as0 A400
            clear A400
            obtain ⟨y235, hy235⟩ : ∃ y_ : List Int, y_ = (x9_2.set (x11_2 : Int).toNat t234) := ⟨_, rfl⟩
            replace H : (spec_l01Add.l1 k2 a0 l2 a3 y235 (wrap64 (x11_2 + 1))) = some r := by first | (rw [hy235]; with_reducible exact H) | (have H2_ := (Option.bind_some _ _).symm.trans H; rw [hy235]; with_reducible exact H2_) | (have H2_ := (Option.bind_some _ _).symm.trans H; with_reducible exact H2_) | with_reducible exact H | (rw [hy235]; exact H) | exact H
            have Ny235 := as0 hy235
            clear hy235
            have H' := as0 H
            clear H
            try go_wp2
            have n0_ := as0 (Kd.R_drew HO_9.out)
            have n1_ := as0 (below_drew1 HB.out)
            clear HO_9
            clear HB
            have HO_9 := n0_
            have HB := n1_
            clear n0_ n1_
            obtain ⟨Ao43, co43, eo43⟩ := Kd.R_slice HO_9.out
            (first | subst eo43 | (injection eo43 with f1_ f2_ f3_; have f4_ := f1_.symm; have f5_ := f3_.symm; clear f1_ f2_ f3_; subst f4_; subst f5_))
            have p232 : 0 ≤ (x11_2 : Int) := oa_
            have q232 : x11_2 < (x9_2.length : Int) := oa_
            obtain ⟨ad232, e232, hx232_0⟩ := Kd.at_int (Kd.R_reads' HO_9.out).2.2 x11_2 p232 q232
            cases e232
            replace p232 := eq_true p232
            replace q232 := eq_true q232
            have p233 : 0 ≤ (x11_2 : Int) := oa_
            have q233 : x11_2 < (l2.length : Int) := oa_
            obtain ⟨ad233, e233, hx233_0⟩ := Kd.at_int HR2.out x11_2 p233 q233
            have hw233_0 := hx233_0
            cases e233
            replace hx233_0 := (HB.out.cell (World.block_lt_of_cell? w _ hx233_0)).trans hx233_0
            replace p233 := eq_true p233
            replace q233 := eq_true q233
            refine start_ (n := 17) (S := fun w' => w'.cell? (ad232.add (x11_2).toNat) = some (.int .i64 (rd x9_2 x11_2)) ∧ w'.cell? (ad233.add (x11_2).toNat) = some (.int .i64 (rd l2 x11_2))) (ds := [16]) #[false, false, false, false, false, false, false, false, false, false, false, false, false, false, false, false, false] (by kernel_rfl) rfl rfl ⟨hx232_0, ((HB.out.cell (World.block_lt_of_cell? w _ hw233_0)).trans hw233_0)⟩ (fun hHeld => ?_); refine with_tabW spec_l01Add.tab9 spec_l01Add.bits9 (fun HT_ HW_ => ?_)
            generalize wr.drew = w42 at HO_9 HB hx232_0 hx233_0 hHeld ⊢
            refine pm_ HT_ (i := 0) (N := some 37) ?_
            refine pm_ HT_ (i := 1) (N := some 38) ?_
            refine pm_ HT_ (i := 2) (N := some 39) ?_
            refine pm_ HT_ (i := 3) (N := some 40) ?_
            refine pm_ HT_ (i := 4) (N := some 41) ?_
            refine pm_ HT_ (i := 5) (N := some 42) ?_
            refine pm_ HT_ (i := 7) (N := some 44) ?_
            refine pm_ HT_ (i := 8) (N := some 45) ?_
            refine pm_ HT_ (i := 9) (N := some 46) ?_
            refine pm_ HT_ (i := 10) (N := some 47) ?_
            refine tm2_ HT_ HW_ (i := 6) (N := some 43) hHeld ?_
            refine tm2_ HT_ HW_ (i := 11) (N := some 48) hHeld ?_
            refine pm_ HT_ (i := 12) (N := some 49) ?_
            refine pm_ HT_ (i := 13) (N := some 50) ?_
            refine one_ (i := 14) (N := some 51) #[true, true, true, true, true, true, true, true, true, true, true, true, true, true, true, false, false] rfl rfl (one_of HT_.out (by kernel_rfl)) (by decide) (fun K hK => ?_)
            refine goes_ Try.func61 (by kernel_rfl) rfl #[.int .i64 a0, .int .i64 (wrap64 ((rd x9_2 x11_2) + (wrap64 (a3 * (rd l2 x11_2)))))] (by rfl) rfl rfl (by (try simp only [List.map_toArray, List.map_cons, List.map_nil]); first | done | rfl | (simp only [List.length_drop, List.length_take]; rfl)) ?_
            with_reducible refine (spec_l01Mod.calls a0 (wrap64 ((rd x9_2 x11_2) + (wrap64 (a3 * (rd l2 x11_2))))) t234 _ A40.out).mono ?_
            rintro e w' ⟨rfl, ⟨nd, rfl⟩⟩
            refine ⟨_, rfl, ?_⟩
            have p41 : 0 ≤ (x11_2 : Int) := oa_
            have q41 : (x11_2 : Int) < ((x9_2.length : Int) : Int) := oa_
            obtain ⟨go41, co41, eo41, gb41, gl41, cl41, HG41⟩ := Kd.R_form HO_9.out (by omega)
            (first | cases eo41 | (injection eo41 with ea_ en_ ec_; (first | subst ea_ | (injection ea_ with ea_; subst ea_)); subst ec_; clear en_))
            have GB41 := as0 gb41
            have GG41 := as0 HG41
            clear gb41 gl41 HG41
            (first | simp only [add_plain] at hx232_0 | skip)
            obtain ⟨hx41_0, hf41_0⟩ := Kd.R_celln 0 HO_9.out (x11_2 : Int) p41 q41
            replace p41 := eq_true p41
            replace q41 := eq_true q41
            have HP44 := Kd.R_putn HO_9.out (x11_2 : Int) t234
            rw [← Ny235.out] at HP44
            have HQ44 := as0 HP44
            clear HP44
            refine hK.out _ _ ⟨hHeld.1, ((HB.out.cell (World.block_lt_of_cell? w _ hw233_0)).trans hw233_0)⟩ (fun hHeld => ?_)
            clear hK K
            refine nm_ (some 51) ?_
            refine pm_ HT_ (i := 15) (N := some 52) ?_
            refine last_ (i := 16) (N := none) #[true, true, true, true, true, true, true, true, true, true, true, true, true, true, true, true, true] rfl rfl (one_of HT_.out (by kernel_rfl)) (by decide) (fun K hK => ?_)
            refine skip_ (w1 := ?_) (by rfl) rfl ?_ ?_
            rotate_left
            ·
             go_simp
             rfl
            refine hK.out _ _ ?_
            clear hK K
            refine done_ (done_of HT_.out (by kernel_rfl)) ?_
            try go_wp2
            go_roundg k2
            case measure => have := HK1.out; have := HK2.out; omega
            case rel => exact ⟨(y235), (wrap64 (x11_2 + 1)), ea_, H', ⟨by have := HK1.out; have := HK2.out; omega⟩, ⟨by (with_reducible repeat (first | apply Kd.R_alloc | apply Kd.R_drewN | apply Kd.R_drew)); exact HQ44.out⟩, ⟨by repeat (first | (with_reducible first | exact HB.out | apply below_alloc | apply pw_below_drewN | apply below_drew1 | refine below_set ?_ GB41.out) | exact HB.out)⟩⟩
           ·
            rw [if_neg c39] at H
            exact absurd H (by simp)
          ·
           rw [if_neg c38] at H
           exact absurd H (by simp)
         ·
          rw [if_neg c37] at H
          have c37b0 : decide (x11_2 < (l2.length : Int)) = false := decide_eq_false c37
          clear c37
          replace H := Option.bind_eq_some_iff.mp H
          obtain ⟨t236, A450, H⟩ := H
          have A45 := as0 A450
          clear A450
          obtain rfl := Option.some.inj H
          obtain ⟨Ao46, co46, eo46⟩ := Kd.R_slice HO_9.out
          subst eo46
          go_wp2_with (first | ((with_reducible refine gate_callee (f := 82) rfl ?_); refine goesM_ (some 54) rfl rfl Try.func82 #[.slice Ao46 x9_2.length co46] rfl ?_; (with_reducible refine (spec_l01Trim.calls k2 _ _ x9_2 t236 _ ?side1 ?side2 A45.out).mono ?_); (case side1 => exact cs ((Kd.R_reads' HO_9.out).2.2)); (case side2 => exact (Kd.R_reads' HO_9.out).2.1); rintro e w47 ⟨v237, rfl, ho0, hb⟩; refine ⟨_, rfl, ?_⟩; have n0_ := as0 (Kd.R_elder' (rs HO_9) (Kd.R_base ho0) hb); have n1_ := as0 (Kd.R_lower (Kd.R_new' ho0 (Kd.R_lt (rs HO_9))) (below_size (bs HB))); have n2_ := as0 (below_step (bs HB) hb); clear HO_9; clear HB; have HO_9 := n0_; have HO238 := n1_; have HB := n2_; clear n0_ n1_ n2_; (try clear hb); (try clear hb2); (try clear hk); (try clear hi); (try clear ho0)))
          go_ret
          exact ⟨_, er_, by (with_reducible repeat (first | apply Kd.R_alloc | apply Kd.R_drewN | apply Kd.R_drew)); exact Kd.R_mono HO238.out (fun _ hk => trivial), bs HB⟩
   ·
    rw [if_neg c28] at H
    exact absurd H (by simp)
  ·
   rw [if_neg c27] at H
   exact absurd H (by simp)
def spec_l01Monic.f (k : Nat) (a0 : Int) (l1 : List Int) : Option (List Int) := if (l1.length : Int) = 0 then (some (([] : List Int))) else (if 0 ≤ (wrap64 ((l1.length : Int) - 1)) then (if (wrap64 ((l1.length : Int) - 1)) < (l1.length : Int) then ((spec_l01Inverse.f k a0 (rd l1 (wrap64 ((l1.length : Int) - 1)))).bind fun t718 => ((spec_l01Add.f k a0 (([] : List Int)) l1 t718).bind fun t719 => (some t719))) else (none)) else (none))
set_option maxHeartbeats 8000000 in
set_option maxRecDepth 100000 in
theorem spec_l01Monic.calls (k : Nat) (a0 : Int) (A1 : Option Addr) (c1 : Nat) (l1 : List Int) (r : List Int) (w : World) (hr1 : Kd.C (Kd.int .i64) w A1 l1.length l1) (hc1 : l1.length ≤ c1) (h : spec_l01Monic.f k a0 l1 = some r) :
  Calls Try.prog 108 #[.int .i64 a0, .slice A1 l1.length c1] w fun e w' => ∃ v0_ : Value, e = .returned (v0_) ∧ Kd.R (Kd.int .i64) 2 w' w.heap.size (fun _ => True) v0_ r ∧ Below w.heap.size w w' := by
 have HR1 := as0 hr1
 have HC1 := as0 hc1
 clear hr1 hc1
 have HB := as0 (Below.refl w.heap.size w)
 have H : (if (l1.length : Int) = 0 then (some (([] : List Int))) else (if 0 ≤ (wrap64 ((l1.length : Int) - 1)) then (if (wrap64 ((l1.length : Int) - 1)) < (l1.length : Int) then ((spec_l01Inverse.f k a0 (rd l1 (wrap64 ((l1.length : Int) - 1)))).bind fun t718 => ((spec_l01Add.f k a0 (([] : List Int)) l1 t718).bind fun t719 => (some t719))) else (none)) else (none))) = some r := h
 clear h
 by_cases c3 : (l1.length : Int) = 0
 ·
  rw [if_pos c3] at H
  have c3b0 : ((l1.length : Int) == 0) = true := beq_iff_eq.mpr c3
  have c3b1 : ((l1.length : Int) != 0) = false := bne_eq_false_iff_eq.mpr c3
  clear c3
  obtain ⟨y711, hy711⟩ : ∃ y_ : List Int, y_ = (([] : List Int)) := ⟨_, rfl⟩
  replace H : (some y711) = some r := by first | (rw [hy711]; with_reducible exact H) | (have H2_ := (Option.bind_some _ _).symm.trans H; rw [hy711]; with_reducible exact H2_) | (have H2_ := (Option.bind_some _ _).symm.trans H; with_reducible exact H2_) | with_reducible exact H | (rw [hy711]; exact H) | exact H
  have Ny711 := as0 hy711
  clear hy711
  obtain rfl := Option.some.inj H
  go_enter Try.func108, Try.ntmps108
  go_wp2_with (first | ((with_reducible refine gate_dst (N := 8) rfl ?_); refine Kd.R_lit (Kd.int .i64) _ 2 ?hg (N := 8) ?hd (xs := ([] : List Int)) (inner := []) (ok := fun _ => True) (okp := fun _ => True) ?hr ?hp (fun _ hk => hk) trivial (Below.refl _ _) (Nat.le_refl _) (by simp) ?_; (case hd => rfl); (case hg => rfl); (case hr => first | (go_simp; done) | (go_simp; rfl)); (case hp => exact (Reps.none _ _)); intro v712 w4 ho5 hb hg_ hnew_; clear hg_ hnew_; (first | rw [← Ny711.out] at ho5 | (simp only [Int.reduceToNat] at ho5; rw [← Ny711.out] at ho5)); have n0_ := as0 (Kd.R_lower ho5 (below_size (bs HB))); have n1_ := as0 (below_step (bs HB) hb); clear HB; have HO713 := n0_; have HB := n1_; clear n0_ n1_; clear hb ho5))
  go_ret
  exact ⟨_, er_, rs HO713, bs HB⟩
 ·
  rw [if_neg c3] at H
  have c3b0 : ((l1.length : Int) == 0) = false := beq_eq_false_iff_ne.mpr c3
  have c3b1 : ((l1.length : Int) != 0) = true := bne_iff_ne.mpr c3
  have c3b2 : ¬ (l1 = []) := fun h_ => c3 (by rw [h_]; rfl)
  obtain ⟨y714, hy714⟩ : ∃ y_ : List Int, y_ = (([] : List Int)) := ⟨_, rfl⟩
  replace H : (if 0 ≤ (wrap64 ((l1.length : Int) - 1)) then (if (wrap64 ((l1.length : Int) - 1)) < (l1.length : Int) then ((spec_l01Inverse.f k a0 (rd l1 (wrap64 ((l1.length : Int) - 1)))).bind fun t718 => ((spec_l01Add.f k a0 y714 l1 t718).bind fun t719 => (some t719))) else (none)) else (none)) = some r := by first | (rw [hy714]; with_reducible exact H) | (have H2_ := (Option.bind_some _ _).symm.trans H; rw [hy714]; with_reducible exact H2_) | (have H2_ := (Option.bind_some _ _).symm.trans H; with_reducible exact H2_) | with_reducible exact H | (rw [hy714]; exact H) | exact H
  have Ny714 := as0 hy714
  clear hy714
  obtain ⟨ji6, hji6⟩ : ∃ j_ : Int, (wrap64 ((l1.length : Int) - 1)) = j_ := ⟨_, rfl⟩
  replace H : (if 0 ≤ (ji6) then (if (ji6) < (l1.length : Int) then ((spec_l01Inverse.f k a0 (rd l1 (ji6))).bind fun t718 => ((spec_l01Add.f k a0 y714 l1 t718).bind fun t719 => (some t719))) else (none)) else (none)) = some r := by first | (rw [hji6] at H; exact H) | (simp only [hji6] at H ⊢; exact H)
  have hji6w : (IntKind.i64.wrap ((l1.length : Int) - 1)) = ji6 := (i64_w _).trans hji6
  by_cases c7 : 0 ≤ (ji6)
  ·
   rw [if_pos c7] at H
   have c7b0 : decide (0 ≤ (ji6)) = true := decide_eq_true c7
   clear c7
   by_cases c8 : (ji6) < (l1.length : Int)
   ·
    rw [if_pos c8] at H
    have c8b0 : decide ((ji6) < (l1.length : Int)) = true := decide_eq_true c8
    clear c8
    replace H := Option.bind_eq_some_iff.mp H
    obtain ⟨t718, A90, H⟩ := H
    have A9 := as0 A90
    clear A90
    replace H := Option.bind_eq_some_iff.mp H
    obtain ⟨t719, A100, H⟩ := H
    have A10 := as0 A100
    clear A100
    obtain rfl := Option.some.inj H
    go_enter Try.func108, Try.ntmps108
    go_wp2_with (first | ((with_reducible refine gate_dst (N := 10) rfl ?_); refine Kd.R_lit (Kd.int .i64) _ 2 ?hg (N := 10) ?hd (xs := ([] : List Int)) (inner := []) (ok := fun _ => True) (okp := fun _ => True) ?hr ?hp (fun _ hk => hk) trivial (Below.refl _ _) (Nat.le_refl _) (by simp) ?_; (case hd => rfl); (case hg => rfl); (case hr => first | (go_simp; done) | (go_simp; rfl)); (case hp => exact (Reps.none _ _)); intro v715 w11 ho12 hb hg_ hnew_; clear hg_ hnew_; (first | rw [← Ny714.out] at ho12 | (simp only [Int.reduceToNat] at ho12; rw [← Ny714.out] at ho12)); have n0_ := as0 (Kd.R_lower ho12 (below_size (bs HB))); have n1_ := as0 (below_step (bs HB) hb); clear HB; have HO716 := n0_; have HB := n1_; clear n0_ n1_; clear hb ho12; have p717 : 0 ≤ ((ji6) : Int) := oa_; have q717 : (ji6) < (l1.length : Int) := oa_; obtain ⟨ad717, e717, hx717_0⟩ := Kd.at_int HR1.out (ji6) p717 q717; cases e717; replace hx717_0 := (HB.out.cell (World.block_lt_of_cell? w _ hx717_0)).trans hx717_0; replace p717 := eq_true p717; replace q717 := eq_true q717) | ((with_reducible refine gate_callee (f := 60) rfl ?_); refine goesL_ (some 19) rfl rfl Try.func60 (by kernel_rfl) rfl #[.int .i64 a0, .int .i64 (rd l1 (ji6))] rfl (by (try simp only [List.map_toArray, List.map_cons, List.map_nil]); first | done | (simp only [hji6]; rfl) | rfl | (simp only [List.length_drop, List.length_take]; rfl)) ?_; (with_reducible refine (spec_l01Inverse.calls k a0 (rd l1 (ji6)) t718 _ A9.out).mono ?_); rintro e w' ⟨rfl, ⟨nd, rfl⟩⟩; refine ⟨_, rfl, ?_⟩; obtain ⟨Ao13, co13, eo13⟩ := Kd.R_slice HO716.out; subst eo13) | ((with_reducible refine gate_callee (f := 47) rfl ?_); refine goesM_ (some 20) rfl rfl Try.func47 #[.int .i64 a0, .slice Ao13 y714.length co13, .slice (some ad717) l1.length c1, .int .i64 t718] rfl ?_; (with_reducible refine (spec_l01Add.calls k a0 _ _ y714 _ _ l1 t718 t719 _ ?side1 ?side2 ?side3 ?side4 A10.out).mono ?_); (case side1 => exact cs ((Kd.R_reads' HO716.out).2.2)); (case side2 => exact (Kd.R_reads' HO716.out).2.1); (case side3 => exact cs (Kd.C_below HR1.out HB.out)); (case side4 => exact HC1.out); rintro e w14 ⟨v720, rfl, ho0, hb⟩; refine ⟨_, rfl, ?_⟩; have n0_ := as0 (Kd.R_elder' (rs HO716) (Kd.R_base ho0) hb); have n1_ := as0 (Kd.R_lower (Kd.R_new' ho0 (Kd.R_lt (rs HO716))) (below_size (bs HB))); have n2_ := as0 (below_step (bs HB) hb); clear HO716; clear HB; have HO716 := n0_; have HO721 := n1_; have HB := n2_; clear n0_ n1_ n2_; (try clear hb); (try clear hb2); (try clear hk); (try clear hi); (try clear ho0)))
    go_ret
    exact ⟨_, by first | rfl | (simp [errW_none, errW_some] <;> rfl) | (simp only [← hji6]; first | rfl | (simp [errW_none, errW_some] <;> rfl)) | (simp [*, errW_none, errW_some] <;> rfl), by (with_reducible repeat (first | apply Kd.R_alloc | apply Kd.R_drewN | apply Kd.R_drew)); exact Kd.R_mono HO721.out (fun _ hk => trivial), bs HB⟩
   ·
    rw [if_neg c8] at H
    exact absurd H (by simp)
  ·
   rw [if_neg c7] at H
   exact absurd H (by simp)
end Go.Proofs.Ytlmolloallhclaa.H
set_option linter.unusedVariables false
set_option linter.unusedSimpArgs false
namespace Go.Proofs.Ytlmolloallhclaa.H
open Go.RowKit Go.Proofs.YtlmolloallhclaaW.PrintWords Go.Proofs.YtlmolloallhclaaW.PrintLast Go.Proofs.Ytlmolloallhclaa.Num
def ad (p c : Int) (g : List Int) : List Int → Nat → Nat → List Int
 | acc, _, 0 => acc
 | acc, i, d + 1 => ad p c g (acc.set i ((acc.getD i 0 + c * g.getD i 0) % p)) (i + 1) d
def pad (f : List Int) (n : Nat) : List Int := f ++ List.replicate (n - f.length) 0
def addL (p : Int) (f g : List Int) (c : Int) : List Int := trimL (ad p c g (pad f (max f.length g.length)) 0 g.length)
theorem ad_len (p c : Int) (g : List Int) : ∀ d i acc, (ad p c g acc i d).length = acc.length
 | 0, _, _ => rfl
 | d + 1, i, acc => by simp [ad, ad_len p c g d]
theorem ad_inR {p c : Int} (hp : 0 < p) (g : List Int) : ∀ d i acc, InR p acc → InR p (ad p c g acc i d)
 | 0, _, _, h => h
 | d + 1, i, acc, h => ad_inR hp g d (i + 1) _ (h.set i (emod_bd hp))
theorem pad_len (f : List Int) (n : Nat) (h : f.length ≤ n) : (pad f n).length = n := by simp [pad]; omega
theorem pad_inR {p : Int} (hp : 0 < p) {f : List Int} (h : InR p f) (n : Nat) : InR p (pad f n) := h.append (InR.zeros hp _)
theorem addL_len (p : Int) (f g : List Int) (c : Int) : (addL p f g c).length ≤ max f.length g.length := by
 have := trimL_len (ad p c g (pad f (max f.length g.length)) 0 g.length)
 rw [ad_len, pad_len _ _ (Nat.le_max_left _ _)] at this; exact this
theorem addL_inR {p : Int} (hp : 0 < p) {f : List Int} (h : InR p f) (g : List Int) (c : Int) : InR p (addL p f g c) := (ad_inR hp g _ _ _ (pad_inR hp h _)).trim
theorem spec_add {p c : Int} {f g : List Int} (hp : 2 ≤ p) (hp2 : p ≤ 10007) (hf : f.length ≤ 1000) (hg : g.length ≤ 1000) (rf : InR p f) (rg : InR p g) (c0 : 0 ≤ c) (c1 : c ≤ 100000) :
  Ev (fun k => spec_l01Add.f k p f g c) (addL p f g c) := by
 have loop2 : ∀ d i (acc : List Int), i + d = g.length → g.length ≤ acc.length → acc.length ≤ 1000 → InR p acc → Ev (fun k => spec_l01Add.l1 k p g c acc (i : Int)) (trimL (ad p c g acc i d)) := by
  intro d
  induction d with
  | zero =>
   intro i acc h1 h2 h3 h4
   obtain ⟨K, h⟩ := spec_trim acc (by omega)
   refine ⟨K + 1, fun k hk => ?_⟩
   obtain ⟨k, rfl⟩ : ∃ m, k = m + 1 := ⟨k - 1, by omega⟩
   have e := h k (by omega)
   simp only at e
   simp only [spec_l01Add.l1]
   rw [if_neg (by omega), e]
   simp [ad]
  | succ d ih =>
   intro i acc h1 h2 h3 h4
   obtain ⟨K, h⟩ := ih (i + 1) (acc.set i ((acc.getD i 0 + c * g.getD i 0) % p)) (by omega) (by simpa using h2) (by simpa using h3) (h4.set i (emod_bd (by omega)))
   refine ⟨K + 1, fun k hk => ?_⟩
   obtain ⟨k, rfl⟩ : ∃ m, k = m + 1 := ⟨k - 1, by omega⟩
   have e := h k (by omega)
   simp only at e
   have hb := mul_bd2 hp2 (rg.get (by omega) i) (y := c) (by omega)
   rw [Int.mul_comm] at hb
   have ha := h4.get (by omega) i
   simp only [spec_l01Add.l1]
   rw [if_pos (by omega), if_pos (by omega), if_pos (by omega), rd_nat, rd_nat, w64 (x := c * g.getD i 0) (by omega) (by omega), w64 (by omega) (by omega), spec_mod (by omega) (by omega), Option.bind_some, wn (by omega), Int.toNat_natCast, e]
   simp [ad]
 have loop1 : ∀ d i (acc : List Int), i + d = f.length → acc.length = max f.length g.length → acc.take i = f.take i → acc.drop i = List.replicate (acc.length - i) 0 →
   Ev (fun k => spec_l01Add.l0 k p f g c acc (i : Int)) (addL p f g c) := by
  intro d
  induction d with
  | zero =>
   intro i acc h1 h2 h3 h4
   have hacc : acc = pad f (max f.length g.length) := by
    have := List.take_append_drop i acc
    rw [h3, h4, List.take_of_length_le (by omega)] at this
    rw [← this, pad, h2, show i = f.length by omega]
   obtain ⟨K, h⟩ := loop2 g.length 0 acc (by omega) (by omega) (by omega) (by rw [hacc]; exact pad_inR (by omega) rf _)
   refine ⟨K + 1, fun k hk => ?_⟩
   obtain ⟨k, rfl⟩ : ∃ m, k = m + 1 := ⟨k - 1, by omega⟩
   have e := h k (by omega)
   simp only [Int.natCast_zero] at e
   simp only [spec_l01Add.l0]
   rw [if_neg (by omega), e, hacc]
   rfl
  | succ d ih =>
   intro i acc h1 h2 h3 h4
   obtain ⟨K, h⟩ := ih (i + 1) (acc.set i (f.getD i 0)) (by omega) (by simpa using h2)
    (by rw [List.take_succ_eq_append_getElem (by simp; omega), List.take_succ_eq_append_getElem (by omega), List.getElem_set_self, List.take_set_of_le (Nat.le_refl i), h3, List.getD_eq_getElem?_getD, List.getElem?_eq_getElem (by omega)]; rfl)
    (by
     rw [List.drop_set_of_lt (by omega), List.length_set]
     have e1 : acc.drop (i + 1) = (acc.drop i).drop 1 := by rw [List.drop_drop]
     rw [e1, h4, List.drop_replicate]
     congr 1)
   refine ⟨K + 1, fun k hk => ?_⟩
   obtain ⟨k, rfl⟩ : ∃ m, k = m + 1 := ⟨k - 1, by omega⟩
   have e := h k (by omega)
   simp only at e
   simp only [spec_l01Add.l0]
   rw [if_pos (by omega), if_pos (by omega), if_pos (by omega), rd_nat, wn (by omega), Int.toNat_natCast, e]
 unfold spec_l01Add.f
 by_cases hlt : (f.length : Int) < (g.length : Int)
 ·
  obtain ⟨K, h⟩ := loop1 f.length 0 (List.replicate g.length 0) (by omega) (by simp; omega) (by simp) (by simp)
  refine ⟨K, fun k hk => ?_⟩
  have e := h k hk
  simp only [Int.natCast_zero] at e
  simp only
  rw [if_pos hlt, if_pos (by omega), if_pos (by omega), Int.toNat_natCast, e]
 ·
  obtain ⟨K, h⟩ := loop1 f.length 0 (List.replicate f.length 0) (by omega) (by simp; omega) (by simp) (by simp)
  refine ⟨K, fun k hk => ?_⟩
  have e := h k hk
  simp only [Int.natCast_zero] at e
  simp only
  rw [if_neg hlt, if_pos (by omega), if_pos (by omega), Int.toNat_natCast, e]
theorem cpInto_pad (f : List Int) (n : Nat) (h : f.length ≤ n) : cpInto (List.replicate n 0) f = pad f n := by
 simp [cpInto, pad]
theorem impl_add {p c : Int} {f g : List Int} (hp : 2 ≤ p) (hp2 : p ≤ 10007) (hf : f.length ≤ 1000) (hg : g.length ≤ 1000) (rf : InR p f) (rg : InR p g) (c0 : 0 ≤ c) (c1 : c ≤ 100000) :
  Ev (fun k => impl_field_add.f k p f g c) (addL p f g c) := by
 have loop2 : ∀ d i (acc : List Int), i + d = g.length → g.length ≤ acc.length → acc.length ≤ 1000 → InR p acc → Ev (fun k => impl_field_add.l0 k p c acc g (g.length : Int) (i : Int)) (trimL (ad p c g acc i d)) := by
  intro d
  induction d with
  | zero =>
   intro i acc h1 h2 h3 h4
   obtain ⟨K, h⟩ := impl_trim acc (by omega)
   refine ⟨K + 1, fun k hk => ?_⟩
   obtain ⟨k, rfl⟩ : ∃ m, k = m + 1 := ⟨k - 1, by omega⟩
   have e := h k (by omega)
   simp only at e
   simp only [impl_field_add.l0]
   rw [if_neg (by omega), e]
   simp [ad]
  | succ d ih =>
   intro i acc h1 h2 h3 h4
   obtain ⟨K, h⟩ := ih (i + 1) (acc.set i ((acc.getD i 0 + c * g.getD i 0) % p)) (by omega) (by simpa using h2) (by simpa using h3) (h4.set i (emod_bd (by omega)))
   refine ⟨K + 1, fun k hk => ?_⟩
   obtain ⟨k, rfl⟩ : ∃ m, k = m + 1 := ⟨k - 1, by omega⟩
   have e := h k (by omega)
   simp only at e
   have hb := mul_bd2 hp2 (rg.get (by omega) i) (y := c) (by omega)
   rw [Int.mul_comm] at hb
   have ha := h4.get (by omega) i
   simp only [impl_field_add.l0]
   rw [if_pos (by omega), if_pos (by omega), if_pos (by omega), if_pos (by omega), rd_nat, rd_nat, w64 (x := c * g.getD i 0) (by omega) (by omega), w64 (by omega) (by omega), impl_mod (by omega) (by omega), Option.bind_some, wn (by omega), Int.toNat_natCast, e]
   simp [ad]
 unfold impl_field_add.f
 by_cases hlt : (f.length : Int) < (g.length : Int)
 ·
  obtain ⟨K, h⟩ := loop2 g.length 0 (pad f g.length) (by omega) (by rw [pad_len _ _ (by omega)]; omega) (by rw [pad_len _ _ (by omega)]; omega) (pad_inR (by omega) rf _)
  refine ⟨K, fun k hk => ?_⟩
  have e := h k hk
  simp only [Int.natCast_zero] at e
  simp only
  rw [if_pos hlt, if_pos (by omega), if_pos (by omega), Int.toNat_natCast, cpInto_pad _ _ (by omega), e, addL, Nat.max_eq_right (by omega)]
 ·
  obtain ⟨K, h⟩ := loop2 g.length 0 (pad f f.length) (by omega) (by rw [pad_len _ _ (by omega)]; omega) (by rw [pad_len _ _ (by omega)]; omega) (pad_inR (by omega) rf _)
  refine ⟨K, fun k hk => ?_⟩
  have e := h k hk
  simp only [Int.natCast_zero] at e
  simp only
  rw [if_neg hlt, if_pos (by omega), if_pos (by omega), Int.toNat_natCast, cpInto_pad _ _ (by omega), e, addL, Nat.max_eq_left (by omega)]
theorem impl_times {p c : Int} {f : List Int} (hp : 2 ≤ p) (hp2 : p ≤ 10007) (hf : f.length ≤ 1000) (rf : InR p f) (c0 : 0 ≤ c) (c1 : c ≤ 100000) : Ev (fun k => impl_field_times.f k p f c) (addL p [] f c) := by
 obtain ⟨K, h⟩ := impl_add (f := []) (g := f) hp hp2 (by simp) hf InR.nil rf c0 c1
 refine ⟨K, fun k hk => ?_⟩
 have e := h k hk
 simp only at e
 simp only [impl_field_times.f, e, Option.bind_some]
def inv (p x : Int) : Int := x ^ (p - 2).toNat % p
theorem inv_bd {p : Int} (hp : 0 < p) (x : Int) : 0 ≤ inv p x ∧ inv p x < p := emod_bd hp
def monicL (p : Int) (f : List Int) : List Int := addL p [] f (inv p (rd f ((f.length : Int) - 1)))
theorem spec_monic {p : Int} {f : List Int} (hp : 2 ≤ p) (hp2 : p ≤ 10007) (hf : f.length ≤ 1000) (rf : InR p f) : Ev (fun k => spec_l01Monic.f k p f) (if f.length = 0 then [] else monicL p f) := by
 by_cases h0 : f.length = 0
 ·
  exact ⟨0, fun k _ => by simp only [spec_l01Monic.f]; rw [if_pos (by omega), if_pos h0]⟩
 ·
  have hb := inv_bd (p := p) (by omega) (rd f ((f.length : Int) - 1))
  obtain ⟨K1, h1⟩ := spec_inverse (x := rd f ((f.length : Int) - 1)) hp hp2
  obtain ⟨K2, h2⟩ := spec_add (c := inv p (rd f ((f.length : Int) - 1))) (f := []) (g := f) hp hp2 (by simp) hf InR.nil rf (by omega) (by omega)
  have hw : wrap64 ((f.length : Int) - 1) = (f.length : Int) - 1 := w64 (by omega) (by omega)
  refine ⟨K1 + K2, fun k hk => ?_⟩
  have e1 := h1 k (by omega)
  have e2 := h2 k (by omega)
  simp only at e1 e2
  simp only [spec_l01Monic.f]
  rw [if_neg (by omega), hw, if_pos (by omega), if_pos (by omega), e1, Option.bind_some, if_neg h0]
  exact (congrArg (fun z => z.bind fun t => some t) e2).trans rfl
theorem impl_monic {p : Int} {f : List Int} (hp : 2 ≤ p) (hp2 : p ≤ 10007) (hf : f.length ≤ 1000) (rf : InR p f) (h0 : f.length ≠ 0) : Ev (fun k => impl_field_monic.f k p f) (monicL p f) := by
 have hb := inv_bd (p := p) (by omega) (rd f ((f.length : Int) - 1))
 have hr : 0 ≤ rd f ((f.length : Int) - 1) ∧ rd f ((f.length : Int) - 1) < p := by
  have := rf.get (by omega) (f.length - 1)
  rw [← rd_nat] at this
  rwa [show ((f.length - 1 : Nat) : Int) = (f.length : Int) - 1 by omega] at this
 obtain ⟨K1, h1⟩ := impl_inverse (x := rd f ((f.length : Int) - 1)) hp hp2 hr.1 hr.2
 obtain ⟨K2, h2⟩ := impl_times (c := inv p (rd f ((f.length : Int) - 1))) (f := f) hp hp2 hf rf (by omega) (by omega)
 have hw : wrap64 ((f.length : Int) - 1) = (f.length : Int) - 1 := w64 (by omega) (by omega)
 refine ⟨K1 + K2, fun k hk => ?_⟩
 have e1 := h1 k (by omega)
 have e2 := h2 k (by omega)
 simp only at e1 e2
 simp only [impl_field_monic.f]
 rw [hw, if_pos (by omega), if_pos (by omega), e1, Option.bind_some]
 exact (congrArg (fun z => z.bind fun t => some t) e2).trans rfl
end Go.Proofs.Ytlmolloallhclaa.H
namespace Go.Proofs.Ytlmolloallhclaa.H
open Go.RowKit Go.Proofs.YtlmolloallhclaaW.PrintWords Go.Proofs.YtlmolloallhclaaW.PrintLast Go.Proofs.YtlmolloallhclaaW.PrintMore
attribute [local go_sem] max2_int min2_int max_two min_two max_three min_three max_four min_four   -- for this text's walks alone
set_option linter.unusedVariables false
set_option linter.unusedSimpArgs false
end Go.Proofs.Ytlmolloallhclaa.H
