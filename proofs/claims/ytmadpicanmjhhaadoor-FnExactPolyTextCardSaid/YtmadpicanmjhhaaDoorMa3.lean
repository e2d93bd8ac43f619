/- Joined texts of a claim: the printed functions and what is proved of them. -/
import Derived.Test.YtmadpicanmjhhaaDoorYHx0
import Derived.Test.YtmadpicanmjhhaaDoorMa2
import Derived.Lib.ItoaNum
import Derived.Lib.Atoi
import Derived.Lib.ParseIntB
import Derived.Lib.SplitLaws
import Derived.Lib.Join
import Derived.RowKit
namespace Go.Proofs.YtmadpicanmjhhaaDoor.H
open Go.RowKit Go.Proofs.YtmadpicanmjhhaaDoorW.PrintWords Go.Proofs.YtmadpicanmjhhaaDoorW.PrintLast Go.Proofs.YtmadpicanmjhhaaDoorW.PrintMore
attribute [local go_sem] max2_int min2_int max_two min_two max_three min_three max_four min_four   -- for this text's walks alone
set_option linter.unusedVariables false
set_option linter.unusedSimpArgs false
def spec_PolyText.f (k : Nat) (a0 : Int) (l1 : List Int) : Option (ByteArray × Int) := (spec_l01Code.f k a0 (([l1] : List (List Int)))).bind fun t121 => (if t121 = 0 then ((spec_l01Text.f k l1).bind fun t122 => (some (t122, 0))) else (some ((⟨#[]⟩ : ByteArray), t121)))
set_option maxHeartbeats 8000000 in
set_option maxRecDepth 100000 in
theorem spec_PolyText.calls (k : Nat) (a0 : Int) (P1_ : Nat → Prop) (A1 : Option Addr) (c1 : Nat) (l1 : List Int) (r1 : ByteArray) (r2 : Int) (w : World) (hs1 : Kd.V (Kd.int .i64) 2 w w.heap.size (fun k_ => P1_ k_) (.slice A1 l1.length c1) l1) (h : spec_PolyText.f k a0 l1 = some (r1, r2)) :
  Calls Tryd.prog 5 #[.int .i64 a0, .slice A1 l1.length c1] w fun e w' => e = .returned (.tuple #[.string r1, .int .i64 r2]) ∧ Below w.heap.size w w' := by
 have HO1 := as0 (show Kd.V (Kd.int .i64) 2 w w.heap.size (fun k_ => (P1_ k_ ∨ w.heap.size ≤ k_)) (.slice A1 l1.length c1) l1 from Kd.V_mono hs1 (fun k_ hk => .inl hk))
 have HB := as0 (Below.refl w.heap.size w)
 have H : ((spec_l01Code.f k a0 (([l1] : List (List Int)))).bind fun t121 => (if t121 = 0 then ((spec_l01Text.f k l1).bind fun t122 => (some (t122, 0))) else (some ((⟨#[]⟩ : ByteArray), t121)))) = some (r1, r2) := h
 clear h
 obtain ⟨y118, hy118⟩ : ∃ y_ : List (List Int), y_ = (([l1] : List (List Int))) := ⟨_, rfl⟩
 replace H : ((spec_l01Code.f k a0 y118).bind fun t121 => (if t121 = 0 then ((spec_l01Text.f k l1).bind fun t122 => (some (t122, 0))) else (some ((⟨#[]⟩ : ByteArray), t121)))) = some (r1, r2) := by first | (rw [hy118]; with_reducible exact H) | (have H2_ := (Option.bind_some _ _).symm.trans H; rw [hy118]; with_reducible exact H2_) | (have H2_ := (Option.bind_some _ _).symm.trans H; with_reducible exact H2_) | with_reducible exact H | (rw [hy118]; exact H) | exact H
 have Ny118 := as0 hy118
 clear hy118
 replace H := Option.bind_eq_some_iff.mp H
 obtain ⟨t121, A30, H⟩ := H
 have A3 := as0 A30
 clear A30
 by_cases c4 : t121 = 0
 ·
  rw [if_pos c4] at H
  have c4b0 : (t121 == 0) = true := beq_iff_eq.mpr c4
  have c4b1 : (t121 != 0) = false := bne_eq_false_iff_eq.mpr c4
  clear c4
  replace H := Option.bind_eq_some_iff.mp H
  obtain ⟨t122, A50, H⟩ := H
  have A5 := as0 A50
  clear A50
  simp only [Option.some.injEq, Prod.mk.injEq] at H
  obtain ⟨rfl, rfl⟩ := H
  go_enter Tryd.func5, Tryd.ntmps5
  go_wp2_with (first | ((with_reducible refine gate_dst (N := 9) rfl ?_); refine Kd.N_lit (Kd.slice 2 (Kd.int .i64)) _ 22 ?hg (N' := 9) ?hd (xs := ([l1] : List (List Int))) (inner := [.slice A1 l1.length c1]) (ok := (fun k_ => (P1_ k_ ∨ w.heap.size ≤ k_))) (okp := (fun k_ => (P1_ k_ ∨ w.heap.size ≤ k_))) ?hr ?hp (fun _ hk => hk) ((show ∀ k_, w.heap.size ≤ k_ → (fun k_ => (P1_ k_ ∨ w.heap.size ≤ k_)) k_ from fun k_ hk => (.inr (Nat.le_trans (below_size (bs HB)) hk))) _ (Nat.le_refl _)) (Below.refl _ _) (Nat.le_refl _) (by simp) ?_; (case hd => rfl); (case hg => rfl); (case hr => first | (go_simp; done) | (go_simp; rfl)); (case hp => exact (Reps.one (show Kd.FK (Kd.slice 2 (Kd.int .i64)) _ _ l1 [.slice A1 l1.length c1] from (Kd.FK_slice_mk (Kd.V_reads' (Kd.V_mono (ok' := (fun k_ => (P1_ k_ ∨ w.heap.size ≤ k_))) (HO1.out) (fun k_ hk => hk))).2.1 (Kd.V_F (Kd.V_mono (ok' := (fun k_ => (P1_ k_ ∨ w.heap.size ≤ k_))) (HO1.out) (fun k_ hk => hk))))) (Reps.none _ _))); intro v119 w6 ho7 hb hg_ hnew_; clear hg_ hnew_; (first | rw [← Ny118.out] at ho7 | (simp only [Int.reduceToNat] at ho7; rw [← Ny118.out] at ho7)); have n0_ := as0 (Kd.V_elder' (by (with_reducible repeat (first | apply Kd.V_alloc | apply Kd.V_drewN | apply Kd.V_drew)); exact HO1.out) (Kd.N_base ho7) hb); have n1_ := as0 (Kd.N_lower ho7 (below_size (bs HB))); have n2_ := as0 (below_step (bs HB) hb); clear HO1; clear HB; have HO1 := n0_; have HO120 := n1_; have HB := n2_; clear n0_ n1_ n2_; clear hb ho7; obtain ⟨Ao8, co8, eo8⟩ := Kd.N_slice HO120.out; subst eo8) | ((with_reducible refine gate_callee (f := 13) rfl ?_); refine goesM_ (some 10) rfl rfl Tryd.func13 #[.int .i64 a0, .slice Ao8 y118.length co8] rfl ?_; (with_reducible refine (spec_l01Code.calls k a0 _ _ y118 t121 _ ?side1 ?side2 A3.out).mono ?_); (case side1 => exact cs ((Kd.N_reads' HO120.out).2.2)); (case side2 => exact (Kd.N_reads' HO120.out).2.1); rintro e w' ⟨rfl, ⟨nd, rfl⟩⟩; refine ⟨_, rfl, ?_⟩) | ((with_reducible refine gate_callee (f := 14) rfl ?_); refine goesM_ (some 15) rfl rfl Tryd.func14 #[.slice A1 l1.length c1] rfl ?_; (with_reducible refine (spec_l01Text.calls k _ _ l1 t122 _ ?side1 ?side2 A5.out).mono ?_); (case side1 => exact cs ((Kd.V_reads' HO1.out).2.2)); (case side2 => exact (Kd.V_reads' HO1.out).2.1); rintro e w9 ⟨rfl, hb⟩; refine ⟨_, rfl, ?_⟩; have n0_ := as0 (Kd.V_below (by (with_reducible repeat (first | apply Kd.V_alloc | apply Kd.V_drewN | apply Kd.V_drew)); exact HO1.out) hb); have n1_ := as0 (Kd.N_below (by (with_reducible repeat (first | apply Kd.N_alloc | apply Kd.N_drewN | apply Kd.N_drew)); exact HO120.out) hb); have n2_ := as0 (below_step (bs HB) hb); clear HO1; clear HO120; clear HB; have HO1 := n0_; have HO120 := n1_; have HB := n2_; clear n0_ n1_ n2_; (try clear hb); (try clear hb2); (try clear hk); (try clear hi)))
  go_ret2
  exact ⟨er_, bs HB⟩
 ·
  rw [if_neg c4] at H
  have c4b0 : (t121 == 0) = false := beq_eq_false_iff_ne.mpr c4
  have c4b1 : (t121 != 0) = true := bne_iff_ne.mpr c4
  simp only [Option.some.injEq, Prod.mk.injEq] at H
  obtain ⟨rfl, rfl⟩ := H
  go_enter Tryd.func5, Tryd.ntmps5
  go_wp2_with (first | ((with_reducible refine gate_dst (N := 9) rfl ?_); refine Kd.N_lit (Kd.slice 2 (Kd.int .i64)) _ 22 ?hg (N' := 9) ?hd (xs := ([l1] : List (List Int))) (inner := [.slice A1 l1.length c1]) (ok := (fun k_ => (P1_ k_ ∨ w.heap.size ≤ k_))) (okp := (fun k_ => (P1_ k_ ∨ w.heap.size ≤ k_))) ?hr ?hp (fun _ hk => hk) ((show ∀ k_, w.heap.size ≤ k_ → (fun k_ => (P1_ k_ ∨ w.heap.size ≤ k_)) k_ from fun k_ hk => (.inr (Nat.le_trans (below_size (bs HB)) hk))) _ (Nat.le_refl _)) (Below.refl _ _) (Nat.le_refl _) (by simp) ?_; (case hd => rfl); (case hg => rfl); (case hr => first | (go_simp; done) | (go_simp; rfl)); (case hp => exact (Reps.one (show Kd.FK (Kd.slice 2 (Kd.int .i64)) _ _ l1 [.slice A1 l1.length c1] from (Kd.FK_slice_mk (Kd.V_reads' (Kd.V_mono (ok' := (fun k_ => (P1_ k_ ∨ w.heap.size ≤ k_))) (HO1.out) (fun k_ hk => hk))).2.1 (Kd.V_F (Kd.V_mono (ok' := (fun k_ => (P1_ k_ ∨ w.heap.size ≤ k_))) (HO1.out) (fun k_ hk => hk))))) (Reps.none _ _))); intro v119 w10 ho11 hb hg_ hnew_; clear hg_ hnew_; (first | rw [← Ny118.out] at ho11 | (simp only [Int.reduceToNat] at ho11; rw [← Ny118.out] at ho11)); have n0_ := as0 (Kd.V_elder' (by (with_reducible repeat (first | apply Kd.V_alloc | apply Kd.V_drewN | apply Kd.V_drew)); exact HO1.out) (Kd.N_base ho11) hb); have n1_ := as0 (Kd.N_lower ho11 (below_size (bs HB))); have n2_ := as0 (below_step (bs HB) hb); clear HO1; clear HB; have HO1 := n0_; have HO120 := n1_; have HB := n2_; clear n0_ n1_ n2_; clear hb ho11; obtain ⟨Ao12, co12, eo12⟩ := Kd.N_slice HO120.out; subst eo12) | ((with_reducible refine gate_callee (f := 13) rfl ?_); refine goesM_ (some 10) rfl rfl Tryd.func13 #[.int .i64 a0, .slice Ao12 y118.length co12] rfl ?_; (with_reducible refine (spec_l01Code.calls k a0 _ _ y118 t121 _ ?side1 ?side2 A3.out).mono ?_); (case side1 => exact cs ((Kd.N_reads' HO120.out).2.2)); (case side2 => exact (Kd.N_reads' HO120.out).2.1); rintro e w' ⟨rfl, ⟨nd, rfl⟩⟩; refine ⟨_, rfl, ?_⟩))
  go_ret2
  exact ⟨er_, bs HB⟩
end Go.Proofs.YtmadpicanmjhhaaDoor.H
set_option linter.unusedVariables false
set_option linter.unusedSimpArgs false
namespace Go.Proofs.YtmadpicanmjhhaaDoor.H
open Go.Lib
theorem decDigits_lo {u : Nat} (h : u < 10) : decDigits u = [UInt8.ofNat (48 + u)] := by rw [decDigits, dif_pos h]
theorem decDigits_hi {u : Nat} (h : ¬ u < 10) : decDigits u = decDigits (u / 10) ++ [UInt8.ofNat (48 + u % 10)] := by rw [decDigits, dif_neg h]
def parts (c : UInt8) : List UInt8 → List (List UInt8)
 | [] => [[]]
 | b :: r => if b = c then [] :: parts c r else (b :: (parts c r).headD []) :: (parts c r).tail
theorem join_cons2 (x y : List UInt8) (r : List (List UInt8)) (sep : List UInt8) : join (x :: y :: r) sep = x ++ sep ++ join (y :: r) sep := by
 rw [join_cons, join_cons]
 simp [joinTail, List.append_assoc]
end Go.Proofs.YtmadpicanmjhhaaDoor.H
set_option linter.unusedVariables false
set_option linter.unusedSimpArgs false
namespace Go.Proofs.YtmadpicanmjhhaaDoor.Num
open Go.RowKit
theorem w64 {x : Int} (h1 : -9223372036854775808 ≤ x) (h2 : x ≤ 9223372036854775807) : wrap64 x = x := by
 unfold wrap64; omega
theorem tmod_nn {a b : Int} (h : 0 ≤ a) : Int.tmod a b = a % b := Int.tmod_eq_emod_of_nonneg h
theorem tmod_lt' {x p : Int} (hp : 0 < p) : Int.tmod x p < p ∧ -p < Int.tmod x p := by
 constructor
 ·
  exact Int.tmod_lt_of_pos x hp
 ·
  have h := Int.tmod_lt_of_pos (-x) hp
  rw [Int.neg_tmod] at h
  omega
theorem md {x p : Int} (hp : 0 < p) (hp2 : p ≤ 1000000000) : Int.tmod (wrap64 (Int.tmod x p + p)) p = x % p := by
 obtain ⟨h1, h2⟩ := tmod_lt' (x := x) hp
 rw [w64 (by omega) (by omega), tmod_nn (by omega), Int.tmod_def]
 have : x - p * x.tdiv p + p = x + p * (1 - x.tdiv p) := by
  rw [Int.mul_sub]; omega
 rw [this, Int.add_mul_emod_self_left]
theorem mul_bd {x y a b : Int} (hx0 : 0 ≤ x) (hx : x ≤ a) (hy0 : 0 ≤ y) (hy : y ≤ b) : 0 ≤ x * y ∧ x * y ≤ a * b :=
 ⟨Int.mul_nonneg hx0 hy0, Int.mul_le_mul hx hy hy0 (by omega)⟩
theorem en_ (b p : Int) : (-(b % p)) % p = (-b) % p := by
 have h : -(b % p) = -b + p * (b / p) := by have := Int.mul_ediv_add_emod b p; omega
 rw [h, Int.add_mul_emod_self_left]
def Pr (p : Nat) : Prop := 2 ≤ p ∧ ∀ d, d ∣ p → d = 1 ∨ d = p
theorem Pr.of_trial {p : Nat} (h2 : 2 ≤ p) (h : ∀ d, 2 ≤ d → d * d ≤ p → p % d ≠ 0) : Pr p := by
 refine ⟨h2, fun d hd => ?_⟩
 obtain ⟨e, he⟩ := hd
 have hd0 : 0 < d := by rcases Nat.eq_zero_or_pos d with h0 | h0; (subst h0; simp at he; omega); exact h0
 have he0 : 0 < e := by rcases Nat.eq_zero_or_pos e with h0 | h0; (subst h0; simp at he; omega); exact h0
 rcases Nat.lt_or_ge d 2 with h1 | h1
 ·
  left; omega
 rcases Nat.lt_or_ge e 2 with h3 | h3
 ·
  right
  have : e = 1 := by omega
  subst this; simpa using he.symm
 ·
  exfalso
  rcases Nat.le_total d e with hle | hle
  ·
   refine h d h1 ?_ ?_
   ·
    rw [he]; exact Nat.mul_le_mul_left d hle
   ·
    rw [he]; exact Nat.mul_mod_right d e
  ·
   refine h e h3 ?_ ?_
   ·
    rw [he]; exact Nat.mul_le_mul_right e hle
   ·
    rw [he]; exact Nat.mul_mod_left d e
def IsP (p : Int) : Prop := 2 ≤ p ∧ p ≤ 10007 ∧ Pr p.toNat
open Classical in
noncomputable def primeB (p : Int) : Bool := decide (IsP p)
theorem primeB_iff {p : Int} : primeB p = true ↔ IsP p := by
 unfold primeB; exact @decide_eq_true_iff _ (Classical.propDecidable _)
theorem prime_loop (l : Nat → Int → Int → Option Bool) (p : Int) (hp : 2 ≤ p) (hp2 : p ≤ 10007)
  (hl : ∀ k i, l (k + 1) p i = if wrap64 (i * i) ≤ p then (if i = 0 then none else (if Int.tmod p i = 0 then some false else l k p (wrap64 (i + 1)))) else some true)
  (d : Nat) : ∀ (k : Nat) (i : Int), 2 ≤ i → i ≤ 101 → 101 - i < d → d < k →
   ∃ b, l k p i = some b ∧ (b = true ↔ ∀ j : Int, i ≤ j → j * j ≤ p → p % j ≠ 0) := by
 induction d with
 | zero => intro k i h1 h2 h3; omega
 | succ d ih =>
  intro k i h1 h2 h3 hk
  obtain ⟨k, rfl⟩ : ∃ m, k = m + 1 := ⟨k - 1, by omega⟩
  rw [hl]
  have hb := mul_bd (a := 101) (b := 101) (x := i) (y := i) (by omega) h2 (by omega) h2
  rw [w64 (by omega) (by omega), w64 (x := i + 1) (by omega) (by omega)]
  by_cases hle : i * i ≤ p
  ·
   have hi : i ≤ 100 := by
    rcases Int.lt_or_le 100 i with h | h
    ·
     have := Int.mul_le_mul (a := 101) (b := 101) (c := i) (d := i) (by omega) (by omega) (by omega) (by omega); omega
    ·
     exact h
   rw [if_pos hle, if_neg (by omega), tmod_nn (by omega)]
   by_cases hd : p % i = 0
   ·
    rw [if_pos hd]
    exact ⟨false, rfl, by simp; exact ⟨i, Int.le_refl _, hle, hd⟩⟩
   ·
    rw [if_neg hd]
    obtain ⟨b, hb1, hb2⟩ := ih k (i + 1) (by omega) (by omega) (by omega) (by omega)
    refine ⟨b, hb1, hb2.trans ⟨fun h j hj hjj => ?_, fun h j hj hjj => h j (by omega) hjj⟩⟩
    by_cases e : j = i
    ·
     subst e; exact hd
    ·
     exact h j (by omega) hjj
  ·
   rw [if_neg hle]
   refine ⟨true, rfl, by simp; intro j hj hjj; exfalso; apply hle; exact Int.le_trans (Int.mul_le_mul hj hj (by omega) (by omega)) hjj⟩
theorem trial_iff {p : Int} (hp : 2 ≤ p) : (∀ j : Int, 2 ≤ j → j * j ≤ p → p % j ≠ 0) ↔ Pr p.toNat := by
 constructor
 ·
  intro h
  refine Pr.of_trial (by omega) fun d hd hdd h0 => ?_
  refine h d (by omega) ?_ ?_
  ·
   have : ((d * d : Nat) : Int) ≤ p := by omega
   simpa using this
  ·
   have : ((p.toNat % d : Nat) : Int) = 0 := by rw [h0]; rfl
   rw [Int.natCast_emod, Int.toNat_of_nonneg (by omega)] at this
   exact this
 ·
  intro h j hj hjj h0
  obtain ⟨d, rfl⟩ : ∃ d : Nat, j = d := ⟨j.toNat, by omega⟩
  obtain ⟨n, rfl⟩ : ∃ n : Nat, p = n := ⟨p.toNat, by omega⟩
  simp only [Int.toNat_natCast] at h
  have hdv : d ∣ n := by
   apply Nat.dvd_of_mod_eq_zero
   have : ((n % d : Nat) : Int) = 0 := by rw [Int.natCast_emod]; exact h0
   omega
  have hn : d * d ≤ n := by
   have : ((d * d : Nat) : Int) ≤ n := by simpa using hjj
   omega
  rcases h.2 d hdv with e | e
  ·
   omega
  ·
   subst e
   have : d * 2 ≤ d * d := Nat.mul_le_mul_left d (by omega)
   omega
theorem primeB_loop {p : Int} {b : Bool} (h1 : 2 ≤ p) (h2 : p ≤ 10007) (h : b = true ↔ ∀ j : Int, 2 ≤ j → j * j ≤ p → p % j ≠ 0) : b = primeB p := by
 rw [Bool.eq_iff_iff, primeB_iff, h, trial_iff h1]
 exact ⟨fun h => ⟨h1, h2, h⟩, fun h => h.2.2⟩
theorem primeB_lo {p : Int} (h : ¬ 2 ≤ p) : primeB p = false := by
 rw [Bool.eq_false_iff]; intro e; exact h (primeB_iff.1 e).1
theorem primeB_hi {p : Int} (h : ¬ p ≤ 10007) : primeB p = false := by
 rw [Bool.eq_false_iff]; intro e; exact h (primeB_iff.1 e).2.1
end Go.Proofs.YtmadpicanmjhhaaDoor.Num
