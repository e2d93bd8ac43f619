/- Joined texts of a claim: the printed functions and what is proved of them. -/
import Derived.Test.YtcimpcdgdffnpaaHx0
import Derived.Test.YtcimpcdgdffnpaaMabcdef2
import Derived.RowKit
import Derived.Test.YtcimpcdgdffnpaaMabcdef1
-- written by wip/drive.py (the session's own program) over the translation; Lean checks it
namespace Go.Proofs.Ytcimpcdgdffnpaa.H
open Go.RowKit Go.Proofs.YtcimpcdgdffnpaaW.PrintWords Go.Proofs.YtcimpcdgdffnpaaW.PrintLast Go.Proofs.YtcimpcdgdffnpaaW.PrintMore
attribute [local go_sem] max2_int min2_int max_two min_two max_three min_three max_four min_four   -- for this text's walks alone
set_option linter.unusedVariables false
set_option linter.unusedSimpArgs false

/-! ### spec_l01Code: function 25 -/
def spec_l01Code.l0 : Nat → Int → List (List Int) → Int → Option (Int)
  | 0, _, _, _ => none
  | k + 1, x0, x1, x5 => if x5 < (x1.length : Int) then (if 0 ≤ x5 then ((spec_l01Poly.f k x0 (rd_L1 x1 x5)).bind fun t106 => (if t106 = true then (spec_l01Code.l0 k x0 x1 (wrap64 (x5 + 1))) else (some 1))) else (none)) else ((spec_l01Prime.f k x0).bind fun t107 => (if t107 = true then (some 0) else (some 2)))
def spec_l01Code.f (k : Nat) (a0 : Int) (l1 : List (List Int)) : Option (Int) := spec_l01Code.l0 k a0 l1 0
theorem spec_l01Code.mono_l : ∀ k, (∀ y0 y1 y2, LeO (spec_l01Code.l0 k y0 y1 y2) (spec_l01Code.l0 (k + 1) y0 y1 y2))
  | 0 => fun _ _ _ r h => by simp [spec_l01Code.l0] at h
  | k + 1 => by
    have ih0 := spec_l01Code.mono_l k
    · intro y0 y1 y2
      unfold spec_l01Code.l0
      repeat' first
      | (with_reducible exact ih0 _ _ _)
      | (with_reducible exact spec_l01Poly.mono _ _ _)
      | (with_reducible exact spec_l01Prime.mono _ _)
      | (with_reducible exact LeO.refl _)
      | (with_reducible exact LeO.none _)
      | (with_reducible refine LeO.ite ?_ ?_)
      | (with_reducible refine LeO.bind ?_ (fun _ => ?_))
      | exact ih0 _ _ _
      | exact spec_l01Poly.mono _ _ _
      | exact spec_l01Prime.mono _ _
      | exact LeO.none _
      | refine LeO.ite ?_ ?_
      | refine LeO.bind ?_ (fun _ => ?_)
theorem spec_l01Code.mono : ∀ a0 a1 k, LeO (spec_l01Code.f k a0 a1) (spec_l01Code.f (k + 1) a0 a1) := by
  intro a0 a1 k
  have ih0 := spec_l01Code.mono_l k
  unfold spec_l01Code.f
  repeat' first
      | (with_reducible exact ih0 _ _ _)
      | (with_reducible exact spec_l01Poly.mono _ _ _)
      | (with_reducible exact spec_l01Prime.mono _ _)
      | (with_reducible exact LeO.refl _)
      | (with_reducible exact LeO.none _)
      | (with_reducible refine LeO.ite ?_ ?_)
      | (with_reducible refine LeO.bind ?_ (fun _ => ?_))
      | exact ih0 _ _ _
      | exact spec_l01Poly.mono _ _ _
      | exact spec_l01Prime.mono _ _
      | exact LeO.none _
      | refine LeO.ite ?_ ?_
      | refine LeO.bind ?_ (fun _ => ?_)
set_option maxHeartbeats 8000000 in
set_option maxRecDepth 100000 in
theorem spec_l01Code.calls (k : Nat) (a0 : Int) (A1 : Option Addr) (c1 : Nat) (l1 : List (List Int)) (r : Int) (w : World) (hr1 : Kd.C (Kd.slice 2 (Kd.int .i64)) w A1 l1.length l1) (hc1 : l1.length ≤ c1) (h : spec_l01Code.f k a0 l1 = some r) :
    Calls Try.prog 25 #[.int .i64 a0, .slice A1 l1.length c1] w fun e w' => e = .returned (.int .i64 r) ∧ Drawn0 w w' := by
  have HR1 := Aside0.mk hr1
  have HC1 := Aside0.mk hc1
  clear hr1 hc1
  have H : (spec_l01Code.l0 k a0 l1 0) = some r := h
  clear h
  have H' := Aside0.mk H
  clear H
  go_enter Try.func25, Try.ntmps25
  go_wp2
  go_loopg [5] k (fun kq v5 w' => ∃ (x5_1 : Int), v5 = .int .i64 x5_1 ∧ Aside0 (spec_l01Code.l0 kq a0 l1 x5_1 = some r) ∧ Aside0 (kq ≤ k) ∧ Drawn0 w w')
  case atStart => exact ⟨(0), ea_, H', ⟨Nat.le_refl _⟩, by repeat (first | exact Drawn0.refl _ | apply Drawn0.step)⟩
  case round =>
    clear H'
    try clear c1
    try clear c2
    try clear p2
    obtain ⟨x5_1, rfl, HA, HK1, ⟨m1, rfl⟩⟩ := hrel
    cases gk with
    | zero => exact absurd HA.out (by simp [spec_l01Code.l0])
    | succ k1 =>
      have H := HA.out
      clear HA
      simp only [spec_l01Code.l0] at H
      by_cases c3 : x5_1 < (l1.length : Int)
      · rw [if_pos c3] at H
        have c3b0 : decide (x5_1 < (l1.length : Int)) = true := decide_eq_true c3
        clear c3
        by_cases c4 : 0 ≤ x5_1
        · rw [if_pos c4] at H
          have c4b0 : decide (0 ≤ x5_1) = true := decide_eq_true c4
          clear c4
          replace H := Option.bind_eq_some_iff.mp H
          obtain ⟨t106, A50, H⟩ := H
          have A5 := Aside0.mk A50
          clear A50
          by_cases c6 : t106 = true
          · subst c6
            have H1 : (spec_l01Code.l0 k1 a0 l1 (wrap64 (x5_1 + 1))) = some r := by rw [if_pos rfl] at H; exact H
            clear H
            have H := H1
            clear H1
            have H' := Aside0.mk H
            clear H
            have p105 : 0 ≤ (x5_1 : Int) := of_decide_eq_true (by first | (with_reducible assumption) | assumption)
            have q105 : x5_1 < (l1.length : Int) := of_decide_eq_true (by first | (with_reducible assumption) | assumption)
            obtain ⟨ad105, A105_0, c105_0, e105, hx105_0, hl105_0, hi105_0⟩ := at_L1 HR1.out x5_1 p105 q105
            cases e105
            have HR105_0 := Aside0.mk hi105_0
            have HC105_0 := Aside0.mk hl105_0
            clear hi105_0 hl105_0
            replace p105 := eq_true p105
            replace q105 := eq_true q105
            go_wp2_with (first | ((with_reducible refine gate_callee (f := 50) rfl ?_); refine goesM_ (some 17) rfl rfl Try.func50 #[.int .i64 a0, .slice A105_0 (rd_L1 l1 x5_1).length c105_0] rfl ?_; (with_reducible refine (spec_l01Poly.calls k1 a0 _ _ (rd_L1 l1 x5_1) true _ ?side1 ?side2 A5.out).mono ?_); (case side1 => exact cs (HR105_0.out)); (case side2 => exact HC105_0.out); rintro e w' ⟨rfl, ⟨nd, rfl⟩⟩; refine ⟨_, rfl, ?_⟩))
            go_roundg k1
            case measure => have := HK1.out; omega
            case rel => exact ⟨(wrap64 (x5_1 + 1)), ea_, H', ⟨by have := HK1.out; omega⟩, by repeat (first | exact Drawn0.refl _ | apply Drawn0.step)⟩
          · replace c6 := Bool.eq_false_iff.mpr c6
            subst c6
            have H1 : (some 1) = some r := by rw [if_neg (show ¬ (false = true) by decide)] at H; exact H
            clear H
            have H := H1
            clear H1
            obtain rfl := Option.some.inj H
            have p105 : 0 ≤ (x5_1 : Int) := of_decide_eq_true (by first | (with_reducible assumption) | assumption)
            have q105 : x5_1 < (l1.length : Int) := of_decide_eq_true (by first | (with_reducible assumption) | assumption)
            obtain ⟨ad105, A105_0, c105_0, e105, hx105_0, hl105_0, hi105_0⟩ := at_L1 HR1.out x5_1 p105 q105
            cases e105
            have HR105_0 := Aside0.mk hi105_0
            have HC105_0 := Aside0.mk hl105_0
            clear hi105_0 hl105_0
            replace p105 := eq_true p105
            replace q105 := eq_true q105
            go_wp2_with (first | ((with_reducible refine gate_callee (f := 50) rfl ?_); refine goesM_ (some 17) rfl rfl Try.func50 #[.int .i64 a0, .slice A105_0 (rd_L1 l1 x5_1).length c105_0] rfl ?_; (with_reducible refine (spec_l01Poly.calls k1 a0 _ _ (rd_L1 l1 x5_1) false _ ?side1 ?side2 A5.out).mono ?_); (case side1 => exact cs (HR105_0.out)); (case side2 => exact HC105_0.out); rintro e w' ⟨rfl, ⟨nd, rfl⟩⟩; refine ⟨_, rfl, ?_⟩))
            go_ret
            exact ⟨by first | rfl | (simp; done) | (simp [*]; done), by repeat (first | exact Drawn0.refl _ | apply Drawn0.step)⟩
        · rw [if_neg c4] at H
          exact absurd H (by simp)
      · rw [if_neg c3] at H
        have c3b0 : decide (x5_1 < (l1.length : Int)) = false := decide_eq_false c3
        clear c3
        replace H := Option.bind_eq_some_iff.mp H
        obtain ⟨t107, A70, H⟩ := H
        have A7 := Aside0.mk A70
        clear A70
        by_cases c8 : t107 = true
        · subst c8
          have H1 : (some 0) = some r := by rw [if_pos rfl] at H; exact H
          clear H
          have H := H1
          clear H1
          obtain rfl := Option.some.inj H
          go_wp2_with (first | ((with_reducible refine gate_callee (f := 51) rfl ?_); refine goesM_ (some 20) rfl rfl Try.func51 #[.int .i64 a0] rfl ?_; (with_reducible refine (spec_l01Prime.calls k1 a0 true _ A7.out).mono ?_); rintro e w' ⟨rfl, ⟨nd, rfl⟩⟩; refine ⟨_, rfl, ?_⟩))
          go_ret
          exact ⟨by first | rfl | (simp; done) | (simp [*]; done), by repeat (first | exact Drawn0.refl _ | apply Drawn0.step)⟩
        · replace c8 := Bool.eq_false_iff.mpr c8
          subst c8
          have H1 : (some 2) = some r := by rw [if_neg (show ¬ (false = true) by decide)] at H; exact H
          clear H
          have H := H1
          clear H1
          obtain rfl := Option.some.inj H
          go_wp2_with (first | ((with_reducible refine gate_callee (f := 51) rfl ?_); refine goesM_ (some 20) rfl rfl Try.func51 #[.int .i64 a0] rfl ?_; (with_reducible refine (spec_l01Prime.calls k1 a0 false _ A7.out).mono ?_); rintro e w' ⟨rfl, ⟨nd, rfl⟩⟩; refine ⟨_, rfl, ?_⟩))
          go_ret
          exact ⟨by first | rfl | (simp; done) | (simp [*]; done), by repeat (first | exact Drawn0.refl _ | apply Drawn0.step)⟩

end Go.Proofs.Ytcimpcdgdffnpaa.H
/- Numbers modulo a prime: trial division, Euclid's lemma, Fermat's little theorem, powers. No program in sight. -/
set_option linter.unusedVariables false
set_option linter.unusedSimpArgs false
namespace Go.Proofs.Ytcimpcdgdffnpaa.Num
open Go.RowKit

theorem w64 {x : Int} (h1 : -9223372036854775808 ≤ x) (h2 : x ≤ 9223372036854775807) : wrap64 x = x := by
  unfold wrap64; omega

theorem tmod_nn {a b : Int} (h : 0 ≤ a) : Int.tmod a b = a % b := Int.tmod_eq_emod_of_nonneg h

theorem tmod_lt' {x p : Int} (hp : 0 < p) : Int.tmod x p < p ∧ -p < Int.tmod x p := by
  constructor
  · exact Int.tmod_lt_of_pos x hp
  · have h := Int.tmod_lt_of_pos (-x) hp
    rw [Int.neg_tmod] at h
    omega

/-- the program's way to a number of the field -/
theorem md {x p : Int} (hp : 0 < p) (hp2 : p ≤ 1000000000) : Int.tmod (wrap64 (Int.tmod x p + p)) p = x % p := by
  obtain ⟨h1, h2⟩ := tmod_lt' (x := x) hp
  rw [w64 (by omega) (by omega), tmod_nn (by omega), Int.tmod_def]
  have : x - p * x.tdiv p + p = x + p * (1 - x.tdiv p) := by
    rw [Int.mul_sub]; omega
  rw [this, Int.add_mul_emod_self_left]

theorem emod_bd {x p : Int} (hp : 0 < p) : 0 ≤ x % p ∧ x % p < p := ⟨Int.emod_nonneg _ (by omega), Int.emod_lt_of_pos _ hp⟩

theorem mul_bd {x y a b : Int} (hx0 : 0 ≤ x) (hx : x ≤ a) (hy0 : 0 ≤ y) (hy : y ≤ b) : 0 ≤ x * y ∧ x * y ≤ a * b :=
  ⟨Int.mul_nonneg hx0 hy0, Int.mul_le_mul hx hy hy0 (by omega)⟩

/-! ## what may be left out under '% p' -/
theorem em_l (a b p : Int) : a % p * b % p = a * b % p := by rw [Int.mul_emod, Int.emod_emod, ← Int.mul_emod]
theorem em_r (a b p : Int) : a * (b % p) % p = a * b % p := by rw [Int.mul_emod, Int.emod_emod, ← Int.mul_emod]
theorem ea_l (a b p : Int) : (a % p + b) % p = (a + b) % p := Int.emod_add_emod _ _ _
theorem ea_r (a b p : Int) : (a + b % p) % p = (a + b) % p := Int.add_emod_emod _ _ _
theorem es_l (a b p : Int) : (a % p - b) % p = (a - b) % p := by rw [Int.sub_eq_add_neg, ea_l, ← Int.sub_eq_add_neg]
theorem en_ (b p : Int) : (-(b % p)) % p = (-b) % p := by
  have h : -(b % p) = -b + p * (b / p) := by have := Int.mul_ediv_add_emod b p; omega
  rw [h, Int.add_mul_emod_self_left]
theorem es_r (a b p : Int) : (a - b % p) % p = (a - b) % p := by
  rw [Int.sub_eq_add_neg, ← ea_r, en_, ea_r, ← Int.sub_eq_add_neg]

/-! ## primes -/
/-- what trial division tells -/
def Pr (p : Nat) : Prop := 2 ≤ p ∧ ∀ d, d ∣ p → d = 1 ∨ d = p

theorem Pr.of_trial {p : Nat} (h2 : 2 ≤ p) (h : ∀ d, 2 ≤ d → d * d ≤ p → p % d ≠ 0) : Pr p := by
  refine ⟨h2, fun d hd => ?_⟩
  obtain ⟨e, he⟩ := hd
  have hd0 : 0 < d := by rcases Nat.eq_zero_or_pos d with h0 | h0; (subst h0; simp at he; omega); exact h0
  have he0 : 0 < e := by rcases Nat.eq_zero_or_pos e with h0 | h0; (subst h0; simp at he; omega); exact h0
  rcases Nat.lt_or_ge d 2 with h1 | h1
  · left; omega
  rcases Nat.lt_or_ge e 2 with h3 | h3
  · right
    have : e = 1 := by omega
    subst this; simpa using he.symm
  · exfalso
    rcases Nat.le_total d e with hle | hle
    · refine h d h1 ?_ ?_
      · rw [he]; exact Nat.mul_le_mul_left d hle
      · rw [he]; exact Nat.mul_mod_right d e
    · refine h e h3 ?_ ?_
      · rw [he]; exact Nat.mul_le_mul_right e hle
      · rw [he]; exact Nat.mul_mod_left d e

theorem Pr.cop {p a : Nat} (hp : Pr p) (ha : ¬ p ∣ a) : Nat.Coprime p a := by
  rcases hp.2 _ (Nat.gcd_dvd_left p a) with h | h
  · exact h
  · exact absurd (h ▸ Nat.gcd_dvd_right p a) ha

theorem Pr.euclid {p a b : Nat} (hp : Pr p) (h : p ∣ a * b) : p ∣ a ∨ p ∣ b := by
  by_cases ha : p ∣ a
  · exact .inl ha
  · exact .inr ((hp.cop ha).dvd_of_dvd_mul_left h)

theorem Pr.pow {p a : Nat} (hp : Pr p) (ha : ¬ p ∣ a) : ∀ n, ¬ p ∣ a ^ n
  | 0 => fun h => by
    have h1 := Nat.le_of_dvd (by simp) h
    have := hp.1
    simp only [Nat.pow_zero] at h1
    omega
  | n + 1 => fun h => by
    rw [Nat.pow_succ] at h
    rcases hp.euclid h with h | h
    · exact Pr.pow hp ha n h
    · exact ha h

/-! ## Fermat -/
def ch : Nat → Nat → Nat
  | _, 0 => 1
  | 0, _ + 1 => 0
  | n + 1, k + 1 => ch n k + ch n (k + 1)

theorem ch_gt : ∀ n k, n < k → ch n k = 0
  | 0, k + 1, _ => by simp [ch]
  | n + 1, k + 1, h => by simp [ch, ch_gt n k (by omega), ch_gt n (k + 1) (by omega)]

theorem ch_self : ∀ n, ch n n = 1
  | 0 => by simp [ch]
  | n + 1 => by simp [ch, ch_self n, ch_gt n (n + 1) (by omega)]

theorem ch_mul : ∀ n k, (k + 1) * ch (n + 1) (k + 1) = (n + 1) * ch n k
  | 0, 0 => by simp [ch]
  | 0, k + 1 => by simp [ch]
  | n + 1, 0 => by
    have h := ch_mul n 0
    have h0 : ch n 0 = 1 := by cases n <;> simp [ch]
    have h00 : ch (n+1) 0 = 1 := by simp [ch]
    have e : ch (n + 1 + 1) (0 + 1) = ch (n + 1) 0 + ch (n + 1) (0 + 1) := by simp [ch]
    rw [e, h00]
    rw [h0] at h
    omega
  | n + 1, k + 1 => by
    have h1 := ch_mul n k
    have h2 := ch_mul n (k + 1)
    have e1 : ch (n + 1 + 1) (k + 1 + 1) = ch (n + 1) (k + 1) + ch (n + 1) (k + 1 + 1) := by simp [ch]
    have e2 : ch (n + 1) (k + 1) = ch n k + ch n (k + 1) := by simp [ch]
    rw [e1, Nat.mul_add]
    rw [h2]
    have : (k + 1 + 1) * ch (n + 1) (k + 1) = ch (n + 1) (k + 1) + (k + 1) * ch (n + 1) (k + 1) := by
      rw [Nat.add_mul (k+1) 1, Nat.one_mul]; omega
    rw [this, h1]
    have e3 : (n + 1 + 1) * ch (n + 1) (k + 1) = (n + 1) * ch (n + 1) (k + 1) + ch (n + 1) (k + 1) := by rw [Nat.add_mul, Nat.one_mul]
    rw [e3, e2, Nat.mul_add]
    omega

def sm (f : Nat → Nat) : Nat → Nat
  | 0 => 0
  | n + 1 => sm f n + f n

theorem sm_head (f : Nat → Nat) : ∀ n, sm f (n + 1) = f 0 + sm (fun k => f (k + 1)) n
  | 0 => by simp [sm]
  | n + 1 => by
    have h := sm_head f n
    rw [show sm f (n + 1 + 1) = sm f (n + 1) + f (n + 1) from rfl, h]
    simp only [sm]; omega

theorem sm_add (f g : Nat → Nat) : ∀ n, sm (fun k => f k + g k) n = sm f n + sm g n
  | 0 => rfl
  | n + 1 => by simp only [sm, sm_add f g n]; omega

theorem sm_mul (a : Nat) (f : Nat → Nat) : ∀ n, sm (fun k => a * f k) n = a * sm f n
  | 0 => rfl
  | n + 1 => by simp only [sm, sm_mul a f n]; rw [Nat.mul_add]

theorem sm_congr {f g : Nat → Nat} (h : ∀ k, f k = g k) (n : Nat) : sm f n = sm g n := by
  have : f = g := funext h
  rw [this]

theorem binom (a : Nat) : ∀ n, (a + 1) ^ n = sm (fun k => ch n k * a ^ k) (n + 1)
  | 0 => by simp [sm, ch]
  | n + 1 => by
    rw [Nat.pow_succ, binom a n, sm_head (fun k => ch (n + 1) k * a ^ k) (n + 1)]
    have e : sm (fun k => ch (n + 1) (k + 1) * a ^ (k + 1)) (n + 1) = sm (fun k => a * (ch n k * a ^ k)) (n + 1) + sm (fun k => ch n (k + 1) * a ^ (k + 1)) (n + 1) := by
      rw [← sm_add]
      refine sm_congr (fun k => ?_) _
      simp only [ch]
      rw [Nat.add_mul, Nat.pow_succ]
      have : ch n k * (a ^ k * a) = a * (ch n k * a ^ k) := by
        rw [← Nat.mul_assoc, Nat.mul_comm]
      rw [this]
    rw [e, sm_mul]
    have e2 : sm (fun k => ch n (k + 1) * a ^ (k + 1)) (n + 1) = sm (fun k => ch n (k + 1) * a ^ (k + 1)) n := by
      simp only [sm]; rw [ch_gt n (n + 1) (by omega)]; simp
    rw [e2]
    have e3 := sm_head (fun k => ch n k * a ^ k) n
    have h0 : ch n 0 = 1 := by cases n <;> simp [ch]
    have h00 : ch (n+1) 0 = 1 := by simp [ch]
    rw [h0] at e3
    rw [h00]
    simp only [Nat.pow_zero, Nat.mul_one] at e3 ⊢
    rw [Nat.mul_add, Nat.mul_one, Nat.mul_comm a]
    omega

theorem sm_dvd {p : Nat} (f : Nat → Nat) : ∀ n, (∀ k, k < n → p ∣ f k) → p ∣ sm f n
  | 0, _ => ⟨0, rfl⟩
  | n + 1, h => Nat.dvd_add (sm_dvd f n fun k hk => h k (by omega)) (h n (by omega))

theorem Pr.ch_dvd {p k : Nat} (hp : Pr p) (h0 : 0 < k) (h1 : k < p) : p ∣ ch p k := by
  obtain ⟨q, rfl⟩ : ∃ q, p = q + 1 := ⟨p - 1, by omega⟩
  obtain ⟨j, rfl⟩ : ∃ j, k = j + 1 := ⟨k - 1, by omega⟩
  have h := ch_mul q j
  have hd : (q + 1) ∣ (j + 1) * ch (q + 1) (j + 1) := ⟨ch q j, h⟩
  rcases hp.euclid hd with h' | h'
  · have := Nat.le_of_dvd (by omega) h'; omega
  · exact h'

theorem Pr.fermat {p : Nat} (hp : Pr p) : ∀ a, a ^ p % p = a % p
  | 0 => by rw [Nat.zero_pow (by have := hp.1; omega)]
  | a + 1 => by
    have ih := Pr.fermat hp a
    rw [binom a p, sm_head]
    obtain ⟨q, hq⟩ : ∃ q, p = q + 1 := ⟨p - 1, by have := hp.1; omega⟩
    have h0 : ch p 0 * a ^ 0 = 1 := by rw [hq]; simp [ch]
    have e : sm (fun k => ch p (k + 1) * a ^ (k + 1)) p = sm (fun k => ch p (k + 1) * a ^ (k + 1)) q + a ^ p := by
      rw [hq]; simp only [sm]; rw [ch_self, Nat.one_mul]
    rw [h0, e]
    have hd : p ∣ sm (fun k => ch p (k + 1) * a ^ (k + 1)) q :=
      sm_dvd _ q fun k hk => Nat.dvd_trans (hp.ch_dvd (by omega) (by omega)) (Nat.dvd_mul_right _ _)
    obtain ⟨c, hc⟩ := hd
    rw [hc]
    rw [show 1 + (p * c + a ^ p) = (1 + a ^ p) + p * c by omega, Nat.add_mul_mod_self_left, Nat.add_mod, ih, ← Nat.add_mod, Nat.add_comm]

theorem dvd_sub_of_mod {p a b : Nat} (hle : a ≤ b) (h : a % p = b % p) : p ∣ b - a := by
  refine ⟨b / p - a / p, ?_⟩
  have h1 := Nat.div_add_mod a p
  have h2 := Nat.div_add_mod b p
  rw [Nat.mul_sub]
  omega

theorem Pr.fermat1 {p a : Nat} (hp : Pr p) (ha : ¬ p ∣ a) : a ^ (p - 1) % p = 1 := by
  have h := hp.fermat a
  obtain ⟨q, hq⟩ : ∃ q, p = q + 1 := ⟨p - 1, by have := hp.1; omega⟩
  have ha0 : 1 ≤ a ^ q := Nat.one_le_iff_ne_zero.mpr (by
    intro h0
    have : a = 0 := by
      rcases Nat.eq_zero_or_pos a with h1 | h1
      · exact h1
      · have := Nat.pow_pos (n := q) h1; omega
    exact ha (this ▸ ⟨0, rfl⟩))
  have hd : p ∣ a * (a ^ q - 1) := by
    have e : a * (a ^ q - 1) = a ^ p - a := by rw [hq, Nat.pow_succ, Nat.mul_sub, Nat.mul_one, Nat.mul_comm]
    rw [e]
    have hle : a ≤ a ^ p := by rw [hq, Nat.pow_succ]; exact Nat.le_mul_of_pos_left a ha0
    exact dvd_sub_of_mod hle h.symm
  rcases hp.euclid hd with h' | h'
  · exact absurd h' ha
  · rw [show p - 1 = q by omega]
    obtain ⟨c, hc⟩ := h'
    have h1 : (1 : Nat) % p = 1 := Nat.mod_eq_of_lt (by have := hp.1; omega)
    have e : a ^ q = 1 + p * c := by omega
    rw [e, Nat.add_mul_mod_self_left, h1]

/-! ## powers modulo p, in Int -/
/-- x to the n modulo p -/
def pw (p x : Int) (n : Nat) : Int := x ^ n % p

theorem pw_bd {p : Int} (hp : 0 < p) (x : Int) (n : Nat) : 0 ≤ pw p x n ∧ pw p x n < p := emod_bd hp

theorem pow_emod (p x : Int) (n : Nat) : (x % p) ^ n % p = x ^ n % p := by
  induction n with
  | zero => simp
  | succ n ih => rw [Int.pow_succ, Int.pow_succ, Int.mul_emod, ih, Int.emod_emod_of_dvd _ (Int.dvd_refl p), ← Int.mul_emod]


theorem pw_step {p : Int} (out x : Int) (n : Nat) : out * (x * x % p) ^ n % p = out * x ^ (2 * n) % p := by
  rw [Int.mul_emod, pow_emod, ← Int.mul_emod, Int.pow_mul, show x ^ 2 = x * x by rw [Int.pow_succ, Int.pow_succ, Int.pow_zero, Int.one_mul]]

theorem half_pos {n : Int} (h : 0 < n) : 0 ≤ n / 2 ∧ n / 2 < n := by omega

/-- the loop that squares and multiplies, in the program's spelling (no last reduction) -/
theorem pow_loop (l : Nat → Int → Int → Int → Int → Option Int) (fin : Int → Int → Option Int) (m : Int → Int) (p : Int) (hp : 2 ≤ p) (hp2 : p ≤ 1000000) (hm : ∀ y, 0 ≤ y → m y = y % p)
    (hl : ∀ k e out x, l (k + 1) p e out x = if e > 0 then (if Int.tmod e 2 = 1 then l k p (wrap64 (Int.tdiv e 2)) (m (wrap64 (out * x))) (m (wrap64 (x * x))) else l k p (wrap64 (Int.tdiv e 2)) out (m (wrap64 (x * x)))) else fin p out)
    (d : Nat) : ∀ (k : Nat) (e out x : Int), e < d → d < k → 0 ≤ e → e ≤ 1000000000 → 0 ≤ out → out < p → 0 ≤ x → x < p → l k p e out x = fin p (out * x ^ e.toNat % p) := by
  induction d with
  | zero => intro k e out x h; omega
  | succ d ih =>
    intro k e out x he hk h0 h9 o0 o1 x0 x1
    obtain ⟨k, rfl⟩ : ∃ m, k = m + 1 := ⟨k - 1, by omega⟩
    rw [hl]
    by_cases h : e > 0
    · rw [if_pos h]
      have hb1 := mul_bd (a := 1000000) (b := 1000000) o0 (by omega) x0 (by omega)
      have hb2 := mul_bd (a := 1000000) (b := 1000000) x0 (by omega) x0 (by omega)
      have e1 : Int.tdiv e 2 = e / 2 := Int.tdiv_eq_ediv_of_nonneg h0
      have e2 : Int.tmod e 2 = e % 2 := tmod_nn h0
      have ew : wrap64 (e / 2) = e / 2 := w64 (by omega) (by omega)
      rw [e1, e2, ew, w64 (x := out * x) (by omega) (by omega), w64 (x := x * x) (by omega) (by omega), hm _ hb1.1, hm _ hb2.1]
      have b2 := emod_bd (x := x * x) (p := p) (by omega)
      have b1 := emod_bd (x := out * x) (p := p) (by omega)
      by_cases h1 : e % 2 = 1
      · rw [if_pos h1, ih k (e / 2) (out * x % p) (x * x % p) (by omega) (by omega) (by omega) (by omega) b1.1 b1.2 b2.1 b2.2, pw_step]
        have hn : e.toNat = 2 * (e / 2).toNat + 1 := by omega
        rw [hn, Int.pow_succ, em_l]
        have : out * x * x ^ (2 * (e / 2).toNat) = out * (x ^ (2 * (e / 2).toNat) * x) := by
          rw [Int.mul_assoc, Int.mul_comm x]
        rw [this]
      · rw [if_neg h1, ih k (e / 2) out (x * x % p) (by omega) (by omega) (by omega) (by omega) o0 o1 b2.1 b2.2, pw_step]
        have hn : e.toNat = 2 * (e / 2).toNat := by omega
        rw [hn]
    · rw [if_neg h]
      have hz : e.toNat = 0 := by omega
      rw [hz, Int.pow_zero, Int.mul_one, Int.emod_eq_of_lt o0 o1]

/-- is it a prime of the program's? -/
def IsP (p : Int) : Prop := 2 ≤ p ∧ p ≤ 10007 ∧ Pr p.toNat

open Classical in
/-- the same as a bool -/
noncomputable def primeB (p : Int) : Bool := decide (IsP p)

theorem primeB_iff {p : Int} : primeB p = true ↔ IsP p := by
  unfold primeB; exact @decide_eq_true_iff _ (Classical.propDecidable _)

theorem prime_loop (l : Nat → Int → Int → Option Bool) (p : Int) (hp : 2 ≤ p) (hp2 : p ≤ 10007)
    (hl : ∀ k i, l (k + 1) p i = if wrap64 (i * i) ≤ p then (if i = 0 then none else (if Int.tmod p i = 0 then some false else l k p (wrap64 (i + 1)))) else some true)
    (d : Nat) : ∀ (k : Nat) (i : Int), 2 ≤ i → i ≤ 101 → 101 - i < d → d < k →
      ∃ b, l k p i = some b ∧ (b = true ↔ ∀ j : Int, i ≤ j → j * j ≤ p → p % j ≠ 0) := by
  induction d with
  | zero => intro k i h1 h2 h3; omega
  | succ d ih =>
    intro k i h1 h2 h3 hk
    obtain ⟨k, rfl⟩ : ∃ m, k = m + 1 := ⟨k - 1, by omega⟩
    rw [hl]
    have hb := mul_bd (a := 101) (b := 101) (x := i) (y := i) (by omega) h2 (by omega) h2
    rw [w64 (by omega) (by omega), w64 (x := i + 1) (by omega) (by omega)]
    by_cases hle : i * i ≤ p
    · have hi : i ≤ 100 := by
        rcases Int.lt_or_le 100 i with h | h
        · have := Int.mul_le_mul (a := 101) (b := 101) (c := i) (d := i) (by omega) (by omega) (by omega) (by omega); omega
        · exact h
      rw [if_pos hle, if_neg (by omega), tmod_nn (by omega)]
      by_cases hd : p % i = 0
      · rw [if_pos hd]
        exact ⟨false, rfl, by simp; exact ⟨i, Int.le_refl _, hle, hd⟩⟩
      · rw [if_neg hd]
        obtain ⟨b, hb1, hb2⟩ := ih k (i + 1) (by omega) (by omega) (by omega) (by omega)
        refine ⟨b, hb1, hb2.trans ⟨fun h j hj hjj => ?_, fun h j hj hjj => h j (by omega) hjj⟩⟩
        by_cases e : j = i
        · subst e; exact hd
        · exact h j (by omega) hjj
    · rw [if_neg hle]
      refine ⟨true, rfl, by simp; intro j hj hjj; exfalso; apply hle; exact Int.le_trans (Int.mul_le_mul hj hj (by omega) (by omega)) hjj⟩

theorem trial_iff {p : Int} (hp : 2 ≤ p) : (∀ j : Int, 2 ≤ j → j * j ≤ p → p % j ≠ 0) ↔ Pr p.toNat := by
  constructor
  · intro h
    refine Pr.of_trial (by omega) fun d hd hdd h0 => ?_
    refine h d (by omega) ?_ ?_
    · have : ((d * d : Nat) : Int) ≤ p := by omega
      simpa using this
    · have : ((p.toNat % d : Nat) : Int) = 0 := by rw [h0]; rfl
      rw [Int.natCast_emod, Int.toNat_of_nonneg (by omega)] at this
      exact this
  · intro h j hj hjj h0
    obtain ⟨d, rfl⟩ : ∃ d : Nat, j = d := ⟨j.toNat, by omega⟩
    obtain ⟨n, rfl⟩ : ∃ n : Nat, p = n := ⟨p.toNat, by omega⟩
    simp only [Int.toNat_natCast] at h
    have hdv : d ∣ n := by
      apply Nat.dvd_of_mod_eq_zero
      have : ((n % d : Nat) : Int) = 0 := by rw [Int.natCast_emod]; exact h0
      omega
    have hn : d * d ≤ n := by
      have : ((d * d : Nat) : Int) ≤ n := by simpa using hjj
      omega
    rcases h.2 d hdv with e | e
    · omega
    · subst e
      have : d * 2 ≤ d * d := Nat.mul_le_mul_left d (by omega)
      omega


theorem primeB_loop {p : Int} {b : Bool} (h1 : 2 ≤ p) (h2 : p ≤ 10007) (h : b = true ↔ ∀ j : Int, 2 ≤ j → j * j ≤ p → p % j ≠ 0) : b = primeB p := by
  rw [Bool.eq_iff_iff, primeB_iff, h, trial_iff h1]
  exact ⟨fun h => ⟨h1, h2, h⟩, fun h => h.2.2⟩
theorem primeB_lo {p : Int} (h : ¬ 2 ≤ p) : primeB p = false := by
  rw [Bool.eq_false_iff]; intro e; exact h (primeB_iff.1 e).1
theorem primeB_hi {p : Int} (h : ¬ p ≤ 10007) : primeB p = false := by
  rw [Bool.eq_false_iff]; intro e; exact h (primeB_iff.1 e).2.1

end Go.Proofs.Ytcimpcdgdffnpaa.Num

-- written by wip/drive.py (the session's own program) over the translation; Lean checks it
namespace Go.Proofs.Ytcimpcdgdffnpaa.H
open Go.RowKit Go.Proofs.YtcimpcdgdffnpaaW.PrintWords Go.Proofs.YtcimpcdgdffnpaaW.PrintLast Go.Proofs.YtcimpcdgdffnpaaW.PrintMore
attribute [local go_sem] max2_int min2_int max_two min_two max_three min_three max_four min_four   -- for this text's walks alone
set_option linter.unusedVariables false
set_option linter.unusedSimpArgs false

/-! ### laws_heldInt64S: function 16 -/
def laws_heldInt64S.l0 : Nat → List Int → Int → Int → Option (Int)
  | 0, _, _, _ => none
  | k + 1, x0, x1, x5 => if x5 < (x0.length : Int) then (if 0 ≤ x5 then (if (rd x0 x5) = x1 then (laws_heldInt64S.l0 k x0 (wrap64 (x1 + 1)) (wrap64 (x5 + 1))) else (some (-1))) else (none)) else (some x1)
def laws_heldInt64S.f (k : Nat) (l0 : List Int) (a1 : Int) : Option (Int) := laws_heldInt64S.l0 k l0 a1 0
theorem laws_heldInt64S.mono_l : ∀ k, (∀ y0 y1 y2, LeO (laws_heldInt64S.l0 k y0 y1 y2) (laws_heldInt64S.l0 (k + 1) y0 y1 y2))
  | 0 => fun _ _ _ r h => by simp [laws_heldInt64S.l0] at h
  | k + 1 => by
    have ih0 := laws_heldInt64S.mono_l k
    · intro y0 y1 y2
      unfold laws_heldInt64S.l0
      repeat' first
      | (with_reducible exact ih0 _ _ _)
      | (with_reducible exact LeO.refl _)
      | (with_reducible exact LeO.none _)
      | (with_reducible refine LeO.ite ?_ ?_)
      | (with_reducible refine LeO.bind ?_ (fun _ => ?_))
      | exact ih0 _ _ _
      | exact LeO.none _
      | refine LeO.ite ?_ ?_
      | refine LeO.bind ?_ (fun _ => ?_)
theorem laws_heldInt64S.mono : ∀ a0 a1 k, LeO (laws_heldInt64S.f k a0 a1) (laws_heldInt64S.f (k + 1) a0 a1) := by
  intro a0 a1 k
  have ih0 := laws_heldInt64S.mono_l k
  unfold laws_heldInt64S.f
  repeat' first
      | (with_reducible exact ih0 _ _ _)
      | (with_reducible exact LeO.refl _)
      | (with_reducible exact LeO.none _)
      | (with_reducible refine LeO.ite ?_ ?_)
      | (with_reducible refine LeO.bind ?_ (fun _ => ?_))
      | exact ih0 _ _ _
      | exact LeO.none _
      | refine LeO.ite ?_ ?_
      | refine LeO.bind ?_ (fun _ => ?_)
set_option maxHeartbeats 8000000 in
set_option maxRecDepth 100000 in
theorem laws_heldInt64S.calls (k : Nat) (A0 : Option Addr) (c0 : Nat) (l0 : List Int) (a1 : Int) (r : Int) (w : World) (hr0 : Kd.C (Kd.int .i64) w A0 l0.length l0) (hc0 : l0.length ≤ c0) (h : laws_heldInt64S.f k l0 a1 = some r) :
    Calls Try.prog 16 #[.slice A0 l0.length c0, .int .i64 a1] w fun e w' => e = .returned (.int .i64 r) ∧ Drawn0 w w' := by
  have HR0 := Aside0.mk hr0
  have HC0 := Aside0.mk hc0
  clear hr0 hc0
  have H : (laws_heldInt64S.l0 k l0 a1 0) = some r := h
  clear h
  have H' := Aside0.mk H
  clear H
  go_enter Try.func16, Try.ntmps16
  go_wp2
  go_loopg [1, 5] k (fun kq v1 v5 w' => ∃ (x1_1 : Int) (x5_1 : Int), v1 = .int .i64 x1_1 ∧ v5 = .int .i64 x5_1 ∧ Aside0 (laws_heldInt64S.l0 kq l0 x1_1 x5_1 = some r) ∧ Aside0 (kq ≤ k) ∧ Drawn0 w w')
  case atStart => exact ⟨(a1), (0), ea_, ea_, H', ⟨Nat.le_refl _⟩, by repeat (first | exact Drawn0.refl _ | apply Drawn0.step)⟩
  case round =>
    clear H'
    try clear c1
    try clear p2
    obtain ⟨x1_1, x5_1, rfl, rfl, HA, HK1, ⟨m1, rfl⟩⟩ := hrel
    cases gk with
    | zero => exact absurd HA.out (by simp [laws_heldInt64S.l0])
    | succ k1 =>
      have H := HA.out
      clear HA
      simp only [laws_heldInt64S.l0] at H
      by_cases c3 : x5_1 < (l0.length : Int)
      · rw [if_pos c3] at H
        have c3b0 : decide (x5_1 < (l0.length : Int)) = true := decide_eq_true c3
        clear c3
        by_cases c4 : 0 ≤ x5_1
        · rw [if_pos c4] at H
          have c4b0 : decide (0 ≤ x5_1) = true := decide_eq_true c4
          clear c4
          by_cases c5 : (rd l0 x5_1) = x1_1
          · rw [if_pos c5] at H
            have c5b0 : ((rd l0 x5_1) == x1_1) = true := beq_iff_eq.mpr c5
            have c5b1 : ((rd l0 x5_1) != x1_1) = false := bne_eq_false_iff_eq.mpr c5
            clear c5
            have H' := Aside0.mk H
            clear H
            have p250 : 0 ≤ (x5_1 : Int) := of_decide_eq_true (by first | (with_reducible assumption) | assumption)
            have q250 : x5_1 < (l0.length : Int) := of_decide_eq_true (by first | (with_reducible assumption) | assumption)
            obtain ⟨ad250, e250, hx250_0⟩ := Kd.at_int HR0.out x5_1 p250 q250
            cases e250
            replace p250 := eq_true p250
            replace q250 := eq_true q250
            go_wp2
            go_roundg k1
            case measure => have := HK1.out; omega
            case rel => exact ⟨(wrap64 (x1_1 + 1)), (wrap64 (x5_1 + 1)), ea_, ea_, H', ⟨by have := HK1.out; omega⟩, by repeat (first | exact Drawn0.refl _ | apply Drawn0.step)⟩
          · rw [if_neg c5] at H
            have c5b0 : ((rd l0 x5_1) == x1_1) = false := beq_eq_false_iff_ne.mpr c5
            have c5b1 : ((rd l0 x5_1) != x1_1) = true := bne_iff_ne.mpr c5
            obtain rfl := Option.some.inj H
            have p250 : 0 ≤ (x5_1 : Int) := of_decide_eq_true (by first | (with_reducible assumption) | assumption)
            have q250 : x5_1 < (l0.length : Int) := of_decide_eq_true (by first | (with_reducible assumption) | assumption)
            obtain ⟨ad250, e250, hx250_0⟩ := Kd.at_int HR0.out x5_1 p250 q250
            cases e250
            replace p250 := eq_true p250
            replace q250 := eq_true q250
            go_wp2
            go_ret
            exact ⟨by first | rfl | (simp; done) | (simp [*]; done), by repeat (first | exact Drawn0.refl _ | apply Drawn0.step)⟩
        · rw [if_neg c4] at H
          exact absurd H (by simp)
      · rw [if_neg c3] at H
        have c3b0 : decide (x5_1 < (l0.length : Int)) = false := decide_eq_false c3
        clear c3
        obtain rfl := Option.some.inj H
        go_wp2
        go_ret
        exact ⟨by first | rfl | (simp; done) | (simp [*]; done), by repeat (first | exact Drawn0.refl _ | apply Drawn0.step)⟩

end Go.Proofs.Ytcimpcdgdffnpaa.H
-- written by wip/drive.py (the session's own program) over the translation; Lean checks it
namespace Go.Proofs.Ytcimpcdgdffnpaa.H
open Go.RowKit Go.Proofs.YtcimpcdgdffnpaaW.PrintWords Go.Proofs.YtcimpcdgdffnpaaW.PrintLast Go.Proofs.YtcimpcdgdffnpaaW.PrintMore
attribute [local go_sem] max2_int min2_int max_two min_two max_three min_three max_four min_four   -- for this text's walks alone
set_option linter.unusedVariables false
set_option linter.unusedSimpArgs false

/-! ### laws_markInt64S: function 15 -/
def laws_markInt64S.l0 : Nat → List Int → Int → Int → Option (Int × List Int)
  | 0, _, _, _ => none
  | k + 1, x0, x1, x5 => if x5 < (x0.length : Int) then (if 0 ≤ x5 then (laws_markInt64S.l0 k (x0.set (x5 : Int).toNat x1) (wrap64 (x1 + 1)) (wrap64 (x5 + 1))) else (none)) else (some (x1, x0))
def laws_markInt64S.f (k : Nat) (l0 : List Int) (a1 : Int) : Option (Int × List Int) := laws_markInt64S.l0 k l0 a1 0
theorem laws_markInt64S.mono_l : ∀ k, (∀ y0 y1 y2, LeO (laws_markInt64S.l0 k y0 y1 y2) (laws_markInt64S.l0 (k + 1) y0 y1 y2))
  | 0 => fun _ _ _ r h => by simp [laws_markInt64S.l0] at h
  | k + 1 => by
    have ih0 := laws_markInt64S.mono_l k
    · intro y0 y1 y2
      unfold laws_markInt64S.l0
      repeat' first
      | (with_reducible exact ih0 _ _ _)
      | (with_reducible exact LeO.refl _)
      | (with_reducible exact LeO.none _)
      | (with_reducible refine LeO.ite ?_ ?_)
      | (with_reducible refine LeO.bind ?_ (fun _ => ?_))
      | exact ih0 _ _ _
      | exact LeO.none _
      | refine LeO.ite ?_ ?_
      | refine LeO.bind ?_ (fun _ => ?_)
theorem laws_markInt64S.mono : ∀ a0 a1 k, LeO (laws_markInt64S.f k a0 a1) (laws_markInt64S.f (k + 1) a0 a1) := by
  intro a0 a1 k
  have ih0 := laws_markInt64S.mono_l k
  unfold laws_markInt64S.f
  repeat' first
      | (with_reducible exact ih0 _ _ _)
      | (with_reducible exact LeO.refl _)
      | (with_reducible exact LeO.none _)
      | (with_reducible refine LeO.ite ?_ ?_)
      | (with_reducible refine LeO.bind ?_ (fun _ => ?_))
      | exact ih0 _ _ _
      | exact LeO.none _
      | refine LeO.ite ?_ ?_
      | refine LeO.bind ?_ (fun _ => ?_)
set_option maxHeartbeats 8000000 in
set_option maxRecDepth 100000 in
theorem laws_markInt64S.calls (k : Nat) (P0_ : Nat → Prop) (u9000_ : Value) (l0 : List Int) (a1 : Int) (r1 : Int) (r2 : List Int) (w0 w : World) (hB : Below w0.heap.size w0 w) (ho0 : Kd.R (Kd.int .i64) 2 w w0.heap.size P0_ u9000_ l0) (h : laws_markInt64S.f k l0 a1 = some (r1, r2)) :
    Calls Try.prog 15 #[u9000_, .int .i64 a1] w fun e w' => e = .returned (.int .i64 r1) ∧ Kd.R (Kd.int .i64) 2 w' w0.heap.size (fun k_ => (P0_ k_ ∨ w.heap.size ≤ k_)) u9000_ r2 ∧ Below w0.heap.size w0 w' ∧ Kept w w' (fun k_ => P0_ k_) := by
  have HO0 := Aside0.mk (show Kd.R (Kd.int .i64) 2 w w0.heap.size (fun k_ => (P0_ k_ ∨ w.heap.size ≤ k_)) u9000_ l0 from Kd.R_mono ho0 (fun k_ hk => (.inl hk)))
  have HK := Aside0.mk (Kept.refl w (fun k_ => P0_ k_))
  have HW0 := Aside0.mk hB.size
  have HB := Aside0.mk hB
  clear hB
  have H : (laws_markInt64S.l0 k l0 a1 0) = some (r1, r2) := h
  clear h
  have H' := Aside0.mk H
  clear H
  go_enter Try.func15, Try.ntmps15
  go_wp2
  go_loopg [1, 5] k (fun kq v1 v5 w' => ∃ (x0_1 : List Int) (x1_1 : Int) (x5_1 : Int), v1 = .int .i64 x1_1 ∧ v5 = .int .i64 x5_1 ∧ Aside0 (laws_markInt64S.l0 kq x0_1 x1_1 x5_1 = some (r1, r2)) ∧ Aside0 (kq ≤ k) ∧ Aside0 (Kd.R (Kd.int .i64) 2 w' w0.heap.size (fun k_ => (P0_ k_ ∨ w.heap.size ≤ k_)) u9000_ x0_1) ∧ Aside0 (Kept w w' (fun k_ => P0_ k_)) ∧ Aside0 (Below w0.heap.size w0 w'))
  case atStart => exact ⟨(l0), (a1), (0), ea_, ea_, H', ⟨Nat.le_refl _⟩, ⟨by (with_reducible repeat (first | apply Kd.R_alloc | apply Kd.R_drewN | apply Kd.R_drew)); exact HO0.out⟩, ⟨by repeat (first | (with_reducible first | exact HK.out | apply Kept.alloc | apply Kept.drewN | apply Kept.drew) | exact HK.out)⟩, ⟨by repeat (first | (with_reducible first | exact HB.out | apply below_alloc | apply pw_below_drewN | apply below_drew1) | exact HB.out)⟩⟩
  case round =>
    clear H'
    try clear c1
    try clear p2
    obtain ⟨x0_1, x1_1, x5_1, rfl, rfl, HA, HK1, HO_0, HK, HB⟩ := hrel
    cases gk with
    | zero => exact absurd HA.out (by simp [laws_markInt64S.l0])
    | succ k1 =>
      have H := HA.out
      clear HA
      simp only [laws_markInt64S.l0] at H
      by_cases c3 : x5_1 < (x0_1.length : Int)
      · rw [if_pos c3] at H
        have c3b0 : decide (x5_1 < (x0_1.length : Int)) = true := decide_eq_true c3
        clear c3
        by_cases c4 : 0 ≤ x5_1
        · rw [if_pos c4] at H
          have c4b0 : decide (0 ≤ x5_1) = true := decide_eq_true c4
          clear c4
          obtain ⟨y249, hy249⟩ : ∃ y_ : List Int, y_ = (x0_1.set (x5_1 : Int).toNat x1_1) := ⟨_, rfl⟩
          replace H : (laws_markInt64S.l0 k1 y249 (wrap64 (x1_1 + 1)) (wrap64 (x5_1 + 1))) = some (r1, r2) := by first | (rw [hy249]; with_reducible exact H) | (have H2_ := (Option.bind_some _ _).symm.trans H; rw [hy249]; with_reducible exact H2_) | (have H2_ := (Option.bind_some _ _).symm.trans H; with_reducible exact H2_) | with_reducible exact H | (rw [hy249]; exact H) | exact H
          have Ny249 := Aside0.mk hy249
          clear hy249
          have H' := Aside0.mk H
          clear H
          obtain ⟨Ao6, co6, eo6⟩ := Kd.R_slice HO_0.out
          subst eo6
          have p5 : 0 ≤ (x5_1 : Int) := of_decide_eq_true (by first | (with_reducible assumption) | assumption)
          have q5 : (x5_1 : Int) < ((x0_1.length : Int) : Int) := of_decide_eq_true (by first | (with_reducible assumption) | assumption)
          obtain ⟨go5, co5, eo5, gb5, gl5, cl5, HG5⟩ := Kd.R_form HO_0.out (by omega)
          (first | cases eo5 | (injection eo5 with ea_ en_ ec_; (first | subst ea_ | (injection ea_ with ea_; subst ea_)); subst ec_; clear en_))
          have GB5 := Aside0.mk gb5
          have GG5 := Aside0.mk HG5
          clear gb5 gl5 HG5
          have HMgo5 := Aside0.mk (show (P0_ go5 ∨ w.heap.size ≤ go5) from (HO_0.out.1 _ rfl))
          obtain ⟨hx5_0, hf5_0⟩ := Kd.R_celln 0 HO_0.out (x5_1 : Int) p5 q5
          replace p5 := eq_true p5
          replace q5 := eq_true q5
          have HP7 := Kd.R_putg HO_0.out (x5_1 : Int) x1_1
          go_wp2_with (first | ((with_reducible refine gate_store (t := 2) (p := 15) rfl ?_); refine store_event (t := 2) (p := 15) (v := ?vo_w8) (w1 := (wr.setCell ⟨go5, (x5_1 : Int).toNat, none⟩ (.int .i64 x1_1))) ?hg ?ho ?hn ?hr ?_; (case ho => rfl); (case hg => rfl); (case hn => rfl); (case hr => first | (go_simp; done) | (go_simp; rfl)); intro w8 hw; have hg : wr.grownBy w8 (some go5) := (by rw [hw]; exact HP7.2); have hp_ : Kd.R (Kd.int .i64) 2 w8 w0.heap.size (fun k_ => (P0_ k_ ∨ w.heap.size ≤ k_)) (.slice (some ⟨go5, 0, none⟩) x0_1.length co6) y249 := (by rw [hw, Ny249.out]; exact HP7.1); clear HP7; have n0_ := Aside0.mk (hp_); have n1_ := Aside0.mk ((by rw [hw]; exact below_set (HB.out) GB5.out : Below w0.heap.size w0 w8)); have n2_ := Aside0.mk (Kept.of_grown (S := (fun k_ => P0_ k_)) hg (by repeat (first | (with_reducible first | exact HK.out | apply Kept.alloc | apply Kept.drewN | apply Kept.drew) | exact HK.out)) (fun k_ e_ => (HO_0.out.1 k_ e_))); clear HO_0; clear HB; clear HK; have HO_0 := n0_; have HB := n1_; have HK := n2_; clear n0_ n1_ n2_; clear hg hw hp_))
          go_roundg k1
          case measure => have := HK1.out; omega
          case rel => exact ⟨(y249), (wrap64 (x1_1 + 1)), (wrap64 (x5_1 + 1)), ea_, ea_, H', ⟨by have := HK1.out; omega⟩, ⟨by (with_reducible repeat (first | apply Kd.R_alloc | apply Kd.R_drewN | apply Kd.R_drew)); exact HO_0.out⟩, ⟨by repeat (first | (with_reducible first | exact HK.out | apply Kept.alloc | apply Kept.drewN | apply Kept.drew) | exact HK.out)⟩, ⟨by repeat (first | (with_reducible first | exact HB.out | apply below_alloc | apply pw_below_drewN | apply below_drew1) | exact HB.out)⟩⟩
        · rw [if_neg c4] at H
          exact absurd H (by simp)
      · rw [if_neg c3] at H
        have c3b0 : decide (x5_1 < (x0_1.length : Int)) = false := decide_eq_false c3
        clear c3
        simp only [Option.some.injEq, Prod.mk.injEq] at H
        obtain ⟨rfl, rfl⟩ := H
        obtain ⟨Ao9, co9, eo9⟩ := Kd.R_slice HO_0.out
        subst eo9
        go_wp2
        go_ret
        exact ⟨by first | rfl | (simp [errW_none, errW_some] <;> rfl) | (simp [*, errW_none, errW_some] <;> rfl), by (with_reducible repeat (first | apply Kd.R_alloc | apply Kd.R_drewN | apply Kd.R_drew)); exact HO_0.out, by repeat (first | (with_reducible first | exact HB.out | apply below_alloc | apply pw_below_drewN | apply below_drew1) | exact HB.out), by repeat (first | (with_reducible first | exact HK.out | apply Kept.alloc | apply Kept.drewN | apply Kept.drew) | exact HK.out)⟩

end Go.Proofs.Ytcimpcdgdffnpaa.H
/- The helpers of the laws: copies, equality, marks. -/
set_option linter.unusedVariables false
set_option linter.unusedSimpArgs false
namespace Go.Proofs.Ytcimpcdgdffnpaa.H
open Go.RowKit Go.Proofs.YtcimpcdgdffnpaaW.PrintWords Go.Proofs.YtcimpcdgdffnpaaW.PrintLast Go.Proofs.Ytcimpcdgdffnpaa.Num

theorem rd_nat (l : List Int) (i : Nat) : rd l (i : Int) = l.getD i 0 := by simp [rd]
theorem rd_lt (l : List Int) (i : Nat) (h : i < l.length) : rd l (i : Int) = l[i] := by simp [rd, h]
theorem wn {i : Nat} (h : i ≤ 1000000000000) : wrap64 ((i : Int) + 1) = ((i + 1 : Nat) : Int) := by rw [w64 (by omega) (by omega)]; omega

theorem toI_loop (l : List Int) (hl : l.length ≤ 1000000000) (d : Nat) : ∀ (k i : Nat) (acc : List Int), i + d = l.length → acc.length = l.length → acc.take i = l.take i → d < k → laws_toInt64S.l0 k l acc (i : Int) = some l := by
  induction d with
  | zero =>
    intro k i acc h1 h2 h3 hk
    obtain ⟨k, rfl⟩ : ∃ m, k = m + 1 := ⟨k - 1, by omega⟩
    simp only [laws_toInt64S.l0]
    rw [if_neg (by omega)]
    have : acc = l := by
      have e1 : acc.take i = acc := List.take_of_length_le (by omega)
      have e2 : l.take i = l := List.take_of_length_le (by omega)
      rw [e1, e2] at h3; exact h3
    rw [this]
  | succ d ih =>
    intro k i acc h1 h2 h3 hk
    obtain ⟨k, rfl⟩ : ∃ m, k = m + 1 := ⟨k - 1, by omega⟩
    simp only [laws_toInt64S.l0]
    rw [if_pos (by omega), if_pos (by omega), if_pos (by omega), wn (by omega), rd_lt l i (by omega), Int.toNat_natCast]
    refine ih k (i + 1) _ (by omega) (by simpa using h2) ?_ (by omega)
    rw [List.take_succ_eq_append_getElem (by simp; omega), List.take_succ_eq_append_getElem (by omega), List.getElem_set_self, List.take_set_of_le (Nat.le_refl i), h3]

theorem toI_same (l : List Int) (hl : l.length ≤ 1048576) : ∃ K, ∀ k, K ≤ k → laws_toInt64S.f k l = some l := by
  refine ⟨l.length + 2, fun k hk => ?_⟩
  unfold laws_toInt64S.f
  rw [if_pos (by omega), if_pos (by omega)]
  exact toI_loop l (by omega) l.length k 0 _ (by omega) (by simp) (by simp) (by omega)

theorem eqI_loop (l : List Int) (hl : l.length ≤ 1000000000) (d : Nat) : ∀ (k i : Nat), i + d = l.length → d < k → laws_eqInt64S.l0 k l l (i : Int) = some true := by
  induction d with
  | zero =>
    intro k i h1 hk
    obtain ⟨k, rfl⟩ : ∃ m, k = m + 1 := ⟨k - 1, by omega⟩
    simp only [laws_eqInt64S.l0]
    rw [if_neg (by omega)]
  | succ d ih =>
    intro k i h1 hk
    obtain ⟨k, rfl⟩ : ∃ m, k = m + 1 := ⟨k - 1, by omega⟩
    simp only [laws_eqInt64S.l0]
    rw [if_pos (by omega), if_pos (by omega), if_pos (by omega), if_pos trivial, wn (by omega)]
    exact ih k (i + 1) (by omega) (by omega)

theorem eqI_same (l : List Int) (hl : l.length ≤ 2000000) : ∃ K, ∀ k, K ≤ k → laws_eqInt64S.f k l l = some true := by
  refine ⟨l.length + 2, fun k hk => ?_⟩
  unfold laws_eqInt64S.f
  rw [if_pos rfl]
  exact eqI_loop l (by omega) l.length k 0 (by omega) (by omega)

/-- n, n + 1, .. : d of them -/
def up (n : Int) : Nat → List Int
  | 0 => []
  | d + 1 => n :: up (n + 1) d
theorem up_len : ∀ (d : Nat) (n : Int), (up n d).length = d
  | 0, _ => rfl
  | d + 1, n => by simp [up, up_len d]

theorem mark_loop (d : Nat) : ∀ (k i : Nat) (l : List Int) (n : Int), i + d = l.length → l.length ≤ 1000000000 → 0 ≤ n → n + d ≤ 1000000000000 → d < k → laws_markInt64S.l0 k l n (i : Int) = some (n + d, l.take i ++ up n d) := by
  induction d with
  | zero =>
    intro k i l n h1 h2 h3 h4 hk
    obtain ⟨k, rfl⟩ : ∃ m, k = m + 1 := ⟨k - 1, by omega⟩
    simp only [laws_markInt64S.l0]
    rw [if_neg (by omega), List.take_of_length_le (by omega)]
    simp [up]
  | succ d ih =>
    intro k i l n h1 h2 h3 h4 hk
    obtain ⟨k, rfl⟩ : ∃ m, k = m + 1 := ⟨k - 1, by omega⟩
    simp only [laws_markInt64S.l0]
    have hw : wrap64 (n + 1) = n + 1 := w64 (by omega) (by omega)
    rw [if_pos (by omega), if_pos (by omega), wn (by omega), Int.toNat_natCast, hw]
    rw [ih k (i + 1) _ (n + 1) (by simp; omega) (by simpa using h2) (by omega) (by omega) (by omega)]
    rw [List.take_succ_eq_append_getElem (by simp; omega), List.getElem_set_self, List.take_set_of_le (Nat.le_refl i)]
    simp only [up, List.append_assoc, List.cons_append, List.nil_append]
    congr 2
    omega

theorem mark_up (l : List Int) (hl : l.length ≤ 2000000) (n : Int) (h0 : 0 ≤ n) (h1 : n ≤ 100000000) : ∃ K, ∀ k, K ≤ k → laws_markInt64S.f k l n = some (n + l.length, up n l.length) := by
  refine ⟨l.length + 2, fun k hk => ?_⟩
  unfold laws_markInt64S.f
  have := mark_loop l.length k 0 l n (by omega) (by omega) h0 (by omega) (by omega)
  simpa using this

theorem up_get : ∀ (d i : Nat) (n : Int) (h : i < d), (up n d)[i]'(by rw [up_len]; exact h) = n + i
  | d + 1, 0, n, _ => by simp [up]
  | d + 1, i + 1, n, h => by simp only [up, List.getElem_cons_succ]; rw [up_get d i (n + 1) (by omega)]; omega

theorem held_loop (m : Nat) (n0 : Int) (hm : m ≤ 1000000000) (h0 : 0 ≤ n0) (hb : n0 ≤ 1000000000) (d : Nat) : ∀ (k i : Nat), i + d = m → d < k → laws_heldInt64S.l0 k (up n0 m) (n0 + i) (i : Int) = some (n0 + m) := by
  induction d with
  | zero =>
    intro k i h1 hk
    obtain ⟨k, rfl⟩ : ∃ m, k = m + 1 := ⟨k - 1, by omega⟩
    simp only [laws_heldInt64S.l0]
    rw [if_neg (by rw [up_len]; omega)]
    congr 2; omega
  | succ d ih =>
    intro k i h1 hk
    obtain ⟨k, rfl⟩ : ∃ m, k = m + 1 := ⟨k - 1, by omega⟩
    simp only [laws_heldInt64S.l0]
    have hw : wrap64 (n0 + i + 1) = n0 + ((i + 1 : Nat) : Int) := by rw [w64 (by omega) (by omega)]; omega
    rw [if_pos (by rw [up_len]; omega), if_pos (by omega), rd_lt _ _ (by rw [up_len]; omega), up_get _ _ _ (by omega), if_pos rfl, wn (by omega), hw]
    exact ih k (i + 1) (by omega) (by omega)

theorem held_up (m : Nat) (hm : m ≤ 2000000) (n : Int) (h0 : 0 ≤ n) (h1 : n ≤ 100000000) : ∃ K, ∀ k, K ≤ k → laws_heldInt64S.f k (up n m) n = some (n + m) := by
  refine ⟨m + 2, fun k hk => ?_⟩
  unfold laws_heldInt64S.f
  have := held_loop m n (by omega) h0 (by omega) m k 0 (by omega) (by omega)
  simpa using this

end Go.Proofs.Ytcimpcdgdffnpaa.H

-- written by wip/drive.py (the session's own program) over the translation; Lean checks it
namespace Go.Proofs.Ytcimpcdgdffnpaa.H
open Go.RowKit Go.Proofs.YtcimpcdgdffnpaaW.PrintWords Go.Proofs.YtcimpcdgdffnpaaW.PrintLast Go.Proofs.YtcimpcdgdffnpaaW.PrintMore
attribute [local go_sem] max2_int min2_int max_two min_two max_three min_three max_four min_four   -- for this text's walks alone
set_option linter.unusedVariables false
set_option linter.unusedSimpArgs false

/-! ### impl_field_mul: function 44 -/
def impl_field_mul.f (a0 : Int) (a1 : Int) (a2 : Int) : Option (Int) := (impl_field_mod.f a0 (wrap64 (a1 * a2))).bind fun t432 => (some t432)
set_option maxHeartbeats 8000000 in
set_option maxRecDepth 100000 in
theorem impl_field_mul.calls (a0 : Int) (a1 : Int) (a2 : Int) (r : Int) (w : World) (h : impl_field_mul.f a0 a1 a2 = some r) :
    Calls Try.prog 44 #[.int .i64 a0, .int .i64 a1, .int .i64 a2] w fun e w' => e = .returned (.int .i64 r) ∧ Drawn0 w w' := by
  have H : ((impl_field_mod.f a0 (wrap64 (a1 * a2))).bind fun t432 => (some t432)) = some r := h
  clear h
  replace H := Option.bind_eq_some_iff.mp H
  obtain ⟨t432, A40, H⟩ := H
  have A4 := Aside0.mk A40
  clear A40
  obtain rfl := Option.some.inj H
  go_enter Try.func44, Try.ntmps44
  go_wp2_with (first | ((with_reducible refine gate_callee (f := 41) rfl ?_); refine goesM_ (some 11) rfl rfl Try.func41 #[.int .i64 a0, .int .i64 (wrap64 (a1 * a2))] rfl ?_; (with_reducible refine (impl_field_mod.calls a0 (wrap64 (a1 * a2)) t432 _ A4.out).mono ?_); rintro e w' ⟨rfl, ⟨nd, rfl⟩⟩; refine ⟨_, rfl, ?_⟩))
  go_ret
  exact ⟨by first | rfl | (simp; done) | (simp [*]; done), by repeat (first | exact Drawn0.refl _ | apply Drawn0.step)⟩

end Go.Proofs.Ytcimpcdgdffnpaa.H
-- written by wip/drive.py (the session's own program) over the translation; Lean checks it
namespace Go.Proofs.Ytcimpcdgdffnpaa.H
open Go.RowKit Go.Proofs.YtcimpcdgdffnpaaW.PrintWords Go.Proofs.YtcimpcdgdffnpaaW.PrintLast Go.Proofs.YtcimpcdgdffnpaaW.PrintMore
attribute [local go_sem] max2_int min2_int max_two min_two max_three min_three max_four min_four   -- for this text's walks alone
set_option linter.unusedVariables false
set_option linter.unusedSimpArgs false

/-! ### impl_field_power: function 45 -/
def impl_field_power.l0 : Nat → Int → Int → Int → Int → Option (Int)
  | 0, _, _, _, _ => none
  | k + 1, x0, x1, x2, x7 => if x2 > 0 then (if (Int.tmod x2 2) = 1 then ((impl_field_mul.f x0 x7 x1).bind fun t434 => ((impl_field_mul.f x0 x1 x1).bind fun t435 => (impl_field_power.l0 k x0 t435 (wrap64 (Int.tdiv x2 2)) t434))) else ((impl_field_mul.f x0 x1 x1).bind fun t436 => (impl_field_power.l0 k x0 t436 (wrap64 (Int.tdiv x2 2)) x7))) else (some x7)
def impl_field_power.f (k : Nat) (a0 : Int) (a1 : Int) (a2 : Int) : Option (Int) := (impl_field_mod.f a0 1).bind fun t433 => (impl_field_power.l0 k a0 a1 a2 t433)
theorem impl_field_power.mono_l : ∀ k, (∀ y0 y1 y2 y3, LeO (impl_field_power.l0 k y0 y1 y2 y3) (impl_field_power.l0 (k + 1) y0 y1 y2 y3))
  | 0 => fun _ _ _ _ r h => by simp [impl_field_power.l0] at h
  | k + 1 => by
    have ih0 := impl_field_power.mono_l k
    · intro y0 y1 y2 y3
      unfold impl_field_power.l0
      repeat' first
      | (with_reducible exact ih0 _ _ _ _)
      | (with_reducible exact LeO.refl _)
      | (with_reducible exact LeO.none _)
      | (with_reducible refine LeO.ite ?_ ?_)
      | (with_reducible refine LeO.bind ?_ (fun _ => ?_))
      | exact ih0 _ _ _ _
      | exact LeO.none _
      | refine LeO.ite ?_ ?_
      | refine LeO.bind ?_ (fun _ => ?_)
theorem impl_field_power.mono : ∀ a0 a1 a2 k, LeO (impl_field_power.f k a0 a1 a2) (impl_field_power.f (k + 1) a0 a1 a2) := by
  intro a0 a1 a2 k
  have ih0 := impl_field_power.mono_l k
  unfold impl_field_power.f
  repeat' first
      | (with_reducible exact ih0 _ _ _ _)
      | (with_reducible exact LeO.refl _)
      | (with_reducible exact LeO.none _)
      | (with_reducible refine LeO.ite ?_ ?_)
      | (with_reducible refine LeO.bind ?_ (fun _ => ?_))
      | exact ih0 _ _ _ _
      | exact LeO.none _
      | refine LeO.ite ?_ ?_
      | refine LeO.bind ?_ (fun _ => ?_)
set_option maxHeartbeats 8000000 in
set_option maxRecDepth 100000 in
theorem impl_field_power.calls (k : Nat) (a0 : Int) (a1 : Int) (a2 : Int) (r : Int) (w : World) (h : impl_field_power.f k a0 a1 a2 = some r) :
    Calls Try.prog 45 #[.int .i64 a0, .int .i64 a1, .int .i64 a2] w fun e w' => e = .returned (.int .i64 r) ∧ Drawn0 w w' := by
  have H : ((impl_field_mod.f a0 1).bind fun t433 => (impl_field_power.l0 k a0 a1 a2 t433)) = some r := h
  clear h
  replace H := Option.bind_eq_some_iff.mp H
  obtain ⟨t433, A40, H⟩ := H
  have A4 := Aside0.mk A40
  clear A40
  have H' := Aside0.mk H
  clear H
  go_enter Try.func45, Try.ntmps45
  go_wp2_with (first | ((with_reducible refine gate_callee (f := 41) rfl ?_); refine goesM_ (some 9) rfl rfl Try.func41 #[.int .i64 a0, .int .i64 1] rfl ?_; (with_reducible refine (impl_field_mod.calls a0 1 t433 _ A4.out).mono ?_); rintro e w' ⟨rfl, ⟨nd, rfl⟩⟩; refine ⟨_, rfl, ?_⟩))
  go_loopg [1, 2, 7] k (fun kq v1 v2 v7 w' => ∃ (x1_1 : Int) (x2_1 : Int) (x7_1 : Int), v1 = .int .i64 x1_1 ∧ v2 = .int .i64 x2_1 ∧ v7 = .int .i64 x7_1 ∧ Aside0 (impl_field_power.l0 kq a0 x1_1 x2_1 x7_1 = some r) ∧ Aside0 (kq ≤ k) ∧ Drawn0 w w')
  case atStart => exact ⟨(a1), (a2), (t433), ea_, ea_, ea_, H', ⟨Nat.le_refl _⟩, by repeat (first | exact Drawn0.refl _ | apply Drawn0.step)⟩
  case round =>
    clear H'
    try clear p2
    try clear c4
    obtain ⟨x1_1, x2_1, x7_1, rfl, rfl, rfl, HA, HK1, ⟨m1, rfl⟩⟩ := hrel
    cases gk with
    | zero => exact absurd HA.out (by simp [impl_field_power.l0])
    | succ k1 =>
      have H := HA.out
      clear HA
      simp only [impl_field_power.l0] at H
      by_cases c5 : x2_1 > 0
      · rw [if_pos c5] at H
        have c5b0 : decide (0 < x2_1) = true := decide_eq_true c5
        clear c5
        by_cases c6 : (Int.tmod x2_1 2) = 1
        · rw [if_pos c6] at H
          have c6b0 : ((Int.tmod x2_1 2) == 1) = true := beq_iff_eq.mpr c6
          have c6b1 : ((Int.tmod x2_1 2) != 1) = false := bne_eq_false_iff_eq.mpr c6
          clear c6
          replace H := Option.bind_eq_some_iff.mp H
          obtain ⟨t434, A70, H⟩ := H
          have A7 := Aside0.mk A70
          clear A70
          replace H := Option.bind_eq_some_iff.mp H
          obtain ⟨t435, A80, H⟩ := H
          have A8 := Aside0.mk A80
          clear A80
          have H' := Aside0.mk H
          clear H
          go_wp2_with (first | ((with_reducible refine gate_callee (f := 44) rfl ?_); refine goesM_ (some 20) rfl rfl Try.func44 #[.int .i64 a0, .int .i64 x7_1, .int .i64 x1_1] rfl ?_; (with_reducible refine (impl_field_mul.calls a0 x7_1 x1_1 t434 _ A7.out).mono ?_); rintro e w' ⟨rfl, ⟨nd, rfl⟩⟩; refine ⟨_, rfl, ?_⟩) | ((with_reducible refine gate_callee (f := 44) rfl ?_); refine goesM_ (some 24) rfl rfl Try.func44 #[.int .i64 a0, .int .i64 x1_1, .int .i64 x1_1] rfl ?_; (with_reducible refine (impl_field_mul.calls a0 x1_1 x1_1 t435 _ A8.out).mono ?_); rintro e w' ⟨rfl, ⟨nd, rfl⟩⟩; refine ⟨_, rfl, ?_⟩))
          go_roundg k1
          case measure => have := HK1.out; omega
          case rel => exact ⟨(t435), (wrap64 (Int.tdiv x2_1 2)), (t434), ea_, ea_, ea_, H', ⟨by have := HK1.out; omega⟩, by repeat (first | exact Drawn0.refl _ | apply Drawn0.step)⟩
        · rw [if_neg c6] at H
          have c6b0 : ((Int.tmod x2_1 2) == 1) = false := beq_eq_false_iff_ne.mpr c6
          have c6b1 : ((Int.tmod x2_1 2) != 1) = true := bne_iff_ne.mpr c6
          replace H := Option.bind_eq_some_iff.mp H
          obtain ⟨t436, A90, H⟩ := H
          have A9 := Aside0.mk A90
          clear A90
          have H' := Aside0.mk H
          clear H
          go_wp2_with (first | ((with_reducible refine gate_callee (f := 44) rfl ?_); refine goesM_ (some 24) rfl rfl Try.func44 #[.int .i64 a0, .int .i64 x1_1, .int .i64 x1_1] rfl ?_; (with_reducible refine (impl_field_mul.calls a0 x1_1 x1_1 t436 _ A9.out).mono ?_); rintro e w' ⟨rfl, ⟨nd, rfl⟩⟩; refine ⟨_, rfl, ?_⟩))
          go_roundg k1
          case measure => have := HK1.out; omega
          case rel => exact ⟨(t436), (wrap64 (Int.tdiv x2_1 2)), (x7_1), ea_, ea_, ea_, H', ⟨by have := HK1.out; omega⟩, by repeat (first | exact Drawn0.refl _ | apply Drawn0.step)⟩
      · rw [if_neg c5] at H
        have c5b0 : decide (0 < x2_1) = false := decide_eq_false c5
        clear c5
        obtain rfl := Option.some.inj H
        go_wp2
        go_ret
        exact ⟨by first | rfl | (simp; done) | (simp [*]; done), by repeat (first | exact Drawn0.refl _ | apply Drawn0.step)⟩

end Go.Proofs.Ytcimpcdgdffnpaa.H
