/- Joined texts of a claim: the printed functions and what is proved of them. -/
import Derived.Lib.ItoaNum
import Derived.Lib.Atoi
import Derived.Lib.ParseIntB
import Derived.Lib.SplitLaws
import Derived.Lib.Join
import Derived.RowKit
import Derived.Test.YtmadpicanmjhhaaDoorYWWords
set_option linter.unusedVariables false
set_option linter.unusedSimpArgs false
namespace Go.Proofs.YtmadpicanmjhhaaDoor.H
open Go.Lib
theorem digitVal_of {d : Nat} (h : d < 10) : digitVal (UInt8.ofNat (48 + d)) = some d := by
 have e : (UInt8.ofNat (48 + d)).toNat = 48 + d := by simp; omega
 unfold digitVal
 rw [e, if_pos (by omega)]
 congr 1; omega
theorem digitVal_inv {b : UInt8} {d : Nat} (h : digitVal b = some d) : d < 10 ∧ b = UInt8.ofNat (48 + d) := by
 obtain ⟨h1, h2, h3⟩ := digitVal_eq h
 refine ⟨by omega, ?_⟩
 have : 48 + d = b.toNat := by omega
 rw [this]; simp
theorem decFrom_app : ∀ (l : List UInt8) (acc : Nat) (b : UInt8), decFrom acc (l ++ [b]) = (decFrom acc l).bind fun n => (digitVal b).map fun d => n * 10 + d
 | [], acc, b => by
  simp only [List.nil_append, decFrom]
  cases digitVal b <;> rfl
 | a :: r, acc, b => by
  simp only [List.cons_append, decFrom]
  cases digitVal a with
  | none => rfl
  | some d => exact decFrom_app r _ b
theorem decDigits_lo {u : Nat} (h : u < 10) : decDigits u = [UInt8.ofNat (48 + u)] := by rw [decDigits, dif_pos h]
theorem decDigits_hi {u : Nat} (h : ¬ u < 10) : decDigits u = decDigits (u / 10) ++ [UInt8.ofNat (48 + u % 10)] := by rw [decDigits, dif_neg h]
theorem decFrom_dec (u : Nat) : decFrom 0 (decDigits u) = some u := by
 induction u using Nat.strongRecOn with
 | _ u ih =>
  by_cases h : u < 10
  ·
   rw [decDigits_lo h]
   simp only [decFrom, digitVal_of h]
   congr 1; omega
  ·
   rw [decDigits_hi h, decFrom_app, ih (u / 10) (by omega), Option.bind_some, digitVal_of (by omega)]
   show some (u / 10 * 10 + u % 10) = some u
   congr 1; omega
theorem decDigits_ne (u : Nat) : decDigits u ≠ [] := by
 intro h
 have := decFrom_dec u
 have h2 := decDigits_length u
 rw [h] at h2
 have := nDigits_pos u
 simp at h2; omega
theorem decDigits_head (u : Nat) (hu : 0 < u) : (decDigits u).head? ≠ some 48 := by
 induction u using Nat.strongRecOn with
 | _ u ih =>
  by_cases h : u < 10
  ·
   rw [decDigits_lo h]
   intro e
   simp only [List.head?_cons, Option.some.injEq] at e
   have := congrArg UInt8.toNat e
   simp at this; omega
  ·
   rw [decDigits_hi h]
   have := ih (u / 10) (by omega) (by omega)
   cases hd : decDigits (u / 10) with
   | nil => exact absurd hd (decDigits_ne _)
   | cons a r => rw [hd] at this; simpa using this
theorem dec_inv (l : List UInt8) (n : Nat) (h : decFrom 0 l = some n) (h0 : l ≠ []) (h1 : 1 < l.length → l.head? ≠ some 48) : l = decDigits n := by
 suffices H : ∀ (k : Nat) (l : List UInt8) (n : Nat), l.length = k → decFrom 0 l = some n → l ≠ [] → (1 < l.length → l.head? ≠ some 48) → l = decDigits n from H _ l n rfl h h0 h1
 intro k
 induction k with
 | zero => intro l n hk _ h0 _; exact absurd (List.eq_nil_of_length_eq_zero hk) h0
 | succ k ih =>
  intro l n hk h h0 h1
  obtain ⟨l', b, rfl⟩ : ∃ l' b, l = l' ++ [b] := ⟨l.dropLast, l.getLast h0, (List.dropLast_concat_getLast h0).symm⟩
  rw [decFrom_app] at h
  obtain ⟨m, hm, h⟩ := Option.bind_eq_some_iff.1 h
  obtain ⟨d, hd, rfl⟩ := Option.map_eq_some_iff.1 h
  obtain ⟨hd10, rfl⟩ := digitVal_inv hd
  rw [List.length_append, List.length_singleton] at hk h1
  by_cases hl : l' = []
  ·
   subst hl
   simp only [decFrom, Option.some.injEq] at hm
   subst hm
   rw [List.nil_append, Nat.zero_mul, Nat.zero_add, decDigits_lo hd10]
  ·
   have hpos : 0 < l'.length := List.length_pos_iff.2 hl
   have hh : l'.head? ≠ some 48 := by
    have := h1 (by omega)
    cases l' with
    | nil => exact absurd rfl hl
    | cons a r => simpa using this
   have e := ih l' m (by omega) hm hl (fun _ => hh)
   have hm0 : m ≠ 0 := by
    intro h'
    subst h'
    rw [e, decDigits_lo (by omega)] at hh
    exact hh rfl
   rw [decDigits_hi (u := m * 10 + d) (by omega), show (m * 10 + d) / 10 = m by omega, show (m * 10 + d) % 10 = d by omega, ← e]
theorem decFrom_ge : ∀ (l : List UInt8) (acc n : Nat), decFrom acc l = some n → acc ≤ n
 | [], acc, n, h => by simp only [decFrom, Option.some.injEq] at h; omega
 | a :: r, acc, n, h => by
  simp only [decFrom] at h
  cases ha : digitVal a with
  | none => rw [ha] at h; cases h
  | some d =>
   rw [ha] at h
   have := decFrom_ge r _ n h
   omega
theorem parseUint_dec : ∀ (l : List UInt8) (acc n : Nat), decFrom acc l = some n → n < 1000000000000000000 → parseUintM (2 ^ 64 - 1) acc l = .ok n
 | [], acc, n, h, _ => by
  simp only [decFrom, Option.some.injEq] at h
  subst h; rfl
 | a :: r, acc, n, h, hn => by
  simp only [decFrom] at h
  cases ha : digitVal a with
  | none => rw [ha] at h; cases h
  | some d =>
   rw [ha] at h
   obtain ⟨h1, h2, h3⟩ := digitVal_eq ha
   have hge := decFrom_ge r _ n h
   rw [parseUintM, if_pos ⟨h1, h2⟩, if_neg (by omega), if_neg (by omega), ← h3]
   exact parseUint_dec r _ n h hn
theorem parse_dec {n : Nat} (hn : n < 1000000000) : parseIntB 64 (decDigits n) = .ok (n : Int) := by
 have h := decFrom_dec n
 cases hl : decDigits n with
 | nil => exact absurd hl (decDigits_ne n)
 | cons c r =>
  rw [hl] at h
  have hc : ∃ d, digitVal c = some d := digit_of_decFrom (c :: r) 0 n h 0 c rfl
  obtain ⟨d, hd⟩ := hc
  obtain ⟨h1, h2, h3⟩ := digitVal_eq hd
  have hp : parseUintB 64 (c :: r) = .ok n := by
   unfold parseUintB
   rw [if_neg (by simp)]
   exact parseUint_dec _ 0 n h (by omega)
  unfold parseIntB
  simp only
  rw [if_neg (by omega), hp]
  simp only
  rw [if_neg (by omega), if_neg (by omega), if_neg (by omega)]
def numW (l : List UInt8) : Int := if l.length = 0 ∨ 9 < l.length ∨ (1 < l.length ∧ l.head? = some 48) then -1 else match decFrom 0 l with
 | some n => (n : Int)
 | none => -1
theorem numW_dec {n : Nat} (hn : n < 1000000000) : numW (decDigits n) = n := by
 have h1 := decDigits_length n
 have h2 := nDigits_pos n
 have h3 : nDigits n ≤ 9 := by
  have h := fun k => nDigits_unique k n
  rcases Nat.lt_or_ge 9 (nDigits n) with h9 | h9
  ·
   exfalso
   have key : ∀ k u, 10 ^ k ≤ u → k < nDigits u := fun k => by
    induction k with
    | zero => intro u _; have := nDigits_pos u; omega
    | succ k ih =>
     intro u hu
     have h10 : ¬ u < 10 := by
      have : 10 ^ (k + 1) = 10 * 10 ^ k := by rw [Nat.pow_succ, Nat.mul_comm]
      have : 0 < 10 ^ k := Nat.pow_pos (by omega)
      omega
     rw [nDigits_big h10]
     have : 10 ^ k ≤ u / 10 := by
      rw [Nat.le_div_iff_mul_le (by omega)]
      rw [Nat.pow_succ] at hu; exact hu
     have := ih _ this
     omega
   have low : ∀ k u, u < 10 ^ (k + 1) → nDigits u ≤ k + 1 := fun k => by
    induction k with
    | zero => intro u hu; rw [nDigits_small (by omega)]; omega
    | succ k ih =>
     intro u hu
     by_cases h10 : u < 10
     ·
      rw [nDigits_small h10]; omega
     ·
      rw [nDigits_big h10]
      have : u / 10 < 10 ^ (k + 1) := by
       rw [Nat.div_lt_iff_lt_mul (by omega)]
       rw [Nat.pow_succ] at hu; exact hu
      have := ih _ this
      omega
   have := low 8 n (by omega)
   omega
  ·
   exact h9
 unfold numW
 rw [if_neg, decFrom_dec]
 rintro (h | h | ⟨h, hh⟩)
 ·
  omega
 ·
  omega
 ·
  refine decDigits_head n ?_ hh
  rcases Nat.eq_zero_or_pos n with rfl | h0
  ·
   rw [h1, nDigits_small (by omega)] at h; omega
  ·
   exact h0
theorem numW_inv {l : List UInt8} (h : 0 ≤ numW l) : ∃ n : Nat, numW l = n ∧ l = decDigits n ∧ n < 1000000000 := by
 unfold numW at h ⊢
 by_cases hc : l.length = 0 ∨ 9 < l.length ∨ (1 < l.length ∧ l.head? = some 48)
 ·
  rw [if_pos hc] at h; omega
 ·
  rw [if_neg hc] at h ⊢
  cases hd : decFrom 0 l with
  | none => rw [hd] at h; simp at h
  | some n =>
   refine ⟨n, rfl, dec_inv l n hd (fun e => hc (.inl (by rw [e]; rfl))) (fun h1 h2 => hc (.inr (.inr ⟨h1, h2⟩))), ?_⟩
   have := decFrom_lt l 0 n hd
   have h9 : l.length ≤ 9 := by omega
   have : (0 + 1) * 10 ^ l.length ≤ 1 * 10 ^ 9 := Nat.mul_le_mul (Nat.le_refl _) (Nat.pow_le_pow_right (by omega) h9)
   omega
def parts (c : UInt8) : List UInt8 → List (List UInt8)
 | [] => [[]]
 | b :: r => if b = c then [] :: parts c r else (b :: (parts c r).headD []) :: (parts c r).tail
theorem parts_ne (c : UInt8) (s : List UInt8) : parts c s ≠ [] := by
 cases s with
 | nil => simp [parts]
 | cons b r => unfold parts; split <;> simp
theorem parts_form (c : UInt8) (s : List UInt8) : ∃ w ws, parts c s = w :: ws := by
 cases h : parts c s with
 | nil => exact absurd h (parts_ne c s)
 | cons w ws => exact ⟨w, ws, rfl⟩
theorem join_cons2 (x y : List UInt8) (r : List (List UInt8)) (sep : List UInt8) : join (x :: y :: r) sep = x ++ sep ++ join (y :: r) sep := by
 rw [join_cons, join_cons]
 simp [joinTail, List.append_assoc]
theorem join_parts (c : UInt8) : ∀ s : List UInt8, join (parts c s) [c] = s
 | [] => by simp [parts, join_one]
 | b :: r => by
  have ih := join_parts c r
  obtain ⟨w, ws, e⟩ := parts_form c r
  unfold parts
  by_cases h : b = c
  ·
   rw [if_pos h, e, join_cons2, ← e, ih, h]; rfl
  ·
   rw [if_neg h, e]
   rw [e] at ih
   show join ((b :: w) :: ws) [c] = b :: r
   rw [join_cons] at ih ⊢
   rw [← ih]; rfl
theorem parts_free (c : UInt8) : ∀ (w r : List UInt8), c ∉ w → parts c (w ++ r) = (w ++ (parts c r).headD []) :: (parts c r).tail
 | [], r, _ => by
  obtain ⟨x, xs, e⟩ := parts_form c r
  rw [List.nil_append, e]; rfl
 | b :: w, r, h => by
  have hb : b ≠ c := fun e => h (by rw [e]; exact List.mem_cons_self)
  rw [List.cons_append, parts, if_neg hb, parts_free c w r (fun hm => h (List.mem_cons_of_mem _ hm))]
  rfl
theorem parts_join (c : UInt8) : ∀ ws : List (List UInt8), ws ≠ [] → (∀ w ∈ ws, c ∉ w) → parts c (join ws [c]) = ws
 | [], h, _ => absurd rfl h
 | [w], _, h => by
  rw [join_one]
  have := parts_free c w [] (h w (by simp))
  rw [List.append_nil] at this
  rw [this]; simp [parts]
 | w :: x :: r, _, h => by
  rw [join_cons2, List.append_assoc, parts_free c w _ (h w (by simp))]
  have ih := parts_join c (x :: r) (by simp) (fun y hy => h y (List.mem_cons_of_mem _ hy))
  show (w ++ (parts c (c :: join (x :: r) [c])).headD []) :: (parts c (c :: join (x :: r) [c])).tail = _
  rw [parts, if_pos rfl, ih]
  simp
theorem dec_free (n : Nat) : (44 : UInt8) ∉ decDigits n := by
 intro h
 obtain ⟨k, hk⟩ := List.mem_iff_getElem?.1 h
 obtain ⟨d, hd⟩ := digit_of_decFrom _ 0 n (decFrom_dec n) k _ hk
 have := (digitVal_eq hd).1
 simp at this
theorem index_byte (c : UInt8) : ∀ s : List UInt8, index s [c] = (if c ∈ s then ((s.idxOf c : Nat) : Int) else -1)
 | [] => by simp [index]
 | b :: r => by
  have ih := index_byte c r
  unfold index
  by_cases h : b = c
  ·
   subst h
   have e : List.isPrefixOf [b] (b :: r) = true := by simp [List.isPrefixOf]
   rw [if_pos e, if_pos List.mem_cons_self]
   simp
  ·
   have e : ¬ List.isPrefixOf [c] (b :: r) = true := by
    simp [List.isPrefixOf]; exact fun e => h e.symm
   rw [if_neg e, ih]
   by_cases hm : c ∈ r
   ·
    rw [if_pos hm, if_pos (List.mem_cons_of_mem _ hm), if_neg (by simp), List.idxOf_cons]
    have : (b == c) = false := beq_eq_false_iff_ne.mpr h
    rw [this]
    simp
   ·
    have hn : c ∉ b :: r := fun h' => by
     rcases List.mem_cons.1 h' with h' | h'
     ·
      exact h h'.symm
     ·
      exact hm h'
    rw [if_neg hm, if_neg hn]
    simp
theorem splitK_parts (c : UInt8) : ∀ (k : Nat) (s : List UInt8), s.count c = k → splitK [c] 0 k s = parts c s := by
 intro k
 induction k with
 | zero =>
  intro s hs
  have hm : c ∉ s := fun h => by have := List.count_pos_iff.2 h; omega
  have := parts_free c s [] hm
  rw [List.append_nil] at this
  rw [this]
  simp [parts, splitK]
 | succ k ih =>
  intro s hs
  have hm : c ∈ s := List.count_pos_iff.1 (by omega)
  obtain ⟨a, b, e, ha⟩ := List.eq_append_cons_of_mem hm
  have hi : index s [c] = (a.length : Int) := by
   rw [index_byte, if_pos hm, e, List.idxOf_append, if_neg ha, List.idxOf_cons_self]
   simp
  have hcb : b.count c = k := by
   rw [e, List.count_append, List.count_eq_zero.2 ha, List.count_cons_self] at hs
   omega
  have h1 : s.take a.length = a := by rw [e]; simp
  have h2 : s.drop (a.length + 1) = b := by rw [e]; simp
  rw [splitK, hi]
  have hne : ¬ (((a.length : Int)) == -1) = true := by simp
  rw [if_neg hne, Int.toNat_natCast, Nat.add_zero, List.length_singleton, h1, h2, ih b hcb, e, parts_free c a _ ha, parts, if_pos rfl]
  simp
theorem split_parts (c : UInt8) (s : List UInt8) : split s [c] = parts c s := by
 unfold split
 rw [count_one]
 exact splitK_parts c _ s rfl
end Go.Proofs.YtmadpicanmjhhaaDoor.H
set_option linter.unusedVariables false
set_option linter.unusedSimpArgs false
namespace Go.Proofs.YtmadpicanmjhhaaDoor.Num
open Go.RowKit
theorem w64 {x : Int} (h1 : -9223372036854775808 ≤ x) (h2 : x ≤ 9223372036854775807) : wrap64 x = x := by
 unfold wrap64; omega
theorem tmod_nn {a b : Int} (h : 0 ≤ a) : Int.tmod a b = a % b := Int.tmod_eq_emod_of_nonneg h
theorem tmod_lt' {x p : Int} (hp : 0 < p) : Int.tmod x p < p ∧ -p < Int.tmod x p := by
 constructor
 ·
  exact Int.tmod_lt_of_pos x hp
 ·
  have h := Int.tmod_lt_of_pos (-x) hp
  rw [Int.neg_tmod] at h
  omega
theorem md {x p : Int} (hp : 0 < p) (hp2 : p ≤ 1000000000) : Int.tmod (wrap64 (Int.tmod x p + p)) p = x % p := by
 obtain ⟨h1, h2⟩ := tmod_lt' (x := x) hp
 rw [w64 (by omega) (by omega), tmod_nn (by omega), Int.tmod_def]
 have : x - p * x.tdiv p + p = x + p * (1 - x.tdiv p) := by
  rw [Int.mul_sub]; omega
 rw [this, Int.add_mul_emod_self_left]
theorem mul_bd {x y a b : Int} (hx0 : 0 ≤ x) (hx : x ≤ a) (hy0 : 0 ≤ y) (hy : y ≤ b) : 0 ≤ x * y ∧ x * y ≤ a * b :=
 ⟨Int.mul_nonneg hx0 hy0, Int.mul_le_mul hx hy hy0 (by omega)⟩
theorem en_ (b p : Int) : (-(b % p)) % p = (-b) % p := by
 have h : -(b % p) = -b + p * (b / p) := by have := Int.mul_ediv_add_emod b p; omega
 rw [h, Int.add_mul_emod_self_left]
def Pr (p : Nat) : Prop := 2 ≤ p ∧ ∀ d, d ∣ p → d = 1 ∨ d = p
theorem Pr.of_trial {p : Nat} (h2 : 2 ≤ p) (h : ∀ d, 2 ≤ d → d * d ≤ p → p % d ≠ 0) : Pr p := by
 refine ⟨h2, fun d hd => ?_⟩
 obtain ⟨e, he⟩ := hd
 have hd0 : 0 < d := by rcases Nat.eq_zero_or_pos d with h0 | h0; (subst h0; simp at he; omega); exact h0
 have he0 : 0 < e := by rcases Nat.eq_zero_or_pos e with h0 | h0; (subst h0; simp at he; omega); exact h0
 rcases Nat.lt_or_ge d 2 with h1 | h1
 ·
  left; omega
 rcases Nat.lt_or_ge e 2 with h3 | h3
 ·
  right
  have : e = 1 := by omega
  subst this; simpa using he.symm
 ·
  exfalso
  rcases Nat.le_total d e with hle | hle
  ·
   refine h d h1 ?_ ?_
   ·
    rw [he]; exact Nat.mul_le_mul_left d hle
   ·
    rw [he]; exact Nat.mul_mod_right d e
  ·
   refine h e h3 ?_ ?_
   ·
    rw [he]; exact Nat.mul_le_mul_right e hle
   ·
    rw [he]; exact Nat.mul_mod_left d e
theorem Pr.cop {p a : Nat} (hp : Pr p) (ha : ¬ p ∣ a) : Nat.Coprime p a := by
 rcases hp.2 _ (Nat.gcd_dvd_left p a) with h | h
 ·
  exact h
 ·
  exact absurd (h ▸ Nat.gcd_dvd_right p a) ha
def ch : Nat → Nat → Nat
 | _, 0 => 1
 | 0, _ + 1 => 0
 | n + 1, k + 1 => ch n k + ch n (k + 1)
def IsP (p : Int) : Prop := 2 ≤ p ∧ p ≤ 10007 ∧ Pr p.toNat
open Classical in
noncomputable def primeB (p : Int) : Bool := decide (IsP p)
theorem primeB_iff {p : Int} : primeB p = true ↔ IsP p := by
 unfold primeB; exact @decide_eq_true_iff _ (Classical.propDecidable _)
theorem prime_loop (l : Nat → Int → Int → Option Bool) (p : Int) (hp : 2 ≤ p) (hp2 : p ≤ 10007)
  (hl : ∀ k i, l (k + 1) p i = if wrap64 (i * i) ≤ p then (if i = 0 then none else (if Int.tmod p i = 0 then some false else l k p (wrap64 (i + 1)))) else some true)
  (d : Nat) : ∀ (k : Nat) (i : Int), 2 ≤ i → i ≤ 101 → 101 - i < d → d < k →
   ∃ b, l k p i = some b ∧ (b = true ↔ ∀ j : Int, i ≤ j → j * j ≤ p → p % j ≠ 0) := by
 induction d with
 | zero => intro k i h1 h2 h3; omega
 | succ d ih =>
  intro k i h1 h2 h3 hk
  obtain ⟨k, rfl⟩ : ∃ m, k = m + 1 := ⟨k - 1, by omega⟩
  rw [hl]
  have hb := mul_bd (a := 101) (b := 101) (x := i) (y := i) (by omega) h2 (by omega) h2
  rw [w64 (by omega) (by omega), w64 (x := i + 1) (by omega) (by omega)]
  by_cases hle : i * i ≤ p
  ·
   have hi : i ≤ 100 := by
    rcases Int.lt_or_le 100 i with h | h
    ·
     have := Int.mul_le_mul (a := 101) (b := 101) (c := i) (d := i) (by omega) (by omega) (by omega) (by omega); omega
    ·
     exact h
   rw [if_pos hle, if_neg (by omega), tmod_nn (by omega)]
   by_cases hd : p % i = 0
   ·
    rw [if_pos hd]
    exact ⟨false, rfl, by simp; exact ⟨i, Int.le_refl _, hle, hd⟩⟩
   ·
    rw [if_neg hd]
    obtain ⟨b, hb1, hb2⟩ := ih k (i + 1) (by omega) (by omega) (by omega) (by omega)
    refine ⟨b, hb1, hb2.trans ⟨fun h j hj hjj => ?_, fun h j hj hjj => h j (by omega) hjj⟩⟩
    by_cases e : j = i
    ·
     subst e; exact hd
    ·
     exact h j (by omega) hjj
  ·
   rw [if_neg hle]
   refine ⟨true, rfl, by simp; intro j hj hjj; exfalso; apply hle; exact Int.le_trans (Int.mul_le_mul hj hj (by omega) (by omega)) hjj⟩
theorem trial_iff {p : Int} (hp : 2 ≤ p) : (∀ j : Int, 2 ≤ j → j * j ≤ p → p % j ≠ 0) ↔ Pr p.toNat := by
 constructor
 ·
  intro h
  refine Pr.of_trial (by omega) fun d hd hdd h0 => ?_
  refine h d (by omega) ?_ ?_
  ·
   have : ((d * d : Nat) : Int) ≤ p := by omega
   simpa using this
  ·
   have : ((p.toNat % d : Nat) : Int) = 0 := by rw [h0]; rfl
   rw [Int.natCast_emod, Int.toNat_of_nonneg (by omega)] at this
   exact this
 ·
  intro h j hj hjj h0
  obtain ⟨d, rfl⟩ : ∃ d : Nat, j = d := ⟨j.toNat, by omega⟩
  obtain ⟨n, rfl⟩ : ∃ n : Nat, p = n := ⟨p.toNat, by omega⟩
  simp only [Int.toNat_natCast] at h
  have hdv : d ∣ n := by
   apply Nat.dvd_of_mod_eq_zero
   have : ((n % d : Nat) : Int) = 0 := by rw [Int.natCast_emod]; exact h0
   omega
  have hn : d * d ≤ n := by
   have : ((d * d : Nat) : Int) ≤ n := by simpa using hjj
   omega
  rcases h.2 d hdv with e | e
  ·
   omega
  ·
   subst e
   have : d * 2 ≤ d * d := Nat.mul_le_mul_left d (by omega)
   omega
theorem primeB_loop {p : Int} {b : Bool} (h1 : 2 ≤ p) (h2 : p ≤ 10007) (h : b = true ↔ ∀ j : Int, 2 ≤ j → j * j ≤ p → p % j ≠ 0) : b = primeB p := by
 rw [Bool.eq_iff_iff, primeB_iff, h, trial_iff h1]
 exact ⟨fun h => ⟨h1, h2, h⟩, fun h => h.2.2⟩
theorem primeB_lo {p : Int} (h : ¬ 2 ≤ p) : primeB p = false := by
 rw [Bool.eq_false_iff]; intro e; exact h (primeB_iff.1 e).1
theorem primeB_hi {p : Int} (h : ¬ p ≤ 10007) : primeB p = false := by
 rw [Bool.eq_false_iff]; intro e; exact h (primeB_iff.1 e).2.1
end Go.Proofs.YtmadpicanmjhhaaDoor.Num
set_option linter.unusedVariables false
set_option linter.unusedSimpArgs false
namespace Go.Proofs.YtmadpicanmjhhaaDoor.H
open Go.RowKit Go.Proofs.YtmadpicanmjhhaaDoorW.PrintWords Go.Proofs.YtmadpicanmjhhaaDoor.Num
theorem Ev.succ {α : Type} {g : Nat → Option α} {r : α} (h : Ev (fun k => g (k + 1)) r) : Ev g r := by
 obtain ⟨K, h⟩ := h
 refine ⟨K + 1, fun k hk => ?_⟩
 obtain ⟨m, rfl⟩ : ∃ m, k = m + 1 := ⟨k - 1, by omega⟩
 exact h m (by omega)
theorem Ev_to {α : Type} {g : Nat → Option α} {r r' : α} (h : Ev g r) (e : r = r') : Ev g r' := e ▸ h
theorem wp1 {i : Nat} (h : i ≤ 1000000000000) : wrap64 ((i : Int) + 1) = ((i + 1 : Nat) : Int) := by rw [w64 (by omega) (by omega)]; omega
theorem wm1 {i : Nat} (h : i ≤ 1000000000000) : wrap64 ((i : Int) - 1) = (i : Int) - 1 := w64 (by omega) (by omega)
theorem ws1 {i : Nat} : ((i + 1 : Nat) : Int) - 1 = (i : Int) := by omega
theorem rd_n (l : List Int) (i : Nat) : rd l (i : Int) = l.getD i 0 := by simp [rd]
end Go.Proofs.YtmadpicanmjhhaaDoor.H
