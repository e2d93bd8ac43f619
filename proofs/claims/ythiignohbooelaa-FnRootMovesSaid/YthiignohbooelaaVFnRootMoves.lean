/- Plain laws that the claim of FnRootMoves reaches: numbers modulo a prime, lists, and what the printed functions answer. -/
import Derived.Laws.Bits64
import Derived.Laws.BitsLemmas
import Derived.Test.YthiignohbooelaaYWWords
import Derived.Test.YthiignohbooelaaYWMore
import Derived.Test.YthiignohbooelaaMa1
import Derived.Test.YthiignohbooelaaMa2
import Derived.Test.YthiignohbooelaaMa3
import Derived.Test.YthiignohbooelaaYHx0
import Derived.Test.YthiignohbooelaaMa5
import Derived.Test.YthiignohbooelaaMab1
import Derived.Test.YthiignohbooelaaMab6
import Derived.Test.YthiignohbooelaaMa4
import Derived.Test.YthiignohbooelaaMab10
import Derived.Test.YthiignohbooelaaMa7
import Derived.Test.YthiignohbooelaaMab8
import Derived.Test.YthiignohbooelaaMab7
import Derived.Test.YthiignohbooelaaMab2
import Derived.Test.YthiignohbooelaaMa6
import Derived.Test.YthiignohbooelaaMab9
set_option linter.unusedVariables false
set_option linter.unusedSimpArgs false
namespace Go.Proofs.Ythiignohbooelaa.H
open Go.RowKit Go.Proofs.YthiignohbooelaaW.PrintWords Go.Proofs.YthiignohbooelaaW.PrintLast Go.Proofs.YthiignohbooelaaW.PrintMore Go.Proofs.Ythiignohbooelaa.Num
theorem Ev.succ {α : Type} {g : Nat → Option α} {r : α} (h : Ev (fun k => g (k + 1)) r) : Ev g r := by
  obtain ⟨K, h⟩ := h
  refine ⟨K + 1, fun k hk => ?_⟩
  obtain ⟨m, rfl⟩ : ∃ m, k = m + 1 := ⟨k - 1, by omega⟩
  exact h m (by omega)
theorem Ev_to {α : Type} {g : Nat → Option α} {r r' : α} (h : Ev g r) (e : r = r') : Ev g r' := e ▸ h
theorem wp1 {i : Nat} (h : i ≤ 1000000000000) : wrap64 ((i : Int) + 1) = ((i + 1 : Nat) : Int) := by rw [w64 (by omega) (by omega)]; omega
theorem wm1 {i : Nat} (h : i ≤ 1000000000000) : wrap64 ((i : Int) - 1) = (i : Int) - 1 := w64 (by omega) (by omega)
theorem ws1 {i : Nat} : ((i + 1 : Nat) : Int) - 1 = (i : Int) := by omega
theorem rd_n (l : List Int) (i : Nat) : rd l (i : Int) = l.getD i 0 := by simp [rd]
end Go.Proofs.Ythiignohbooelaa.H
namespace Go.Proofs.Ythiignohbooelaa.Num
open Go.RowKit
def su (f : Nat → Int) : Nat → Int
  | 0 => 0
  | n + 1 => su f n + f n
theorem su_congr {f g : Nat → Int} : ∀ {n : Nat}, (∀ i, i < n → f i = g i) → su f n = su g n
  | 0, _ => rfl
  | n + 1, h => by rw [su, su, su_congr (n := n) (fun i hi => h i (by omega)), h n (by omega)]
theorem su_zero {f : Nat → Int} : ∀ {n : Nat}, (∀ i, i < n → f i = 0) → su f n = 0
  | 0, _ => rfl
  | n + 1, h => by rw [su, su_zero (n := n) (fun i hi => h i (by omega)), h n (by omega)]; rfl
theorem su_add (f g : Nat → Int) : ∀ n, su (fun i => f i + g i) n = su f n + su g n
  | 0 => rfl
  | n + 1 => by simp only [su, su_add f g n]; omega
theorem su_mul (c : Int) (f : Nat → Int) : ∀ n, su (fun i => c * f i) n = c * su f n
  | 0 => by simp [su]
  | n + 1 => by simp only [su, su_mul c f n, Int.mul_add]
theorem su_mulr (c : Int) (f : Nat → Int) (n : Nat) : su (fun i => f i * c) n = su f n * c := by
  rw [Int.mul_comm, ← su_mul]; exact su_congr fun i _ => Int.mul_comm _ _
theorem su_split (f : Nat → Int) (m : Nat) : ∀ n, su f (m + n) = su f m + su (fun i => f (m + i)) n
  | 0 => by simp [su]
  | n + 1 => by rw [← Nat.add_assoc, su, su_split f m n, su]; omega
theorem su_head (f : Nat → Int) (n : Nat) : su f (n + 1) = f 0 + su (fun i => f (i + 1)) n := by
  rw [Nat.add_comm n 1, su_split f 1 n]
  simp only [su]
  rw [Int.zero_add, su_congr (g := fun i => f (i + 1)) (fun i _ => by rw [Nat.add_comm])]
theorem su_ext {f : Nat → Int} {m n : Nat} (h : m ≤ n) (hz : ∀ i, m ≤ i → i < n → f i = 0) : su f n = su f m := by
  obtain ⟨d, rfl⟩ : ∃ d, n = m + d := ⟨n - m, by omega⟩
  rw [su_split, su_zero (n := d) (fun i hi => hz _ (by omega) (by omega))]; omega
theorem su_rev (f : Nat → Int) : ∀ n, su (fun i => f (n - 1 - i)) n = su f n
  | 0 => rfl
  | n + 1 => by
    rw [su_head, su, Int.add_comm]
    congr 1
    rw [← su_rev f n]
    exact su_congr fun i hi => by congr 1; omega
/-- over a triangle, by rows and by columns -/
theorem su_tri (f : Nat → Nat → Int) : ∀ n, su (fun i => su (fun j => f i j) (i + 1)) n = su (fun j => su (fun i => f (j + i) j) (n - j)) n
  | 0 => rfl
  | n + 1 => by
    rw [su, su_tri f n]
    have h : ∀ j, j < n → su (fun i => f (j + i) j) (n + 1 - j) = su (fun i => f (j + i) j) (n - j) + f n j := fun j hj => by
      rw [show n + 1 - j = (n - j) + 1 by omega, su, show j + (n - j) = n by omega]
    have h3 : su (fun j => su (fun i => f (j + i) j) (n + 1 - j)) n = su (fun j => su (fun i => f (j + i) j) (n - j)) n + su (fun j => f n j) n := by rw [su_congr (n := n) h, su_add]
    have h2 : su (fun i => f (n + i) n) (n + 1 - n) = f n n := by rw [show n + 1 - n = 1 by omega]; simp [su]
    rw [su, su, h2, h3]
    omega
def cv (F G : Nat → Int) (n : Nat) : Int := su (fun i => F i * G (n - i)) (n + 1)
theorem cv_comm (F G : Nat → Int) (n : Nat) : cv F G n = cv G F n := by
  unfold cv
  rw [← su_rev]
  exact su_congr fun i hi => by
    rw [show n + 1 - 1 - i = n - i by omega, show n - (n - i) = i by omega, Int.mul_comm]
theorem cv_addl (F G H : Nat → Int) (n : Nat) : cv (fun i => F i + G i) H n = cv F H n + cv G H n := by
  unfold cv; rw [← su_add]; exact su_congr fun i _ => Int.add_mul _ _ _
theorem cv_mull (c : Int) (F G : Nat → Int) (n : Nat) : cv (fun i => c * F i) G n = c * cv F G n := by
  unfold cv; rw [← su_mul]; exact su_congr fun i _ => Int.mul_assoc _ _ _
theorem cv_zero (F : Nat → Int) (n : Nat) : cv (fun _ => 0) F n = 0 := su_zero fun i _ => Int.zero_mul _
def cg (p a b : Int) : Prop := p ∣ a - b
theorem cg.refl {p : Int} (a : Int) : cg p a a := ⟨0, by omega⟩
theorem cg.of_eq {p a b : Int} (h : a = b) : cg p a b := h ▸ cg.refl a
theorem cg.symm {p a b : Int} : cg p a b → cg p b a := fun ⟨k, h⟩ => ⟨-k, by rw [Int.mul_neg, ← h]; omega⟩
theorem cg.trans {p a b c : Int} : cg p a b → cg p b c → cg p a c := fun ⟨k, h⟩ ⟨m, h'⟩ => ⟨k + m, by rw [Int.mul_add, ← h, ← h']; omega⟩
theorem cg.add {p a b c d : Int} : cg p a b → cg p c d → cg p (a + c) (b + d) := fun ⟨k, h⟩ ⟨m, h'⟩ => ⟨k + m, by rw [Int.mul_add, ← h, ← h']; omega⟩
theorem cg.neg {p a b : Int} : cg p a b → cg p (-a) (-b) := fun ⟨k, h⟩ => ⟨-k, by rw [Int.mul_neg, ← h]; omega⟩
theorem cg.mul {p a b c d : Int} : cg p a b → cg p c d → cg p (a * c) (b * d) := fun ⟨k, h⟩ ⟨m, h'⟩ => ⟨k * c + b * m, by
  have e1 : a = b + p * k := by omega
  have e2 : c = d + p * m := by omega
  rw [e1, e2]; grind⟩
theorem cg.mod (p a : Int) : cg p (a % p) a := ⟨-(a / p), by have := Int.mul_ediv_add_emod a p; rw [Int.mul_neg]; omega⟩
theorem cg.emod {p a b : Int} (h : cg p a b) : a % p = b % p := by
  obtain ⟨k, h⟩ := h
  rw [show a = b + p * k by omega, Int.add_mul_emod_self_left]
theorem cg.of_emod {p a b : Int} (h : a % p = b % p) : cg p a b := (cg.mod p a).symm.trans (h ▸ cg.mod p b)
theorem cg.eq {p a b : Int} (h : cg p a b) (ha : 0 ≤ a ∧ a < p) (hb : 0 ≤ b ∧ b < p) : a = b := by
  have := h.emod; rwa [Int.emod_eq_of_lt ha.1 ha.2, Int.emod_eq_of_lt hb.1 hb.2] at this
theorem cg.zero {p a : Int} : cg p a 0 ↔ a % p = 0 := ⟨fun h => by have := h.emod; simpa using this, fun h => cg.of_emod (by simpa using h)⟩
theorem cg.su {p : Int} {f g : Nat → Int} : ∀ {n : Nat}, (∀ i, i < n → cg p (f i) (g i)) → cg p (su f n) (su g n)
  | 0, _ => cg.refl _
  | n + 1, h => (cg.su (n := n) fun i hi => h i (by omega)).add (h n (by omega))
theorem cg.cv {p : Int} {F F' G G' : Nat → Int} (hF : ∀ i, cg p (F i) (F' i)) (hG : ∀ i, cg p (G i) (G' i)) (n : Nat) : cg p (cv F G n) (cv F' G' n) := cg.su fun i _ => (hF i).mul (hG _)
theorem cg.pow {p a b : Int} (h : cg p a b) : ∀ n : Nat, cg p (a ^ n) (b ^ n)
  | 0 => by rw [Int.pow_zero, Int.pow_zero]; exact cg.refl 1
  | n + 1 => by rw [Int.pow_succ, Int.pow_succ]; exact (cg.pow h n).mul h
/-- x to the p - 2 is an inverse -/
theorem inv_cg {p x : Int} (hp : IsP p) (hx : x % p ≠ 0) : cg p (x * (x ^ (p - 2).toNat % p)) 1 := by
  have h2 := hp.1
  obtain ⟨n, hn⟩ : ∃ n : Nat, p = n := ⟨p.toNat, by omega⟩
  subst hn
  have hpr : Pr n := by simpa using hp.2.2
  obtain ⟨a, ha⟩ : ∃ a : Nat, x % (n : Int) = a := ⟨(x % (n : Int)).toNat, by have := emod_bd (x := x) (p := n) (by omega); omega⟩
  have hb := emod_bd (x := x) (p := (n : Int)) (by omega)
  have hnd : ¬ n ∣ a := fun h => by have := Nat.le_of_dvd (by omega) h; omega
  have hf := hpr.fermat1 hnd
  have h1 : cg n ((a : Int) ^ (n - 1)) 1 := by
    refine cg.of_emod ?_
    have : ((a ^ (n - 1) % n : Nat) : Int) = 1 := by rw [hf]; rfl
    rw [Int.natCast_emod, Int.natCast_pow] at this
    rw [this, Int.emod_eq_of_lt (by omega) (by omega)]
  have hxa : cg n x a := ha ▸ (cg.mod n x).symm
  refine ((cg.refl x).mul (cg.mod _ _)).trans ?_
  have e : x * x ^ ((n : Int) - 2).toNat = x ^ (n - 1) := by
    rw [Int.mul_comm, ← Int.pow_succ]; congr 1; omega
  rw [e]
  exact (hxa.pow _).trans h1
theorem cg_mul0 {p a b : Int} (hp : IsP p) (h : cg p (a * b) 0) : cg p a 0 ∨ cg p b 0 := by
  by_cases ha : a % p = 0
  · exact .inl (cg.zero.2 ha)
  · right
    have h1 := inv_cg hp ha
    have h2 : cg p (a ^ (p - 2).toNat % p * (a * b)) (a ^ (p - 2).toNat % p * 0) := (cg.refl _).mul h
    have h3 : a ^ (p - 2).toNat % p * (a * b) = a * (a ^ (p - 2).toNat % p) * b := by grind
    rw [h3, Int.mul_zero] at h2
    have h4 := h1.mul (cg.refl b)
    rw [Int.one_mul] at h4
    exact h4.symm.trans h2
end Go.Proofs.Ythiignohbooelaa.Num
namespace Go.Proofs.Ythiignohbooelaa.H
open Go.RowKit Go.Proofs.YthiignohbooelaaW.PrintWords Go.Proofs.YthiignohbooelaaW.PrintLast Go.Proofs.YthiignohbooelaaW.PrintMore Go.Proofs.Ythiignohbooelaa.Num
theorem code_cases (p : Int) (b : Bool) (ls : List (List Int)) :
    (codeL p true ls ≠ 0 ∧ codeL p b ls = codeL p true ls) ∨ (codeL p true ls = 0 ∧ b = false ∧ codeL p b ls = 2 ∧ IsP p) ∨ (codeL p true ls = 0 ∧ b = true ∧ codeL p b ls = 0 ∧ IsP p ∧ ∀ l ∈ ls, Po p l) := by
  by_cases h : codeL p true ls = 0
  · obtain ⟨hp, _, hq⟩ := codeL_0 h
    cases b with
    | true => exact .inr (.inr ⟨h, rfl, h, hp, hq⟩)
    | false =>
      refine .inr (.inl ⟨h, rfl, ?_, hp⟩)
      have hall : ls.all (polyB p) = true := List.all_eq_true.2 fun l hl => polyB_iff.2 (hq l hl)
      simp [codeL, hall]
  · refine .inl ⟨h, ?_⟩
    unfold codeL at h ⊢
    cases ha : ls.all (polyB p) with
    | false => simp
    | true => rw [ha] at h; cases hp : primeB p <;> simp [hp] at h ⊢
theorem in_any (x a b : Int) : spec_l01In.f x a b = some (decide (a ≤ x) && decide (x ≤ b)) := by
  unfold spec_l01In.f; by_cases h : x ≥ a
  · rw [if_pos h, decide_eq_true h, Bool.true_and]
  · rw [if_neg h, decide_eq_false h, Bool.false_and]
theorem in_has {p : Int} (hp : IsP p) (x : Int) : spec_l01In.f x 0 (wrap64 (p - 1)) = some (hasB p x) := by
  rw [in_any, w64 (by have := hp.1; omega) (by have := hp.2.1; omega)]; unfold hasB; congr 2; exact decide_eq_decide.2 (by omega)
theorem in_unit {p : Int} (x : Int) : spec_l01In.f x 1 (wrap64 (p - 1)) = some (unitB p x) := in_any x _ _
theorem _root_.Go.Proofs.Ythiignohbooelaa.Num.IsP.p2 {p : Int} (h : IsP p) : 2 ≤ p := h.1
theorem _root_.Go.Proofs.Ythiignohbooelaa.Num.IsP.pm {p : Int} (h : IsP p) : p ≤ 10007 := h.2.1
theorem _root_.Go.Proofs.Ythiignohbooelaa.Num.IsP.p0 {p : Int} (h : IsP p) : 0 < p := by have := h.1; omega
def valL (p : Int) (f : List Int) (x : Int) : Int := f.foldr (fun c o => (o * x + c) % p) 0
theorem valL_bd {p : Int} (hp : 0 < p) (f : List Int) (x : Int) : 0 ≤ valL p f x ∧ valL p f x < p := by
  cases f with
  | nil => exact ⟨Int.le_refl _, hp⟩
  | cons c f => exact emod_bd hp
theorem hor_bd {p o x c : Int} (hp2 : p ≤ 10007) (ho : 0 ≤ o ∧ o < p) (hx : 0 ≤ x ∧ x < p) (hc : 0 ≤ c ∧ c < p) : 0 ≤ o * x ∧ o * x ≤ 1000700000 ∧ 0 ≤ o * x + c ∧ o * x + c ≤ 2000000000 := by
  have := mul_bd2 hp2 ho (y := x) (by omega); omega
theorem impl_val {p x : Int} {f : List Int} (hp : 2 ≤ p) (hp2 : p ≤ 10007) (rf : InR p f) (hx : 0 ≤ x ∧ x < p) : impl_field_value.f p f x = some (valL p f x) := by
  unfold impl_field_value.f
  rw [if_neg (by omega)]
  congr 1
  induction f with
  | nil => rfl
  | cons c f ih =>
    have hc := rf c (by simp)
    have rf' : InR p f := fun y hy => rf y (by simp [hy])
    have hb := valL_bd (p := p) (by omega) f x
    have h := hor_bd hp2 hb hx hc
    rw [List.foldr_cons, ih rf', stepv, w64 (x := valL p f x * x) (by omega) (by omega), w64 (by omega) (by omega), impl_mod (by omega) (by omega)]
    rfl
theorem compOk_of {p : Int} {f g : List Int} (hp : 2 ≤ p) (hp2 : p ≤ 10007) (rf : InR p f) (rg : InR p g) (lf : f.length ≤ 25) (lg : g.length ≤ 25) : compOk p f g = true := by
  simp only [compOk, Bool.and_eq_true, decide_eq_true_eq, List.all_eq_true, hasB_iff]
  exact ⟨⟨⟨⟨⟨hp, hp2⟩, rf⟩, rg⟩, lf⟩, lg⟩
theorem impl_comp {p : Int} {f g : List Int} (hp : 2 ≤ p) (hp2 : p ≤ 10007) (rf : InR p f) (rg : InR p g) (lf : f.length ≤ 25) (lg : g.length ≤ 25) : impl_field_compose.f p f g = some (compL p f g) := by
  unfold impl_field_compose.f; rw [if_pos (compOk_of hp hp2 rf rg lf lg)]
theorem compL_inR {p : Int} (hp : 0 < p) (f g : List Int) : InR p (compL p f g) := by
  cases f with
  | nil => exact InR.nil
  | cons c f => exact addL_inR hp (mulL_inR hp _ _) _ _
theorem compL_len {p : Int} (f g : List Int) (lg : g.length ≤ 25) : (compL p f g).length ≤ 24 * f.length + 1 := by
  induction f with
  | nil => simp [compL]
  | cons c f ih =>
    have h1 := addL_len p (mulL p (compL p f g) g) [1] c
    have h2 := mulL_len p (compL p f g) g
    simp only [List.length_singleton] at h1
    show (addL p (mulL p (compL p f g) g) [1] c).length ≤ _
    simp only [List.length_cons]
    omega
/-- the numbers of a list, 0 behind its end -/
def co (l : List Int) (i : Nat) : Int := l.getD i 0
theorem co_ge {l : List Int} {i : Nat} (h : l.length ≤ i) : co l i = 0 := by simp [co, List.getD_eq_getElem?_getD, h]
theorem co_set (l : List Int) (i j : Nat) (x : Int) (h : i < l.length) : co (l.set i x) j = if j = i then x else co l j := by
  unfold co
  simp only [List.getD_eq_getElem?_getD]
  by_cases e : j = i
  · subst e; rw [List.getElem?_set_self h, if_pos rfl]; rfl
  · rw [List.getElem?_set_ne (Ne.symm e), if_neg e]
theorem co_take {l : List Int} {n i : Nat} : co (l.take n) i = if i < n then co l i else 0 := by
  unfold co
  simp only [List.getD_eq_getElem?_getD, List.getElem?_take]
  split <;> rfl
theorem InR.co {p : Int} {l : List Int} (h : InR p l) (hp : 0 < p) (i : Nat) : 0 ≤ co l i ∧ co l i < p := h.get hp i
/-- behind the trimmed part there are noughts alone -/
theorem tlen_zero (l : List Int) : ∀ n i, tlen l n ≤ i → i < n → l.getD i 0 = 0
  | 0, i, _, h => by omega
  | n + 1, i, h1, h2 => by
    unfold tlen at h1
    split at h1
    · rename_i h0
      by_cases e : i = n
      · subst e; exact h0
      · exact tlen_zero l n i h1 (by omega)
    · omega
theorem tlen_last (l : List Int) : ∀ n, tlen l n = 0 ∨ l.getD (tlen l n - 1) 0 ≠ 0
  | 0 => .inl rfl
  | n + 1 => by
    unfold tlen
    split
    · exact tlen_last l n
    · right; simpa using ‹_›
theorem trimL_length (l : List Int) : (trimL l).length = tlen l l.length := by
  unfold trimL; rw [List.length_take, Nat.min_eq_left (tlen_le _ _)]
theorem co_trim (l : List Int) (i : Nat) : co (trimL l) i = co l i := by
  unfold trimL
  rw [co_take]
  split
  · rfl
  · rename_i h
    by_cases hi : i < l.length
    · exact (tlen_zero l l.length i (by omega) hi).symm
    · exact (co_ge (by omega)).symm
/-- a list without noughts at its end -/
def Nz (l : List Int) : Prop := l.length = 0 ∨ co l (l.length - 1) ≠ 0
theorem Nz.trim (l : List Int) : Nz (trimL l) := by
  unfold Nz
  rw [co_trim, trimL_length]
  exact tlen_last l l.length
theorem Nz.len_le {l : List Int} (h : Nz l) {n : Nat} (hz : ∀ i, n ≤ i → co l i = 0) : l.length ≤ n := by
  rcases h with h | h
  · omega
  · rcases Nat.lt_or_ge n l.length with hl | hl
    · exact absurd (hz _ (by omega)) h
    · exact hl
theorem Nz.ext {l l' : List Int} (h : Nz l) (h' : Nz l') (he : ∀ i, co l i = co l' i) : l = l' := by
  have h1 : l.length ≤ l'.length := h.len_le fun i hi => by rw [he]; exact co_ge hi
  have h2 : l'.length ≤ l.length := h'.len_le fun i hi => by rw [← he]; exact co_ge hi
  refine List.ext_getElem (by omega) fun i a b => ?_
  have := he i
  unfold co at this
  rwa [List.getD_eq_getElem?_getD, List.getD_eq_getElem?_getD, List.getElem?_eq_getElem a, List.getElem?_eq_getElem b] at this
theorem Po.nz {p : Int} {l : List Int} (h : Po p l) : Nz l := by
  rcases h.last with h0 | h0
  · exact .inl h0
  · by_cases hl : l.length = 0
    · exact .inl hl
    · right
      unfold co
      rwa [← rd_nat, show ((l.length - 1 : Nat) : Int) = (l.length : Int) - 1 by omega]
theorem Po.of {p : Int} {l : List Int} (hl : l.length ≤ 25) (hr : InR p l) (hz : Nz l) : Po p l := by
  refine ⟨hl, hr, ?_⟩
  rcases hz with h | h
  · exact .inl h
  · by_cases h0 : l.length = 0
    · exact .inl h0
    · right
      unfold co at h
      rwa [← rd_nat, show ((l.length - 1 : Nat) : Int) = (l.length : Int) - 1 by omega] at h
theorem Nz.top {p : Int} {l : List Int} (h : Nz l) (hr : InR p l) (hp : 0 < p) (h0 : 0 < l.length) : 0 < co l (l.length - 1) ∧ co l (l.length - 1) < p := by
  have h1 := hr.co hp (l.length - 1)
  rcases h with h2 | h2
  · omega
  · omega
theorem inv_one {p x : Int} (hp : IsP p) (hx : 0 < x ∧ x < p) : cg p (x * inv p x) 1 := inv_cg hp (by rw [Int.emod_eq_of_lt (by omega) hx.2]; omega)
theorem u64_small (n : Int) (h₀ : 0 ≤ n) (h₁ : n < 2 ^ 63) : IntKind.u64.wrap n = n := by rw [IntKind.wrap_u64]; omega
theorem draw_bits (x : Int) : 0 ≤ Go.bits .and .u64 (IntKind.u64.wrap x / 8589934592) 16777215 ∧ Go.bits .and .u64 (IntKind.u64.wrap x / 8589934592) 16777215 < 16777216 := by
  have e : IntKind.u64.wrap x = x % 18446744073709551616 := IntKind.wrap_u64 x
  rw [e]
  have h := bits_mask .u64 63 (by decide) u64_small 24 (by decide) (x % 18446744073709551616 / 8589934592) (by omega) (by omega)
  have e2 : (2 : Int) ^ 24 - 1 = 16777215 := by decide
  have e3 : (2 : Int) ^ 24 = 16777216 := by decide
  rw [e2, e3] at h
  rw [h]; omega
/-- a list of bytes -/
def Bytes (l : List Int) : Prop := l.length ≤ 1000000 ∧ ∀ x ∈ l, 0 ≤ x ∧ x ≤ 255
theorem byte_rd {l : List Int} (h : Bytes l) (i : Int) : 0 ≤ rd l i ∧ rd l i ≤ 255 := by
  unfold rd
  rw [List.getD_eq_getElem?_getD]
  cases hx : l[i.toNat]? with
  | none => simp
  | some x => simpa using h.2 x (List.mem_of_getElem? hx)
theorem draw_next {l : List Int} (hb : Bytes l) {i : Int} (h0 : 0 ≤ i) (h1 : i ≤ l.length) (s n : Int) :
    ∃ v j t : Int, spec_l01Next.f l i s n = some (v, j, t) ∧ 0 ≤ j ∧ j ≤ l.length ∧ 0 ≤ v ∧ (1 ≤ n → v < n) := by
  unfold spec_l01Next.f
  obtain ⟨b0, b1⟩ := draw_bits (IntKind.u64.wrap (s * 6364136223846793005) + 1442695040888963407)
  generalize Go.bits .and .u64 (IntKind.u64.wrap (IntKind.u64.wrap (s * 6364136223846793005) + 1442695040888963407) / 8589934592) 16777215 = b at b0 b1 ⊢
  have hl := hb.1
  have hw : wrap64 b = b := w64 (by omega) (by omega)
  by_cases c1 : n < 1
  · exact ⟨0, i, s, by rw [if_pos c1], h0, h1, by omega, by omega⟩
  · by_cases c2 : i < l.length
    · obtain ⟨r0, r1⟩ := byte_rd hb i
      have hw2 : wrap64 (rd l i) = rd l i := w64 (by omega) (by omega)
      have hw3 : wrap64 (b + rd l i) = b + rd l i := w64 (by omega) (by omega)
      have hw4 : wrap64 (i + 1) = i + 1 := w64 (by omega) (by omega)
      refine ⟨Int.tmod (b + rd l i) n, i + 1, _, by rw [if_neg c1, if_pos c2, if_pos h0, if_neg (show ¬ n = 0 by omega), hw, hw2, hw3, hw4], by omega, by omega, ?_, fun _ => ?_⟩
      · rw [tmod_nn (by omega)]; exact Int.emod_nonneg _ (by omega)
      · rw [tmod_nn (by omega)]; exact Int.emod_lt_of_pos _ (by omega)
    · refine ⟨Int.tmod b n, i, _, by rw [if_neg c1, if_neg c2, if_neg (show ¬ n = 0 by omega), hw], h0, h1, ?_, fun _ => ?_⟩
      · rw [tmod_nn b0]; exact Int.emod_nonneg _ (by omega)
      · rw [tmod_nn b0]; exact Int.emod_lt_of_pos _ (by omega)
theorem draw_pick {l : List Int} (hb : Bytes l) {i : Int} (h0 : 0 ≤ i) (h1 : i ≤ l.length) (s : Int) (c : List Int) (hc : 0 < c.length) :
    ∃ v j t : Int, spec_l01Pick.f l i s c = some (v, j, t) ∧ 0 ≤ j ∧ j ≤ l.length ∧ v ∈ c := by
  obtain ⟨v, j, t, e, j0, j1, v0, v1⟩ := draw_next hb h0 h1 s (c.length : Int)
  have v2 := v1 (by omega)
  obtain ⟨m, rfl⟩ : ∃ m : Nat, v = (m : Int) := ⟨v.toNat, by omega⟩
  refine ⟨c[m]'(by omega), j, t, ?_, j0, j1, List.getElem_mem _⟩
  simp only [spec_l01Pick.f, e, Option.bind_some, if_pos v0, if_pos v2, rd_lt c m (by omega)]
theorem draw_prime {l : List Int} (hb : Bytes l) {i : Int} (h0 : 0 ≤ i) (h1 : i ≤ l.length) (s : Int) :
    ∃ v j t : Int, spec_l01DrawPrime.f l i s = some (v, j, t) ∧ 0 ≤ j ∧ j ≤ l.length ∧ v ∈ ([2, 3, 5, 7, 7, 11, 13, 17, 31, 101, 997, 10007] : List Int) := by
  obtain ⟨v, j, t, e, r⟩ := draw_pick hb h0 h1 s ([2, 3, 5, 7, 7, 11, 13, 17, 31, 101, 997, 10007] : List Int) (by simp)
  exact ⟨v, j, t, by simp only [spec_l01DrawPrime.f, e, Option.bind_some], r⟩
theorem draw_from (l : List Int) (hl : l.length ≤ 1000000) : ∃ s : Int, Ev (fun k => spec_l01From.f k l) (l, 0, s) := by
  have loop : ∀ d i : Nat, i + d = l.length → ∀ s : Int, ∃ t : Int, Ev (fun k => spec_l01From.l0 k l (i : Int) l 0 s) (l, 0, t) := by
    intro d
    induction d with
    | zero => intro i h s; exact ⟨s, by refine Ev.succ ?_; simp (disch := omega) only [spec_l01From.l0, if_neg]; exact Ev.now _⟩
    | succ d ih =>
      intro i h s
      by_cases c : (i : Int) < 4096
      · obtain ⟨t, ht⟩ := ih (i + 1) (by omega) (IntKind.u64.wrap ((IntKind.u64.wrap ((IntKind.u64.wrap (s * 1099511628211)) + (IntKind.u64.wrap (rd l (i : Int))))) + 103))
        refine ⟨t, Ev.succ ?_⟩
        simp (disch := omega) only [spec_l01From.l0, if_pos, wp1]; exact ht
      · exact ⟨s, by refine Ev.succ ?_; simp (disch := omega) only [spec_l01From.l0, if_pos, if_neg]; exact Ev.now _⟩
  simp only [spec_l01From.f]
  exact loop l.length 0 (by omega) _
theorem isP_7 : IsP 7 := by
  refine ⟨by omega, by omega, Pr.of_trial (by decide) fun d h2 hd => ?_⟩
  have : d ≤ 2 := Nat.le_of_not_lt fun h => by
    have := Nat.mul_le_mul (show 3 ≤ d from h) (show 3 ≤ d from h)
    simp at hd; omega
  have : d = 2 := by omega
  subst this; decide
theorem draw_list0 {l : List Int} (hb : Bytes l) (p c : Int) (hp : 1 ≤ p) : ∀ (d : Nat) (out : List Int) (i s : Int), 0 ≤ i → i ≤ l.length → d ≤ 1000 → out.length ≤ 1000000 - d → InR p out →
    ∃ (r : List Int) (j t : Int), Ev (fun k => spec_l01DrawList.l0 k p (d : Int) out c l i s) (r, j, t) ∧ 0 ≤ j ∧ j ≤ l.length ∧ r.length = out.length + d ∧ InR p r := by
  intro d
  induction d with
  | zero =>
    intro out i s h0 h1 hd hl hr
    refine ⟨out, i, s, Ev.succ ?_, h0, h1, by omega, hr⟩
    simp (disch := omega) only [spec_l01DrawList.l0, if_neg]; exact Ev.now _
  | succ d ih =>
    intro out i s h0 h1 hd hl hr
    have q1 : ((d + 1 : Nat) : Int) > 0 := by omega
    have q2 : out.length < 17592186044416 := by omega
    have q3 : wrap64 (((d + 1 : Nat) : Int) - 1) = (d : Int) := by rw [w64 (by omega) (by omega)]; omega
    have put : ∀ (x : Int) (i s : Int), 0 ≤ i → i ≤ l.length → 0 ≤ x ∧ x < p → ∃ (r : List Int) (j t : Int), Ev (fun k => spec_l01DrawList.l0 k p (d : Int) (out ++ [x]) c l i s) (r, j, t) ∧ 0 ≤ j ∧ j ≤ l.length ∧ r.length = out.length + (d + 1) ∧ InR p r := fun x i s h0 h1 hx => by
      obtain ⟨r, j, t, e, j0, j1, e2, e3⟩ := ih (out ++ [x]) i s h0 h1 (by omega) (by simp; omega) (hr.append (InR.one hx))
      exact ⟨r, j, t, e, j0, j1, by rw [e2]; simp; omega, e3⟩
    by_cases hc : c = 0
    · obtain ⟨v, j, t, e, j0, j1, v0, v1⟩ := draw_next hb h0 h1 s p
      obtain ⟨r, j', t', e', rest⟩ := put v j t j0 j1 ⟨v0, v1 hp⟩
      refine ⟨r, j', t', Ev.succ ?_, rest⟩
      simp only [spec_l01DrawList.l0, if_pos q1, if_pos hc, e, Option.bind_some, if_pos q2, q3]; exact e'
    · obtain ⟨v, j, t, e, j0, j1, v0, v1⟩ := draw_next hb h0 h1 s 3
      by_cases hv : v > 0
      · obtain ⟨v', j', t', e', j0', j1', v0', v1'⟩ := draw_next hb j0 j1 t p
        obtain ⟨r, j2, t2, e2, rest⟩ := put v' j' t' j0' j1' ⟨v0', v1' hp⟩
        refine ⟨r, j2, t2, Ev.succ ?_, rest⟩
        simp only [spec_l01DrawList.l0, if_pos q1, if_neg hc, e, Option.bind_some, if_pos hv, e', if_pos q2, q3]; exact e2
      · obtain ⟨r, j2, t2, e2, rest⟩ := put 0 j t j0 j1 ⟨Int.le_refl 0, by omega⟩
        refine ⟨r, j2, t2, Ev.succ ?_, rest⟩
        simp only [spec_l01DrawList.l0, if_pos q1, if_neg hc, e, Option.bind_some, if_neg hv, if_pos q2, q3]; exact e2
theorem draw_poly {l : List Int} (hb : Bytes l) {p n i : Int} (hp : 1 ≤ p) (n0 : 0 ≤ n) (n1 : n ≤ 100) (h0 : 0 ≤ i) (h1 : i ≤ l.length) (s : Int) :
    ∃ (r : List Int) (j t : Int), Ev (fun k => spec_l01DrawPoly.f k l i s p n) (r, j, t) ∧ 0 ≤ j ∧ j ≤ l.length ∧ r.length ≤ 102 ∧ InR p r := by
  have hw : wrap64 (n + 2) = n + 2 := w64 (by omega) (by omega)
  obtain ⟨v, j, t, e, j0, j1, v0, v1⟩ := draw_next hb h0 h1 s (n + 2)
  have v2 := v1 (by omega)
  obtain ⟨m, rfl⟩ : ∃ m : Nat, v = (m : Int) := ⟨v.toNat, by omega⟩
  obtain ⟨c, j', t', e', j0', j1', _⟩ := draw_next hb j0 j1 t 3
  obtain ⟨r, j2, t2, e2, j02, j12, e3, e4⟩ := draw_list0 hb p c hp m [] j' t' j0' j1' (by omega) (by simp) InR.nil
  simp only [List.length_nil] at e3
  have ht := trimL_len r
  refine ⟨trimL r, j2, t2, ?_, j02, j12, by omega, e4.trim⟩
  simp only [spec_l01DrawPoly.f, hw, e, Option.bind_some]
  refine Ev.bind (show Ev (fun k => spec_l01DrawList.f k l j t p (m : Int)) (r, j2, t2) from ?_) ?_
  · simp only [spec_l01DrawList.f, e', Option.bind_some]; exact e2
  · exact Ev.bind (spec_trim r (by omega)) (Ev.now _)
theorem draw_fine (p : Int) : ∃ q : Int, IsP q ∧ Ev (fun k => spec_l01Fine.f k p) q := by
  cases h : primeB p with
  | true => exact ⟨p, primeB_iff.1 h, by simp only [spec_l01Fine.f]; refine Ev.bind (spec_prime p) ?_; simp only [h, if_true]; exact Ev.now _⟩
  | false => exact ⟨7, isP_7, by simp only [spec_l01Fine.f]; refine Ev.bind (spec_prime p) ?_; simp only [h, Bool.false_eq_true, if_false]; exact Ev.now _⟩
theorem impl_deg (l : List Int) (h : l.length ≤ 1000000000000) : impl_degree.f l = some ((l.length : Int) - 1) := by
  simp (disch := omega) only [impl_degree.f, impl_length_int64.f, Option.bind_some, w64]
/-- the code with the test for 0 behind it -/
def fillL (c : Int) (ls : List (List Int)) : Int := if c = 0 then (if ls.all (fun l => decide (0 < l.length)) = true then 0 else 5) else c
theorem fill_loop (ls : List (List Int)) (hl : ls.length ≤ 1000000) : ∀ (d i : Nat), i + d = ls.length → Ev (fun k => spec_l06Code.l0 k ls (i : Int)) (if (ls.drop i).all (fun l => decide (0 < l.length)) = true then 0 else 5) := by
  intro d
  induction d with
  | zero => intro i h; refine Ev.succ ?_; simp (disch := omega) only [spec_l06Code.l0, if_neg, List.drop_of_length_le]; exact Ev.now _
  | succ d ih =>
    intro i h
    have hi := ih (i + 1) (by omega)
    have hrd : rd_L2 ls (i : Int) = ls[i]'(by omega) := by simp [rd_L2, List.getD_eq_getElem?_getD, show i < ls.length by omega]
    refine Ev.succ ?_
    rw [List.drop_eq_getElem_cons (show i < ls.length by omega)]
    simp (disch := omega) only [spec_l06Code.l0, if_pos, hrd, wp1, List.all_cons]
    by_cases h0 : (ls[i]'(by omega)).length = 0
    · have h1 : (((ls[i]'(by omega)).length : Nat) : Int) = 0 := by omega
      simp only [h1, if_true, h0, Nat.lt_irrefl, decide_false, Bool.false_and, Bool.false_eq_true, if_false]
      exact Ev.now _
    · have h1 : ¬ (((ls[i]'(by omega)).length : Nat) : Int) = 0 := by omega
      simp only [if_neg h1, decide_eq_true (show 0 < (ls[i]'(by omega)).length by omega), Bool.true_and]
      exact hi
theorem spec_code6 (p : Int) (ls : List (List Int)) (hl : ls.length ≤ 1000000) (hls : ∀ l ∈ ls, l.length ≤ 1000000000) : Ev (fun k => spec_l06Code.f k p ls) (fillL (codeL p true ls) ls) := by
  have h1 := spec_code p ls hl hls
  have h2 := fill_loop ls hl ls.length 0 (by omega)
  simp only [spec_l06Code.f, fillL]
  refine Ev.bind h1 ?_
  by_cases h : codeL p true ls = 0
  · simp only [h, if_true]; exact h2
  · simp only [if_neg h]; exact Ev.now _
theorem impl_fill1 (p : Int) (b : Bool) (l : List Int) : Ev (fun k => impl_filledCode_1.f k p b l) (fillL (codeL p b [l]) [l]) := by
  simp only [impl_filledCode_1.f]
  refine Ev.bind (impl_code1 p b l) ?_
  simp only [fillL, List.all_cons, List.all_nil, Bool.and_true]
  exact Ev.now _
/-- what the code 0 tells -/
theorem fillL_0 {p : Int} {b : Bool} {ls : List (List Int)} (h : fillL (codeL p b ls) ls = 0) : IsP p ∧ b = true ∧ ∀ l ∈ ls, Po p l ∧ 0 < l.length := by
  unfold fillL at h
  split at h
  · rename_i hc
    split at h
    · rename_i ha
      obtain ⟨h1, h2, h3⟩ := codeL_0 hc
      exact ⟨h1, h2, fun l hl => ⟨h3 l hl, of_decide_eq_true (List.all_eq_true.1 ha l hl)⟩⟩
    · cases h
  · rename_i hc; exact absurd h hc
def rts (p : Int) (f : List Int) (i : Nat) : List Int := ((List.range i).map (fun (n : Nat) => (n : Int))).filter (fun x => decide (valL p f x = 0))
def rootsL (p : Int) (f : List Int) : List Int := rts p f p.toNat
theorem rts_succ (p : Int) (f : List Int) (i : Nat) : rts p f (i + 1) = if valL p f i = 0 then rts p f i ++ [(i : Int)] else rts p f i := by
  unfold rts
  rw [List.range_succ, List.map_append, List.filter_append]
  by_cases h : valL p f i = 0 <;> simp [h]
theorem rts_len (p : Int) (f : List Int) (i : Nat) : (rts p f i).length ≤ i := by
  unfold rts
  refine Nat.le_trans (List.length_filter_le _ _) ?_
  simp
theorem impl_roots {p : Int} {f : List Int} (hp : 2 ≤ p) (hp2 : p ≤ 10007) (hf : f.length ≤ 1000) (rf : InR p f) : Ev (fun k => impl_field_roots.f k p f) (rootsL p f) := by
  have loop : ∀ (d i : Nat), i + d = p.toNat → Ev (fun k => impl_field_roots.l0 k p f (rts p f i) p (i : Int)) (rootsL p f) := by
    intro d
    induction d with
    | zero => intro i h; refine Ev.succ ?_; simp (disch := omega) only [impl_field_roots.l0, if_neg]; rw [show i = p.toNat by omega]; exact Ev.now _
    | succ d ih =>
      intro i h
      have hi := ih (i + 1) (by omega)
      have hv := impl_val (x := i) (f := f) hp hp2 rf (by omega)
      have hl := rts_len p f i
      rw [rts_succ] at hi
      refine Ev.succ ?_
      simp (disch := omega) only [impl_field_roots.l0, if_pos, wp1, hv, Option.bind_some]
      by_cases h0 : valL p f i = 0
      · simp (disch := omega) only [if_pos h0, if_pos]; rw [if_pos h0] at hi; exact hi
      · simp only [if_neg h0]; rw [if_neg h0] at hi; exact hi
  have h := loop p.toNat 0 (by omega)
  simp only [impl_field_roots.f]
  exact h
theorem rootsL_len {p : Int} (hp : 0 < p) (hp2 : p ≤ 10007) (f : List Int) : (rootsL p f).length ≤ 10007 := by
  have := rts_len p f p.toNat; unfold rootsL; omega
/-- number i of the scaled polynomial -/
def scN (p c : Int) (f : List Int) (i : Nat) : Int := f.getD i 0 * (c ^ (f.length - 1 - i) % p) % p
def scL (p c : Int) (f : List Int) : List Int := (List.range f.length).map (scN p c f)
theorem scL_len (p c : Int) (f : List Int) : (scL p c f).length = f.length := by simp [scL]
theorem scL_get (p c : Int) (f : List Int) (i : Nat) (h : i < f.length) : (scL p c f)[i]'(by rw [scL_len]; exact h) = scN p c f i := by simp [scL]
theorem spec_scale {p c : Int} {f : List Int} (hp : 2 ≤ p) (hp2 : p ≤ 10007) (hf : f.length ≤ 1000) (rf : InR p f) (hc : 0 ≤ c ∧ c < p) : ∀ n, n ≤ f.length →
    Ev (fun k => spec_ScaleRoots.l0 k p f c (List.replicate n 0 ++ (scL p c f).drop n) (c ^ (f.length - n) % p) ((n : Int) - 1)) (scL p c f, 0) := by
  intro n
  induction n with
  | zero => intro _; refine Ev.succ ?_; simp (disch := omega) only [spec_ScaleRoots.l0, if_neg, List.replicate_zero, List.nil_append, List.drop_zero]; exact Ev.now _
  | succ n ih =>
    intro hn
    have hi := ih (by omega)
    have hw := emod_bd (x := c ^ (f.length - (n + 1))) (p := p) (by omega)
    have hg := rf.get (by omega) n
    have h1 := mul_bd2 hp2 hg (y := c ^ (f.length - (n + 1)) % p) (by omega)
    have h2 := mul_bd2 hp2 hw (y := c) (by omega)
    have e1 : c ^ (f.length - n) % p = c ^ (f.length - (n + 1)) % p * c % p := by
      rw [em_l, show f.length - n = f.length - (n + 1) + 1 by omega, Int.pow_succ]
    have e2 : List.replicate n 0 ++ (scL p c f).drop n = (List.replicate (n + 1) 0 ++ (scL p c f).drop (n + 1)).set n (f.getD n 0 * (c ^ (f.length - (n + 1)) % p) % p) := by
      rw [List.drop_eq_getElem_cons (show n < (scL p c f).length by rw [scL_len]; omega), scL_get p c f n (by omega), List.replicate_succ', List.append_assoc, List.set_append_right _ _ (by simp), List.length_replicate, Nat.sub_self]
      simp [scN, show f.length - 1 - n = f.length - (n + 1) by omega]
    have hlen : (List.replicate (n + 1) (0 : Int) ++ (scL p c f).drop (n + 1)).length = f.length := by simp [scL_len]; omega
    rw [e1, e2] at hi
    refine Ev.succ ?_
    simp (disch := omega) only [spec_ScaleRoots.l0, ws1, if_pos, if_neg, rd_n, w64, tmod_nn, wm1, Int.toNat_natCast]
    exact hi
theorem impl_scale {p c : Int} {f : List Int} (hp : 2 ≤ p) (hp2 : p ≤ 10007) (hf : f.length ≤ 1000) (rf : InR p f) (hc : 0 ≤ c ∧ c < p) : ∀ d i, i + d = f.length →
    Ev (fun k => impl_ScaleRoots.l0 k f ((scL p c f).take i) f (f.length : Int) (i : Int) p c) (scL p c f, 0) := by
  intro d
  induction d with
  | zero => intro i h; refine Ev.succ ?_; simp (disch := omega) only [impl_ScaleRoots.l0, if_neg]; rw [List.take_of_length_le (by rw [scL_len]; omega)]; exact Ev.now _
  | succ d ih =>
    intro i h
    have hi := ih (i + 1) (by omega)
    rw [List.take_succ_eq_append_getElem (by rw [scL_len]; omega), scL_get p c f i (by omega)] at hi
    have hw := emod_bd (x := c ^ (f.length - 1 - i)) (p := p) (by omega)
    have hg := rf.get (by omega) i
    have h1 := mul_bd2 hp2 hg (y := c ^ (f.length - 1 - i) % p) (by omega)
    have hpw := impl_power (x := c) (e := (f.length : Int) - 1 - i) hp hp2 hc.1 hc.2 (by omega) (by omega)
    rw [show ((f.length : Int) - 1 - i).toNat = f.length - 1 - i by omega] at hpw
    refine Ev.succ ?_
    simp (disch := omega) only [impl_ScaleRoots.l0, if_pos, impl_deg, Option.bind_some, rd_n, wp1, w64]
    refine Ev.bind hpw ?_
    have hl : ((scL p c f).take i).length < 17592186044416 := by rw [List.length_take, scL_len]; omega
    simp (disch := omega) only [impl_mul, Option.bind_some, if_pos hl]
    exact hi
def ofL (p : Int) (l : List Int) : Nat → List Int
  | 0 => [1]
  | n + 1 => mulL p (ofL p l n) [(-(l.getD n 0)) % p, 1]
theorem ofL_len (p : Int) (l : List Int) : ∀ n, (ofL p l n).length ≤ n + 1
  | 0 => by simp [ofL]
  | n + 1 => by
    have h := mulL_len p (ofL p l n) [(-(l.getD n 0)) % p, 1]
    have := ofL_len p l n
    simp only [List.length_cons, List.length_nil] at h
    simp only [ofL]; omega
theorem ofL_inR {p : Int} (hp : 2 ≤ p) (l : List Int) : ∀ n, InR p (ofL p l n)
  | 0 => InR.one (by omega)
  | n + 1 => mulL_inR (by omega) _ _
theorem lin_inR {p : Int} (hp : 2 ≤ p) (r : Int) : InR p [(-r) % p, 1] := fun y hy => by
  rcases List.mem_cons.1 hy with rfl | hy
  · exact emod_bd (by omega)
  · rw [List.mem_singleton.1 hy]; omega
theorem spec_of {p : Int} {l : List Int} (hp : IsP p) (hl : l.length ≤ 24) (hr : InR p l) : Ev (fun k => spec_l06Of.f k p l) (ofL p l l.length) := by
  have loop : ∀ d i, i + d = l.length → Ev (fun k => spec_l06Of.l0 k p l (ofL p l i) (i : Int)) (ofL p l l.length) := by
    intro d
    induction d with
    | zero => intro i h; refine Ev.succ ?_; simp (disch := omega) only [spec_l06Of.l0, if_neg]; rw [show i = l.length by omega]; exact Ev.now _
    | succ d ih =>
      intro i h
      have hi := ih (i + 1) (by omega)
      have hg := hr.get hp.p0 i
      have hln := ofL_len p l i
      have h2 := hp.pm
      refine Ev.succ ?_
      simp (disch := omega) only [spec_l06Of.l0, if_pos, rd_n, wp1, w64, spec_mod hp.p0, Option.bind_some]
      exact Ev.bind (spec_product hp.p2 hp.pm (by omega) (by simp) (ofL_inR hp.p2 l i) (lin_inR hp.p2 _)) hi
  have h := loop l.length 0 (by omega)
  simp only [spec_l06Of.f]
  exact h
theorem spec_back (l : List Int) (hl : l.length ≤ 1000000000) : Ev (fun k => spec_l02Back.f k l) l.reverse := by
  have loop : ∀ n, n ≤ l.length → Ev (fun k => spec_l02Back.l0 k l (l.drop n).reverse ((n : Int) - 1)) l.reverse := by
    intro n
    induction n with
    | zero => intro _; refine Ev.succ ?_; simp (disch := omega) only [spec_l02Back.l0, if_neg, List.drop_zero]; exact Ev.now _
    | succ n ih =>
      intro hn
      have hi := ih (by omega)
      rw [List.drop_eq_getElem_cons (show n < l.length by omega), List.reverse_cons] at hi
      refine Ev.succ ?_
      have h1 : (l.drop (n + 1)).reverse.length < 17592186044416 := by rw [List.length_reverse, List.length_drop]; omega
      simp (disch := omega) only [spec_l02Back.l0, ws1, if_pos, wm1, if_pos h1, rd_lt l n (show n < l.length by omega)]
      exact hi
  have h := loop l.length (Nat.le_refl _)
  rw [List.drop_length] at h
  simp only [spec_l02Back.f, wm1 (show l.length ≤ 1000000000000 by omega)]
  exact h
theorem co_ext {l l' : List Int} (hl : l.length = l'.length) (he : ∀ i, i < l.length → co l i = co l' i) : l = l' :=
  List.ext_getElem hl fun i a b => by
    have := he i a
    unfold co at this
    rwa [List.getD_eq_getElem?_getD, List.getD_eq_getElem?_getD, List.getElem?_eq_getElem a, List.getElem?_eq_getElem b] at this
theorem co_reverse (l : List Int) (i : Nat) (h : i < l.length) : co l.reverse i = co l (l.length - 1 - i) := by
  unfold co
  rw [List.getD_eq_getElem?_getD, List.getD_eq_getElem?_getD, List.getElem?_reverse h]
theorem impl_reverse (l : List Int) (hl : l.length ≤ 1000000) : Ev (fun k => slices_Reverse_int64_int64.f k l) l.reverse := by
  have loop : ∀ (d i : Nat) (xs : List Int), xs.length = l.length → i + d = l.length → (∀ t, t < l.length → co xs t = if t < i ∨ l.length - i ≤ t then co l (l.length - 1 - t) else co l t) →
      Ev (fun k => slices_Reverse_int64_int64.l0 k xs (i : Int) ((l.length : Int) - 1 - i)) l.reverse := by
    intro d
    induction d with
    | zero =>
      intro i xs h1 h2 h3
      refine Ev.succ ?_
      simp (disch := omega) only [slices_Reverse_int64_int64.l0, if_neg]
      refine Ev_to (Ev.now _) (co_ext (by simpa using h1) fun t ht => ?_)
      rw [h3 t (by omega), co_reverse l t (by omega), if_pos (by omega)]
    | succ d ih =>
      intro i xs h1 h2 h3
      refine Ev.succ ?_
      by_cases hlt : (i : Int) < (l.length : Int) - 1 - i
      · have hj : (l.length : Int) - 1 - i = ((l.length - 1 - i : Nat) : Int) := by omega
        have hi := ih (i + 1) ((xs.set i (xs.getD (l.length - 1 - i) 0)).set (l.length - 1 - i) (xs.getD i 0)) (by simpa using h1) (by omega) (fun t ht => by
          rw [co_set _ _ _ _ (by simpa using by omega)]
          by_cases e1 : t = l.length - 1 - i
          · rw [if_pos e1, if_pos (by omega)]
            have := h3 i (by omega)
            unfold co at this
            rw [this, if_neg (by omega), e1]
            show co l i = _
            rw [show l.length - 1 - (l.length - 1 - i) = i by omega]
          · rw [if_neg e1, co_set _ _ _ _ (by omega)]
            by_cases e2 : t = i
            · rw [if_pos e2, if_pos (by omega)]
              have := h3 (l.length - 1 - i) (by omega)
              unfold co at this
              rw [this, if_neg (by omega), e2]
              rfl
            · rw [if_neg e2, h3 t ht]
              by_cases e3 : t < i ∨ l.length - i ≤ t
              · rw [if_pos e3, if_pos (by omega)]
              · rw [if_neg e3, if_neg (by omega)])
        rw [hj] at hlt ⊢
        simp (disch := omega) only [slices_Reverse_int64_int64.l0, if_pos hlt, if_pos, rd_n, Int.toNat_natCast, wp1, wm1]
        rw [show ((l.length - 1 - i : Nat) : Int) - 1 = (l.length : Int) - 1 - ((i + 1 : Nat) : Int) by omega]
        exact hi
      · simp only [slices_Reverse_int64_int64.l0, if_neg hlt]
        refine Ev_to (Ev.now _) (co_ext (by simpa using h1) fun t ht => ?_)
        rw [h3 t (by omega), co_reverse l t (by omega)]
        by_cases e3 : t < i ∨ l.length - i ≤ t
        · rw [if_pos e3]
        · rw [if_neg e3, show l.length - 1 - t = t by omega]
  have h := loop l.length 0 l rfl (by omega) (fun t ht => by rw [if_neg (by omega)])
  simp only [slices_Reverse_int64_int64.f, wm1 (show l.length ≤ 1000000000000 by omega)]
  simpa using h
theorem clone_some (l : List Int) (h : l.length < 17592186044416) : slices_Clone_int64_int64.f l = some l := by
  simp [slices_Clone_int64_int64.f, h]
theorem impl_reversed_ (l : List Int) (hl : l.length ≤ 1000000) : Ev (fun k => impl_reversed.f k l) l.reverse := by
  simp only [impl_reversed.f, clone_some l (by omega), Option.bind_some]
  exact Ev.bind (impl_reverse l hl) (Ev.now _)
theorem co_pad (f : List Int) (n t : Nat) : co (pad f n) t = co f t := by
  unfold pad co
  simp only [List.getD_eq_getElem?_getD]
  by_cases h : t < f.length
  · rw [List.getElem?_append_left h]
  · rw [List.getElem?_append_right (by omega), List.getElem?_eq_none (show f.length ≤ t by omega)]
    simp only [List.getElem?_replicate]
    split <;> rfl
theorem ad_get (p c : Int) (g : List Int) (t : Nat) : ∀ d i acc, i + d ≤ acc.length → co (ad p c g acc i d) t = if i ≤ t ∧ t < i + d then (co acc t + c * co g t) % p else co acc t
  | 0, i, acc, h => by rw [if_neg (by omega)]; rfl
  | d + 1, i, acc, h => by
    rw [ad, ad_get p c g t d (i + 1) _ (by simpa using by omega), co_set _ _ _ _ (by omega)]
    by_cases e : t = i
    · subst e
      rw [if_neg (by omega), if_pos rfl, if_pos (by omega)]
      rfl
    · rw [if_neg e]
      by_cases h2 : i + 1 ≤ t ∧ t < i + 1 + d
      · rw [if_pos h2, if_pos (by omega)]
      · rw [if_neg h2, if_neg (by omega)]
/-- number t of a sum -/
theorem co_addL {p : Int} (hp : 0 < p) {f : List Int} (hf : InR p f) (g : List Int) (c : Int) (t : Nat) : co (addL p f g c) t = (co f t + c * co g t) % p := by
  unfold addL
  rw [co_trim, ad_get _ _ _ _ _ _ _ (by rw [pad_len _ _ (Nat.le_max_left _ _)]; have := Nat.le_max_right f.length g.length; omega), co_pad]
  by_cases h : 0 ≤ t ∧ t < 0 + g.length
  · rw [if_pos h]
  · rw [if_neg h, co_ge (show g.length ≤ t by omega), Int.mul_zero, Int.add_zero, Int.emod_eq_of_lt (hf.co hp t).1 (hf.co hp t).2]
theorem addL_nz (p : Int) (f g : List Int) (c : Int) : Nz (addL p f g c) := Nz.trim _
theorem pr1_cg (p x : Int) (g : List Int) (i t : Nat) : ∀ d j acc, i + j + d ≤ acc.length → cg p (co (pr1 p x g i acc j d) t) (co acc t + if i + j ≤ t ∧ t < i + j + d then x * co g (t - i) else 0)
  | 0, j, acc, _ => by rw [pr1, if_neg (by omega), Int.add_zero]; exact cg.refl _
  | d + 1, j, acc, h => by
    rw [pr1]
    refine (pr1_cg p x g i t d (j + 1) _ (by rw [List.length_set]; omega)).trans ?_
    rw [co_set _ _ _ _ (by omega)]
    by_cases ht : t = i + j
    · rw [if_pos ht, if_neg (by omega), if_pos (by omega), Int.add_zero, ht, show i + j - i = j by omega]; exact cg.mod p _
    · rw [if_neg ht]
      by_cases h2 : i + (j + 1) ≤ t ∧ t < i + (j + 1) + d
      · rw [if_pos h2, if_pos (by omega)]; exact cg.refl _
      · rw [if_neg h2, if_neg (by omega)]; exact cg.refl _
theorem pr0_cg (p : Int) (f g : List Int) (t : Nat) (h0 : 0 < g.length) : ∀ d i acc, i + d ≤ f.length → acc.length = f.length + g.length - 1 →
    cg p (co (pr0 p f g acc i d) t) (co acc t + su (fun s => if i + s ≤ t ∧ t < i + s + g.length then co f (i + s) * co g (t - (i + s)) else 0) d)
  | 0, i, acc, _, _ => by rw [pr0, su, Int.add_zero]; exact cg.refl _
  | d + 1, i, acc, h, hl => by
    rw [pr0]
    refine (pr0_cg p f g t h0 d (i + 1) _ (by omega) (by rw [pr1_len]; exact hl)).trans ?_
    rw [su_head, su_congr (f := fun s => if i + 1 + s ≤ t ∧ t < i + 1 + s + g.length then co f (i + 1 + s) * co g (t - (i + 1 + s)) else 0) (g := fun s => if i + (s + 1) ≤ t ∧ t < i + (s + 1) + g.length then co f (i + (s + 1)) * co g (t - (i + (s + 1))) else 0) (fun s _ => by rw [show i + 1 + s = i + (s + 1) by omega])]
    refine ((pr1_cg p (f.getD i 0) g i t g.length 0 acc (by omega)).add (cg.refl _)).trans (cg.of_eq ?_)
    simp only [Nat.add_zero]
    rw [Int.add_assoc]
    rfl
theorem co_zeros (n t : Nat) : co (List.replicate n (0 : Int)) t = 0 := by
  unfold co
  rw [List.getD_eq_getElem?_getD, List.getElem?_replicate]
  split <;> rfl
/-- number t of a product -/
theorem co_mulL {p : Int} (hp : 0 < p) (f g : List Int) (t : Nat) : co (mulL p f g) t = cv (co f) (co g) t % p := by
  by_cases h : f.length = 0 ∨ g.length = 0
  · have e : mulL p f g = [] := by unfold mulL; rw [if_pos h]
    have z : cv (co f) (co g) t = 0 := su_zero fun i _ => by
      rcases h with h | h
      · rw [co_ge (show f.length ≤ i by omega), Int.zero_mul]
      · rw [co_ge (show g.length ≤ t - i by omega), Int.mul_zero]
    rw [e, z]; simp [co]
  · have e : mulL p f g = trimL (mulW p f g) := by unfold mulL; rw [if_neg h]
    rw [e, co_trim]
    refine cg.eq ?_ ((mulW_inR hp f g).co hp t) (emod_bd hp)
    refine (pr0_cg p f g t (by omega) f.length 0 _ (by omega) (by simp)).trans ((cg.of_eq ?_).trans (cg.mod p _).symm)
    rw [co_zeros, Int.zero_add]
    have e1 : su (fun s => if 0 + s ≤ t ∧ t < 0 + s + g.length then co f (0 + s) * co g (t - (0 + s)) else 0) f.length = su (fun s => if s ≤ t then co f s * co g (t - s) else 0) f.length :=
      su_congr fun s _ => by
        simp only [Nat.zero_add]
        by_cases h1 : s ≤ t
        · by_cases h2 : t < s + g.length
          · rw [if_pos ⟨h1, h2⟩, if_pos h1]
          · rw [if_neg (fun h => h2 h.2), if_pos h1, co_ge (show g.length ≤ t - s by omega), Int.mul_zero]
        · rw [if_neg (fun h => h1 h.1), if_neg h1]
    rw [e1, ← su_ext (n := max f.length (t + 1)) (Nat.le_max_left _ _) (fun i hi _ => by rw [co_ge hi, Int.zero_mul]; split <;> rfl),
      su_ext (m := t + 1) (Nat.le_max_right _ _) (fun i hi _ => by rw [if_neg (by omega)])]
    exact su_congr fun i hi => by rw [if_pos (by omega)]
/-- d divides f, modulo p -/
def Dv (p : Int) (d f : List Int) : Prop := ∃ (Q : Nat → Int) (N : Nat), (∀ i, N ≤ i → Q i = 0) ∧ ∀ t, cg p (co f t) (cv Q (co d) t)
theorem co_nil (t : Nat) : co [] t = 0 := co_ge (Nat.zero_le _)
theorem Dv.zero (p : Int) (d : List Int) : Dv p d [] := ⟨fun _ => 0, 0, fun _ _ => rfl, fun t => by rw [cv_zero, co_nil]; exact cg.refl 0⟩
def ev (F : Nat → Int) (N : Nat) (x : Int) : Int := su (fun i => F i * x ^ i) N
theorem ev_ext {F : Nat → Int} {N M : Nat} (x : Int) (h : N ≤ M) (hz : ∀ i, N ≤ i → F i = 0) : ev F M x = ev F N x :=
  su_ext h fun i h1 _ => by rw [hz i h1, Int.zero_mul]
theorem co_cons (c : Int) (f : List Int) (i : Nat) : co (c :: f) (i + 1) = co f i := rfl
theorem ev_cons (c : Int) (f : List Int) (N : Nat) (x : Int) : ev (co (c :: f)) (N + 1) x = ev (co f) N x * x + c := by
  unfold ev
  rw [su_head, ← su_mulr, Int.add_comm]
  congr 1
  · exact su_congr fun i _ => by simp only [co_cons, Int.pow_succ, Int.mul_assoc]
  · show c * x ^ 0 = c
    rw [Int.pow_zero, Int.mul_one]
theorem ev_cg {p : Int} {F G : Nat → Int} (h : ∀ i, cg p (F i) (G i)) (N : Nat) (x : Int) : cg p (ev F N x) (ev G N x) := cg.su fun i _ => (h i).mul (cg.refl _)
theorem valL_ev (p : Int) (f : List Int) (x : Int) : cg p (valL p f x) (ev (co f) f.length x) := by
  induction f with
  | nil => exact cg.refl _
  | cons c f ih =>
    show cg p ((valL p f x * x + c) % p) _
    rw [List.length_cons, ev_cons]
    exact (cg.mod _ _).trans ((ih.mul (cg.refl x)).add (cg.refl c))
theorem valL_evN {p : Int} {f : List Int} {N : Nat} (x : Int) (h : f.length ≤ N) : cg p (valL p f x) (ev (co f) N x) := by
  rw [ev_ext x h fun i hi => co_ge hi]; exact valL_ev p f x
theorem ev_cv {F G : Nat → Int} {a b : Nat} (x : Int) (hF : ∀ i, a ≤ i → F i = 0) (hG : ∀ i, b ≤ i → G i = 0) : ev (cv F G) (a + b) x = ev F a x * ev G b x := by
  have h1 : ev (cv F G) (a + b) x = su (fun i => su (fun j => F j * G (i - j) * x ^ i) (i + 1)) (a + b) :=
    su_congr fun i _ => (su_mulr _ _ _).symm
  rw [h1, su_tri (fun i j => F j * G (i - j) * x ^ i), ← ev_ext x (Nat.le_add_right a b) hF]
  unfold ev
  rw [← su_mulr]
  refine su_congr fun j hj => ?_
  by_cases hja : j < a
  · have e : su (fun i => G i * x ^ i) (a + b - j) = su (fun i => G i * x ^ i) b := su_ext (by omega) fun i h1 _ => by rw [hG i h1, Int.zero_mul]
    rw [← e, ← su_mul]
    exact su_congr fun i _ => by
      rw [show j + i - j = i by omega, Int.pow_add]
      grind
  · rw [hF j (by omega), Int.zero_mul, Int.zero_mul]
    exact su_zero fun i _ => by rw [Int.zero_mul, Int.zero_mul]
theorem valL_eq {p x y : Int} {f : List Int} (hp : 0 < p) (h : cg p (valL p f x) y) : valL p f x = y % p := by
  rw [← h.emod, Int.emod_eq_of_lt (valL_bd hp f x).1 (valL_bd hp f x).2]
theorem valL_mul {p : Int} (hp : 0 < p) (f g : List Int) (x : Int) : valL p (mulL p f g) x = valL p f x * valL p g x % p := by
  refine valL_eq hp ?_
  have hl := mulL_len p f g
  refine (valL_evN (N := f.length + g.length) x (by omega)).trans ?_
  have h1 : cg p (ev (co (mulL p f g)) (f.length + g.length) x) (ev (cv (co f) (co g)) (f.length + g.length) x) :=
    ev_cg (fun i => by rw [co_mulL hp]; exact cg.mod _ _) _ _
  refine h1.trans ?_
  rw [ev_cv x (fun i => co_ge) fun i => co_ge]
  exact ((valL_ev p f x).mul (valL_ev p g x)).symm
theorem ev_lin (F G : Nat → Int) (c : Int) (N : Nat) (x : Int) : ev (fun i => F i + c * G i) N x = ev F N x + c * ev G N x := by
  unfold ev
  rw [← su_mul, ← su_add]
  exact su_congr fun i _ => by rw [Int.add_mul, Int.mul_assoc]
theorem valL_add {p : Int} (hp : 0 < p) {f : List Int} (rf : InR p f) (g : List Int) (c x : Int) : valL p (addL p f g c) x = (valL p f x + c * valL p g x) % p := by
  refine valL_eq hp ?_
  have hl := addL_len p f g c
  refine (valL_evN (N := max f.length g.length) x hl).trans ?_
  have h1 : cg p (ev (co (addL p f g c)) (max f.length g.length) x) (ev (fun i => co f i + c * co g i) (max f.length g.length) x) :=
    ev_cg (fun i => by rw [co_addL hp rf]; exact cg.mod _ _) _ _
  refine h1.trans ?_
  rw [ev_lin]
  exact ((valL_evN x (Nat.le_max_left _ _)).symm).add ((cg.refl c).mul (valL_evN x (Nat.le_max_right _ _)).symm)
theorem valL_one_ {p : Int} (hp : 2 ≤ p) (x : Int) : valL p [1] x = 1 := by
  show ((0 * x + 1) % p) = 1
  rw [Int.zero_mul, Int.zero_add, Int.emod_eq_of_lt (by omega) (by omega)]
def pw (H : Nat → Int) : Nat → Nat → Int
  | 0 => fun t => if t = 0 then 1 else 0
  | n + 1 => cv (pw H n) H
def cf (F : Nat → Int) (N : Nat) (H : Nat → Int) (t : Nat) : Int := su (fun i => F i * pw H i t) N
theorem cf_ext {F : Nat → Int} {N M : Nat} (H : Nat → Int) (t : Nat) (h : N ≤ M) (hz : ∀ i, N ≤ i → F i = 0) : cf F M H t = cf F N H t :=
  su_ext h fun i h1 _ => by rw [hz i h1, Int.zero_mul]
theorem cv_su (F : Nat → Int) (A : Nat → Nat → Int) (H : Nat → Int) (t : Nat) : ∀ N, cv (fun s => su (fun i => F i * A i s) N) H t = su (fun i => F i * cv (A i) H t) N
  | 0 => cv_zero H t
  | N + 1 => by
    show cv (fun s => su (fun i => F i * A i s) N + F N * A N s) H t = _
    rw [cv_addl, cv_su F A H t N, cv_mull]; rfl
theorem cf_succ (F : Nat → Int) (N : Nat) (H : Nat → Int) (t : Nat) : cf F (N + 1) H t = (if t = 0 then F 0 else 0) + cv (cf (fun i => F (i + 1)) N H) H t := by
  have e : cv (cf (fun i => F (i + 1)) N H) H t = su (fun i => F (i + 1) * pw H (i + 1) t) N := cv_su (fun i => F (i + 1)) (pw H) H t N
  rw [e]
  unfold cf
  rw [su_head]
  congr 1
  show F 0 * (if t = 0 then 1 else 0) = _
  split <;> simp
theorem cf_cg {p : Int} {F G : Nat → Int} (h : ∀ i, cg p (F i) (G i)) (N : Nat) (H : Nat → Int) (t : Nat) : cg p (cf F N H t) (cf G N H t) := cg.su fun i _ => (h i).mul (cg.refl _)
/-- a linear series times another one -/
theorem cv_lin (a : Int) (X : Nat → Int) (t : Nat) : cv X (co [a, 1]) t = a * X t + (if 1 ≤ t then X (t - 1) else 0) := by
  rw [cv_comm]
  unfold cv
  cases t with
  | zero => simp [su, co]
  | succ t =>
    rw [su_head, su_head, su_zero (n := t) fun i _ => by
      rw [show co [a, 1] (i + 1 + 1) = 0 from co_ge (by simp), Int.zero_mul]]
    simp [co]
/-- the times a linear factor goes through a composition with another one -/
theorem cf_lin {p a b : Int} (hab : cg p (a + b) 0) (G : Nat → Int) (N : Nat) (hz : ∀ i, N ≤ i → G i = 0) (t : Nat) :
    cg p (cf (fun i => b * G i + (if 1 ≤ i then G (i - 1) else 0)) (N + 1) (co [a, 1]) t) (if 1 ≤ t then cf G N (co [a, 1]) (t - 1) else 0) := by
  have e : cf (fun i => b * G i + (if 1 ≤ i then G (i - 1) else 0)) (N + 1) (co [a, 1]) t = b * cf G N (co [a, 1]) t + cv (cf G N (co [a, 1])) (co [a, 1]) t := by
    have e1 : cv (cf G N (co [a, 1])) (co [a, 1]) t = su (fun i => G i * pw (co [a, 1]) (i + 1) t) N := cv_su G (pw (co [a, 1])) (co [a, 1]) t N
    have e2 : su (fun i => (if 1 ≤ i then G (i - 1) else 0) * pw (co [a, 1]) i t) (N + 1) = su (fun i => G i * pw (co [a, 1]) (i + 1) t) N := by
      rw [su_head]
      simp
    rw [e1, ← e2, ← cf_ext (co [a, 1]) t (Nat.le_succ N) hz]
    unfold cf
    rw [← su_mul, ← su_add]
    exact su_congr fun i _ => by rw [Int.add_mul, Int.mul_assoc]
  rw [e, cv_lin, ← Int.add_assoc, ← Int.add_mul]
  have h0 : cg p ((b + a) * cf G N (co [a, 1]) t) 0 := by
    have := hab.mul (cg.refl (cf G N (co [a, 1]) t))
    rw [Int.zero_mul, Int.add_comm a b] at this
    exact this
  have := h0.add (cg.refl (if 1 ≤ t then cf G N (co [a, 1]) (t - 1) else 0))
  rwa [Int.zero_add] at this
theorem co_scL (p c : Int) (f : List Int) (t : Nat) : co (scL p c f) t = co f t * (c ^ (f.length - 1 - t) % p) % p := by
  rcases Nat.lt_or_ge t f.length with h | h
  · have e := scL_get p c f t h
    unfold co
    rw [List.getD_eq_getElem?_getD, List.getElem?_eq_getElem (by rw [scL_len]; exact h)]
    exact e
  · rw [co_ge h, co_ge (by rw [scL_len]; exact h), Int.zero_mul, Int.zero_emod]
theorem valL_scale {p : Int} (hp : 0 < p) (c : Int) (f : List Int) (x : Int) : cg p (valL p (scL p c f) (x * c % p)) (c ^ (f.length - 1) * valL p f x) := by
  refine (valL_ev p _ _).trans ?_
  rw [scL_len]
  refine cg.trans ?_ ((cg.refl (c ^ (f.length - 1))).mul (valL_ev p f x).symm)
  unfold ev
  rw [← su_mul]
  refine cg.su fun i hi => ?_
  rw [co_scL]
  have h1 : cg p (co f i * (c ^ (f.length - 1 - i) % p) % p * (x * c % p) ^ i) (co f i * c ^ (f.length - 1 - i) * (x * c) ^ i) :=
    ((cg.mod _ _).trans ((cg.refl _).mul (cg.mod _ _))).mul ((cg.mod _ _).pow i)
  refine h1.trans (cg.of_eq ?_)
  rw [show f.length - 1 = (f.length - 1 - i) + i by omega, Int.pow_add, show f.length - 1 - i + i - i = f.length - 1 - i by omega, Int.mul_pow]
  grind
theorem len_le_inj (φ : Int → Int) : ∀ (l l' : List Int), l.Nodup → (∀ x ∈ l, φ x ∈ l') → (∀ x ∈ l, ∀ y ∈ l, φ x = φ y → x = y) → l.length ≤ l'.length
  | [], l', _, _, _ => by simp
  | a :: l, l', hn, hm, hi => by
    rw [List.nodup_cons] at hn
    have h1 := len_le_inj φ l (l'.erase (φ a)) hn.2 (fun x hx => by
      refine (List.mem_erase_of_ne fun h => ?_).2 (hm x (by simp [hx]))
      exact hn.1 (hi x (by simp [hx]) a (by simp) h ▸ hx)) fun x hx y hy h => hi x (by simp [hx]) y (by simp [hy]) h
    have h2 := List.length_erase_of_mem (hm a (by simp))
    have h3 := List.length_pos_of_mem (hm a (by simp))
    rw [List.length_cons]; omega
theorem rts_nodup (p : Int) (f : List Int) (i : Nat) : (rts p f i).Nodup := by
  unfold rts
  refine List.Pairwise.filter _ ?_
  rw [List.pairwise_map]
  exact List.Pairwise.imp (fun h => by omega) List.nodup_range
theorem mem_rootsL {p : Int} (hp : 0 < p) {f : List Int} {x : Int} : x ∈ rootsL p f ↔ (0 ≤ x ∧ x < p) ∧ valL p f x = 0 := by
  unfold rootsL rts
  rw [List.mem_filter, List.mem_map, decide_eq_true_eq]
  constructor
  · rintro ⟨⟨n, hn, rfl⟩, h⟩
    rw [List.mem_range] at hn
    exact ⟨by omega, h⟩
  · rintro ⟨⟨h0, h1⟩, h⟩
    exact ⟨⟨x.toNat, List.mem_range.2 (by omega), by omega⟩, h⟩
theorem cg_pow0 {p c : Int} (hp : IsP p) : ∀ n, cg p (c ^ n) 0 → cg p c 0
  | 0, h => by
    exfalso
    rw [Int.pow_zero] at h
    have := cg.zero.1 h
    rw [Int.emod_eq_of_lt (by omega) (by have := hp.p2; omega)] at this
    omega
  | n + 1, h => by
    rw [Int.pow_succ] at h
    rcases cg_mul0 hp h with h | h
    · exact cg_pow0 hp n h
    · exact h
theorem scale_root {p c x : Int} (hp : IsP p) (hc : 1 ≤ c ∧ c ≤ p - 1) (f : List Int) : valL p (scL p c f) (x * c % p) = 0 ↔ valL p f x = 0 := by
  have h := valL_scale hp.p0 c f x
  have hb := valL_bd hp.p0 f x
  constructor
  · intro h0
    rw [h0] at h
    rcases cg_mul0 hp h.symm with h' | h'
    · have := cg.zero.1 (cg_pow0 hp _ h')
      rw [Int.emod_eq_of_lt (by omega) (by omega)] at this; omega
    · have := cg.zero.1 h'
      rwa [Int.emod_eq_of_lt hb.1 hb.2] at this
  · intro h0
    rw [h0, Int.mul_zero] at h
    have := cg.zero.1 h
    rwa [Int.emod_eq_of_lt (valL_bd hp.p0 _ _).1 (valL_bd hp.p0 _ _).2] at this
theorem scale_count {p c : Int} (hp : IsP p) (hc : 1 ≤ c ∧ c ≤ p - 1) (f : List Int) : (rootsL p (scL p c f)).length = (rootsL p f).length := by
  have hp0 := hp.p0
  have hi := inv_one hp (x := c) (by omega)
  have back : ∀ x, 0 ≤ x ∧ x < p → x * inv p c % p * c % p = x := fun x hx => by
    have h1 : cg p (x * inv p c % p * c) (x * 1) := ((cg.mod _ _).mul (cg.refl c)).trans (by
      have h2 := (cg.refl x).mul hi
      rwa [show x * (c * inv p c) = x * inv p c * c by grind] at h2)
    rw [Int.mul_one] at h1
    rw [h1.emod, Int.emod_eq_of_lt hx.1 hx.2]
  have forth : ∀ x, 0 ≤ x ∧ x < p → x * c % p * inv p c % p = x := fun x hx => by
    have h1 : cg p (x * c % p * inv p c) (x * 1) := ((cg.mod _ _).mul (cg.refl _)).trans (by
      have h2 := (cg.refl x).mul hi
      rwa [← Int.mul_assoc] at h2)
    rw [Int.mul_one] at h1
    rw [h1.emod, Int.emod_eq_of_lt hx.1 hx.2]
  apply Nat.le_antisymm
  · refine len_le_inj (fun x => x * inv p c % p) _ _ (rts_nodup _ _ _) (fun x hx => ?_) fun x hx y hy h => ?_
    · obtain ⟨h1, h2⟩ := (mem_rootsL hp0).1 hx
      refine (mem_rootsL hp0).2 ⟨emod_bd hp0, (scale_root hp hc f).1 ?_⟩
      rw [back x h1]; exact h2
    · have h := congrArg (fun z => z * c % p) h
      rwa [back x ((mem_rootsL hp0).1 hx).1, back y ((mem_rootsL hp0).1 hy).1] at h
  · refine len_le_inj (fun x => x * c % p) _ _ (rts_nodup _ _ _) (fun x hx => ?_) fun x hx y hy h => ?_
    · obtain ⟨h1, h2⟩ := (mem_rootsL hp0).1 hx
      exact (mem_rootsL hp0).2 ⟨emod_bd hp0, (scale_root hp hc f).2 h2⟩
    · have h := congrArg (fun z => z * inv p c % p) h
      rwa [forth x ((mem_rootsL hp0).1 hx).1, forth y ((mem_rootsL hp0).1 hy).1] at h
theorem scale_po {p c : Int} {f : List Int} (hp : IsP p) (hc : 1 ≤ c ∧ c ≤ p - 1) (pf : Po p f) : Po p (scL p c f) := by
  have hp2 := hp.p2
  refine Po.of (by rw [scL_len]; exact pf.len) (fun x hx => ?_) ?_
  · unfold scL at hx
    obtain ⟨i, _, rfl⟩ := List.mem_map.1 hx
    exact emod_bd hp.p0
  · rcases Nat.eq_zero_or_pos f.length with h | h
    · exact .inl (by rw [scL_len]; exact h)
    · right
      rw [scL_len, co_scL, show f.length - 1 - (f.length - 1) = 0 by omega, Int.pow_zero, Int.emod_eq_of_lt (a := 1) (by omega) (by omega), Int.mul_one]
      have := pf.nz.top pf.inR hp.p0 h
      rw [Int.emod_eq_of_lt (by omega) this.2]; omega
theorem compL_nz (p : Int) (f g : List Int) : Nz (compL p f g) := by
  cases f with
  | nil => exact .inl rfl
  | cons c f => exact addL_nz _ _ _ _
theorem compL_len2 (p b : Int) (f : List Int) : (compL p f [b, 1]).length ≤ f.length := by
  induction f with
  | nil => simp [compL]
  | cons c f ih =>
    have h1 := addL_len p (mulL p (compL p f [b, 1]) [b, 1]) [1] c
    have h2 := mulL_len p (compL p f [b, 1]) [b, 1]
    simp only [List.length_singleton, List.length_cons, List.length_nil] at h1 h2
    show (addL p (mulL p (compL p f [b, 1]) [b, 1]) [1] c).length ≤ _
    simp only [List.length_cons]
    omega
theorem valL_comp {p : Int} (hp : 2 ≤ p) (f g : List Int) (x : Int) : valL p (compL p f g) x = valL p f (valL p g x) := by
  induction f with
  | nil => rfl
  | cons c f ih =>
    show valL p (addL p (mulL p (compL p f g) g) [1] c) x = (valL p f (valL p g x) * valL p g x + c) % p
    rw [valL_add (by omega) (mulL_inR (by omega) _ _), valL_mul (by omega), valL_one_ hp, ih, Int.mul_one, ea_l]
theorem comp_co {p : Int} (hp : 0 < p) (f g : List Int) (t : Nat) : cg p (co (compL p f g) t) (cf (co f) f.length (co g) t) := by
  induction f generalizing t with
  | nil => exact cg.refl _
  | cons c f ih =>
    show cg p (co (addL p (mulL p (compL p f g) g) [1] c) t) _
    rw [co_addL hp (mulL_inR hp _ _), co_mulL hp, List.length_cons, cf_succ]
    refine (cg.mod _ _).trans ?_
    rw [Int.add_comm]
    refine cg.add (cg.of_eq ?_) ((cg.mod _ _).trans (cg.cv (fun i => ih i) (fun i => cg.refl _) t))
    cases t with
    | zero => simp [co]
    | succ t => rw [co_ge (l := [1]) (by simp)]; simp
theorem comp_back {p a b : Int} (hp : 0 < p) (hab : cg p (a + b) 0) (f : List Int) (t : Nat) : ∀ N, (compL p f [b, 1]).length ≤ N → cg p (cf (co (compL p f [b, 1])) N (co [a, 1]) t) (co f t) := by
  induction f generalizing t with
  | nil =>
    intro N _
    have : cf (co (compL p [] [b, 1])) N (co [a, 1]) t = 0 := su_zero fun i _ => by
      rw [show co (compL p [] [b, 1]) i = 0 from co_ge (by simp [compL]), Int.zero_mul]
    rw [this]; exact cg.refl _
  | cons c f ih =>
    intro N hN
    have hs : cg p (cf (co (compL p (c :: f) [b, 1])) (N + (compL p f [b, 1]).length + 1) (co [a, 1]) t) (co (c :: f) t) := by
      generalize hG : compL p f [b, 1] = G at ih
      have e : ∀ i, cg p (co (compL p (c :: f) [b, 1]) i) ((b * co G i + if 1 ≤ i then co G (i - 1) else 0) + c * (if i = 0 then 1 else 0)) := fun i => by
        show cg p (co (addL p (mulL p (compL p f [b, 1]) [b, 1]) [1] c) i) _
        rw [hG, co_addL hp (mulL_inR hp _ _), co_mulL hp]
        refine (cg.mod _ _).trans (((cg.mod _ _).trans (cg.of_eq (cv_lin b (co G) i))).add (cg.of_eq ?_))
        cases i with
        | zero => simp [co]
        | succ i => rw [co_ge (l := [1]) (by simp)]; simp
      refine (cf_cg e _ _ _).trans ?_
      have e2 : cf (fun i => (b * co G i + if 1 ≤ i then co G (i - 1) else 0) + c * (if i = 0 then 1 else 0)) (N + G.length + 1) (co [a, 1]) t
          = cf (fun i => b * co G i + if 1 ≤ i then co G (i - 1) else 0) (N + G.length + 1) (co [a, 1]) t + (if t = 0 then c else 0) := by
        have e3 : su (fun i => c * (if i = 0 then 1 else 0) * pw (co [a, 1]) i t) (N + G.length + 1) = if t = 0 then c else 0 := by
          rw [su_head, su_zero fun i _ => by simp]
          show c * (if 0 = 0 then 1 else 0) * (if t = 0 then 1 else 0) + 0 = _
          rw [if_pos rfl, Int.mul_one, Int.add_zero]
          by_cases ht : t = 0
          · rw [if_pos ht, if_pos ht, Int.mul_one]
          · rw [if_neg ht, if_neg ht, Int.mul_zero]
        rw [← e3]
        unfold cf
        rw [← su_add]
        exact su_congr fun i _ => Int.add_mul _ _ _
      rw [e2]
      refine ((cf_lin hab (co G) (N + G.length) (fun i hi => co_ge (by omega)) t).add (cg.refl _)).trans ?_
      cases t with
      | zero => simp only [show ¬ (1 ≤ 0) by omega, if_false, if_true, Int.zero_add]; exact cg.of_eq rfl
      | succ t =>
        simp only [show (1 ≤ t + 1) by omega, if_true, show ¬ (t + 1 = 0) by omega, if_false, Int.add_zero, Nat.add_sub_cancel]
        exact ih t _ (by omega)
    rw [cf_ext (N := N) (M := N + (compL p f [b, 1]).length + 1) _ _ (by omega) fun i hi => co_ge (by omega)] at hs
    exact hs
theorem move_po {p b : Int} (hp : 0 < p) {f : List Int} (hf : f.length ≤ 25) : Po p (compL p f [b, 1]) :=
  Po.of (by have := compL_len2 p b f; omega) (compL_inR hp _ _) (compL_nz _ _ _)
theorem move_back {p a b : Int} (hp : IsP p) (hab : cg p (a + b) 0) {f : List Int} (pf : Po p f) : compL p (compL p f [b, 1]) [a, 1] = f := by
  refine (compL_nz _ _ _).ext pf.nz fun t => ?_
  have h := (comp_co hp.p0 (compL p f [b, 1]) [a, 1] t).trans (comp_back hp.p0 hab f t _ (Nat.le_refl _))
  exact h.eq ((compL_inR hp.p0 _ _).co hp.p0 t) (pf.inR.co hp.p0 t)
theorem valL_lin {p : Int} (hp : 2 ≤ p) (r x : Int) : valL p [(-r) % p, 1] x = (x - r) % p := by
  show ((0 * x + 1) % p * x + (-r) % p) % p = _
  rw [Int.zero_mul, Int.zero_add, Int.emod_eq_of_lt (a := 1) (by omega) (by omega), Int.one_mul, ea_r, Int.sub_eq_add_neg]
theorem isP_nat (p : Nat) (h2 : 2 ≤ p) (hm : p ≤ 10007) (h : ∀ d, d < 101 → 2 ≤ d → d * d ≤ p → p % d ≠ 0) : IsP (p : Int) := by
  refine ⟨by omega, by omega, ?_⟩
  rw [Int.toNat_natCast]
  refine Pr.of_trial h2 fun d hd hdd => h d ?_ hd hdd
  exact Nat.lt_of_not_le fun hge => by
    have := Nat.mul_le_mul hge hge
    omega
theorem draw_isP {v : Int} (hv : v ∈ ([2, 3, 5, 7, 7, 11, 13, 17, 31, 101, 997, 10007] : List Int)) : IsP v := by
  simp only [List.mem_cons, List.not_mem_nil, or_false] at hv
  rcases hv with rfl | rfl | rfl | rfl | rfl | rfl | rfl | rfl | rfl | rfl | rfl | rfl
  · exact isP_nat 2 (by decide) (by decide) (by decide)
  · exact isP_nat 3 (by decide) (by decide) (by decide)
  · exact isP_nat 5 (by decide) (by decide) (by decide)
  · exact isP_nat 7 (by decide) (by decide) (by decide)
  · exact isP_nat 7 (by decide) (by decide) (by decide)
  · exact isP_nat 11 (by decide) (by decide) (by decide)
  · exact isP_nat 13 (by decide) (by decide) (by decide)
  · exact isP_nat 17 (by decide) (by decide) (by decide)
  · exact isP_nat 31 (by decide) (by decide) (by decide)
  · exact isP_nat 101 (by decide) (by decide) (by decide)
  · exact isP_nat 997 (by decide) (by decide) (by decide +kernel)
  · exact isP_nat 10007 (by decide) (by decide) (by decide +kernel)
theorem draw6_j1 {l : List Int} (hb : Bytes l) {i : Int} (h0 : 0 ≤ i) (h1 : i ≤ l.length) (s p : Int) (f : List Int) (hf : f.length ≤ 1000) :
    ∃ (q : Int) (g : List Int) (j t : Int), Ev (fun k => spec_l06Draw.j1 k p f l i s) (q, g, j, t) ∧ 0 ≤ j ∧ j ≤ l.length ∧ g.length ≤ 1001 := by
  obtain ⟨v, j, t, e, j0, j1, v0, v1⟩ := draw_next hb h0 h1 s 40
  have ho : spec_l01Own.f f = some f := own_some f (by omega)
  have hl : f.length < 17592186044416 := by omega
  by_cases c0 : v = 0
  · refine ⟨p, f ++ [0], j, t, Ev.succ ?_, j0, j1, by simp; omega⟩
    simp only [spec_l06Draw.j1, e, Option.bind_some, if_pos c0, ho, if_pos hl]; exact Ev.now _
  by_cases c1 : v = 1
  · obtain ⟨v', j', t', e', j0', j1', _⟩ := draw_pick hb j0 j1 t ([0, 1, 4, 9] : List Int) (by simp)
    refine ⟨v', f, j', t', Ev.succ ?_, j0', j1', by omega⟩
    simp only [spec_l06Draw.j1, e, Option.bind_some, if_neg c0, if_pos c1, e']; exact Ev.now _
  by_cases c2 : v = 2
  · refine ⟨p, [], j, t, Ev.succ ?_, j0, j1, by simp⟩
    simp only [spec_l06Draw.j1, e, Option.bind_some, if_neg c0, if_neg c1, if_pos c2]; exact Ev.now _
  · refine ⟨p, f, j, t, Ev.succ ?_, j0, j1, by omega⟩
    simp only [spec_l06Draw.j1, e, Option.bind_some, if_neg c0, if_neg c1, if_neg c2]; exact Ev.now _
theorem mn_le (a b : Int) : mn a b ≤ a ∧ mn a b ≤ b ∧ (1 ≤ a → 1 ≤ b → 1 ≤ mn a b) := by unfold mn; split <;> omega
theorem draw6_l0 {l : List Int} (hb : Bytes l) {p : Int} (hp : IsP p) : ∀ (d : Nat) (out : List Int) (i s : Int), 0 ≤ i → i ≤ l.length → out.length + d ≤ 10 → InR p out →
    ∃ (q : Int) (g : List Int) (j t : Int), Ev (fun k => spec_l06Draw.l0 k p out (d : Int) l i s) (q, g, j, t) ∧ 0 ≤ j ∧ j ≤ l.length ∧ g.length ≤ 1001 := by
  have hp2 := hp.p2
  have hpm := hp.pm
  intro d
  induction d with
  | zero =>
    intro out i s h0 h1 hl hr
    have hof := spec_of hp (by omega) hr
    have lof := ofL_len p out out.length
    have rof := ofL_inR (p := p) hp.p2 out out.length
    obtain ⟨v, j, t, e, j0, j1, v0, v1⟩ := draw_next hb h0 h1 s 3
    have q1 : ¬ (((0 : Nat) : Int) > 0) := by omega
    by_cases hv : v = 0
    · obtain ⟨g, j2, t2, e2, j20, j21, lg, rg⟩ := draw_poly hb (p := p) (n := 3) (by omega) (by omega) (by omega) j0 j1 t
      have lm := mulL_len p (ofL p out out.length) g
      obtain ⟨q, h, j3, t3, e3, r3⟩ := draw6_j1 hb j20 j21 t2 p (mulL p (ofL p out out.length) g) (by omega)
      refine ⟨q, h, j3, t3, Ev.succ ?_, r3⟩
      simp only [spec_l06Draw.l0, if_neg q1]
      refine Ev.bind hof ?_
      simp only [e, Option.bind_some, if_pos hv]
      refine Ev.bind e2 ?_
      refine Ev.bind (spec_product hp.p2 hp.pm (by omega) (show g.length ≤ 1000 by omega) rof rg) ?_
      exact e3
    · obtain ⟨q, h, j3, t3, e3, r3⟩ := draw6_j1 hb j0 j1 t p (ofL p out out.length) (by omega)
      refine ⟨q, h, j3, t3, Ev.succ ?_, r3⟩
      simp only [spec_l06Draw.l0, if_neg q1]
      refine Ev.bind hof ?_
      simp only [e, Option.bind_some, if_neg hv]
      exact e3
  | succ d ih =>
    intro out i s h0 h1 hl hr
    obtain ⟨v, j, t, e, j0, j1, v0, v1⟩ := draw_next hb h0 h1 s p
    obtain ⟨v', j', t', e', j0', j1', v0', v1'⟩ := draw_next hb j0 j1 t (mn p 4)
    obtain ⟨x, j2, t2, e2, j20, j21, hx⟩ := draw_pick hb j0' j1' t' ([v, v'] : List Int) (by simp)
    have hm := mn_le p 4
    have v2 := v1 (by omega)
    have v2' := v1' (hm.2.2 (by omega) (by omega))
    have hx2 : 0 ≤ x ∧ x < p := by simp at hx; omega
    obtain ⟨q, g, j3, t3, e3, r3⟩ := ih (out ++ [x]) j2 t2 j20 j21 (by simp; omega) (hr.append (InR.one hx2))
    refine ⟨q, g, j3, t3, Ev.succ ?_, r3⟩
    have q1 : ((d + 1 : Nat) : Int) > 0 := by omega
    have q2 : out.length < 17592186044416 := by omega
    have q3 : wrap64 (((d + 1 : Nat) : Int) - 1) = (d : Int) := by rw [w64 (by omega) (by omega)]; omega
    simp only [spec_l06Draw.l0, if_pos q1, e, e', e2, Option.bind_some, if_pos q2, q3]
    exact e3
theorem draw6 {l : List Int} (hb : Bytes l) {i : Int} (h0 : 0 ≤ i) (h1 : i ≤ l.length) (s : Int) :
    ∃ (q : Int) (g : List Int) (j t : Int), Ev (fun k => spec_l06Draw.f k l i s) (q, g, j, t) ∧ 0 ≤ j ∧ j ≤ l.length ∧ g.length ≤ 1001 := by
  obtain ⟨p, j, t, e, j0, j1, hp⟩ := draw_prime hb h0 h1 s
  have hp := draw_isP hp
  have hp2 := hp.p2
  obtain ⟨v, j2, t2, e2, j20, j21, v0, v1⟩ := draw_next hb j0 j1 t 12
  have v1 := v1 (by omega)
  obtain ⟨n, j3, t3, e3, j30, j31, hn⟩ := draw_pick hb j20 j21 t2 ([1, 2, 3, 4, v] : List Int) (by simp)
  have hn' : 0 ≤ n ∧ n ≤ 100 := by simp at hn; omega
  obtain ⟨f, j4, t4, e4, j40, j41, lf, rf⟩ := draw_poly hb (p := p) (n := n) (by omega) hn'.1 hn'.2 j30 j31 t3
  obtain ⟨v5, j5, t5, e5, j50, j51, _⟩ := draw_next hb j40 j41 t4 2
  by_cases hv : v5 = 0
  · obtain ⟨v6, j6, t6, e6, j60, j61, a6, b6⟩ := draw_next hb j50 j51 t5 6
    have b6 := b6 (by omega)
    obtain ⟨m, rfl⟩ : ∃ m : Nat, v6 = (m : Int) := ⟨v6.toNat, by omega⟩
    obtain ⟨q, g, j7, t7, e7, r7⟩ := draw6_l0 hb hp m [] j6 t6 j60 j61 (by simp; omega) InR.nil
    refine ⟨q, g, j7, t7, ?_, r7⟩
    simp only [spec_l06Draw.f, e, e2, e3, Option.bind_some]
    refine Ev.bind e4 ?_
    simp only [e5, Option.bind_some, if_pos hv, e6]
    exact e7
  · obtain ⟨q, g, j7, t7, e7, r7⟩ := draw6_j1 hb j50 j51 t5 p f (by omega)
    refine ⟨q, g, j7, t7, ?_, r7⟩
    simp only [spec_l06Draw.f, e, e2, e3, Option.bind_some]
    refine Ev.bind e4 ?_
    simp only [e5, Option.bind_some, if_neg hv]
    exact e7
theorem draw_rootsin {l : List Int} (hb : Bytes l) : ∃ (p : Int) (f : List Int), Ev (fun k => spec_DrawRootsIn.f k l) (p, f) ∧ f.length ≤ 1001 := by
  obtain ⟨s, hs⟩ := draw_from l hb.1
  obtain ⟨p, f, j, t, e, j0, j1, lf⟩ := draw6 hb (i := 0) (by omega) (by omega) s
  exact ⟨p, f, by simp only [spec_DrawRootsIn.f]; exact Ev.bind hs (Ev.bind e (Ev.now _)), lf⟩
theorem draw_reverse {l : List Int} (hb : Bytes l) : ∃ (p : Int) (f : List Int), Ev (fun k => spec_DrawReversePolynomial.f k l) (p, f) ∧ f.length ≤ 1001 := by
  obtain ⟨p, f, e, lf⟩ := draw_rootsin hb
  exact ⟨p, f, by simp only [spec_DrawReversePolynomial.f]; exact Ev.bind e (Ev.now _), lf⟩
theorem draw_moveroots {l : List Int} (hb : Bytes l) : ∃ (p : Int) (f : List Int) (a : Int), Ev (fun k => spec_DrawMoveRoots.f k l) (p, f, a) ∧ f.length ≤ 1001 := by
  obtain ⟨s, hs⟩ := draw_from l hb.1
  obtain ⟨p, f, j, t, e, j0, j1, lf⟩ := draw6 hb (i := 0) (by omega) (by omega) s
  obtain ⟨q, hq, eq⟩ := draw_fine p
  obtain ⟨v, j2, t2, e2, j20, j21, _⟩ := draw_next hb j0 j1 t 16
  obtain ⟨a, j3, t3, e3, _⟩ := draw_next hb j20 j21 t2 (wrap64 (q + (wrap64 (Int.tdiv v 15))))
  refine ⟨p, f, a, ?_, lf⟩
  simp only [spec_DrawMoveRoots.f]
  refine Ev.bind hs ?_
  refine Ev.bind e ?_
  refine Ev.bind eq ?_
  simp only [e2, e3, Option.bind_some]; exact Ev.now _
theorem draw_scaleroots {l : List Int} (hb : Bytes l) : ∃ (p : Int) (f : List Int) (a : Int), Ev (fun k => spec_DrawScaleRoots.f k l) (p, f, a) ∧ f.length ≤ 1001 := by
  obtain ⟨p, f, a, e, lf⟩ := draw_moveroots hb
  exact ⟨p, f, a, by simp only [spec_DrawScaleRoots.f]; exact Ev.bind e (Ev.now _), lf⟩
end Go.Proofs.Ythiignohbooelaa.H
