/- Plain laws that the claim of FnPolyValues reaches: numbers modulo a prime, lists, and what the printed functions answer. -/
import Derived.Laws.Bits64
import Derived.Laws.BitsLemmas
import Derived.Lib.ItoaLen
import Derived.Test.YtmadpicanmjhhaaGreatDoorYWWords
import Derived.Test.YtmadpicanmjhhaaGreatDoorYWMore
import Derived.Test.YtmadpicanmjhhaaGreatDoorMa7
import Derived.Test.YtmadpicanmjhhaaGreatDoorMa5
import Derived.Test.YtmadpicanmjhhaaGreatDoorMa6
import Derived.Test.YtmadpicanmjhhaaGreatDoorMa1
import Derived.Test.YtmadpicanmjhhaaGreatDoorMa2
import Derived.Test.YtmadpicanmjhhaaGreatDoorMa3
import Derived.Test.YtmadpicanmjhhaaGreatDoorMa4
import Derived.Test.YtmadpicanmjhhaaGreatDoorMa8
import Derived.Test.YtmadpicanmjhhaaGreatDoorMa9
set_option linter.unusedVariables false
set_option linter.unusedSimpArgs false
namespace Go.Proofs.YtmadpicanmjhhaaGreatDoor.Num
open Go.RowKit
def su (f : Nat → Int) : Nat → Int
 | 0 => 0
 | n + 1 => su f n + f n
theorem su_congr {f g : Nat → Int} : ∀ {n : Nat}, (∀ i, i < n → f i = g i) → su f n = su g n
 | 0, _ => rfl
 | n + 1, h => by rw [su, su, su_congr (n := n) (fun i hi => h i (by omega)), h n (by omega)]
theorem su_zero {f : Nat → Int} : ∀ {n : Nat}, (∀ i, i < n → f i = 0) → su f n = 0
 | 0, _ => rfl
 | n + 1, h => by rw [su, su_zero (n := n) (fun i hi => h i (by omega)), h n (by omega)]; rfl
theorem su_add (f g : Nat → Int) : ∀ n, su (fun i => f i + g i) n = su f n + su g n
 | 0 => rfl
 | n + 1 => by simp only [su, su_add f g n]; omega
theorem su_mul (c : Int) (f : Nat → Int) : ∀ n, su (fun i => c * f i) n = c * su f n
 | 0 => by simp [su]
 | n + 1 => by simp only [su, su_mul c f n, Int.mul_add]
theorem su_mulr (c : Int) (f : Nat → Int) (n : Nat) : su (fun i => f i * c) n = su f n * c := by
 rw [Int.mul_comm, ← su_mul]; exact su_congr fun i _ => Int.mul_comm _ _
theorem su_split (f : Nat → Int) (m : Nat) : ∀ n, su f (m + n) = su f m + su (fun i => f (m + i)) n
 | 0 => by simp [su]
 | n + 1 => by rw [← Nat.add_assoc, su, su_split f m n, su]; omega
theorem su_head (f : Nat → Int) (n : Nat) : su f (n + 1) = f 0 + su (fun i => f (i + 1)) n := by
 rw [Nat.add_comm n 1, su_split f 1 n]
 simp only [su]
 rw [Int.zero_add, su_congr (g := fun i => f (i + 1)) (fun i _ => by rw [Nat.add_comm])]
theorem su_ext {f : Nat → Int} {m n : Nat} (h : m ≤ n) (hz : ∀ i, m ≤ i → i < n → f i = 0) : su f n = su f m := by
 obtain ⟨d, rfl⟩ : ∃ d, n = m + d := ⟨n - m, by omega⟩
 rw [su_split, su_zero (n := d) (fun i hi => hz _ (by omega) (by omega))]; omega
theorem su_rev (f : Nat → Int) : ∀ n, su (fun i => f (n - 1 - i)) n = su f n
 | 0 => rfl
 | n + 1 => by
  rw [su_head, su, Int.add_comm]
  congr 1
  rw [← su_rev f n]
  exact su_congr fun i hi => by congr 1; omega
theorem su_tri (f : Nat → Nat → Int) : ∀ n, su (fun i => su (fun j => f i j) (i + 1)) n = su (fun j => su (fun i => f (j + i) j) (n - j)) n
 | 0 => rfl
 | n + 1 => by
  rw [su, su_tri f n]
  have h : ∀ j, j < n → su (fun i => f (j + i) j) (n + 1 - j) = su (fun i => f (j + i) j) (n - j) + f n j := fun j hj => by
   rw [show n + 1 - j = (n - j) + 1 by omega, su, show j + (n - j) = n by omega]
  have h3 : su (fun j => su (fun i => f (j + i) j) (n + 1 - j)) n = su (fun j => su (fun i => f (j + i) j) (n - j)) n + su (fun j => f n j) n := by rw [su_congr (n := n) h, su_add]
  have h2 : su (fun i => f (n + i) n) (n + 1 - n) = f n n := by rw [show n + 1 - n = 1 by omega]; simp [su]
  rw [su, su, h2, h3]
  omega
def cv (F G : Nat → Int) (n : Nat) : Int := su (fun i => F i * G (n - i)) (n + 1)
theorem cv_comm (F G : Nat → Int) (n : Nat) : cv F G n = cv G F n := by
 unfold cv
 rw [← su_rev]
 exact su_congr fun i hi => by
  rw [show n + 1 - 1 - i = n - i by omega, show n - (n - i) = i by omega, Int.mul_comm]
theorem cv_addl (F G H : Nat → Int) (n : Nat) : cv (fun i => F i + G i) H n = cv F H n + cv G H n := by
 unfold cv; rw [← su_add]; exact su_congr fun i _ => Int.add_mul _ _ _
theorem cv_mull (c : Int) (F G : Nat → Int) (n : Nat) : cv (fun i => c * F i) G n = c * cv F G n := by
 unfold cv; rw [← su_mul]; exact su_congr fun i _ => Int.mul_assoc _ _ _
theorem cv_zero (F : Nat → Int) (n : Nat) : cv (fun _ => 0) F n = 0 := su_zero fun i _ => Int.zero_mul _
def cg (p a b : Int) : Prop := p ∣ a - b
theorem cg.refl {p : Int} (a : Int) : cg p a a := ⟨0, by omega⟩
theorem cg.of_eq {p a b : Int} (h : a = b) : cg p a b := h ▸ cg.refl a
theorem cg.symm {p a b : Int} : cg p a b → cg p b a := fun ⟨k, h⟩ => ⟨-k, by rw [Int.mul_neg, ← h]; omega⟩
theorem cg.trans {p a b c : Int} : cg p a b → cg p b c → cg p a c := fun ⟨k, h⟩ ⟨m, h'⟩ => ⟨k + m, by rw [Int.mul_add, ← h, ← h']; omega⟩
theorem cg.add {p a b c d : Int} : cg p a b → cg p c d → cg p (a + c) (b + d) := fun ⟨k, h⟩ ⟨m, h'⟩ => ⟨k + m, by rw [Int.mul_add, ← h, ← h']; omega⟩
theorem cg.mul {p a b c d : Int} : cg p a b → cg p c d → cg p (a * c) (b * d) := fun ⟨k, h⟩ ⟨m, h'⟩ => ⟨k * c + b * m, by
 have e1 : a = b + p * k := by omega
 have e2 : c = d + p * m := by omega
 rw [e1, e2]; grind⟩
theorem cg.mod (p a : Int) : cg p (a % p) a := ⟨-(a / p), by have := Int.mul_ediv_add_emod a p; rw [Int.mul_neg]; omega⟩
theorem cg.emod {p a b : Int} (h : cg p a b) : a % p = b % p := by
 obtain ⟨k, h⟩ := h
 rw [show a = b + p * k by omega, Int.add_mul_emod_self_left]
theorem cg.of_emod {p a b : Int} (h : a % p = b % p) : cg p a b := (cg.mod p a).symm.trans (h ▸ cg.mod p b)
theorem cg.eq {p a b : Int} (h : cg p a b) (ha : 0 ≤ a ∧ a < p) (hb : 0 ≤ b ∧ b < p) : a = b := by
 have := h.emod; rwa [Int.emod_eq_of_lt ha.1 ha.2, Int.emod_eq_of_lt hb.1 hb.2] at this
theorem cg.su {p : Int} {f g : Nat → Int} : ∀ {n : Nat}, (∀ i, i < n → cg p (f i) (g i)) → cg p (su f n) (su g n)
 | 0, _ => cg.refl _
 | n + 1, h => (cg.su (n := n) fun i hi => h i (by omega)).add (h n (by omega))
theorem cg.cv {p : Int} {F F' G G' : Nat → Int} (hF : ∀ i, cg p (F i) (F' i)) (hG : ∀ i, cg p (G i) (G' i)) (n : Nat) : cg p (cv F G n) (cv F' G' n) := cg.su fun i _ => (hF i).mul (hG _)
theorem cg.pow {p a b : Int} (h : cg p a b) : ∀ n : Nat, cg p (a ^ n) (b ^ n)
 | 0 => by rw [Int.pow_zero, Int.pow_zero]; exact cg.refl 1
 | n + 1 => by rw [Int.pow_succ, Int.pow_succ]; exact (cg.pow h n).mul h
theorem inv_cg {p x : Int} (hp : IsP p) (hx : x % p ≠ 0) : cg p (x * (x ^ (p - 2).toNat % p)) 1 := by
 have h2 := hp.1
 obtain ⟨n, hn⟩ : ∃ n : Nat, p = n := ⟨p.toNat, by omega⟩
 subst hn
 have hpr : Pr n := by simpa using hp.2.2
 obtain ⟨a, ha⟩ : ∃ a : Nat, x % (n : Int) = a := ⟨(x % (n : Int)).toNat, by have := emod_bd (x := x) (p := n) (by omega); omega⟩
 have hb := emod_bd (x := x) (p := (n : Int)) (by omega)
 have hnd : ¬ n ∣ a := fun h => by have := Nat.le_of_dvd (by omega) h; omega
 have hf := hpr.fermat1 hnd
 have h1 : cg n ((a : Int) ^ (n - 1)) 1 := by
  refine cg.of_emod ?_
  have : ((a ^ (n - 1) % n : Nat) : Int) = 1 := by rw [hf]; rfl
  rw [Int.natCast_emod, Int.natCast_pow] at this
  rw [this, Int.emod_eq_of_lt (by omega) (by omega)]
 have hxa : cg n x a := ha ▸ (cg.mod n x).symm
 refine ((cg.refl x).mul (cg.mod _ _)).trans ?_
 have e : x * x ^ ((n : Int) - 2).toNat = x ^ (n - 1) := by
  rw [Int.mul_comm, ← Int.pow_succ]; congr 1; omega
 rw [e]
 exact (hxa.pow _).trans h1
end Go.Proofs.YtmadpicanmjhhaaGreatDoor.Num
namespace Go.Proofs.YtmadpicanmjhhaaGreatDoor.H
open Go.RowKit Go.Proofs.YtmadpicanmjhhaaGreatDoorW.PrintWords Go.Proofs.YtmadpicanmjhhaaGreatDoorW.PrintLast Go.Proofs.YtmadpicanmjhhaaGreatDoorW.PrintMore Go.Proofs.YtmadpicanmjhhaaGreatDoor.Num
theorem code_cases (p : Int) (b : Bool) (ls : List (List Int)) :
  (codeL p true ls ≠ 0 ∧ codeL p b ls = codeL p true ls) ∨ (codeL p true ls = 0 ∧ b = false ∧ codeL p b ls = 2 ∧ IsP p) ∨ (codeL p true ls = 0 ∧ b = true ∧ codeL p b ls = 0 ∧ IsP p ∧ ∀ l ∈ ls, Po p l) := by
 by_cases h : codeL p true ls = 0
 ·
  obtain ⟨hp, _, hq⟩ := codeL_0 h
  cases b with
  | true => exact .inr (.inr ⟨h, rfl, h, hp, hq⟩)
  | false =>
   refine .inr (.inl ⟨h, rfl, ?_, hp⟩)
   have hall : ls.all (polyB p) = true := List.all_eq_true.2 fun l hl => polyB_iff.2 (hq l hl)
   simp [codeL, hall]
 ·
  refine .inl ⟨h, ?_⟩
  unfold codeL at h ⊢
  cases ha : ls.all (polyB p) with
  | false => simp
  | true => rw [ha] at h; cases hp : primeB p <;> simp [hp] at h ⊢
theorem in_any (x a b : Int) : spec_l01In.f x a b = some (decide (a ≤ x) && decide (x ≤ b)) := by
 unfold spec_l01In.f; by_cases h : x ≥ a
 ·
  rw [if_pos h, decide_eq_true h, Bool.true_and]
 ·
  rw [if_neg h, decide_eq_false h, Bool.false_and]
theorem in_has {p : Int} (hp : IsP p) (x : Int) : spec_l01In.f x 0 (wrap64 (p - 1)) = some (hasB p x) := by
 rw [in_any, w64 (by have := hp.1; omega) (by have := hp.2.1; omega)]; unfold hasB; congr 2; exact decide_eq_decide.2 (by omega)
theorem _root_.Go.Proofs.YtmadpicanmjhhaaGreatDoor.Num.IsP.p2 {p : Int} (h : IsP p) : 2 ≤ p := h.1
theorem _root_.Go.Proofs.YtmadpicanmjhhaaGreatDoor.Num.IsP.pm {p : Int} (h : IsP p) : p ≤ 10007 := h.2.1
theorem _root_.Go.Proofs.YtmadpicanmjhhaaGreatDoor.Num.IsP.p0 {p : Int} (h : IsP p) : 0 < p := by have := h.1; omega
def valL (p : Int) (f : List Int) (x : Int) : Int := f.foldr (fun c o => (o * x + c) % p) 0
theorem valL_bd {p : Int} (hp : 0 < p) (f : List Int) (x : Int) : 0 ≤ valL p f x ∧ valL p f x < p := by
 cases f with
 | nil => exact ⟨Int.le_refl _, hp⟩
 | cons c f => exact emod_bd hp
theorem hor_bd {p o x c : Int} (hp2 : p ≤ 10007) (ho : 0 ≤ o ∧ o < p) (hx : 0 ≤ x ∧ x < p) (hc : 0 ≤ c ∧ c < p) : 0 ≤ o * x ∧ o * x ≤ 1000700000 ∧ 0 ≤ o * x + c ∧ o * x + c ≤ 2000000000 := by
 have := mul_bd2 hp2 ho (y := x) (by omega); omega
theorem impl_val {p x : Int} {f : List Int} (hp : 2 ≤ p) (hp2 : p ≤ 10007) (rf : InR p f) (hx : 0 ≤ x ∧ x < p) : impl_field_value.f p f x = some (valL p f x) := by
 unfold impl_field_value.f
 rw [if_neg (by omega)]
 congr 1
 induction f with
 | nil => rfl
 | cons c f ih =>
  have hc := rf c (by simp)
  have rf' : InR p f := fun y hy => rf y (by simp [hy])
  have hb := valL_bd (p := p) (by omega) f x
  have h := hor_bd hp2 hb hx hc
  rw [List.foldr_cons, ih rf', stepv, w64 (x := valL p f x * x) (by omega) (by omega), w64 (by omega) (by omega), impl_mod (by omega) (by omega)]
  rfl
theorem spec_val {p x : Int} {f : List Int} (hp : 2 ≤ p) (hp2 : p ≤ 10007) (hf : f.length ≤ 1000) (rf : InR p f) (hx : 0 ≤ x ∧ x < p) : Ev (fun k => spec_l01At.f k p f x) (valL p f x) := by
 have loop : ∀ n, n ≤ f.length → Ev (fun k => spec_l01At.l0 k p f x (valL p (f.drop n) x) ((n : Int) - 1)) (valL p f x) := by
  intro n
  induction n with
  | zero => intro _; refine Ev.succ ?_; simp (disch := omega) only [spec_l01At.l0, if_neg, List.drop_zero]; exact Ev.now _
  | succ n ih =>
   intro hn
   have hb := valL_bd (p := p) (by omega) (f.drop (n + 1)) x
   have hc := rf.get (by omega) n
   have h := hor_bd hp2 hb hx hc
   have e : valL p (f.drop n) x = (valL p (f.drop (n + 1)) x * x + f.getD n 0) % p := by
    rw [List.drop_eq_getElem_cons (show n < f.length by omega), List.getD_eq_getElem?_getD, List.getElem?_eq_getElem (show n < f.length by omega)]
    rfl
   have hi := ih (by omega)
   rw [e] at hi
   refine Ev.succ ?_
   simp (disch := omega) only [spec_l01At.l0, ws1, if_pos, if_neg, rd_n, w64, wm1, tmod_nn]
   exact hi
 have h := loop f.length (Nat.le_refl _)
 rw [List.drop_length] at h
 simp only [spec_l01At.f, wm1 (show f.length ≤ 1000000000000 by omega)]
 exact h
theorem comp_step {p c : Int} {X : List Int} (hp : 2 ≤ p) (rX : InR p X) (hc : 0 ≤ c ∧ c < p) : addL p X (trimL [c]) 1 = addL p X [1] c := by
 by_cases h0 : c = 0
 ·
  subst h0
  cases X with
  | nil => simp [addL, trimL, tlen, ad, pad]
  | cons a X =>
   have ha := rX a (by simp)
   have e : a % p = a := Int.emod_eq_of_lt ha.1 ha.2
   simp [addL, trimL, tlen, ad, pad, e]
 ·
  have e1 : trimL [c] = [c] := by simp [trimL, tlen, h0]
  rw [e1]
  simp [addL, ad]
theorem compOk_of {p : Int} {f g : List Int} (hp : 2 ≤ p) (hp2 : p ≤ 10007) (rf : InR p f) (rg : InR p g) (lf : f.length ≤ 25) (lg : g.length ≤ 25) : compOk p f g = true := by
 simp only [compOk, Bool.and_eq_true, decide_eq_true_eq, List.all_eq_true, hasB_iff]
 exact ⟨⟨⟨⟨⟨hp, hp2⟩, rf⟩, rg⟩, lf⟩, lg⟩
theorem impl_comp {p : Int} {f g : List Int} (hp : 2 ≤ p) (hp2 : p ≤ 10007) (rf : InR p f) (rg : InR p g) (lf : f.length ≤ 25) (lg : g.length ≤ 25) : impl_field_compose.f p f g = some (compL p f g) := by
 unfold impl_field_compose.f; rw [if_pos (compOk_of hp hp2 rf rg lf lg)]
theorem compL_inR {p : Int} (hp : 0 < p) (f g : List Int) : InR p (compL p f g) := by
 cases f with
 | nil => exact InR.nil
 | cons c f => exact addL_inR hp (mulL_inR hp _ _) _ _
theorem compL_len {p : Int} (f g : List Int) (lg : g.length ≤ 25) : (compL p f g).length ≤ 24 * f.length + 1 := by
 induction f with
 | nil => simp [compL]
 | cons c f ih =>
  have h1 := addL_len p (mulL p (compL p f g) g) [1] c
  have h2 := mulL_len p (compL p f g) g
  simp only [List.length_singleton] at h1
  show (addL p (mulL p (compL p f g) g) [1] c).length ≤ _
  simp only [List.length_cons]
  omega
theorem spec_comp {p : Int} {f g : List Int} (hp : 2 ≤ p) (hp2 : p ≤ 10007) (rf : InR p f) (rg : InR p g) (lf : f.length ≤ 25) (lg : g.length ≤ 25) : Ev (fun k => spec_l01Compose.f k p f g) (compL p f g) := by
 have loop : ∀ n, n ≤ f.length → Ev (fun k => spec_l01Compose.l0 k p f g (compL p (f.drop n) g) ((n : Int) - 1)) (compL p f g) := by
  intro n
  induction n with
  | zero => intro _; refine Ev.succ ?_; simp (disch := omega) only [spec_l01Compose.l0, if_neg, List.drop_zero]; exact Ev.now _
  | succ n ih =>
   intro hn
   have hc := rf.get (by omega) n
   have hl := compL_len (p := p) (f.drop (n + 1)) g lg
   rw [List.length_drop] at hl
   have hr := compL_inR (p := p) (by omega) (f.drop (n + 1)) g
   have hl2 := mulL_len p (compL p (f.drop (n + 1)) g) g
   have hr2 := mulL_inR (p := p) (by omega) (compL p (f.drop (n + 1)) g) g
   have e : compL p (f.drop n) g = addL p (mulL p (compL p (f.drop (n + 1)) g) g) (trimL [f.getD n 0]) 1 := by
    rw [comp_step hp hr2 hc, List.drop_eq_getElem_cons (show n < f.length by omega), List.getD_eq_getElem?_getD, List.getElem?_eq_getElem (show n < f.length by omega)]
    rfl
   have hi := ih (by omega)
   rw [e] at hi
   have h1 := spec_product hp hp2 (f := compL p (f.drop (n + 1)) g) (g := g) (by omega) (by omega) hr rg
   have h2 := spec_trim [f.getD n 0] (by simp)
   have ht := trimL_len [f.getD n 0]
   have h3 := spec_add (c := 1) (f := mulL p (compL p (f.drop (n + 1)) g) g) (g := trimL [f.getD n 0]) hp hp2 (by omega) (by simp only [List.length_singleton] at ht; omega) hr2 (InR.one hc).trim (by omega) (by omega)
   refine Ev.succ ?_
   simp (disch := omega) only [spec_l01Compose.l0, ws1, if_pos, rd_n, wm1]
   exact Ev.bind h1 (Ev.bind h2 (Ev.bind h3 hi))
 have h := loop f.length (Nat.le_refl _)
 rw [List.drop_length] at h
 simp only [spec_l01Compose.f, wm1 (show f.length ≤ 1000000000000 by omega)]
 exact h
def co (l : List Int) (i : Nat) : Int := l.getD i 0
theorem co_ge {l : List Int} {i : Nat} (h : l.length ≤ i) : co l i = 0 := by simp [co, List.getD_eq_getElem?_getD, h]
theorem co_set (l : List Int) (i j : Nat) (x : Int) (h : i < l.length) : co (l.set i x) j = if j = i then x else co l j := by
 unfold co
 simp only [List.getD_eq_getElem?_getD]
 by_cases e : j = i
 ·
  subst e; rw [List.getElem?_set_self h, if_pos rfl]; rfl
 ·
  rw [List.getElem?_set_ne (Ne.symm e), if_neg e]
theorem co_take {l : List Int} {n i : Nat} : co (l.take n) i = if i < n then co l i else 0 := by
 unfold co
 simp only [List.getD_eq_getElem?_getD, List.getElem?_take]
 split <;> rfl
theorem InR.co {p : Int} {l : List Int} (h : InR p l) (hp : 0 < p) (i : Nat) : 0 ≤ co l i ∧ co l i < p := h.get hp i
theorem tlen_zero (l : List Int) : ∀ n i, tlen l n ≤ i → i < n → l.getD i 0 = 0
 | 0, i, _, h => by omega
 | n + 1, i, h1, h2 => by
  unfold tlen at h1
  split at h1
  ·
   rename_i h0
   by_cases e : i = n
   ·
    subst e; exact h0
   ·
    exact tlen_zero l n i h1 (by omega)
  ·
   omega
theorem tlen_last (l : List Int) : ∀ n, tlen l n = 0 ∨ l.getD (tlen l n - 1) 0 ≠ 0
 | 0 => .inl rfl
 | n + 1 => by
  unfold tlen
  split
  ·
   exact tlen_last l n
  ·
   right; simpa using ‹_›
theorem trimL_length (l : List Int) : (trimL l).length = tlen l l.length := by
 unfold trimL; rw [List.length_take, Nat.min_eq_left (tlen_le _ _)]
theorem co_trim (l : List Int) (i : Nat) : co (trimL l) i = co l i := by
 unfold trimL
 rw [co_take]
 split
 ·
  rfl
 ·
  rename_i h
  by_cases hi : i < l.length
  ·
   exact (tlen_zero l l.length i (by omega) hi).symm
  ·
   exact (co_ge (by omega)).symm
def Nz (l : List Int) : Prop := l.length = 0 ∨ co l (l.length - 1) ≠ 0
theorem Nz.trim (l : List Int) : Nz (trimL l) := by
 unfold Nz
 rw [co_trim, trimL_length]
 exact tlen_last l l.length
theorem Nz.len_le {l : List Int} (h : Nz l) {n : Nat} (hz : ∀ i, n ≤ i → co l i = 0) : l.length ≤ n := by
 rcases h with h | h
 ·
  omega
 ·
  rcases Nat.lt_or_ge n l.length with hl | hl
  ·
   exact absurd (hz _ (by omega)) h
  ·
   exact hl
theorem Nz.ext {l l' : List Int} (h : Nz l) (h' : Nz l') (he : ∀ i, co l i = co l' i) : l = l' := by
 have h1 : l.length ≤ l'.length := h.len_le fun i hi => by rw [he]; exact co_ge hi
 have h2 : l'.length ≤ l.length := h'.len_le fun i hi => by rw [← he]; exact co_ge hi
 refine List.ext_getElem (by omega) fun i a b => ?_
 have := he i
 unfold co at this
 rwa [List.getD_eq_getElem?_getD, List.getD_eq_getElem?_getD, List.getElem?_eq_getElem a, List.getElem?_eq_getElem b] at this
theorem Po.nz {p : Int} {l : List Int} (h : Po p l) : Nz l := by
 rcases h.last with h0 | h0
 ·
  exact .inl h0
 ·
  by_cases hl : l.length = 0
  ·
   exact .inl hl
  ·
   right
   unfold co
   rwa [← rd_nat, show ((l.length - 1 : Nat) : Int) = (l.length : Int) - 1 by omega]
theorem Po.of {p : Int} {l : List Int} (hl : l.length ≤ 25) (hr : InR p l) (hz : Nz l) : Po p l := by
 refine ⟨hl, hr, ?_⟩
 rcases hz with h | h
 ·
  exact .inl h
 ·
  by_cases h0 : l.length = 0
  ·
   exact .inl h0
  ·
   right
   unfold co at h
   rwa [← rd_nat, show ((l.length - 1 : Nat) : Int) = (l.length : Int) - 1 by omega] at h
theorem Nz.top {p : Int} {l : List Int} (h : Nz l) (hr : InR p l) (hp : 0 < p) (h0 : 0 < l.length) : 0 < co l (l.length - 1) ∧ co l (l.length - 1) < p := by
 have h1 := hr.co hp (l.length - 1)
 rcases h with h2 | h2
 ·
  omega
 ·
  omega
theorem inv_one {p x : Int} (hp : IsP p) (hx : 0 < x ∧ x < p) : cg p (x * inv p x) 1 := inv_cg hp (by rw [Int.emod_eq_of_lt (by omega) hx.2]; omega)
theorem u64_small (n : Int) (h₀ : 0 ≤ n) (h₁ : n < 2 ^ 63) : IntKind.u64.wrap n = n := by rw [IntKind.wrap_u64]; omega
theorem draw_bits (x : Int) : 0 ≤ Go.bits .and .u64 (IntKind.u64.wrap x / 8589934592) 16777215 ∧ Go.bits .and .u64 (IntKind.u64.wrap x / 8589934592) 16777215 < 16777216 := by
 have e : IntKind.u64.wrap x = x % 18446744073709551616 := IntKind.wrap_u64 x
 rw [e]
 have h := bits_mask .u64 63 (by decide) u64_small 24 (by decide) (x % 18446744073709551616 / 8589934592) (by omega) (by omega)
 have e2 : (2 : Int) ^ 24 - 1 = 16777215 := by decide
 have e3 : (2 : Int) ^ 24 = 16777216 := by decide
 rw [e2, e3] at h
 rw [h]; omega
def Bytes (l : List Int) : Prop := l.length ≤ 1000000 ∧ ∀ x ∈ l, 0 ≤ x ∧ x ≤ 255
theorem byte_rd {l : List Int} (h : Bytes l) (i : Int) : 0 ≤ rd l i ∧ rd l i ≤ 255 := by
 unfold rd
 rw [List.getD_eq_getElem?_getD]
 cases hx : l[i.toNat]? with
 | none => simp
 | some x => simpa using h.2 x (List.mem_of_getElem? hx)
theorem draw_next {l : List Int} (hb : Bytes l) {i : Int} (h0 : 0 ≤ i) (h1 : i ≤ l.length) (s n : Int) :
  ∃ v j t : Int, spec_l01Next.f l i s n = some (v, j, t) ∧ 0 ≤ j ∧ j ≤ l.length ∧ 0 ≤ v ∧ (1 ≤ n → v < n) := by
 unfold spec_l01Next.f
 obtain ⟨b0, b1⟩ := draw_bits (IntKind.u64.wrap (s * 6364136223846793005) + 1442695040888963407)
 generalize Go.bits .and .u64 (IntKind.u64.wrap (IntKind.u64.wrap (s * 6364136223846793005) + 1442695040888963407) / 8589934592) 16777215 = b at b0 b1 ⊢
 have hl := hb.1
 have hw : wrap64 b = b := w64 (by omega) (by omega)
 by_cases c1 : n < 1
 ·
  exact ⟨0, i, s, by rw [if_pos c1], h0, h1, by omega, by omega⟩
 ·
  by_cases c2 : i < l.length
  ·
   obtain ⟨r0, r1⟩ := byte_rd hb i
   have hw2 : wrap64 (rd l i) = rd l i := w64 (by omega) (by omega)
   have hw3 : wrap64 (b + rd l i) = b + rd l i := w64 (by omega) (by omega)
   have hw4 : wrap64 (i + 1) = i + 1 := w64 (by omega) (by omega)
   refine ⟨Int.tmod (b + rd l i) n, i + 1, _, by rw [if_neg c1, if_pos c2, if_pos h0, if_neg (show ¬ n = 0 by omega), hw, hw2, hw3, hw4], by omega, by omega, ?_, fun _ => ?_⟩
   ·
    rw [tmod_nn (by omega)]; exact Int.emod_nonneg _ (by omega)
   ·
    rw [tmod_nn (by omega)]; exact Int.emod_lt_of_pos _ (by omega)
  ·
   refine ⟨Int.tmod b n, i, _, by rw [if_neg c1, if_neg c2, if_neg (show ¬ n = 0 by omega), hw], h0, h1, ?_, fun _ => ?_⟩
   ·
    rw [tmod_nn b0]; exact Int.emod_nonneg _ (by omega)
   ·
    rw [tmod_nn b0]; exact Int.emod_lt_of_pos _ (by omega)
theorem draw_pick {l : List Int} (hb : Bytes l) {i : Int} (h0 : 0 ≤ i) (h1 : i ≤ l.length) (s : Int) (c : List Int) (hc : 0 < c.length) :
  ∃ v j t : Int, spec_l01Pick.f l i s c = some (v, j, t) ∧ 0 ≤ j ∧ j ≤ l.length ∧ v ∈ c := by
 obtain ⟨v, j, t, e, j0, j1, v0, v1⟩ := draw_next hb h0 h1 s (c.length : Int)
 have v2 := v1 (by omega)
 obtain ⟨m, rfl⟩ : ∃ m : Nat, v = (m : Int) := ⟨v.toNat, by omega⟩
 refine ⟨c[m]'(by omega), j, t, ?_, j0, j1, List.getElem_mem _⟩
 simp only [spec_l01Pick.f, e, Option.bind_some, if_pos v0, if_pos v2, rd_lt c m (by omega)]
theorem draw_prime {l : List Int} (hb : Bytes l) {i : Int} (h0 : 0 ≤ i) (h1 : i ≤ l.length) (s : Int) :
  ∃ v j t : Int, spec_l01DrawPrime.f l i s = some (v, j, t) ∧ 0 ≤ j ∧ j ≤ l.length ∧ v ∈ ([2, 3, 5, 7, 7, 11, 13, 17, 31, 101, 997, 10007] : List Int) := by
 obtain ⟨v, j, t, e, r⟩ := draw_pick hb h0 h1 s ([2, 3, 5, 7, 7, 11, 13, 17, 31, 101, 997, 10007] : List Int) (by simp)
 exact ⟨v, j, t, by simp only [spec_l01DrawPrime.f, e, Option.bind_some], r⟩
theorem draw_near {l : List Int} (hb : Bytes l) {i : Int} (h0 : 0 ≤ i) (h1 : i ≤ l.length) (s n : Int) :
  ∃ v j t : Int, spec_l01Near.f l i s n = some (v, j, t) ∧ 0 ≤ j ∧ j ≤ l.length := by
 obtain ⟨v, j, t, e, j0, j1, _⟩ := draw_next hb h0 h1 s 14
 obtain ⟨v', j', t', e', j0', j1', _⟩ := draw_pick hb j0 j1 t ([(-1), wrap64 (n + 1), 1099511627776, (-4611686018427387904)] : List Int) (by simp)
 obtain ⟨v2, j2, t2, e2, j02, j12, _⟩ := draw_next hb j0 j1 t (wrap64 (n + 1))
 by_cases hv : v = 0
 ·
  exact ⟨v', j', t', by simp only [spec_l01Near.f, e, Option.bind_some, if_pos hv, e'], j0', j1'⟩
 ·
  exact ⟨v2, j2, t2, by simp only [spec_l01Near.f, e, Option.bind_some, if_neg hv, e2], j02, j12⟩
theorem draw_any {l : List Int} (hb : Bytes l) {i : Int} (h0 : 0 ≤ i) (h1 : i ≤ l.length) (s : Int) :
  ∃ v j t : Int, spec_l01Any.f l i s = some (v, j, t) ∧ 0 ≤ j ∧ j ≤ l.length := by
 obtain ⟨v, j, t, e, j0, j1, _⟩ := draw_next hb h0 h1 s 24
 obtain ⟨v', j', t', e', j0', j1', _⟩ := draw_pick hb j0 j1 t ([0, 1, 4, 9, 10006, 10009, (-3)] : List Int) (by simp)
 obtain ⟨v2, j2, t2, e2, j02, j12, _⟩ := draw_prime hb j0 j1 t
 by_cases hv : v = 0
 ·
  exact ⟨v', j', t', by simp only [spec_l01Any.f, e, Option.bind_some, if_pos hv, e'], j0', j1'⟩
 ·
  exact ⟨v2, j2, t2, by simp only [spec_l01Any.f, e, Option.bind_some, if_neg hv, e2], j02, j12⟩
theorem draw_from (l : List Int) (hl : l.length ≤ 1000000) : ∃ s : Int, Ev (fun k => spec_l01From.f k l) (l, 0, s) := by
 have loop : ∀ d i : Nat, i + d = l.length → ∀ s : Int, ∃ t : Int, Ev (fun k => spec_l01From.l0 k l (i : Int) l 0 s) (l, 0, t) := by
  intro d
  induction d with
  | zero => intro i h s; exact ⟨s, by refine Ev.succ ?_; simp (disch := omega) only [spec_l01From.l0, if_neg]; exact Ev.now _⟩
  | succ d ih =>
   intro i h s
   by_cases c : (i : Int) < 4096
   ·
    obtain ⟨t, ht⟩ := ih (i + 1) (by omega) (IntKind.u64.wrap ((IntKind.u64.wrap ((IntKind.u64.wrap (s * 1099511628211)) + (IntKind.u64.wrap (rd l (i : Int))))) + 103))
    refine ⟨t, Ev.succ ?_⟩
    simp (disch := omega) only [spec_l01From.l0, if_pos, wp1]; exact ht
   ·
    exact ⟨s, by refine Ev.succ ?_; simp (disch := omega) only [spec_l01From.l0, if_pos, if_neg]; exact Ev.now _⟩
 simp only [spec_l01From.f]
 exact loop l.length 0 (by omega) _
theorem draw_list0 {l : List Int} (hb : Bytes l) (p c : Int) (hp : 1 ≤ p) : ∀ (d : Nat) (out : List Int) (i s : Int), 0 ≤ i → i ≤ l.length → d ≤ 1000 → out.length ≤ 1000000 - d → InR p out →
  ∃ (r : List Int) (j t : Int), Ev (fun k => spec_l01DrawList.l0 k p (d : Int) out c l i s) (r, j, t) ∧ 0 ≤ j ∧ j ≤ l.length ∧ r.length = out.length + d ∧ InR p r := by
 intro d
 induction d with
 | zero =>
  intro out i s h0 h1 hd hl hr
  refine ⟨out, i, s, Ev.succ ?_, h0, h1, by omega, hr⟩
  simp (disch := omega) only [spec_l01DrawList.l0, if_neg]; exact Ev.now _
 | succ d ih =>
  intro out i s h0 h1 hd hl hr
  have q1 : ((d + 1 : Nat) : Int) > 0 := by omega
  have q2 : out.length < 17592186044416 := by omega
  have q3 : wrap64 (((d + 1 : Nat) : Int) - 1) = (d : Int) := by rw [w64 (by omega) (by omega)]; omega
  have put : ∀ (x : Int) (i s : Int), 0 ≤ i → i ≤ l.length → 0 ≤ x ∧ x < p → ∃ (r : List Int) (j t : Int), Ev (fun k => spec_l01DrawList.l0 k p (d : Int) (out ++ [x]) c l i s) (r, j, t) ∧ 0 ≤ j ∧ j ≤ l.length ∧ r.length = out.length + (d + 1) ∧ InR p r := fun x i s h0 h1 hx => by
   obtain ⟨r, j, t, e, j0, j1, e2, e3⟩ := ih (out ++ [x]) i s h0 h1 (by omega) (by simp; omega) (hr.append (InR.one hx))
   exact ⟨r, j, t, e, j0, j1, by rw [e2]; simp; omega, e3⟩
  by_cases hc : c = 0
  ·
   obtain ⟨v, j, t, e, j0, j1, v0, v1⟩ := draw_next hb h0 h1 s p
   obtain ⟨r, j', t', e', rest⟩ := put v j t j0 j1 ⟨v0, v1 hp⟩
   refine ⟨r, j', t', Ev.succ ?_, rest⟩
   simp only [spec_l01DrawList.l0, if_pos q1, if_pos hc, e, Option.bind_some, if_pos q2, q3]; exact e'
  ·
   obtain ⟨v, j, t, e, j0, j1, v0, v1⟩ := draw_next hb h0 h1 s 3
   by_cases hv : v > 0
   ·
    obtain ⟨v', j', t', e', j0', j1', v0', v1'⟩ := draw_next hb j0 j1 t p
    obtain ⟨r, j2, t2, e2, rest⟩ := put v' j' t' j0' j1' ⟨v0', v1' hp⟩
    refine ⟨r, j2, t2, Ev.succ ?_, rest⟩
    simp only [spec_l01DrawList.l0, if_pos q1, if_neg hc, e, Option.bind_some, if_pos hv, e', if_pos q2, q3]; exact e2
   ·
    obtain ⟨r, j2, t2, e2, rest⟩ := put 0 j t j0 j1 ⟨Int.le_refl 0, by omega⟩
    refine ⟨r, j2, t2, Ev.succ ?_, rest⟩
    simp only [spec_l01DrawList.l0, if_pos q1, if_neg hc, e, Option.bind_some, if_neg hv, if_pos q2, q3]; exact e2
theorem draw_poly {l : List Int} (hb : Bytes l) {p n i : Int} (hp : 1 ≤ p) (n0 : 0 ≤ n) (n1 : n ≤ 100) (h0 : 0 ≤ i) (h1 : i ≤ l.length) (s : Int) :
  ∃ (r : List Int) (j t : Int), Ev (fun k => spec_l01DrawPoly.f k l i s p n) (r, j, t) ∧ 0 ≤ j ∧ j ≤ l.length ∧ r.length ≤ 102 ∧ InR p r := by
 have hw : wrap64 (n + 2) = n + 2 := w64 (by omega) (by omega)
 obtain ⟨v, j, t, e, j0, j1, v0, v1⟩ := draw_next hb h0 h1 s (n + 2)
 have v2 := v1 (by omega)
 obtain ⟨m, rfl⟩ : ∃ m : Nat, v = (m : Int) := ⟨v.toNat, by omega⟩
 obtain ⟨c, j', t', e', j0', j1', _⟩ := draw_next hb j0 j1 t 3
 obtain ⟨r, j2, t2, e2, j02, j12, e3, e4⟩ := draw_list0 hb p c hp m [] j' t' j0' j1' (by omega) (by simp) InR.nil
 simp only [List.length_nil] at e3
 have ht := trimL_len r
 refine ⟨trimL r, j2, t2, ?_, j02, j12, by omega, e4.trim⟩
 simp only [spec_l01DrawPoly.f, hw, e, Option.bind_some]
 refine Ev.bind (show Ev (fun k => spec_l01DrawList.f k l j t p (m : Int)) (r, j2, t2) from ?_) ?_
 ·
  simp only [spec_l01DrawList.f, e', Option.bind_some]; exact e2
 ·
  exact Ev.bind (spec_trim r (by omega)) (Ev.now _)
theorem draw_bad0 (l : List Int) (i s : Int) : ∀ (d : Nat) (out : List Int), out.length + d = 26 → Ev (fun k => spec_l01Bad.l0 k out l i s) (out ++ List.replicate d 1, i, s)
 | 0, out, h => by
  refine Ev.succ ?_
  simp only [spec_l01Bad.l0, if_neg (show ¬ ((out.length : Int) ≤ 25) by omega)]
  exact Ev_to (Ev.now _) (by simp)
 | d + 1, out, h => by
  refine Ev.succ ?_
  simp only [spec_l01Bad.l0, if_pos (show (out.length : Int) ≤ 25 by omega), if_pos (show out.length < 17592186044416 by omega)]
  exact Ev_to (draw_bad0 l i s d (out ++ [1]) (by simp; omega)) (by rw [List.append_assoc]; rfl)
theorem mx_1 (v : Int) : 1 ≤ mx v 1 := by unfold mx; split <;> omega
theorem impl_deg (l : List Int) (h : l.length ≤ 1000000000000) : impl_degree.f l = some ((l.length : Int) - 1) := by
 simp (disch := omega) only [impl_degree.f, impl_length_int64.f, Option.bind_some, w64]
theorem valL_one {p r : Int} {f : List Int} (hp : 0 < p) (pf : Po p f) (h0 : 0 < f.length) (hv : valL p f r = 0) : 2 ≤ f.length := by
 rcases Nat.lt_or_ge f.length 2 with h | h
 ·
  obtain ⟨c, rfl⟩ : ∃ c, f = [c] := List.length_eq_one_iff.1 (by omega)
  have hc := pf.inR c (by simp)
  have ht := pf.nz.top pf.inR hp (by simp)
  simp [valL, co] at hv ht
  rw [Int.emod_eq_of_lt hc.1 hc.2] at hv
  omega
 ·
  exact h
theorem co_pad (f : List Int) (n t : Nat) : co (pad f n) t = co f t := by
 unfold pad co
 simp only [List.getD_eq_getElem?_getD]
 by_cases h : t < f.length
 ·
  rw [List.getElem?_append_left h]
 ·
  rw [List.getElem?_append_right (by omega), List.getElem?_eq_none (show f.length ≤ t by omega)]
  simp only [List.getElem?_replicate]
  split <;> rfl
theorem ad_get (p c : Int) (g : List Int) (t : Nat) : ∀ d i acc, i + d ≤ acc.length → co (ad p c g acc i d) t = if i ≤ t ∧ t < i + d then (co acc t + c * co g t) % p else co acc t
 | 0, i, acc, h => by rw [if_neg (by omega)]; rfl
 | d + 1, i, acc, h => by
  rw [ad, ad_get p c g t d (i + 1) _ (by simpa using by omega), co_set _ _ _ _ (by omega)]
  by_cases e : t = i
  ·
   subst e
   rw [if_neg (by omega), if_pos rfl, if_pos (by omega)]
   rfl
  ·
   rw [if_neg e]
   by_cases h2 : i + 1 ≤ t ∧ t < i + 1 + d
   ·
    rw [if_pos h2, if_pos (by omega)]
   ·
    rw [if_neg h2, if_neg (by omega)]
theorem co_addL {p : Int} (hp : 0 < p) {f : List Int} (hf : InR p f) (g : List Int) (c : Int) (t : Nat) : co (addL p f g c) t = (co f t + c * co g t) % p := by
 unfold addL
 rw [co_trim, ad_get _ _ _ _ _ _ _ (by rw [pad_len _ _ (Nat.le_max_left _ _)]; have := Nat.le_max_right f.length g.length; omega), co_pad]
 by_cases h : 0 ≤ t ∧ t < 0 + g.length
 ·
  rw [if_pos h]
 ·
  rw [if_neg h, co_ge (show g.length ≤ t by omega), Int.mul_zero, Int.add_zero, Int.emod_eq_of_lt (hf.co hp t).1 (hf.co hp t).2]
theorem addL_nz (p : Int) (f g : List Int) (c : Int) : Nz (addL p f g c) := Nz.trim _
theorem spec_points {p : Int} (hp : IsP p) (l : List Int) (hl : l.length ≤ 1000000000) : Ev (fun k => spec_l01Points.f k p l false) (l.all (hasB p)) := by
 have loop : ∀ d i, i + d = l.length → Ev (fun k => spec_l01Points.l0 k p l false (i : Int)) ((l.drop i).all (hasB p)) := by
  intro d
  induction d with
  | zero => intro i h; refine Ev.succ ?_; simp (disch := omega) only [spec_l01Points.l0, if_neg, List.drop_of_length_le]; exact Ev.now _
  | succ d ih =>
   intro i h
   have hi := ih (i + 1) (by omega)
   refine Ev.succ ?_
   rw [List.drop_eq_getElem_cons (show i < l.length by omega), List.all_cons]
   simp (disch := omega) only [spec_l01Points.l0, if_pos, in_has hp, Option.bind_some, rd_lt l i (show i < l.length by omega)]
   cases hb : hasB p (l[i]'(by omega)) with
   | true =>
    simp only [if_true, Bool.true_and]
    refine Ev.succ ?_
    simp only [spec_l01Points.l1, ite_self]
    refine Ev.succ ?_
    simp (disch := omega) only [spec_l01Points.j2, Bool.false_eq_true, if_false, wp1]
    exact hi
   | false => simp only [Bool.false_eq_true, if_false, Bool.false_and]; exact Ev.now _
 have h := loop l.length 0 (by omega)
 simp only [spec_l01Points.f]
 exact h
theorem compact_all (s : List Int) : (Lib.compact s).length = s.length ↔ ∀ j, j < s.length → 0 < j → s.getD j 0 ≠ s.getD (j - 1) 0 := by
 have e : (Lib.compact s).length = s.length ↔ ((List.range s.length).filter (Lib.keeps s.toArray)).length = (List.range s.length).length := by
  unfold Lib.compact Lib.compactUpTo
  rw [List.length_map, List.length_range]
 rw [e, List.length_filter_eq_length_iff]
 constructor
 ·
  intro h j hj h0
  have := h j (List.mem_range.2 hj)
  intro he
  rw [Lib.keeps_neg h0] at this
  ·
   cases this
  ·
   simpa [List.getElem!_eq_getElem?_getD, List.getD_eq_getElem?_getD] using he
 ·
  intro h j hj
  have hj := List.mem_range.1 hj
  rcases Nat.eq_zero_or_pos j with h0 | h0
  ·
   exact Lib.keeps_lt_one _ _ (by omega)
  ·
   exact Lib.keeps_pos (by simpa [List.getElem!_eq_getElem?_getD, List.getD_eq_getElem?_getD] using h j hj h0)
theorem diffB_iff (l : List Int) : diffB l = true ↔ l.Nodup := by
 unfold diffB
 rw [decide_eq_true_eq]
 have hp := List.mergeSort_perm l (fun x y => decide (x ≤ y))
 have hs := List.pairwise_mergeSort (le := fun x y : Int => decide (x ≤ y)) (by intro a b c; simp; omega) (by intro a b; simp; omega) l
 rw [← hp.nodup_iff]
 have hlen := hp.length_eq
 generalize l.mergeSort (fun x y => decide (x ≤ y)) = s at hs hlen ⊢
 rw [← hlen, compact_all]
 have hs' : ∀ i j, i < j → j < s.length → s.getD i 0 ≤ s.getD j 0 := by
  intro i j hij hj
  have := List.pairwise_iff_getElem.1 hs i j (by omega) hj hij
  rw [List.getD_eq_getElem?_getD, List.getD_eq_getElem?_getD, List.getElem?_eq_getElem (by omega), List.getElem?_eq_getElem hj]
  simpa using this
 constructor
 ·
  intro h
  refine List.nodup_iff_pairwise_ne.2 (List.pairwise_iff_getElem.2 fun i j hi hj hij he => ?_)
  have e1 : s.getD i 0 = s.getD j 0 := by
   rw [List.getD_eq_getElem?_getD, List.getD_eq_getElem?_getD, List.getElem?_eq_getElem hi, List.getElem?_eq_getElem hj]
   simpa using he
  have h1 := h j hj (by omega)
  have h2 : s.getD (j - 1) 0 ≤ s.getD j 0 := hs' _ _ (by omega) hj
  rcases Nat.eq_or_lt_of_le (show i ≤ j - 1 by omega) with h3 | h3
  ·
   rw [← h3] at h1; exact h1 e1.symm
  ·
   have h4 := hs' i (j - 1) h3 (by omega)
   omega
 ·
  intro h j hj h0 he
  have := List.pairwise_iff_getElem.1 (List.nodup_iff_pairwise_ne.1 h) (j - 1) j (by omega) hj (by omega)
  rw [List.getD_eq_getElem?_getD, List.getD_eq_getElem?_getD, List.getElem?_eq_getElem hj, List.getElem?_eq_getElem (show j - 1 < s.length by omega)] at he
  exact this (by simpa using he.symm)
def ptB (p : Int) (l : List Int) : Nat → Nat → Bool
 | _, 0 => true
 | i, d + 1 => hasB p (l.getD i 0) && (!((l.take i).any fun y => decide (y = l.getD i 0)) && ptB p l (i + 1) d)
theorem any_take (l : List Int) (c : Int) (i : Nat) (hi : i ≤ l.length) : ((l.take i).any fun y => decide (y = c)) = true ↔ ∃ k, k < i ∧ l.getD k 0 = c := by
 rw [List.any_eq_true]
 constructor
 ·
  rintro ⟨y, hy, hc⟩
  obtain ⟨k, hk, e⟩ := List.getElem_of_mem hy
  rw [List.length_take] at hk
  refine ⟨k, by omega, ?_⟩
  rw [List.getD_eq_getElem?_getD, List.getElem?_eq_getElem (show k < l.length by omega)]
  rw [List.getElem_take] at e
  simpa [e] using hc
 ·
  rintro ⟨k, hk, hc⟩
  refine ⟨l[k]'(by omega), ?_, ?_⟩
  ·
   rw [List.mem_iff_getElem]; exact ⟨k, by rw [List.length_take]; omega, by rw [List.getElem_take]⟩
  ·
   rw [List.getD_eq_getElem?_getD, List.getElem?_eq_getElem (show k < l.length by omega)] at hc
   simpa using hc
theorem ptB_iff (p : Int) (l : List Int) : ∀ d i, i + d = l.length → (ptB p l i d = true ↔ ∀ j, i ≤ j → j < l.length → hasB p (l.getD j 0) = true ∧ ∀ k, k < j → l.getD k 0 ≠ l.getD j 0)
 | 0, i, h => by
  constructor
  ·
   intro _ j h1 h2; omega
  ·
   intro _; rfl
 | d + 1, i, h => by
  have ih := ptB_iff p l d (i + 1) (by omega)
  simp only [ptB, Bool.and_eq_true, Bool.not_eq_true']
  rw [ih]
  have hn : ((l.take i).any fun y => decide (y = l.getD i 0)) = false ↔ ∀ k, k < i → l.getD k 0 ≠ l.getD i 0 := by
   rw [Bool.eq_false_iff, Ne, any_take l _ i (by omega)]
   exact ⟨fun h k hk e => h ⟨k, hk, e⟩, fun h ⟨k, hk, e⟩ => h k hk e⟩
  rw [hn]
  constructor
  ·
   rintro ⟨h1, h2, h3⟩ j hj hl
   rcases Nat.eq_or_lt_of_le hj with rfl | hj
   ·
    exact ⟨h1, h2⟩
   ·
    exact h3 j hj hl
  ·
   intro H
   exact ⟨(H i (by omega) (by omega)).1, (H i (by omega) (by omega)).2, fun j hj hl => H j (by omega) hl⟩
theorem ptB_all (p : Int) (l : List Int) : ptB p l 0 l.length = (l.all (hasB p) && diffB l) := by
 rw [Bool.eq_iff_iff, Bool.and_eq_true, ptB_iff p l l.length 0 (by omega), diffB_iff, List.all_eq_true, List.nodup_iff_pairwise_ne, List.pairwise_iff_getElem]
 have g : ∀ i (h : i < l.length), l.getD i 0 = l[i] := fun i h => by rw [List.getD_eq_getElem?_getD, List.getElem?_eq_getElem h]; rfl
 constructor
 ·
  intro H
  refine ⟨fun x hx => ?_, fun i j hi hj hij => ?_⟩
  ·
   obtain ⟨j, hj, rfl⟩ := List.getElem_of_mem hx
   have := (H j (Nat.zero_le _) hj).1
   rwa [g j hj] at this
  ·
   have := (H j (Nat.zero_le _) hj).2 i hij
   rwa [g i hi, g j hj] at this
 ·
  rintro ⟨h1, h2⟩ j _ hj
  refine ⟨by rw [g j hj]; exact h1 _ (List.getElem_mem hj), fun k hk => ?_⟩
  rw [g j hj, g k (by omega)]
  exact h2 k j (by omega) hj hk
theorem spec_points2 {p : Int} (hp : IsP p) (l : List Int) (hl : l.length ≤ 1000000000) : Ev (fun k => spec_l01Points.f k p l true) (l.all (hasB p) && diffB l) := by
 rw [← ptB_all]
 have loop : ∀ d i, i + d = l.length → Ev (fun k => spec_l01Points.l0 k p l true (i : Int)) (ptB p l i d) := by
  intro d
  induction d with
  | zero => intro i h; refine Ev.succ ?_; simp (disch := omega) only [spec_l01Points.l0, if_neg, ptB]; exact Ev.now _
  | succ d ih =>
   intro i h
   have hi := ih (i + 1) (by omega)
   refine Ev.succ ?_
   simp (disch := omega) only [spec_l01Points.l0, if_pos, in_has hp, Option.bind_some, rd_n]
   simp only [ptB]
   cases hb : hasB p (l.getD i 0) with
   | false => simp only [Bool.false_eq_true, if_false, Bool.false_and]; exact Ev.now _
   | true =>
    simp only [if_true, Bool.true_and]
    have inner : ∀ q k, k + q = i → Ev (fun r => spec_l01Points.l1 r p l true (i : Int) (k : Int)) (!(((l.take i).drop k).any fun y => decide (y = l.getD i 0)) && ptB p l (i + 1) d) := by
     intro q
     induction q with
     | zero =>
      intro k hk
      refine Ev.succ ?_
      rw [List.drop_of_length_le (by rw [List.length_take]; omega)]
      simp (disch := omega) only [spec_l01Points.l1, if_neg, List.any_nil, Bool.not_false, Bool.true_and]
      refine Ev.succ ?_
      simp (disch := omega) only [spec_l01Points.j2, Bool.false_eq_true, if_false, wp1]
      exact hi
     | succ q ihq =>
      intro k hk
      have hq := ihq (k + 1) (by omega)
      refine Ev.succ ?_
      have ed : (l.take i).drop k = l.getD k 0 :: (l.take i).drop (k + 1) := by
       rw [List.drop_eq_getElem_cons (by rw [List.length_take]; omega), List.getElem_take, List.getD_eq_getElem?_getD, List.getElem?_eq_getElem (show k < l.length by omega)]
       rfl
      rw [ed, List.any_cons]
      simp (disch := omega) only [spec_l01Points.l1, if_pos]
      refine Ev.succ ?_
      simp (disch := omega) only [spec_l01Points.j2, if_true, if_pos, rd_n, wp1]
      by_cases hc : l.getD k 0 = l.getD i 0
      ·
       simp only [if_pos hc, decide_eq_true hc, Bool.true_or, Bool.not_true, Bool.false_and]; exact Ev.now _
      ·
       simp only [if_neg hc, decide_eq_false hc, Bool.false_or]; exact hq
    have := inner i 0 (by omega)
    simpa using this
 have h := loop l.length 0 (by omega)
 simp only [spec_l01Points.f]
 exact h
noncomputable def ndB (p : Int) (xs ys : List Int) (m : Int) : Bool := primeB p && (decide ((xs.length : Int) ≤ m) && (decide (ys.length = xs.length) && (xs.all (hasB p) && (ys.all (hasB p) && diffB xs))))
theorem impl_nodes (p : Int) (xs ys : List Int) (m : Int) (hm : m ≤ 1000) : Ev (fun k => impl_areNodes.f k p xs ys m) (ndB p xs ys m) := by
 simp only [impl_areNodes.f]
 refine Ev.bind (impl_prime p) ?_
 unfold ndB
 cases hp : primeB p with
 | false => simp only [Bool.false_eq_true, if_false, Bool.false_and]; exact Ev.now _
 | true =>
  by_cases c1 : (xs.length : Int) ≤ m
  ·
   by_cases c2 : ys.length = xs.length
   ·
    simp only [if_true, if_pos c1, if_pos (show (ys.length : Int) = xs.length by omega), decide_eq_true c1, decide_eq_true c2, Bool.true_and, impl_areAll_has.f, Option.bind_some]
    cases xs.all (hasB p) with
    | false => simp only [Bool.false_eq_true, if_false, Bool.false_and]; exact Ev.now _
    | true =>
     cases ys.all (hasB p) with
     | false => simp only [if_true, Bool.false_eq_true, if_false, Bool.false_and, Bool.and_false]; exact Ev.now _
     | true =>
      simp only [if_true, impl_areDifferent.f, if_pos (show xs.length ≤ 1000000 by omega), Option.bind_some, Bool.true_and]; exact Ev.now _
   ·
    simp only [if_true, if_pos c1, if_neg (show ¬ (ys.length : Int) = xs.length by omega), decide_eq_true c1, decide_eq_false c2, Bool.false_and, Bool.and_false]; exact Ev.now _
  ·
   simp only [if_true, if_neg c1, decide_eq_false c1, Bool.false_and, Bool.and_false]; exact Ev.now _
theorem ndB_iff {p m : Int} {xs ys : List Int} (h : ndB p xs ys m = true) : IsP p ∧ (xs.length : Int) ≤ m ∧ ys.length = xs.length ∧ InR p xs ∧ InR p ys := by
 simp only [ndB, Bool.and_eq_true, decide_eq_true_eq, List.all_eq_true] at h
 exact ⟨primeB_iff.1 h.1, h.2.1, h.2.2.1, fun x hx => hasB_iff.1 (h.2.2.2.1 x hx), fun x hx => hasB_iff.1 (h.2.2.2.2.1 x hx)⟩
def intK (p : Int) (xs ys : List Int) (i : Nat) (out base : List Int) : Int := (ys.getD i 0 - valL p out (xs.getD i 0)) % p * inv p (valL p base (xs.getD i 0)) % p
def intF (p : Int) (xs ys : List Int) : Nat → Nat → List Int → List Int → List Int
 | 0, _, out, _ => out
 | d + 1, i, out, base => intF p xs ys d (i + 1) (addL p out base (intK p xs ys i out base)) (mulL p base [(-xs.getD i 0) % p, 1])
theorem lin2_inR {p : Int} (hp : 2 ≤ p) (r : Int) : InR p [(-r) % p, 1] := fun y hy => by
 simp only [List.mem_cons, List.not_mem_nil, or_false] at hy
 rcases hy with rfl | rfl
 ·
  exact emod_bd (by omega)
 ·
  omega
theorem int_len {p : Int} {out base : List Int} {c r : Int} {i : Nat} (ho : out.length ≤ i) (hb : base.length ≤ i + 1) : (addL p out base c).length ≤ i + 1 ∧ (mulL p base [(-r) % p, 1]).length ≤ i + 2 := by
 have h1 := addL_len p out base c
 have h2 := mulL_len p base [(-r) % p, 1]
 simp only [List.length_cons, List.length_nil] at h2
 omega
theorem intF_len (p : Int) (xs ys : List Int) : ∀ d i out base, out.length ≤ i → base.length ≤ i + 1 → (intF p xs ys d i out base).length ≤ i + d
 | 0, i, out, base, h, _ => h
 | d + 1, i, out, base, h, hb => by
  have h1 := int_len (p := p) (c := intK p xs ys i out base) (r := xs.getD i 0) h hb
  have := intF_len p xs ys d (i + 1) (addL p out base (intK p xs ys i out base)) (mulL p base [(-xs.getD i 0) % p, 1]) h1.1 h1.2
  simp only [intF]; omega
theorem spec_interp {p : Int} {xs ys : List Int} (hp : IsP p) (rx : InR p xs) (ry : InR p ys) (hl : ys.length = xs.length) (hx : xs.length ≤ 25) :
  ∀ d i out base, i + d = xs.length → out.length ≤ i → base.length ≤ i + 1 → InR p out → InR p base → Ev (fun k => spec_l01Interpolate.l0 k p xs ys out base (i : Int)) (intF p xs ys d i out base) := by
 intro d
 induction d with
 | zero => intro i out base h _ _ _ _; refine Ev.succ ?_; simp (disch := omega) only [spec_l01Interpolate.l0, if_neg]; exact Ev.now _
 | succ d ih =>
  intro i out base h ho hb ro rb
  have hp2 := hp.p2
  have hpm := hp.pm
  have x0 := rx.get hp.p0 i
  have y0 := ry.get hp.p0 i
  have v1 := valL_bd hp.p0 out (xs.getD i 0)
  have v2 := inv_bd hp.p0 (valL p base (xs.getD i 0))
  have m1 := emod_bd (x := ys.getD i 0 - valL p out (xs.getD i 0)) hp.p0
  have mm := mul_bd (a := 10007) (b := 10007) m1.1 (by omega) v2.1 (by omega)
  have kb : 0 ≤ intK p xs ys i out base ∧ intK p xs ys i out base < p := emod_bd hp.p0
  have hn := ih (i + 1) _ _ (by omega) (int_len (p := p) (c := intK p xs ys i out base) (r := xs.getD i 0) ho hb).1 (int_len (p := p) (c := intK p xs ys i out base) (r := xs.getD i 0) ho hb).2 (addL_inR hp.p0 ro _ _) (mulL_inR hp.p0 _ _)
  refine Ev.succ ?_
  have w1 : wrap64 (ys.getD i 0 - valL p out (xs.getD i 0)) = ys.getD i 0 - valL p out (xs.getD i 0) := w64 (by omega) (by omega)
  have w2 : wrap64 ((ys.getD i 0 - valL p out (xs.getD i 0)) % p * inv p (valL p base (xs.getD i 0))) = (ys.getD i 0 - valL p out (xs.getD i 0)) % p * inv p (valL p base (xs.getD i 0)) := w64 (by omega) (by omega)
  have w3 : wrap64 (-xs.getD i 0) = -xs.getD i 0 := w64 (by omega) (by omega)
  have q1 : (i : Int) < (xs.length : Int) := by omega
  have q2 : (0 : Int) ≤ (i : Int) := by omega
  have q3 : (i : Int) < (ys.length : Int) := by omega
  simp only [spec_l01Interpolate.l0, if_pos q1, if_pos q2, if_pos q3, rd_n]
  refine Ev.bind (spec_val hp2 hpm (by omega) ro x0) ?_
  simp only [w1, spec_mod hp.p0 (show p ≤ 1000000000 by omega), Option.bind_some]
  refine Ev.bind (spec_val hp2 hpm (by omega) rb x0) ?_
  refine Ev.bind (spec_inverse hp2 hpm) ?_
  rw [show valL p base (xs.getD i 0) ^ (p - 2).toNat % p = inv p (valL p base (xs.getD i 0)) from rfl]
  simp only [if_neg (show ¬ p = 0 by omega), w2, tmod_nn mm.1]
  refine Ev.bind (spec_add (c := intK p xs ys i out base) hp2 hpm (by omega) (by omega) ro rb kb.1 (by omega)) ?_
  simp only [w3, spec_mod hp.p0 (show p ≤ 1000000000 by omega), Option.bind_some, wp1 (show i ≤ 1000000000000 by omega)]
  refine Ev.bind (spec_product hp2 hpm (by omega) (by simp) rb (lin2_inR hp2 _)) ?_
  exact hn
theorem impl_interp {p : Int} {xs ys : List Int} (hp : IsP p) (rx : InR p xs) (ry : InR p ys) (hl : ys.length = xs.length) (hx : xs.length ≤ 25) :
  ∀ d i out base, i + d = xs.length → out.length ≤ i → base.length ≤ i + 1 → InR p out → InR p base → Ev (fun k => impl_field_interpolate.l0 k p ys out base xs (xs.length : Int) (i : Int)) (intF p xs ys d i out base) := by
 intro d
 induction d with
 | zero => intro i out base h _ _ _ _; refine Ev.succ ?_; simp (disch := omega) only [impl_field_interpolate.l0, if_neg]; exact Ev.now _
 | succ d ih =>
  intro i out base h ho hb ro rb
  have hp2 := hp.p2
  have hpm := hp.pm
  have x0 := rx.get hp.p0 i
  have y0 := ry.get hp.p0 i
  have v1 := valL_bd hp.p0 out (xs.getD i 0)
  have v3 := valL_bd hp.p0 base (xs.getD i 0)
  have v2 := inv_bd hp.p0 (valL p base (xs.getD i 0))
  have m1 := emod_bd (x := ys.getD i 0 - valL p out (xs.getD i 0)) hp.p0
  have mm := mul_bd (a := 10007) (b := 10007) m1.1 (by omega) v2.1 (by omega)
  have kb : 0 ≤ intK p xs ys i out base ∧ intK p xs ys i out base < p := emod_bd hp.p0
  have hn := ih (i + 1) _ _ (by omega) (int_len (p := p) (c := intK p xs ys i out base) (r := xs.getD i 0) ho hb).1 (int_len (p := p) (c := intK p xs ys i out base) (r := xs.getD i 0) ho hb).2 (addL_inR hp.p0 ro _ _) (mulL_inR hp.p0 _ _)
  refine Ev.succ ?_
  have w1 : wrap64 (ys.getD i 0 - valL p out (xs.getD i 0)) = ys.getD i 0 - valL p out (xs.getD i 0) := w64 (by omega) (by omega)
  have w3 : wrap64 (-xs.getD i 0) = -xs.getD i 0 := w64 (by omega) (by omega)
  have q1 : (i : Int) < (xs.length : Int) := by omega
  have q2 : (0 : Int) ≤ (i : Int) := by omega
  have q3 : (i : Int) < (ys.length : Int) := by omega
  have hdiv : Ev (fun k => impl_field_div.f k p ((ys.getD i 0 - valL p out (xs.getD i 0)) % p) (valL p base (xs.getD i 0))) (intK p xs ys i out base) := by
   simp only [impl_field_div.f]
   refine Ev.bind (impl_inverse hp2 hpm v3.1 v3.2) ?_
   rw [show valL p base (xs.getD i 0) ^ (p - 2).toNat % p = inv p (valL p base (xs.getD i 0)) from rfl]
   simp only [impl_mul hp.p0 (show p ≤ 1000000000 by omega) (show -9223372036854775808 ≤ (ys.getD i 0 - valL p out (xs.getD i 0)) % p * inv p (valL p base (xs.getD i 0)) by omega) (show (ys.getD i 0 - valL p out (xs.getD i 0)) % p * inv p (valL p base (xs.getD i 0)) ≤ 9223372036854775807 by omega), Option.bind_some]
   exact Ev.now _
  simp only [impl_field_interpolate.l0, if_pos q1, if_pos q2, if_pos q3, rd_n, impl_val hp2 hpm ro x0, impl_val hp2 hpm rb x0, w1, impl_mod hp.p0 (show p ≤ 1000000000 by omega), Option.bind_some]
  refine Ev.bind hdiv ?_
  refine Ev.bind (impl_add (c := intK p xs ys i out base) hp2 hpm (by omega) (by omega) ro rb kb.1 (by omega)) ?_
  simp only [w3, wp1 (show i ≤ 1000000000000 by omega)]
  refine Ev.bind (impl_product hp2 hpm (by omega) (by simp) rb (lin2_inR hp2 _)) ?_
  exact hn
theorem pr1_cg (p x : Int) (g : List Int) (i t : Nat) : ∀ d j acc, i + j + d ≤ acc.length → cg p (co (pr1 p x g i acc j d) t) (co acc t + if i + j ≤ t ∧ t < i + j + d then x * co g (t - i) else 0)
 | 0, j, acc, _ => by rw [pr1, if_neg (by omega), Int.add_zero]; exact cg.refl _
 | d + 1, j, acc, h => by
  rw [pr1]
  refine (pr1_cg p x g i t d (j + 1) _ (by rw [List.length_set]; omega)).trans ?_
  rw [co_set _ _ _ _ (by omega)]
  by_cases ht : t = i + j
  ·
   rw [if_pos ht, if_neg (by omega), if_pos (by omega), Int.add_zero, ht, show i + j - i = j by omega]; exact cg.mod p _
  ·
   rw [if_neg ht]
   by_cases h2 : i + (j + 1) ≤ t ∧ t < i + (j + 1) + d
   ·
    rw [if_pos h2, if_pos (by omega)]; exact cg.refl _
   ·
    rw [if_neg h2, if_neg (by omega)]; exact cg.refl _
theorem pr0_cg (p : Int) (f g : List Int) (t : Nat) (h0 : 0 < g.length) : ∀ d i acc, i + d ≤ f.length → acc.length = f.length + g.length - 1 →
  cg p (co (pr0 p f g acc i d) t) (co acc t + su (fun s => if i + s ≤ t ∧ t < i + s + g.length then co f (i + s) * co g (t - (i + s)) else 0) d)
 | 0, i, acc, _, _ => by rw [pr0, su, Int.add_zero]; exact cg.refl _
 | d + 1, i, acc, h, hl => by
  rw [pr0]
  refine (pr0_cg p f g t h0 d (i + 1) _ (by omega) (by rw [pr1_len]; exact hl)).trans ?_
  rw [su_head, su_congr (f := fun s => if i + 1 + s ≤ t ∧ t < i + 1 + s + g.length then co f (i + 1 + s) * co g (t - (i + 1 + s)) else 0) (g := fun s => if i + (s + 1) ≤ t ∧ t < i + (s + 1) + g.length then co f (i + (s + 1)) * co g (t - (i + (s + 1))) else 0) (fun s _ => by rw [show i + 1 + s = i + (s + 1) by omega])]
  refine ((pr1_cg p (f.getD i 0) g i t g.length 0 acc (by omega)).add (cg.refl _)).trans (cg.of_eq ?_)
  simp only [Nat.add_zero]
  rw [Int.add_assoc]
  rfl
theorem co_zeros (n t : Nat) : co (List.replicate n (0 : Int)) t = 0 := by
 unfold co
 rw [List.getD_eq_getElem?_getD, List.getElem?_replicate]
 split <;> rfl
theorem co_mulL {p : Int} (hp : 0 < p) (f g : List Int) (t : Nat) : co (mulL p f g) t = cv (co f) (co g) t % p := by
 by_cases h : f.length = 0 ∨ g.length = 0
 ·
  have e : mulL p f g = [] := by unfold mulL; rw [if_pos h]
  have z : cv (co f) (co g) t = 0 := su_zero fun i _ => by
   rcases h with h | h
   ·
    rw [co_ge (show f.length ≤ i by omega), Int.zero_mul]
   ·
    rw [co_ge (show g.length ≤ t - i by omega), Int.mul_zero]
  rw [e, z]; simp [co]
 ·
  have e : mulL p f g = trimL (mulW p f g) := by unfold mulL; rw [if_neg h]
  rw [e, co_trim]
  refine cg.eq ?_ ((mulW_inR hp f g).co hp t) (emod_bd hp)
  refine (pr0_cg p f g t (by omega) f.length 0 _ (by omega) (by simp)).trans ((cg.of_eq ?_).trans (cg.mod p _).symm)
  rw [co_zeros, Int.zero_add]
  have e1 : su (fun s => if 0 + s ≤ t ∧ t < 0 + s + g.length then co f (0 + s) * co g (t - (0 + s)) else 0) f.length = su (fun s => if s ≤ t then co f s * co g (t - s) else 0) f.length :=
   su_congr fun s _ => by
    simp only [Nat.zero_add]
    by_cases h1 : s ≤ t
    ·
     by_cases h2 : t < s + g.length
     ·
      rw [if_pos ⟨h1, h2⟩, if_pos h1]
     ·
      rw [if_neg (fun h => h2 h.2), if_pos h1, co_ge (show g.length ≤ t - s by omega), Int.mul_zero]
    ·
     rw [if_neg (fun h => h1 h.1), if_neg h1]
  rw [e1, ← su_ext (n := max f.length (t + 1)) (Nat.le_max_left _ _) (fun i hi _ => by rw [co_ge hi, Int.zero_mul]; split <;> rfl),
   su_ext (m := t + 1) (Nat.le_max_right _ _) (fun i hi _ => by rw [if_neg (by omega)])]
  exact su_congr fun i hi => by rw [if_pos (by omega)]
def ev (F : Nat → Int) (N : Nat) (x : Int) : Int := su (fun i => F i * x ^ i) N
theorem ev_ext {F : Nat → Int} {N M : Nat} (x : Int) (h : N ≤ M) (hz : ∀ i, N ≤ i → F i = 0) : ev F M x = ev F N x :=
 su_ext h fun i h1 _ => by rw [hz i h1, Int.zero_mul]
theorem co_cons (c : Int) (f : List Int) (i : Nat) : co (c :: f) (i + 1) = co f i := rfl
theorem ev_cons (c : Int) (f : List Int) (N : Nat) (x : Int) : ev (co (c :: f)) (N + 1) x = ev (co f) N x * x + c := by
 unfold ev
 rw [su_head, ← su_mulr, Int.add_comm]
 congr 1
 ·
  exact su_congr fun i _ => by simp only [co_cons, Int.pow_succ, Int.mul_assoc]
 ·
  show c * x ^ 0 = c
  rw [Int.pow_zero, Int.mul_one]
theorem ev_cg {p : Int} {F G : Nat → Int} (h : ∀ i, cg p (F i) (G i)) (N : Nat) (x : Int) : cg p (ev F N x) (ev G N x) := cg.su fun i _ => (h i).mul (cg.refl _)
theorem valL_ev (p : Int) (f : List Int) (x : Int) : cg p (valL p f x) (ev (co f) f.length x) := by
 induction f with
 | nil => exact cg.refl _
 | cons c f ih =>
  show cg p ((valL p f x * x + c) % p) _
  rw [List.length_cons, ev_cons]
  exact (cg.mod _ _).trans ((ih.mul (cg.refl x)).add (cg.refl c))
theorem valL_evN {p : Int} {f : List Int} {N : Nat} (x : Int) (h : f.length ≤ N) : cg p (valL p f x) (ev (co f) N x) := by
 rw [ev_ext x h fun i hi => co_ge hi]; exact valL_ev p f x
theorem ev_cv {F G : Nat → Int} {a b : Nat} (x : Int) (hF : ∀ i, a ≤ i → F i = 0) (hG : ∀ i, b ≤ i → G i = 0) : ev (cv F G) (a + b) x = ev F a x * ev G b x := by
 have h1 : ev (cv F G) (a + b) x = su (fun i => su (fun j => F j * G (i - j) * x ^ i) (i + 1)) (a + b) :=
  su_congr fun i _ => (su_mulr _ _ _).symm
 rw [h1, su_tri (fun i j => F j * G (i - j) * x ^ i), ← ev_ext x (Nat.le_add_right a b) hF]
 unfold ev
 rw [← su_mulr]
 refine su_congr fun j hj => ?_
 by_cases hja : j < a
 ·
  have e : su (fun i => G i * x ^ i) (a + b - j) = su (fun i => G i * x ^ i) b := su_ext (by omega) fun i h1 _ => by rw [hG i h1, Int.zero_mul]
  rw [← e, ← su_mul]
  exact su_congr fun i _ => by
   rw [show j + i - j = i by omega, Int.pow_add]
   grind
 ·
  rw [hF j (by omega), Int.zero_mul, Int.zero_mul]
  exact su_zero fun i _ => by rw [Int.zero_mul, Int.zero_mul]
theorem valL_eq {p x y : Int} {f : List Int} (hp : 0 < p) (h : cg p (valL p f x) y) : valL p f x = y % p := by
 rw [← h.emod, Int.emod_eq_of_lt (valL_bd hp f x).1 (valL_bd hp f x).2]
theorem valL_mul {p : Int} (hp : 0 < p) (f g : List Int) (x : Int) : valL p (mulL p f g) x = valL p f x * valL p g x % p := by
 refine valL_eq hp ?_
 have hl := mulL_len p f g
 refine (valL_evN (N := f.length + g.length) x (by omega)).trans ?_
 have h1 : cg p (ev (co (mulL p f g)) (f.length + g.length) x) (ev (cv (co f) (co g)) (f.length + g.length) x) :=
  ev_cg (fun i => by rw [co_mulL hp]; exact cg.mod _ _) _ _
 refine h1.trans ?_
 rw [ev_cv x (fun i => co_ge) fun i => co_ge]
 exact ((valL_ev p f x).mul (valL_ev p g x)).symm
theorem ev_lin (F G : Nat → Int) (c : Int) (N : Nat) (x : Int) : ev (fun i => F i + c * G i) N x = ev F N x + c * ev G N x := by
 unfold ev
 rw [← su_mul, ← su_add]
 exact su_congr fun i _ => by rw [Int.add_mul, Int.mul_assoc]
theorem valL_add {p : Int} (hp : 0 < p) {f : List Int} (rf : InR p f) (g : List Int) (c x : Int) : valL p (addL p f g c) x = (valL p f x + c * valL p g x) % p := by
 refine valL_eq hp ?_
 have hl := addL_len p f g c
 refine (valL_evN (N := max f.length g.length) x hl).trans ?_
 have h1 : cg p (ev (co (addL p f g c)) (max f.length g.length) x) (ev (fun i => co f i + c * co g i) (max f.length g.length) x) :=
  ev_cg (fun i => by rw [co_addL hp rf]; exact cg.mod _ _) _ _
 refine h1.trans ?_
 rw [ev_lin]
 exact ((valL_evN x (Nat.le_max_left _ _)).symm).add ((cg.refl c).mul (valL_evN x (Nat.le_max_right _ _)).symm)
theorem valL_one_ {p : Int} (hp : 2 ≤ p) (x : Int) : valL p [1] x = 1 := by
 show ((0 * x + 1) % p) = 1
 rw [Int.zero_mul, Int.zero_add, Int.emod_eq_of_lt (by omega) (by omega)]
def pw (H : Nat → Int) : Nat → Nat → Int
 | 0 => fun t => if t = 0 then 1 else 0
 | n + 1 => cv (pw H n) H
def cf (F : Nat → Int) (N : Nat) (H : Nat → Int) (t : Nat) : Int := su (fun i => F i * pw H i t) N
theorem cf_ext {F : Nat → Int} {N M : Nat} (H : Nat → Int) (t : Nat) (h : N ≤ M) (hz : ∀ i, N ≤ i → F i = 0) : cf F M H t = cf F N H t :=
 su_ext h fun i h1 _ => by rw [hz i h1, Int.zero_mul]
theorem cv_su (F : Nat → Int) (A : Nat → Nat → Int) (H : Nat → Int) (t : Nat) : ∀ N, cv (fun s => su (fun i => F i * A i s) N) H t = su (fun i => F i * cv (A i) H t) N
 | 0 => cv_zero H t
 | N + 1 => by
  show cv (fun s => su (fun i => F i * A i s) N + F N * A N s) H t = _
  rw [cv_addl, cv_su F A H t N, cv_mull]; rfl
theorem cf_succ (F : Nat → Int) (N : Nat) (H : Nat → Int) (t : Nat) : cf F (N + 1) H t = (if t = 0 then F 0 else 0) + cv (cf (fun i => F (i + 1)) N H) H t := by
 have e : cv (cf (fun i => F (i + 1)) N H) H t = su (fun i => F (i + 1) * pw H (i + 1) t) N := cv_su (fun i => F (i + 1)) (pw H) H t N
 rw [e]
 unfold cf
 rw [su_head]
 congr 1
 show F 0 * (if t = 0 then 1 else 0) = _
 split <;> simp
theorem cf_cg {p : Int} {F G : Nat → Int} (h : ∀ i, cg p (F i) (G i)) (N : Nat) (H : Nat → Int) (t : Nat) : cg p (cf F N H t) (cf G N H t) := cg.su fun i _ => (h i).mul (cg.refl _)
theorem cv_lin (a : Int) (X : Nat → Int) (t : Nat) : cv X (co [a, 1]) t = a * X t + (if 1 ≤ t then X (t - 1) else 0) := by
 rw [cv_comm]
 unfold cv
 cases t with
 | zero => simp [su, co]
 | succ t =>
  rw [su_head, su_head, su_zero (n := t) fun i _ => by
   rw [show co [a, 1] (i + 1 + 1) = 0 from co_ge (by simp), Int.zero_mul]]
  simp [co]
theorem cf_lin {p a b : Int} (hab : cg p (a + b) 0) (G : Nat → Int) (N : Nat) (hz : ∀ i, N ≤ i → G i = 0) (t : Nat) :
  cg p (cf (fun i => b * G i + (if 1 ≤ i then G (i - 1) else 0)) (N + 1) (co [a, 1]) t) (if 1 ≤ t then cf G N (co [a, 1]) (t - 1) else 0) := by
 have e : cf (fun i => b * G i + (if 1 ≤ i then G (i - 1) else 0)) (N + 1) (co [a, 1]) t = b * cf G N (co [a, 1]) t + cv (cf G N (co [a, 1])) (co [a, 1]) t := by
  have e1 : cv (cf G N (co [a, 1])) (co [a, 1]) t = su (fun i => G i * pw (co [a, 1]) (i + 1) t) N := cv_su G (pw (co [a, 1])) (co [a, 1]) t N
  have e2 : su (fun i => (if 1 ≤ i then G (i - 1) else 0) * pw (co [a, 1]) i t) (N + 1) = su (fun i => G i * pw (co [a, 1]) (i + 1) t) N := by
   rw [su_head]
   simp
  rw [e1, ← e2, ← cf_ext (co [a, 1]) t (Nat.le_succ N) hz]
  unfold cf
  rw [← su_mul, ← su_add]
  exact su_congr fun i _ => by rw [Int.add_mul, Int.mul_assoc]
 rw [e, cv_lin, ← Int.add_assoc, ← Int.add_mul]
 have h0 : cg p ((b + a) * cf G N (co [a, 1]) t) 0 := by
  have := hab.mul (cg.refl (cf G N (co [a, 1]) t))
  rw [Int.zero_mul, Int.add_comm a b] at this
  exact this
 have := h0.add (cg.refl (if 1 ≤ t then cf G N (co [a, 1]) (t - 1) else 0))
 rwa [Int.zero_add] at this
theorem compL_nz (p : Int) (f g : List Int) : Nz (compL p f g) := by
 cases f with
 | nil => exact .inl rfl
 | cons c f => exact addL_nz _ _ _ _
theorem compL_len2 (p b : Int) (f : List Int) : (compL p f [b, 1]).length ≤ f.length := by
 induction f with
 | nil => simp [compL]
 | cons c f ih =>
  have h1 := addL_len p (mulL p (compL p f [b, 1]) [b, 1]) [1] c
  have h2 := mulL_len p (compL p f [b, 1]) [b, 1]
  simp only [List.length_singleton, List.length_cons, List.length_nil] at h1 h2
  show (addL p (mulL p (compL p f [b, 1]) [b, 1]) [1] c).length ≤ _
  simp only [List.length_cons]
  omega
theorem valL_comp {p : Int} (hp : 2 ≤ p) (f g : List Int) (x : Int) : valL p (compL p f g) x = valL p f (valL p g x) := by
 induction f with
 | nil => rfl
 | cons c f ih =>
  show valL p (addL p (mulL p (compL p f g) g) [1] c) x = (valL p f (valL p g x) * valL p g x + c) % p
  rw [valL_add (by omega) (mulL_inR (by omega) _ _), valL_mul (by omega), valL_one_ hp, ih, Int.mul_one, ea_l]
theorem comp_co {p : Int} (hp : 0 < p) (f g : List Int) (t : Nat) : cg p (co (compL p f g) t) (cf (co f) f.length (co g) t) := by
 induction f generalizing t with
 | nil => exact cg.refl _
 | cons c f ih =>
  show cg p (co (addL p (mulL p (compL p f g) g) [1] c) t) _
  rw [co_addL hp (mulL_inR hp _ _), co_mulL hp, List.length_cons, cf_succ]
  refine (cg.mod _ _).trans ?_
  rw [Int.add_comm]
  refine cg.add (cg.of_eq ?_) ((cg.mod _ _).trans (cg.cv (fun i => ih i) (fun i => cg.refl _) t))
  cases t with
  | zero => simp [co]
  | succ t => rw [co_ge (l := [1]) (by simp)]; simp
theorem comp_back {p a b : Int} (hp : 0 < p) (hab : cg p (a + b) 0) (f : List Int) (t : Nat) : ∀ N, (compL p f [b, 1]).length ≤ N → cg p (cf (co (compL p f [b, 1])) N (co [a, 1]) t) (co f t) := by
 induction f generalizing t with
 | nil =>
  intro N _
  have : cf (co (compL p [] [b, 1])) N (co [a, 1]) t = 0 := su_zero fun i _ => by
   rw [show co (compL p [] [b, 1]) i = 0 from co_ge (by simp [compL]), Int.zero_mul]
  rw [this]; exact cg.refl _
 | cons c f ih =>
  intro N hN
  have hs : cg p (cf (co (compL p (c :: f) [b, 1])) (N + (compL p f [b, 1]).length + 1) (co [a, 1]) t) (co (c :: f) t) := by
   generalize hG : compL p f [b, 1] = G at ih
   have e : ∀ i, cg p (co (compL p (c :: f) [b, 1]) i) ((b * co G i + if 1 ≤ i then co G (i - 1) else 0) + c * (if i = 0 then 1 else 0)) := fun i => by
    show cg p (co (addL p (mulL p (compL p f [b, 1]) [b, 1]) [1] c) i) _
    rw [hG, co_addL hp (mulL_inR hp _ _), co_mulL hp]
    refine (cg.mod _ _).trans (((cg.mod _ _).trans (cg.of_eq (cv_lin b (co G) i))).add (cg.of_eq ?_))
    cases i with
    | zero => simp [co]
    | succ i => rw [co_ge (l := [1]) (by simp)]; simp
   refine (cf_cg e _ _ _).trans ?_
   have e2 : cf (fun i => (b * co G i + if 1 ≤ i then co G (i - 1) else 0) + c * (if i = 0 then 1 else 0)) (N + G.length + 1) (co [a, 1]) t
     = cf (fun i => b * co G i + if 1 ≤ i then co G (i - 1) else 0) (N + G.length + 1) (co [a, 1]) t + (if t = 0 then c else 0) := by
    have e3 : su (fun i => c * (if i = 0 then 1 else 0) * pw (co [a, 1]) i t) (N + G.length + 1) = if t = 0 then c else 0 := by
     rw [su_head, su_zero fun i _ => by simp]
     show c * (if 0 = 0 then 1 else 0) * (if t = 0 then 1 else 0) + 0 = _
     rw [if_pos rfl, Int.mul_one, Int.add_zero]
     by_cases ht : t = 0
     ·
      rw [if_pos ht, if_pos ht, Int.mul_one]
     ·
      rw [if_neg ht, if_neg ht, Int.mul_zero]
    rw [← e3]
    unfold cf
    rw [← su_add]
    exact su_congr fun i _ => Int.add_mul _ _ _
   rw [e2]
   refine ((cf_lin hab (co G) (N + G.length) (fun i hi => co_ge (by omega)) t).add (cg.refl _)).trans ?_
   cases t with
   | zero => simp only [show ¬ (1 ≤ 0) by omega, if_false, if_true, Int.zero_add]; exact cg.of_eq rfl
   | succ t =>
    simp only [show (1 ≤ t + 1) by omega, if_true, show ¬ (t + 1 = 0) by omega, if_false, Int.add_zero, Nat.add_sub_cancel]
    exact ih t _ (by omega)
  rw [cf_ext (N := N) (M := N + (compL p f [b, 1]).length + 1) _ _ (by omega) fun i hi => co_ge (by omega)] at hs
  exact hs
theorem move_po {p b : Int} (hp : 0 < p) {f : List Int} (hf : f.length ≤ 25) : Po p (compL p f [b, 1]) :=
 Po.of (by have := compL_len2 p b f; omega) (compL_inR hp _ _) (compL_nz _ _ _)
theorem move_back {p a b : Int} (hp : IsP p) (hab : cg p (a + b) 0) {f : List Int} (pf : Po p f) : compL p (compL p f [b, 1]) [a, 1] = f := by
 refine (compL_nz _ _ _).ext pf.nz fun t => ?_
 have h := (comp_co hp.p0 (compL p f [b, 1]) [a, 1] t).trans (comp_back hp.p0 hab f t _ (Nat.le_refl _))
 exact h.eq ((compL_inR hp.p0 _ _).co hp.p0 t) (pf.inR.co hp.p0 t)
def ls (p : Int) (V : Nat → Int) (N : Nat) : List Int := trimL ((List.range N).map fun i => V i % p)
def ro (rows : List (List Int)) (i : Nat) : List Int := rows.getD i []
theorem ro_set (rows : List (List Int)) (b i : Nat) (x : List Int) (h : b < rows.length) : ro (rows.set b x) i = if i = b then x else ro rows i := by
 unfold ro
 rw [List.getD_eq_getElem?_getD, List.getD_eq_getElem?_getD]
 by_cases e : i = b
 ·
  subst e; rw [if_pos rfl, List.getElem?_set_self h]; rfl
 ·
  rw [if_neg e, List.getElem?_set_ne (fun h => e h.symm)]
structure Sq (p : Int) (n : Nat) (rows : List (List Int)) : Prop where
 len : rows.length = n
 row : ∀ i, i < n → (ro rows i).length = n
 inR : ∀ i, i < n → InR p (ro rows i)
theorem Sq.set {p : Int} {n : Nat} {rows : List (List Int)} (h : Sq p n rows) {b : Nat} (hb : b < n) {x : List Int} (hx : x.length = n) (hr : InR p x) : Sq p n (rows.set b x) := by
 refine ⟨by rw [List.length_set, h.len], fun i hi => ?_, fun i hi => ?_⟩
 ·
  rw [ro_set _ _ _ _ (by rw [h.len]; exact hb)]
  split
  ·
   exact hx
  ·
   exact h.row i hi
 ·
  rw [ro_set _ _ _ _ (by rw [h.len]; exact hb)]
  split
  ·
   exact hr
  ·
   exact h.inR i hi
theorem ba_app (a b : List UInt8) : (⟨a.toArray⟩ : ByteArray) ++ ⟨b.toArray⟩ = ⟨(a ++ b).toArray⟩ := by
 apply ByteArray.ext
 simp
theorem ba_size (a : List UInt8) : (⟨a.toArray⟩ : ByteArray).size = a.length := by simp [ByteArray.size]
theorem strOf_one (x : Int) : strOfNums [x] = ⟨[UInt8.ofNat x.toNat].toArray⟩ := rfl
theorem spec_dec (n : Nat) (hn : n ≤ 1000000000) : Ev (fun k => spec_l01Dec.f k (n : Int)) ⟨(Lib.decDigits n).toArray⟩ := by
 induction n using Nat.strongRecOn with
 | _ n ih =>
  have q0 : ¬ ((n : Int) < 0) := by omega
  by_cases h : n < 10
  ·
   have q1 : (n : Int) < 10 := by omega
   have e : (wrap64 (48 + (n : Int)) % 256).toNat = 48 + n := by rw [w64 (by omega) (by omega)]; omega
   refine Ev.succ ?_
   simp only [spec_l01Dec.f, if_neg q0, if_pos q1, strOf_one, e]
   rw [decDigits_lo h]
   exact Ev.now _
  ·
   have q1 : ¬ ((n : Int) < 10) := by omega
   have e1 : wrap64 (Int.tdiv (n : Int) 10) = ((n / 10 : Nat) : Int) := by
    rw [Int.tdiv_eq_ediv_of_nonneg (by omega), w64 (by omega) (by omega)]; omega
   have e2 : (wrap64 (48 + Int.tmod (n : Int) 10) % 256).toNat = 48 + n % 10 := by
    rw [Int.tmod_eq_emod_of_nonneg (by omega), w64 (by omega) (by omega)]; omega
   have h1 := ih (n / 10) (by omega) (by omega)
   refine Ev.succ ?_
   simp only [spec_l01Dec.f, if_neg q0, if_neg q1, e1]
   refine Ev.bind h1 ?_
   have hl := Lib.decDigits_length (n / 10)
   have hl2 : Lib.nDigits (n / 10) ≤ 20 := Lib.nDigits_le20 _ (by omega)
   have q2 : (⟨(Lib.decDigits (n / 10)).toArray⟩ : ByteArray).size + (⟨[UInt8.ofNat (48 + n % 10)].toArray⟩ : ByteArray).size ≤ 9223372036854775807 := by
    rw [ba_size, ba_size, hl]; simp; omega
   simp only [Option.bind_some, strOf_one, e2, if_pos q2]
   rw [ba_app, decDigits_hi h]
   exact Ev.now _
theorem itoa_nn {c : Int} (h : 0 ≤ c) : Lib.itoa c = Lib.decDigits c.toNat := by unfold Lib.itoa; rw [if_neg (by omega)]
theorem join_cons_ne (x : List UInt8) (ws : List (List UInt8)) (sep : List UInt8) (h : ws ≠ []) : Lib.join (x :: ws) sep = x ++ sep ++ Lib.join ws sep := by
 cases ws with
 | nil => exact absurd rfl h
 | cons y r => exact join_cons2 x y r sep
theorem spec_dec_i {c : Int} (h0 : 0 ≤ c) (h1 : c ≤ 1000000000) : Ev (fun k => spec_l01Dec.f k c) ⟨(Lib.itoa c).toArray⟩ := by
 obtain ⟨n, rfl⟩ : ∃ n : Nat, c = n := ⟨c.toNat, by omega⟩
 rw [itoa_nn h0, Int.toNat_natCast]
 exact spec_dec n (by omega)
theorem itoa_len {c : Int} (h0 : 0 ≤ c) (h1 : c ≤ 1000000000) : (Lib.itoa c).length ≤ 21 := Lib.itoa_length_le c (by omega) (by omega)
theorem spec_text (l : List Int) (hl : l.length ≤ 1000) (hb : ∀ x ∈ l, 0 ≤ x ∧ x ≤ 1000000000) : Ev (fun k => spec_l01Text.f k l) ⟨(if l.length = 0 then [48] else Lib.join (l.reverse.map Lib.itoa) [44]).toArray⟩ := by
 have loop : ∀ i (x3 : List UInt8), i + 1 ≤ l.length → x3.length + 22 * (i + 1) ≤ 100000 → Ev (fun k => spec_l01Text.l0 k l ⟨x3.toArray⟩ (i : Int)) ⟨(x3 ++ Lib.join ((l.take (i + 1)).reverse.map Lib.itoa) [44]).toArray⟩ := by
  intro i
  induction i with
  | zero =>
   intro x3 hi hx
   have hel := hb l[0] (List.getElem_mem _)
   have hd := spec_dec_i hel.1 hel.2
   have hdl := itoa_len hel.1 hel.2
   have e0 : rd l ((0 : Nat) : Int) = l[0] := by rw [rd_n, List.getD_eq_getElem?_getD, List.getElem?_eq_getElem (by omega)]; rfl
   have q1 : ((0 : Nat) : Int) ≥ 0 := by omega
   have q2 : (0 : Int) ≤ ((0 : Nat) : Int) := by omega
   have q3 : ((0 : Nat) : Int) < (l.length : Int) := by omega
   have q4 : (⟨x3.toArray⟩ : ByteArray).size + (⟨(Lib.itoa l[0]).toArray⟩ : ByteArray).size ≤ 9223372036854775807 := by rw [ba_size, ba_size]; omega
   have q5 : ¬ ((0 : Nat) : Int) > 0 := by omega
   have q6 : ¬ (((0 : Nat) : Int) - 1) ≥ 0 := by omega
   refine Ev.succ ?_
   simp only [spec_l01Text.l0, if_pos q1, if_pos q2, if_pos q3, e0]
   refine Ev.bind hd ?_
   simp only [if_pos q4, if_neg q5, wm1 (show 0 ≤ 1000000000000 by omega)]
   refine Ev.succ ?_
   simp only [spec_l01Text.l0, if_neg q6]
   refine Ev_to (Ev.now _) ?_
   have e1 : l.take (0 + 1) = [l[0]] := by
    rw [List.take_succ_eq_append_getElem (by omega)]; rfl
   rw [e1, ba_app]
   simp [Lib.join_one]
  | succ i ih =>
   intro x3 hi hx
   have hel := hb (l[i + 1]'(by omega)) (List.getElem_mem _)
   have hd := spec_dec_i hel.1 hel.2
   have hdl := itoa_len hel.1 hel.2
   have e0 : rd l ((i + 1 : Nat) : Int) = l[i + 1]'(by omega) := by rw [rd_n, List.getD_eq_getElem?_getD, List.getElem?_eq_getElem (by omega)]; rfl
   have h1 := ih (x3 ++ Lib.itoa (l[i + 1]'(by omega)) ++ [44]) (by omega) (by rw [List.length_append, List.length_append]; simp only [List.length_singleton]; omega)
   have q1 : ((i + 1 : Nat) : Int) ≥ 0 := by omega
   have q2 : (0 : Int) ≤ ((i + 1 : Nat) : Int) := by omega
   have q3 : ((i + 1 : Nat) : Int) < (l.length : Int) := by omega
   have q4 : (⟨x3.toArray⟩ : ByteArray).size + (⟨(Lib.itoa (l[i + 1]'(by omega))).toArray⟩ : ByteArray).size ≤ 9223372036854775807 := by rw [ba_size, ba_size]; omega
   have q5 : ((i + 1 : Nat) : Int) > 0 := by omega
   have q6 : ((⟨x3.toArray⟩ : ByteArray) ++ (⟨(Lib.itoa (l[i + 1]'(by omega))).toArray⟩ : ByteArray)).size + 1 ≤ 9223372036854775807 := by rw [ba_app, ba_size, List.length_append]; omega
   have e2 : ((⟨x3.toArray⟩ : ByteArray) ++ (⟨(Lib.itoa (l[i + 1]'(by omega))).toArray⟩ : ByteArray)) ++ (⟨#[44]⟩ : ByteArray) = ⟨(x3 ++ Lib.itoa (l[i + 1]'(by omega)) ++ [44]).toArray⟩ := by
    rw [ba_app]; exact ba_app _ [44]
   have w1 : wrap64 (((i + 1 : Nat) : Int) - 1) = (i : Int) := (wm1 (i := i + 1) (by omega)).trans ws1
   refine Ev.succ ?_
   simp only [spec_l01Text.l0, if_pos q1, if_pos q2, if_pos q3, e0]
   refine Ev.bind hd ?_
   simp only [if_pos q4, if_pos q5, if_pos q6, e2, w1]
   refine Ev_to h1 ?_
   have e3 : l.take (i + 1 + 1) = l.take (i + 1) ++ [l[i + 1]'(by omega)] := List.take_succ_eq_append_getElem (by omega)
   have hne : (l.take (i + 1)).reverse.map Lib.itoa ≠ [] := by
    intro h
    have := congrArg List.length h
    rw [List.length_map, List.length_reverse, List.length_take, List.length_nil] at this
    omega
   rw [e3, List.reverse_append, List.reverse_singleton, List.singleton_append, List.map_cons, join_cons_ne _ _ _ hne]
   simp [List.append_assoc]
 by_cases h0 : l.length = 0
 ·
  have q : (l.length : Int) = 0 := by omega
  simp only [spec_l01Text.f, if_pos q, if_pos h0]
  exact Ev.now _
 ·
  have q : ¬ (l.length : Int) = 0 := by omega
  obtain ⟨i, hi⟩ : ∃ i, l.length = i + 1 := ⟨l.length - 1, by omega⟩
  have h := loop i [] (by omega) (by simp; omega)
  have e : wrap64 ((l.length : Int) - 1) = (i : Int) := by rw [hi, wm1 (by omega)]; exact ws1
  rw [List.take_of_length_le (by omega), List.nil_append] at h
  simp only [spec_l01Text.f, if_neg q, if_neg h0, e]
  exact h
def polyTx (f : List Int) : List UInt8 := if f.length = 0 then [48] else Lib.join (f.reverse.map Lib.itoa) [44]
theorem numsI_all : ∀ (ws : List (List UInt8)) (p : Int), p ≤ 1000000000 → (∀ w ∈ ws, 0 ≤ numW w ∧ numW w < p) → numsI ws = some (ws.map numW) ∧ (ws.map numW).map Lib.itoa = ws
 | [], p, _, _ => ⟨rfl, rfl⟩
 | w :: r, p, hp, h => by
  obtain ⟨h1, h2⟩ := numsI_all r p hp (fun u hu => h u (List.mem_cons_of_mem _ hu))
  obtain ⟨hw0, hw1⟩ := h w (by simp)
  obtain ⟨n, e, hl, hn⟩ := numW_inv hw0
  have hp1 : Lib.parseIntB 64 w = .ok (numW w) := by rw [e, hl]; exact parse_dec (by omega)
  have hi : Lib.itoa (numW w) = w := by rw [itoa_nn hw0, e, Int.toNat_natCast, ← hl]
  refine ⟨?_, ?_⟩
  ·
   rw [numsI, hp1, h1]; rfl
  ·
   rw [List.map_cons, List.map_cons, hi, h2]
theorem numW_itoa : ∀ (ns : List Int), (∀ x ∈ ns, 0 ≤ x ∧ x < 1000000000) → (ns.map Lib.itoa).map numW = ns ∧ ∀ w ∈ ns.map Lib.itoa, (44 : UInt8) ∉ w
 | [], _ => ⟨rfl, by simp⟩
 | x :: r, h => by
  obtain ⟨h1, h2⟩ := numW_itoa r (fun y hy => h y (List.mem_cons_of_mem _ hy))
  obtain ⟨hx0, hx1⟩ := h x (by simp)
  obtain ⟨n, rfl⟩ : ∃ n : Nat, x = n := ⟨x.toNat, by omega⟩
  have e : Lib.itoa (n : Int) = Lib.decDigits n := by rw [itoa_nn hx0, Int.toNat_natCast]
  refine ⟨?_, ?_⟩
  ·
   rw [List.map_cons, List.map_cons, h1, e, numW_dec (by omega)]
  ·
   intro w hw
   rw [List.map_cons] at hw
   rcases List.mem_cons.1 hw with rfl | hw
   ·
    rw [e]; exact dec_free n
   ·
    exact h2 w hw
theorem parse_eq {p : Int} (hp : p ≤ 10007) {t : List UInt8} (ht : t ≠ [48]) :
  (match numsI (parts 44 t) with
   | none => (([] : List Int), (6 : Int))
   | some ns => if polyB p ns.reverse = true ∧ polyTx ns.reverse = t then (ns.reverse, 0) else ([], 6)) =
  if polyB p ((parts 44 t).map numW).reverse = true then (((parts 44 t).map numW).reverse, 0) else ([], 6) := by
 by_cases hb : polyB p ((parts 44 t).map numW).reverse = true
 ·
  have hpo := polyB_iff.1 hb
  have hall : ∀ w ∈ parts 44 t, 0 ≤ numW w ∧ numW w < p := fun w hw => hpo.el _ (List.mem_reverse.2 (List.mem_map_of_mem hw))
  obtain ⟨h1, h2⟩ := numsI_all (parts 44 t) p (by omega) hall
  have hl : ¬ ((parts 44 t).map numW).reverse.length = 0 := by
   rw [List.length_reverse, List.length_map]
   intro h
   exact parts_ne 44 t (List.eq_nil_of_length_eq_zero h)
  have h3 : polyTx ((parts 44 t).map numW).reverse = t := by
   unfold polyTx
   rw [if_neg hl, List.reverse_reverse, h2, join_parts]
  rw [h1, if_pos hb]
  dsimp only
  rw [if_pos ⟨hb, h3⟩]
 ·
  rw [if_neg hb]
  cases hn : numsI (parts 44 t) with
  | none => rfl
  | some ns =>
   dsimp only
   rw [if_neg]
   rintro ⟨h1, h2⟩
   have hpo := polyB_iff.1 h1
   unfold polyTx at h2
   by_cases hl : ns.reverse.length = 0
   ·
    rw [if_pos hl] at h2
    exact ht h2.symm
   ·
    rw [if_neg hl, List.reverse_reverse] at h2
    obtain ⟨h3, h4⟩ := numW_itoa ns (fun x hx => by have := hpo.el x (List.mem_reverse.2 hx); omega)
    have h5 : parts 44 t = ns.map Lib.itoa := by
     rw [← h2]
     refine parts_join 44 _ ?_ h4
     intro h
     have := congrArg List.length h
     rw [List.length_map] at this
     rw [List.length_reverse] at hl
     exact hl this
    rw [h5, h3] at hb
    exact hb h1
theorem parse_zero (p : Int) : numsI (parts 44 [48]) = some [0] := by
 have h : parts 44 [48] = [Lib.decDigits 0] := by
  rw [decDigits_lo (by omega)]
  decide
 have h2 : Lib.parseIntB 64 (Lib.decDigits 0) = .ok ((0 : Nat) : Int) := parse_dec (by omega)
 rw [h, numsI, h2, numsI]
 rfl
theorem polyB_nil (p : Int) : polyB p [] = true := by
 unfold polyB
 simp
theorem ba_len (a : ByteArray) : a.data.toList.length = a.size := by rw [Array.length_toList]; rfl
theorem bt_nat (a : ByteArray) (i : Nat) (h : i < a.data.toList.length) : bt a (i : Int) = ((a.data.toList[i]'h).toNat : Int) := by
 have h2 : ((i : Int)).toNat < a.size := by rw [← ba_len]; omega
 unfold bt
 rw [dif_pos h2]
 simp only [Int.toNat_natCast, Array.getElem_toList]
 rfl
theorem digitVal_none {b : UInt8} (h : b.toNat < 48 ∨ 57 < b.toNat) : Lib.digitVal b = none := by
 unfold Lib.digitVal
 rw [if_neg (by omega)]
theorem digitVal_some {b : UInt8} (h1 : 48 ≤ b.toNat) (h2 : b.toNat ≤ 57) : Lib.digitVal b = some (b.toNat - 48) := by
 unfold Lib.digitVal
 rw [if_pos ⟨h1, h2⟩]
def numO : Option Nat → Int
 | some n => (n : Int)
 | none => -1
theorem spec_num_loop (a : ByteArray) (h9 : a.data.toList.length ≤ 9) : ∀ (d i acc : Nat), i + d = a.data.toList.length → acc < 10 ^ i → Ev (fun k => spec_l01Number.l0 k a (acc : Int) (i : Int)) (numO (Lib.decFrom acc (a.data.toList.drop i))) := by
 intro d
 induction d with
 | zero =>
  intro i acc h hacc
  have hs := ba_len a
  have q : ¬ ((i : Int) < (a.size : Int)) := by omega
  refine Ev.succ ?_
  simp only [spec_l01Number.l0, if_neg q]
  refine Ev_to (Ev.now _) ?_
  rw [List.drop_eq_nil_of_le (by omega)]
  rfl
 | succ d ih =>
  intro i acc h hacc
  have hs := ba_len a
  have hi : i < a.data.toList.length := by omega
  have q : ((i : Int) < (a.size : Int)) := by omega
  have q0 : (0 : Int) ≤ (i : Int) := by omega
  have hb := bt_nat a i hi
  rw [List.drop_eq_getElem_cons hi]
  generalize a.data.toList[i] = b at hb
  have hacc9 : acc < 1000000000 := Nat.lt_of_lt_of_le hacc (Nat.le_trans (Nat.pow_le_pow_right (by omega) (show i ≤ 9 by omega)) (by decide))
  have hpw : ∀ x, x ≤ 9 → acc * 10 + x < 10 ^ (i + 1) := fun x hx => by
   rw [Nat.pow_succ]
   generalize 10 ^ i = q at hacc
   omega
  clear hacc
  refine Ev.succ ?_
  simp only [spec_l01Number.l0, if_pos q, if_pos q0, hb]
  by_cases c1 : (b.toNat : Int) < 48
  ·
   simp only [if_pos c1]
   refine Ev_to (Ev.now _) ?_
   rw [Lib.decFrom, digitVal_none (by omega)]
   rfl
  ·
   by_cases c2 : (b.toNat : Int) > 57
   ·
    simp only [if_neg c1, if_pos c2]
    refine Ev_to (Ev.now _) ?_
    rw [Lib.decFrom, digitVal_none (by omega)]
    rfl
   ·
    simp only [if_neg c1, if_neg c2]
    have h1 := ih (i + 1) (acc * 10 + (b.toNat - 48)) (by omega) (hpw _ (by omega))
    have e2 : ((b.toNat : Int) - 48) % 256 = ((b.toNat - 48 : Nat) : Int) := by omega
    have e4 : (acc : Int) * 10 = ((acc * 10 : Nat) : Int) := by omega
    have e5 : ((acc * 10 : Nat) : Int) + ((b.toNat - 48 : Nat) : Int) = ((acc * 10 + (b.toNat - 48) : Nat) : Int) := by omega
    have b1 : acc * 10 + (b.toNat - 48) ≤ 1000000000000 := by omega
    have e1 : wrap64 ((acc * 10 : Nat) : Int) = ((acc * 10 : Nat) : Int) := w64 (by omega) (by omega)
    have e3 : wrap64 ((acc * 10 + (b.toNat - 48) : Nat) : Int) = ((acc * 10 + (b.toNat - 48) : Nat) : Int) := by
     clear e1
     exact w64 (by omega) (by omega)
    have e6 : wrap64 ((i : Int) + 1) = ((i + 1 : Nat) : Int) := by
     clear e1 e3
     exact wp1 (by omega)
    rw [e4, e1, e2, e5, e3, e6]
    clear e1 e3 e6
    have d1 := digitVal_some (b := b) (by omega) (by omega)
    rw [Lib.decFrom, d1]
    exact h1
theorem head_get (l : List UInt8) (h : 0 < l.length) : l.head? = some 48 ↔ ((l[0]'h).toNat : Int) = 48 := by
 cases l with
 | nil => simp at h
 | cons b r =>
  simp only [List.head?_cons, Option.some.injEq, List.getElem_cons_zero]
  constructor
  ·
   rintro rfl; rfl
  ·
   intro h
   apply UInt8.toNat_inj.1
   show b.toNat = 48
   omega
theorem spec_number (a : ByteArray) : Ev (fun k => spec_l01Number.f k a) (numW a.data.toList) := by
 have hs := ba_len a
 unfold numW
 by_cases c0 : a.data.toList.length = 0
 ·
  have q : (a.size : Int) = 0 := by omega
  simp only [spec_l01Number.f, if_pos q]
  rw [if_pos (.inl c0)]
  refine Ev.succ ?_
  simp only [spec_l01Number.j0, if_true]
  exact Ev.now _
 ·
  have q : ¬ (a.size : Int) = 0 := by omega
  by_cases c9 : 9 < a.data.toList.length
  ·
   have q9 : (a.size : Int) > 9 := by omega
   simp only [spec_l01Number.f, if_neg q, if_pos q9]
   rw [if_pos (.inr (.inl c9))]
   refine Ev.succ ?_
   simp only [spec_l01Number.j0, if_true]
   exact Ev.now _
  ·
   have q9 : ¬ (a.size : Int) > 9 := by omega
   have hlp := spec_num_loop a (by omega) a.data.toList.length 0 0 (by omega) (by omega)
   rw [List.drop_zero] at hlp
   by_cases c1 : 1 < a.data.toList.length
   ·
    have q1 : (a.size : Int) > 1 := by omega
    have q2 : (0 : Int) < (a.size : Int) := by omega
    have hb := bt_nat a 0 (by omega)
    have hh := head_get a.data.toList (by omega)
    simp only [spec_l01Number.f, if_neg q, if_neg q9, if_pos q1, if_pos q2]
    by_cases ch : a.data.toList.head? = some 48
    ·
     rw [if_pos (.inr (.inr ⟨c1, ch⟩))]
     have e : (bt a 0 == 48) = true := beq_iff_eq.mpr (hb.trans (hh.1 ch))
     rw [e]
     refine Ev.succ ?_
     simp only [spec_l01Number.j0, if_true]
     exact Ev.now _
    ·
     rw [if_neg (by rintro (h | h | h); exact c0 h; exact c9 h; exact ch h.2)]
     have e : (bt a 0 == 48) = false := beq_eq_false_iff_ne.mpr (fun h => ch (hh.2 (hb.symm.trans h)))
     rw [e]
     refine Ev_to (r := numO (Lib.decFrom 0 a.data.toList)) ?_ (by cases Lib.decFrom 0 a.data.toList <;> rfl)
     refine Ev.succ ?_
     simp only [spec_l01Number.j0, Bool.false_eq_true, if_false]
     exact hlp
   ·
    have q1 : ¬ (a.size : Int) > 1 := by omega
    simp only [spec_l01Number.f, if_neg q, if_neg q9, if_neg q1]
    rw [if_neg (by rintro (h | h | h); exact c0 h; exact c9 h; exact c1 h.1)]
    refine Ev_to (r := numO (Lib.decFrom 0 a.data.toList)) ?_ (by cases Lib.decFrom 0 a.data.toList <;> rfl)
    refine Ev.succ ?_
    simp only [spec_l01Number.j0, Bool.false_eq_true, if_false]
    exact hlp
def baOf (l : List UInt8) : ByteArray := ⟨l.toArray⟩
theorem ba_of_data {a : ByteArray} {l : List UInt8} (h : a.data.toList = l) : a = baOf l := by
 subst h
 unfold baOf
 cases a
 simp
theorem extract_ba (a : ByteArray) (i j : Nat) : a.extract i j = baOf ((a.data.toList.take j).drop i) := ba_of_data (by rw [Lib.extract_data, List.drop_take])
theorem spec_split_loop (a : ByteArray) (hl : a.data.toList.length ≤ 950000000) : ∀ (d i at_ : Nat) (x : List ByteArray), i + d = a.data.toList.length → at_ ≤ i → x.length ≤ i → Ev (fun k => spec_l01Split.l0 k a 44 x (at_ : Int) (i : Int)) (x ++ (((a.data.toList.take i).drop at_ ++ (parts 44 (a.data.toList.drop i)).headD []) :: (parts 44 (a.data.toList.drop i)).tail).map baOf) := by
 intro d
 induction d with
 | zero =>
  intro i at_ x h hat hx
  have hs := ba_len a
  have q1 : ¬ ((i : Int) < (a.size : Int)) := by omega
  have q2 : (0 : Int) ≤ (at_ : Int) := by omega
  have q3 : (at_ : Int) ≤ (a.size : Int) := by omega
  have q4 : x.length < 8796093022208 := by omega
  refine Ev.succ ?_
  simp only [spec_l01Split.l0, if_neg q1, if_pos q2, if_pos q3, if_pos q4]
  refine Ev_to (Ev.now _) ?_
  have hd : a.data.toList.drop i = [] := List.drop_eq_nil_of_le (by omega)
  have hsz : a.size = i := by omega
  rw [hd, extract_ba, Int.toNat_natCast, hsz]
  simp [parts]
 | succ d ih =>
  intro i at_ x h hat hx
  have hs := ba_len a
  have hi : i < a.data.toList.length := by omega
  have q1 : ((i : Int) < (a.size : Int)) := by omega
  have q2 : (0 : Int) ≤ (at_ : Int) := by omega
  have q3 : (at_ : Int) ≤ (i : Int) := by omega
  have q4 : x.length < 8796093022208 := by omega
  have q5 : (0 : Int) ≤ (i : Int) := by omega
  have q6 : (i : Int) ≤ (a.size : Int) := by omega
  have hb := bt_nat a i hi
  have hdr := List.drop_eq_getElem_cons hi
  have htk := List.take_succ_eq_append_getElem hi
  obtain ⟨u, us, hu⟩ := parts_form 44 (a.data.toList.drop (i + 1))
  refine Ev.succ ?_
  simp only [spec_l01Split.l0, if_pos q1, if_pos q5]
  by_cases c : bt a (i : Int) = 44
  ·
   have h1 := ih (i + 1) (i + 1) (x ++ [a.extract at_ i]) (by omega) (Nat.le_refl _) (by rw [List.length_append]; simp only [List.length_singleton]; omega)
   simp only [if_pos c, if_pos q2, if_pos q3, if_pos q6, if_pos q4, Int.toNat_natCast]
   rw [wp1 (by omega)]
   refine Ev_to h1 ?_
   have hb2 : a.data.toList[i] = 44 := by
    apply UInt8.toNat_inj.1
    show (a.data.toList[i]).toNat = 44
    omega
   rw [hdr, hb2, parts, if_pos rfl, hu, extract_ba]
   simp
  ·
   have h1 := ih (i + 1) at_ x (by omega) (by omega) (by omega)
   simp only [if_neg c]
   rw [wp1 (by omega)]
   refine Ev_to h1 ?_
   have hb2 : ¬ a.data.toList[i] = 44 := fun h => c (by rw [hb, h]; rfl)
   rw [hdr, parts, if_neg hb2, hu, htk, List.drop_append_of_le_length (by rw [List.length_take]; omega)]
   simp
theorem spec_split (a : ByteArray) (hl : a.data.toList.length ≤ 950000000) : Ev (fun k => spec_l01Split.f k a 44) ((parts 44 a.data.toList).map baOf) := by
 have h := spec_split_loop a hl a.data.toList.length 0 0 [] (by omega) (Nat.le_refl _) (by simp)
 obtain ⟨u, us, hu⟩ := parts_form 44 a.data.toList
 simp only [List.drop_zero] at h
 rw [hu] at h ⊢
 exact h
theorem spec_read_loop (p : Int) (ws : List (List UInt8)) : ∀ (n : Nat) (x : List Int), n ≤ ws.length → x.length + n ≤ 1000000000 → Ev (fun k => spec_l01Read.l0 k p x (ws.map baOf) ((n : Int) - 1)) (x ++ ((ws.take n).map numW).reverse, polyB p (x ++ ((ws.take n).map numW).reverse)) := by
 intro n
 induction n with
 | zero =>
  intro x hn hx
  have q : ¬ (((0 : Nat) : Int) - 1 ≥ 0) := by omega
  refine Ev.succ ?_
  simp only [spec_l01Read.l0, if_neg q, List.take_zero, List.map_nil, List.reverse_nil, List.append_nil]
  exact Ev.bind (spec_poly p x (by omega)) (Ev.now _)
 | succ n ih =>
  intro x hn hx
  have q0 : ((n : Int)) ≥ 0 := by omega
  have q1 : (0 : Int) ≤ (n : Int) := by omega
  have q2 : (n : Int) < ((ws.map baOf).length : Int) := by rw [List.length_map]; omega
  have q3 : x.length < 17592186044416 := by omega
  have e0 : rdOf ByteArray.empty (ws.map baOf) (n : Int) = baOf (ws[n]'(by omega)) := by
   unfold rdOf
   rw [Int.toNat_natCast, List.getD_eq_getElem?_getD, List.getElem?_map, List.getElem?_eq_getElem (show n < ws.length by omega)]
   rfl
  have hnm := spec_number (baOf (ws[n]'(by omega)))
  have e1 : (baOf (ws[n]'(by omega))).data.toList = ws[n]'(by omega) := rfl
  rw [e1] at hnm
  have h1 := ih (x ++ [numW (ws[n]'(by omega))]) (by omega) (by rw [List.length_append]; simp only [List.length_singleton]; omega)
  refine Ev.succ ?_
  rw [ws1]
  simp only [spec_l01Read.l0, if_pos q0, if_pos q1, if_pos q2, e0]
  refine Ev.bind hnm ?_
  simp only [if_pos q3]
  rw [wm1 (by omega)]
  have e4 : x ++ [numW (ws[n]'(by omega))] ++ ((ws.take n).map numW).reverse = x ++ ((ws.take (n + 1)).map numW).reverse := by
   rw [List.take_succ_eq_append_getElem (show n < ws.length by omega), List.map_append, List.reverse_append, List.append_assoc]
   rfl
  rw [← e4]
  exact h1
theorem spec_read (p : Int) (a : ByteArray) (hl : a.data.toList.length ≤ 950000000) : Ev (fun k => spec_l01Read.f k p a) (if a.data.toList = [48] then ([], true) else (((parts 44 a.data.toList).map numW).reverse, polyB p ((parts 44 a.data.toList).map numW).reverse)) := by
 simp only [spec_l01Read.f, Option.bind_some]
 by_cases c : a.data.toList = [48]
 ·
  have c' : a.toList = [48] := by rw [ByteArray.toList_eq]; exact c
  simp only [if_pos c, if_pos c']
  exact Ev.now _
 ·
  have c' : ¬ a.toList = [48] := by rw [ByteArray.toList_eq]; exact c
  have hp := parts_size 44 a.data.toList
  simp only [if_neg c, if_neg c']
  refine Ev.bind (spec_split a hl) ?_
  have h := spec_read_loop p (parts 44 a.data.toList) (parts 44 a.data.toList).length [] (Nat.le_refl _) (by simp only [List.length_nil]; omega)
  rw [List.take_length, List.nil_append] at h
  rw [List.length_map, wm1 (by omega)]
  exact h
noncomputable def parA (p : Int) (t : List UInt8) : List Int × Int := if primeB p = true then (if t = [48] then ([], 0) else if polyB p ((parts 44 t).map numW).reverse = true then (((parts 44 t).map numW).reverse, 0) else ([], 6)) else ([], 2)
theorem spec_parse (p : Int) (a : ByteArray) (hl : a.data.toList.length ≤ 950000000) : Ev (fun k => spec_ParsePoly.f k p a) (parA p a.data.toList) := by
 simp only [spec_ParsePoly.f]
 refine Ev.bind (spec_prime p) ?_
 unfold parA
 by_cases hp : primeB p = true
 ·
  simp only [if_pos hp]
  refine Ev.bind (spec_read p a hl) ?_
  by_cases c : a.data.toList = [48]
  ·
   simp only [if_pos c]
   exact Ev.now _
  ·
   simp only [if_neg c]
   by_cases hb : polyB p ((parts 44 a.data.toList).map numW).reverse = true
   ·
    simp only [if_pos hb]
    exact Ev.now _
   ·
    simp only [if_neg hb]
    exact Ev.now _
 ·
  simp only [if_neg hp]
  exact Ev.now _
theorem valL_linear {p : Int} (hp : 2 ≤ p) (r x : Int) : valL p [(-r) % p, 1] x = (x - r) % p := by
 show ((((0 : Int) * x + 1) % p) * x + (-r) % p) % p = _
 rw [show (0 : Int) * x + 1 = 1 by omega, Int.emod_eq_of_lt (show (0 : Int) ≤ 1 by omega) (show (1 : Int) < p by omega), Int.one_mul, Int.add_comm, ea_l]
 congr 1
 omega
theorem intF_takes {p : Int} (hp : IsP p) {xs ys : List Int} (rx : InR p xs) (ry : InR p ys) (hd : ∀ i j, i < j → j < xs.length → xs.getD i 0 ≠ xs.getD j 0) :
  ∀ d i out base, i + d = xs.length → InR p out → InR p base → (∀ j, j < i → valL p out (xs.getD j 0) = ys.getD j 0) → (∀ j, j < i → valL p base (xs.getD j 0) = 0) → (∀ j, i ≤ j → j < xs.length → valL p base (xs.getD j 0) ≠ 0) →
   ∀ j, j < xs.length → valL p (intF p xs ys d i out base) (xs.getD j 0) = ys.getD j 0
 | 0, i, out, base, h, _, _, h1, _, _, j, hj => h1 j (by omega)
 | d + 1, i, out, base, h, ro, rb, h1, h2, h3, j, hj => by
  have hp0 := hp.p0
  have hp2 := hp.p2
  refine intF_takes hp rx ry hd d (i + 1) _ _ (by omega) (addL_inR hp0 ro _ _) (mulL_inR hp0 _ _) (fun t ht => ?_) (fun t ht => ?_) (fun t ht ht2 => ?_) j hj
  ·
   rw [valL_add hp0 ro]
   by_cases e : t = i
   ·
    subst e
    have hb := h3 t (Nat.le_refl _) (by omega)
    have vb := valL_bd hp0 base (xs.getD t 0)
    have vo := valL_bd hp0 out (xs.getD t 0)
    have hy := ry.get hp0 t
    generalize hB : valL p base (xs.getD t 0) = B at hb vb
    generalize hO : valL p out (xs.getD t 0) = O at vo
    generalize hY : ys.getD t 0 = Y at hy
    have hk : intK p xs ys t out base = (Y - O) % p * inv p B % p := by unfold intK; rw [hB, hO, hY]
    rw [hk]
    have hi := inv_one hp (x := B) (by omega)
    have hc : cg p (O + (Y - O) % p * inv p B % p * B) Y := by
     have c1 : cg p ((Y - O) % p * inv p B % p * B) ((Y - O) * inv p B * B) := ((cg.mod _ _).trans ((cg.mod p (Y - O)).mul (cg.refl _))).mul (cg.refl _)
     have c2 : cg p ((Y - O) * inv p B * B) (Y - O) := by
      have := (cg.refl (p := p) (Y - O)).mul hi
      rw [Int.mul_one] at this
      rw [Int.mul_assoc, Int.mul_comm (inv p B) B]
      exact this
     have := (cg.refl (p := p) O).add (c1.trans c2)
     rwa [show O + (Y - O) = Y by omega] at this
    exact ((cg.mod _ _).trans hc).eq (emod_bd hp0) hy
   ·
    have ht' : t < i := by omega
    have hy := ry.get hp0 t
    rw [h1 t ht', h2 t ht', Int.mul_zero, Int.add_zero, Int.emod_eq_of_lt hy.1 hy.2]
  ·
   rw [valL_mul hp0, valL_linear hp2]
   by_cases e : t = i
   ·
    subst e
    rw [Int.sub_self, Int.zero_emod, Int.mul_zero, Int.zero_emod]
   ·
    rw [h2 t (by omega), Int.zero_mul, Int.zero_emod]
  ·
   rw [valL_mul hp0, valL_linear hp2]
   have vb := valL_bd hp0 base (xs.getD t 0)
   have hb := h3 t (by omega) ht2
   have hx1 := rx.get hp0 t
   have hx2 := rx.get hp0 i
   have hne := hd i t (by omega) ht2
   have hm : 0 < (xs.getD t 0 - xs.getD i 0) % p ∧ (xs.getD t 0 - xs.getD i 0) % p < p := by
    have hb2 := emod_bd (x := xs.getD t 0 - xs.getD i 0) hp0
    refine ⟨?_, hb2.2⟩
    rcases Int.lt_or_le 0 ((xs.getD t 0 - xs.getD i 0) % p) with h | h
    ·
     exact h
    ·
     exfalso
     have h0 : (xs.getD t 0 - xs.getD i 0) % p = 0 := by omega
     obtain ⟨c, hc⟩ := Int.dvd_of_emod_eq_zero h0
     have : c = 0 := by
      rcases Int.lt_trichotomy c 0 with h | h | h
      ·
       have : p * c ≤ p * (-1) := Int.mul_le_mul_of_nonneg_left (by omega) (by omega)
       omega
      ·
       exact h
      ·
       have : p * 1 ≤ p * c := Int.mul_le_mul_of_nonneg_left (by omega) (by omega)
       omega
     subst this
     omega
   exact mul_ne0 hp (by omega) hm
def lcf (h : Nat) : Nat := (h * 6364136223846793005 + 1442695040888963407) % 18446744073709551616
def lcg (h : Nat) : Nat := (7520897724310334953 * h + 1876011003808476466) % 18446744073709551616
def itN (f : Nat → Nat) : Nat → Nat → Nat
 | 0, h => h
 | n + 1, h => itN f n (f h)
theorem itN_add (f : Nat → Nat) : ∀ m n h, itN f (m + n) h = itN f n (itN f m h)
 | 0, n, h => by rw [Nat.zero_add]; rfl
 | m + 1, n, h => by rw [show m + 1 + n = (m + n) + 1 by omega]; exact itN_add f m n _
theorem itN_zero (f : Nat → Nat) (h : Nat) : itN f 0 h = h := rfl
theorem itN_one (f : Nat → Nat) (h : Nat) : itN f 1 h = f h := rfl
def lcn (n h : Nat) : Nat := itN lcg n h
def lcx (h : Nat) : Nat := h / 8589934592 % 16777216
theorem lc_mod (M x y z : Nat) : (x * (y % M) + z) % M = (x * y + z) % M := by
 rw [Nat.add_mod, Nat.mul_mod, Nat.mod_mod, ← Nat.mul_mod, ← Nat.add_mod]
theorem lc_mod2 (M x y z : Nat) : ((x % M) * y + z % M) % M = (x * y + z) % M := by
 rw [Nat.add_mod, Nat.mul_mod, Nat.mod_mod, Nat.mod_mod, ← Nat.mul_mod, ← Nat.add_mod]
theorem lc_two (M a c h : Nat) : ((h * a + c) % M * a + c) % M = ((a * a % M) * h + (c * a + c) % M) % M := by
 rw [Nat.mul_comm ((h * a + c) % M) a, lc_mod, lc_mod2, Nat.mul_add, Nat.mul_comm h a, ← Nat.mul_assoc, Nat.add_assoc, Nat.mul_comm c a]
theorem lc_A0 : 6364136223846793005 * 6364136223846793005 % 18446744073709551616 = 7520897724310334953 := by decide +kernel
theorem lc_C0 : (1442695040888963407 * 6364136223846793005 + 1442695040888963407) % 18446744073709551616 = 1876011003808476466 := by decide +kernel
theorem lcg_two (h : Nat) : lcf (lcf h) = lcg h := by
 unfold lcf lcg
 rw [lc_two, lc_A0, lc_C0]
theorem lcn_add (m n h : Nat) : lcn (m + n) h = lcn n (lcn m h) := itN_add lcg m n h
theorem lcn_zero (h : Nat) : lcn 0 h = h := itN_zero lcg h
theorem lcn_one (h : Nat) : lcn 1 h = lcg h := itN_one lcg h
def lcA : Nat → Nat
 | 0 => 7520897724310334953
 | k + 1 => lcA k * lcA k % 18446744073709551616
def lcC : Nat → Nat
 | 0 => 1876011003808476466
 | k + 1 => (lcA k * lcC k + lcC k) % 18446744073709551616
theorem lcn_pow : ∀ k h, lcn (2 ^ k) h = (lcA k * h + lcC k) % 18446744073709551616
 | 0, h => by
  rw [Nat.pow_zero, lcn_one]
  unfold lcg
  rfl
 | k + 1, h => by
  rw [show 2 ^ (k + 1) = 2 ^ k + 2 ^ k by rw [Nat.pow_succ]; omega, lcn_add, lcn_pow k, lcn_pow k, lc_mod]
  show _ = (lcA k * lcA k % 18446744073709551616 * h + (lcA k * lcC k + lcC k) % 18446744073709551616) % 18446744073709551616
  rw [lc_mod2]
  congr 1
  rw [Nat.mul_add, Nat.mul_assoc, Nat.add_assoc]
theorem lc_low {P A C h t : Int} (ha : 4 * P ∣ A - 1) (hc : 2 * P ∣ C - P) (hh : P ∣ h - t) (hn : ¬ 2 * P ∣ h - t) : 2 * P ∣ A * h + C - t := by
 obtain ⟨v, hv⟩ := ha
 obtain ⟨w, hw⟩ := hc
 obtain ⟨u, hu⟩ := hh
 have hodd : u % 2 = 1 := by
  rcases (show u % 2 = 0 ∨ u % 2 = 1 by omega) with e | e
  ·
   exfalso
   obtain ⟨s, hs⟩ := Int.dvd_of_emod_eq_zero e
   exact hn ⟨s, by rw [hu, hs, Int.mul_comm 2 P, Int.mul_assoc]⟩
  ·
   exact e
 obtain ⟨s, hs⟩ : ∃ s, u = 2 * s + 1 := ⟨u / 2, by omega⟩
 refine ⟨s + w + 1 + 2 * (v * h), ?_⟩
 have e1 : A * h = 4 * P * v * h + h := by
  have : A = 4 * P * v + 1 := by omega
  rw [this, Int.add_mul, Int.one_mul]
 have e2 : 4 * P * v * h = 2 * P * (2 * (v * h)) := by
  rw [Int.mul_assoc, show (4 : Int) * P = 2 * P * 2 by omega, Int.mul_assoc (2 * P) 2]
 have e3 : P * u = 2 * P * s + P := by
  rw [hs, Int.mul_add, Int.mul_one, ← Int.mul_assoc, Int.mul_comm P 2]
 rw [Int.mul_add, Int.mul_add, Int.mul_add, Int.mul_one, ← e2]
 omega
theorem lc_facts : ∀ j, j < 26 → (lcA j) % (4 * 2 ^ (j + 1)) = 1 ∧ lcC j % (2 * 2 ^ (j + 1)) = 2 ^ (j + 1) ∧ 18446744073709551616 % 2 ^ (j + 2) = 0 := by decide +kernel
theorem lc_align (t h : Nat) (ht : h < 18446744073709551616) (e : h % 2 = t % 2) : ∀ j, j ≤ 26 → ∃ n, n < 2 ^ j ∧ ((2 : Int) ^ (j + 1) ∣ (lcn n h : Int) - t)
 | 0, _ => ⟨0, by decide, by rw [lcn_zero]; show (2 : Int) ∣ (h : Int) - t; omega⟩
 | j + 1, hj => by
  obtain ⟨n, hn, hd⟩ := lc_align t h ht e j (by omega)
  obtain ⟨f1, f2, f3⟩ := lc_facts j (by omega)
  have p1 : (2 : Int) ^ (j + 1 + 1) = 2 * 2 ^ (j + 1) := by rw [Int.pow_succ, Int.mul_comm]
  have p2 : 2 ^ (j + 1) = 2 ^ j + 2 ^ j := by rw [Nat.pow_succ]; omega
  by_cases c : (2 : Int) ^ (j + 1 + 1) ∣ (lcn n h : Int) - t
  ·
   exact ⟨n, by omega, c⟩
  ·
   refine ⟨n + 2 ^ j, by omega, ?_⟩
   rw [lcn_add, lcn_pow]
   rw [p1] at c ⊢
   have ha : 4 * (2 : Int) ^ (j + 1) ∣ (lcA j : Int) - 1 := by
    have : (((lcA j) % (4 * 2 ^ (j + 1)) : Nat) : Int) = 1 := by rw [f1]; rfl
    rw [Int.natCast_emod, Int.natCast_mul, Int.natCast_pow] at this
    refine Int.dvd_of_emod_eq_zero ?_
    have h2 := Int.emod_emod_of_dvd
    exact Int.emod_eq_emod_iff_emod_sub_eq_zero.1 (this.trans (Int.emod_eq_of_lt (by decide) (by
     have : (0 : Int) < 2 ^ (j + 1) := Int.pow_pos (by decide)
     show (1 : Int) < ((4 : Nat) : Int) * ((2 : Nat) : Int) ^ (j + 1)
     show (1 : Int) < 4 * 2 ^ (j + 1)
     omega)).symm)
   have hc : 2 * (2 : Int) ^ (j + 1) ∣ (lcC j : Int) - 2 ^ (j + 1) := by
    have : ((lcC j % (2 * 2 ^ (j + 1)) : Nat) : Int) = 2 ^ (j + 1) := by rw [f2, Int.natCast_pow]; rfl
    rw [Int.natCast_emod, Int.natCast_mul, Int.natCast_pow] at this
    exact Int.emod_eq_emod_iff_emod_sub_eq_zero.1 (this.trans (Int.emod_eq_of_lt (Int.le_of_lt (Int.pow_pos (by decide))) (by
     have : (0 : Int) < 2 ^ (j + 1) := Int.pow_pos (by decide)
     show (2 : Int) ^ (j + 1) < 2 * 2 ^ (j + 1)
     omega)).symm) |> Int.dvd_of_emod_eq_zero
   have r := lc_low ha hc hd c
   have hm : 2 * (2 : Int) ^ (j + 1) ∣ (18446744073709551616 : Int) := by
    rw [← p1]
    refine Int.dvd_of_emod_eq_zero ?_
    have : ((18446744073709551616 % 2 ^ (j + 2) : Nat) : Int) = 0 := by rw [f3]; rfl
    rw [Int.natCast_emod, Int.natCast_pow] at this
    exact this
   rw [Int.natCast_emod, Int.natCast_add, Int.natCast_mul]
   generalize (lcA j : Int) * (lcn n h : Int) + (lcC j : Int) = X at r ⊢
   have hX : X % ((18446744073709551616 : Nat) : Int) = X - 18446744073709551616 * (X / 18446744073709551616) := by
    have h1 := Int.emod_add_mul_ediv X 18446744073709551616
    have : ((18446744073709551616 : Nat) : Int) = 18446744073709551616 := rfl
    rw [this]
    generalize X / 18446744073709551616 = y at h1 ⊢
    generalize X % 18446744073709551616 = r at h1 ⊢
    omega
   rw [hX, show X - 18446744073709551616 * (X / 18446744073709551616) - (t : Int) = (X - t) - 18446744073709551616 * (X / 18446744073709551616) by omega]
   exact Int.dvd_sub r (Int.dvd_trans hm (Int.dvd_mul_right _ _))
theorem top_le : ∀ (L : List Nat) (z : Nat), 0 ∈ L → ∃ t ∈ L, t ≤ z ∧ ∀ u ∈ L, u ≤ z → u ≤ t
 | [], _, h => by cases h
 | a :: L, z, h => by
  by_cases h0 : 0 ∈ L
  ·
   obtain ⟨t, ht, hz, hm⟩ := top_le L z h0
   by_cases c : a ≤ z ∧ t ≤ a
   ·
    refine ⟨a, by simp, c.1, fun u hu hz' => ?_⟩
    rcases List.mem_cons.1 hu with rfl | hu
    ·
     exact Nat.le_refl _
    ·
     exact Nat.le_trans (hm u hu hz') c.2
   ·
    refine ⟨t, List.mem_cons_of_mem _ ht, hz, fun u hu hz' => ?_⟩
    rcases List.mem_cons.1 hu with rfl | hu
    ·
     omega
    ·
     exact hm u hu hz'
  ·
   have ha : a = 0 := by
    rcases List.mem_cons.1 h with e | e
    ·
     exact e.symm
    ·
     exact absurd e h0
   subst ha
   clear h h0
   induction L with
   | nil => exact ⟨0, by simp, Nat.zero_le _, fun u hu _ => by rw [List.mem_singleton.1 hu]; exact Nat.le_refl _⟩
   | cons b L ih =>
    obtain ⟨t, ht, hz, hm⟩ := ih
    by_cases c : b ≤ z ∧ t ≤ b
    ·
     refine ⟨b, by simp, c.1, fun u hu hz' => ?_⟩
     rcases List.mem_cons.1 hu with rfl | hu
     ·
      exact Nat.zero_le _
     ·
      rcases List.mem_cons.1 hu with rfl | hu
      ·
       exact Nat.le_refl _
      ·
       exact Nat.le_trans (hm u (List.mem_cons_of_mem _ hu) hz') c.2
    ·
     refine ⟨t, ?_, hz, fun u hu hz' => ?_⟩
     ·
      rcases List.mem_cons.1 ht with rfl | ht
      ·
       simp
      ·
       simp [ht]
     ·
      rcases List.mem_cons.1 hu with rfl | hu
      ·
       exact Nat.zero_le _
      ·
       rcases List.mem_cons.1 hu with rfl | hu
       ·
        omega
       ·
        exact hm u (List.mem_cons_of_mem _ hu) hz'
def cellV (r lt ht s : Nat) : Nat := (r + s / 8589934592 + (if 8589934592 ≤ lt + s % 8589934592 then 1 else 0) + (if 144115188075855872 ≤ ht + s then 2 else 0)) % 3
def lowsV (S : List Nat) : List Nat := 0 :: S.map fun s => (8589934592 - s % 8589934592) % 8589934592
def topsV (S : List Nat) : List Nat := 0 :: S.map fun s => 144115188075855872 - s
theorem cell_of (S : List Nat) (hS : ∀ s ∈ S, s < 144115188075855872) (z : Nat) (hz : z < 144115188075855872) : ∃ r, r < 3 ∧ ∃ lt ∈ lowsV S, ∃ ht ∈ topsV S, ∀ s ∈ S, (z + s) % 144115188075855872 / 8589934592 % 3 = cellV r lt ht s := by
 obtain ⟨lt, h1, h2, h3⟩ := top_le (lowsV S) (z % 8589934592) (by simp [lowsV])
 obtain ⟨ht, h4, h5, h6⟩ := top_le (topsV S) z (by simp [topsV])
 refine ⟨z / 8589934592 % 3, Nat.mod_lt _ (by decide), lt, h1, ht, h4, fun s hs => ?_⟩
 have hs1 := hS s hs
 have a1 := h3 ((8589934592 - s % 8589934592) % 8589934592) (List.mem_cons_of_mem _ (List.mem_map.2 ⟨s, hs, rfl⟩))
 have a2 := h6 (144115188075855872 - s) (List.mem_cons_of_mem _ (List.mem_map.2 ⟨s, hs, rfl⟩))
 unfold cellV
 have c1 : (8589934592 ≤ lt + s % 8589934592) = (8589934592 ≤ z % 8589934592 + s % 8589934592) := propext ⟨fun h => by omega, fun h => by omega⟩
 have c2 : (144115188075855872 ≤ ht + s) = (144115188075855872 ≤ z + s) := propext ⟨fun h => by omega, fun h => by omega⟩
 simp only [c1, c2]
 clear a1 a2 c1 c2 h1 h2 h3 h4 h5 h6
 by_cases d1 : 8589934592 ≤ z % 8589934592 + s % 8589934592
 ·
  by_cases d2 : 144115188075855872 ≤ z + s
  ·
   rw [if_pos d1, if_pos d2]; omega
  ·
   rw [if_pos d1, if_neg d2]; omega
 ·
  by_cases d2 : 144115188075855872 ≤ z + s
  ·
   rw [if_neg d1, if_pos d2]; omega
  ·
   rw [if_neg d1, if_neg d2]; omega
def maskV (v : Nat → Nat) : List Nat → Nat
 | [] => 0
 | s :: S => (if v s = 0 then 0 else 1) + 2 * maskV v S
theorem maskV_congr {u v : Nat → Nat} : ∀ S : List Nat, (∀ s ∈ S, u s = v s) → maskV u S = maskV v S
 | [], _ => rfl
 | s :: S, h => by
  rw [maskV, maskV, h s (by simp), maskV_congr S fun x hx => h x (List.mem_cons_of_mem _ hx)]
theorem maskV_and (u v : Nat → Nat) : ∀ (S T : List Nat), S.length = T.length → maskV u S &&& maskV v T ≠ 0 → ∃ i, i < S.length ∧ u (S.getD i 0) ≠ 0 ∧ v (T.getD i 0) ≠ 0
 | [], _, _, h => by simp [maskV] at h
 | s :: S, [], hl, _ => by simp at hl
 | s :: S, t :: T, hl, h => by
  by_cases c : u s ≠ 0 ∧ v t ≠ 0
  ·
   exact ⟨0, by simp, by simpa using c.1, by simpa using c.2⟩
  ·
   obtain ⟨i, h1, h2, h3⟩ := maskV_and u v S T (by simpa using hl) (fun e => h (by
    rw [maskV, maskV]
    refine Nat.eq_of_testBit_eq fun i => ?_
    rw [Nat.testBit_and, Nat.zero_testBit]
    cases i with
    | zero =>
     rw [Nat.testBit_zero, Nat.testBit_zero]
     by_cases hu : u s = 0
     ·
      rw [if_pos hu]
      have : (0 + 2 * maskV u S) % 2 = 0 := by omega
      rw [this]; simp
     ·
      by_cases hv : v t = 0
      ·
       rw [if_pos hv]
       have : (0 + 2 * maskV v T) % 2 = 0 := by omega
       rw [this]; simp
      ·
       exact absurd ⟨hu, hv⟩ c
    | succ i =>
     have e1 : ((if u s = 0 then 0 else 1) + 2 * maskV u S).testBit (i + 1) = (maskV u S).testBit i := by
      rw [Nat.testBit_succ]; congr 1; split <;> omega
     have e2 : ((if v t = 0 then 0 else 1) + 2 * maskV v T).testBit (i + 1) = (maskV v T).testBit i := by
      rw [Nat.testBit_succ]; congr 1; split <;> omega
     rw [e1, e2, ← Nat.testBit_and, e, Nat.zero_testBit]))
   exact ⟨i + 1, by simp; exact h1, by simpa using h2, by simpa using h3⟩
def masksV (S : List Nat) : List Nat := (List.range 3).flatMap fun r => (lowsV S).flatMap fun lt => (topsV S).map fun ht => maskV (cellV r lt ht) S
theorem maskV_in (S : List Nat) (hS : ∀ s ∈ S, s < 144115188075855872) (z : Nat) (hz : z < 144115188075855872) : maskV (fun s => (z + s) % 144115188075855872 / 8589934592 % 3) S ∈ masksV S := by
 obtain ⟨r, hr, lt, hl, ht, hh, he⟩ := cell_of S hS z hz
 rw [maskV_congr S he]
 exact List.mem_flatMap.2 ⟨r, List.mem_range.2 hr, List.mem_flatMap.2 ⟨lt, hl, List.mem_map.2 ⟨ht, hh, rfl⟩⟩⟩
def shiftsV (a inc : Nat) : List Nat := (List.range 7).map fun m => a * (m * inc) % 144115188075855872
theorem shiftsV_lt (a inc : Nat) : ∀ s ∈ shiftsV a inc, s < 144115188075855872 := fun s hs => by
 obtain ⟨m, _, rfl⟩ := List.mem_map.1 hs
 exact Nat.mod_lt _ (by decide)
theorem shiftsV_get (a inc i : Nat) (hi : i < 7) : (shiftsV a inc).getD i 0 = a * (i * inc) % 144115188075855872 := by
 unfold shiftsV
 rw [List.getD_eq_getElem?_getD, List.getElem?_map, List.getElem?_range hi]
 rfl
def goodV (inc : Nat) (V W : List Nat) : Bool := ((masksV (shiftsV 1 inc)).all fun x => V.contains x) && ((masksV (shiftsV 7520897724310334953 inc)).all fun x => W.contains x) && V.all fun x => W.all fun y => !(x &&& y == 0)
theorem good_of {inc : Nat} {V W : List Nat} (h : goodV inc V W = true) (z y : Nat) (hz : z < 144115188075855872) (hy : y < 144115188075855872) : ∃ i, i < 7 ∧ (z + 1 * (i * inc) % 144115188075855872) % 144115188075855872 / 8589934592 % 3 ≠ 0 ∧ (y + 7520897724310334953 * (i * inc) % 144115188075855872) % 144115188075855872 / 8589934592 % 3 ≠ 0 := by
 unfold goodV at h
 rw [Bool.and_eq_true, Bool.and_eq_true] at h
 obtain ⟨⟨h1, h2⟩, h3⟩ := h
 have m1 := maskV_in _ (shiftsV_lt 1 inc) z hz
 have m2 := maskV_in _ (shiftsV_lt 7520897724310334953 inc) y hy
 have v1 := List.all_eq_true.1 h1 _ m1
 have v2 := List.all_eq_true.1 h2 _ m2
 have v3 := List.all_eq_true.1 (List.all_eq_true.1 h3 _ (List.contains_iff_mem.1 v1)) _ (List.contains_iff_mem.1 v2)
 obtain ⟨i, hi, a, b⟩ := maskV_and _ _ (shiftsV 1 inc) (shiftsV 7520897724310334953 inc) (by unfold shiftsV; rw [List.length_map, List.length_map]) (by simpa using v3)
 have hi7 : i < 7 := by simpa [shiftsV] using hi
 rw [shiftsV_get 1 inc i hi7] at a
 rw [shiftsV_get _ inc i hi7] at b
 exact ⟨i, hi7, a, b⟩
theorem lcx_57 (x : Nat) : lcx x = x % 144115188075855872 / 8589934592 := by
 unfold lcx
 omega
theorem lc_m57 (x : Nat) : x % 18446744073709551616 % 144115188075855872 = x % 144115188075855872 := Nat.mod_mod_of_dvd x (by decide +kernel)
theorem lcx_lcg (x : Nat) : lcx (lcg x) = (7520897724310334953 * (x % 144115188075855872) + 1876011003808476466) % 144115188075855872 / 8589934592 := by
 rw [lcx_57]
 unfold lcg
 rw [lc_m57, lc_mod]
theorem lc_mod3 (M a h m c : Nat) : (a * (h + m) + c) % M = ((a * h + c) % M + a * m % M) % M := by
 rw [← Nat.add_mod, Nat.mul_add, Nat.add_right_comm]
theorem lc_A27 : lcA 27 = 5928836310318972929 := by decide +kernel
theorem lc_C27 : lcC 27 = 14899444342342025216 := by decide +kernel
theorem lc_good0 : goodV 55579970528870400 [21, 23, 37, 41, 42, 43, 45, 47, 53, 55, 61, 63, 74, 75, 82, 84, 85, 86, 87, 90, 91, 94, 95, 105, 106, 107, 109, 111, 116, 117, 118, 119, 122, 123, 125, 126, 127] [19, 25, 27, 28, 29, 30, 31, 39, 51, 55, 57, 59, 60, 61, 63, 73, 76, 77, 78, 79, 89, 92, 93, 94, 95, 100, 102, 103, 108, 110, 111, 114, 115, 118, 119, 121, 123, 124, 125, 126, 127] = true := by decide +kernel
theorem lc_jump0 (h : Nat) (hl : h % 134217728 = 0) : ∀ m, lcn (m * 134217728) h % 144115188075855872 = (h + m * 55579970528870400) % 144115188075855872 ∧ lcn (m * 134217728) h % 134217728 = 0
 | 0 => by simp only [Nat.zero_mul, Nat.add_zero, lcn_zero]; exact ⟨trivial, hl⟩
 | m + 1 => by
  obtain ⟨h1, h2⟩ := lc_jump0 h hl m
  rw [show (m + 1) * 134217728 = m * 134217728 + 2 ^ 27 by omega, lcn_add, lcn_pow, lc_A27, lc_C27]
  generalize lcn (m * 134217728) h = x at h1 h2 ⊢
  obtain ⟨q, rfl⟩ : ∃ q, x = 134217728 * q + 0 := ⟨x / 134217728, by omega⟩
  rw [show (m + 1) * 55579970528870400 = m * 55579970528870400 + 55579970528870400 by omega]
  generalize m * 55579970528870400 = mi at h1 ⊢
  constructor <;> omega
theorem lc_find0 (h : Nat) (hl : h % 134217728 = 0) : ∃ i, i < 7 ∧ lcx (lcn (i * 134217728) h) % 3 ≠ 0 ∧ lcx (lcg (lcn (i * 134217728) h)) % 3 ≠ 0 := by
 obtain ⟨i, hi, a, b⟩ := good_of lc_good0 (h % 144115188075855872) ((7520897724310334953 * h + 1876011003808476466) % 144115188075855872) (Nat.mod_lt _ (by decide)) (Nat.mod_lt _ (by decide))
 refine ⟨i, hi, ?_, ?_⟩
 ·
  obtain ⟨h1, _⟩ := lc_jump0 h hl i
  generalize lcn (i * 134217728) h = x at h1 ⊢
  rw [lcx_57, h1, Nat.add_mod, ← Nat.one_mul (i * 55579970528870400)]
  exact a
 ·
  obtain ⟨h1, _⟩ := lc_jump0 h hl i
  generalize lcn (i * 134217728) h = x at h1 ⊢
  rw [lcx_lcg, h1, lc_mod, lc_mod3]
  exact b
theorem lc_good1 : goodV 109280780928155648 [7, 14, 15, 28, 29, 30, 31, 56, 57, 59, 60, 61, 62, 63, 67, 71, 78, 79, 92, 94, 95, 97, 99, 103, 110, 111, 112, 113, 115, 119, 120, 121, 123, 124, 125, 126, 127] [21, 37, 41, 42, 43, 45, 47, 53, 61, 63, 74, 82, 84, 85, 86, 87, 90, 94, 95, 106, 107, 111, 117, 119, 122, 123, 125, 126, 127] = true := by decide +kernel
theorem lc_jump1 (h : Nat) (hl : h % 134217728 = 17) : ∀ m, lcn (m * 134217728) h % 144115188075855872 = (h + m * 109280780928155648) % 144115188075855872 ∧ lcn (m * 134217728) h % 134217728 = 17
 | 0 => by simp only [Nat.zero_mul, Nat.add_zero, lcn_zero]; exact ⟨trivial, hl⟩
 | m + 1 => by
  obtain ⟨h1, h2⟩ := lc_jump1 h hl m
  rw [show (m + 1) * 134217728 = m * 134217728 + 2 ^ 27 by omega, lcn_add, lcn_pow, lc_A27, lc_C27]
  generalize lcn (m * 134217728) h = x at h1 h2 ⊢
  obtain ⟨q, rfl⟩ : ∃ q, x = 134217728 * q + 17 := ⟨x / 134217728, by omega⟩
  rw [show (m + 1) * 109280780928155648 = m * 109280780928155648 + 109280780928155648 by omega]
  generalize m * 109280780928155648 = mi at h1 ⊢
  constructor <;> omega
theorem lc_find1 (h : Nat) (hl : h % 134217728 = 17) : ∃ i, i < 7 ∧ lcx (lcn (i * 134217728) h) % 3 ≠ 0 ∧ lcx (lcg (lcn (i * 134217728) h)) % 3 ≠ 0 := by
 obtain ⟨i, hi, a, b⟩ := good_of lc_good1 (h % 144115188075855872) ((7520897724310334953 * h + 1876011003808476466) % 144115188075855872) (Nat.mod_lt _ (by decide)) (Nat.mod_lt _ (by decide))
 refine ⟨i, hi, ?_, ?_⟩
 ·
  obtain ⟨h1, _⟩ := lc_jump1 h hl i
  generalize lcn (i * 134217728) h = x at h1 ⊢
  rw [lcx_57, h1, Nat.add_mod, ← Nat.one_mul (i * 109280780928155648)]
  exact a
 ·
  obtain ⟨h1, _⟩ := lc_jump1 h hl i
  generalize lcn (i * 134217728) h = x at h1 ⊢
  rw [lcx_lcg, h1, lc_mod, lc_mod3]
  exact b
theorem lc_soon (h : Nat) (hh : h < 18446744073709551616) : ∃ n, n < 900000000 ∧ lcx (lcn n h) % 3 ≠ 0 ∧ lcx (lcn (n + 1) h) % 3 ≠ 0 := by
 have go : ∀ t : Nat, t < 134217728 → h % 2 = t % 2 → (∀ x, x % 134217728 = t → ∃ i, i < 7 ∧ lcx (lcn (i * 134217728) x) % 3 ≠ 0 ∧ lcx (lcg (lcn (i * 134217728) x)) % 3 ≠ 0) → ∃ n, n < 900000000 ∧ lcx (lcn n h) % 3 ≠ 0 ∧ lcx (lcn (n + 1) h) % 3 ≠ 0 := by
  intro t ht e hf
  obtain ⟨n, hn, hd⟩ := lc_align t h hh e 26 (Nat.le_refl _)
  have hd2 : (134217728 : Int) ∣ (lcn n h : Int) - t := hd
  have hn2 : n < 67108864 := hn
  obtain ⟨i, hi, a, b⟩ := hf (lcn n h) (by omega)
  rw [← lcn_add] at a b
  refine ⟨n + i * 134217728, by omega, a, ?_⟩
  rw [lcn_add _ 1, lcn_one]
  exact b
 rcases Nat.mod_two_eq_zero_or_one h with e | e
 ·
  exact go 0 (by decide) e lc_find0
 ·
  exact go 17 (by decide) e lc_find1
def lst (s : Int) : Nat := (s % 18446744073709551616).toNat
theorem lst_nat (h : Nat) (hh : h < 18446744073709551616) : lst (h : Int) = h := by
 unfold lst
 rw [Int.emod_eq_of_lt (by omega) (by omega), Int.toNat_natCast]
theorem lcf_lt (h : Nat) : lcf h < 18446744073709551616 := by
 unfold lcf
 generalize h * 6364136223846793005 + 1442695040888963407 = x
 exact Nat.mod_lt x (by decide)
theorem lst_f (h : Nat) : lst ((lcf h : Nat) : Int) = lcf h := lst_nat _ (lcf_lt h)
theorem lcx_lt (h : Nat) : lcx h < 16777216 := by
 unfold lcx
 exact Nat.mod_lt _ (by decide)
theorem next_state (s : Int) : IntKind.u64.wrap (IntKind.u64.wrap (s * 6364136223846793005) + 1442695040888963407) = ((lcf (lst s) : Nat) : Int) := by
 rw [IntKind.wrap_u64, IntKind.wrap_u64]
 unfold lcf lst
 have h0 : 0 ≤ s % 18446744073709551616 := Int.emod_nonneg _ (by decide)
 rw [Int.natCast_emod, Int.natCast_add, Int.natCast_mul, Int.toNat_of_nonneg h0]
 show _ = (s % 18446744073709551616 * 6364136223846793005 + 1442695040888963407) % 18446744073709551616
 rw [Int.emod_add_emod, Int.add_emod (s % 18446744073709551616 * 6364136223846793005), Int.mul_emod (s % 18446744073709551616), Int.emod_emod_of_dvd _ (Int.dvd_refl _), ← Int.mul_emod, ← Int.add_emod]
theorem next_bits (h : Nat) (hh : h < 18446744073709551616) : Go.bits .and .u64 ((h : Int) / 8589934592) 16777215 = ((lcx h : Nat) : Int) := by
 have h0 := bits_mask .u64 63 (by decide) u64_small 24 (by decide) ((h : Int) / 8589934592) (by omega) (by omega)
 have e2 : (2 : Int) ^ 24 - 1 = 16777215 := by decide
 have e3 : (2 : Int) ^ 24 = 16777216 := by decide
 rw [e2, e3] at h0
 rw [h0]
 unfold lcx
 rw [Int.natCast_emod, Int.natCast_ediv]
 rfl
theorem draw_next2 {l : List Int} (hb : Bytes l) {i : Int} (h0 : 0 ≤ i) (h1 : i ≤ l.length) (s n : Int) (hn : 1 ≤ n) :
  ∃ v j : Int, spec_l01Next.f l i s n = some (v, j, ((lcf (lst s) : Nat) : Int)) ∧ i ≤ j ∧ j ≤ l.length ∧ (i < l.length → j = i + 1) ∧ 0 ≤ v ∧ v < n ∧ (i = l.length → v = ((lcx (lcf (lst s)) : Nat) : Int) % n) := by
 unfold spec_l01Next.f
 simp only [next_state, next_bits _ (lcf_lt _)]
 have hx := lcx_lt (lcf (lst s))
 generalize lcx (lcf (lst s)) = b at hx ⊢
 generalize lcf (lst s) = h'
 have hl := hb.1
 have hw : wrap64 (b : Int) = b := w64 (by omega) (by omega)
 by_cases c2 : i < l.length
 ·
  obtain ⟨r0, r1⟩ := byte_rd hb i
  have hw2 : wrap64 (rd l i) = rd l i := w64 (by omega) (by omega)
  have hw3 : wrap64 ((b : Int) + rd l i) = b + rd l i := w64 (by omega) (by omega)
  have hw4 : wrap64 (i + 1) = i + 1 := w64 (by omega) (by omega)
  refine ⟨Int.tmod ((b : Int) + rd l i) n, i + 1, by rw [if_neg (show ¬ n < 1 by omega), if_pos c2, if_pos h0, if_neg (show ¬ n = 0 by omega), hw, hw2, hw3, hw4], by omega, by omega, fun _ => rfl, ?_, ?_, fun e => by omega⟩
  ·
   rw [tmod_nn (by omega)]; exact Int.emod_nonneg _ (by omega)
  ·
   rw [tmod_nn (by omega)]; exact Int.emod_lt_of_pos _ (by omega)
 ·
  refine ⟨Int.tmod (b : Int) n, i, by rw [if_neg (show ¬ n < 1 by omega), if_neg c2, if_neg (show ¬ n = 0 by omega), hw], Int.le_refl _, h1, fun e => absurd e c2, ?_, ?_, fun _ => tmod_nn (by omega)⟩
  ·
   rw [tmod_nn (by omega)]; exact Int.emod_nonneg _ (by omega)
  ·
   rw [tmod_nn (by omega)]; exact Int.emod_lt_of_pos _ (by omega)
def dmgS : List ByteArray := [(⟨#[48]⟩ : ByteArray), (⟨#[49]⟩ : ByteArray), (⟨#[50]⟩ : ByteArray), (⟨#[57]⟩ : ByteArray), (⟨#[44]⟩ : ByteArray), (⟨#[45]⟩ : ByteArray), (⟨#[32]⟩ : ByteArray), (⟨#[59]⟩ : ByteArray), (⟨#[120]⟩ : ByteArray), (⟨#[10]⟩ : ByteArray)]
theorem dmgS_size (v : Int) (h0 : 0 ≤ v) (h1 : v < 10) : (rdOf ByteArray.empty dmgS v).size = 1 := by
 have : v = 0 ∨ v = 1 ∨ v = 2 ∨ v = 3 ∨ v = 4 ∨ v = 5 ∨ v = 6 ∨ v = 7 ∨ v = 8 ∨ v = 9 := by omega
 rcases this with rfl | rfl | rfl | rfl | rfl | rfl | rfl | rfl | rfl | rfl <;> rfl
theorem draw_damage {l : List Int} (hb : Bytes l) {i : Int} (h0 : 0 ≤ i) (h1 : i ≤ l.length) (s : Int) (t : ByteArray) (ht : t.size ≤ 2000000000) :
  ∃ (t' : ByteArray) (j s' : Int), spec_l01Damage.f l i s t = some (t', j, s') ∧ i ≤ j ∧ j ≤ l.length ∧ t'.size ≤ t.size + 1 ∧ (lst s' = lcf (lst s) ∨ lst s' = lcf (lcf (lcf (lst s)))) := by
 obtain ⟨v, j, e, j0, j1, -, v0, v1, -⟩ := draw_next2 hb h0 h1 s 10 (by omega)
 have hc := dmgS_size v v0 v1
 have hlen : (dmgS.length : Int) = 10 := rfl
 unfold spec_l01Damage.f
 simp only [Option.bind_some]
 rw [show ([(⟨#[48]⟩ : ByteArray), (⟨#[49]⟩ : ByteArray), (⟨#[50]⟩ : ByteArray), (⟨#[57]⟩ : ByteArray), (⟨#[44]⟩ : ByteArray), (⟨#[45]⟩ : ByteArray), (⟨#[32]⟩ : ByteArray), (⟨#[59]⟩ : ByteArray), (⟨#[120]⟩ : ByteArray), (⟨#[10]⟩ : ByteArray)] : List ByteArray) = dmgS from rfl, hlen, e]
 simp only [Option.bind_some, if_pos v0, if_pos v1]
 generalize rdOf ByteArray.empty dmgS v = c at hc ⊢
 by_cases z : (t.size : Int) = 0
 ·
  rw [if_pos z]
  exact ⟨c, j, _, rfl, j0, j1, by omega, .inl (lst_f _)⟩
 ·
  rw [if_neg z]
  obtain ⟨k, j2, e2, k0, k1, -, u0, u1, -⟩ := draw_next2 hb (i := j) (by omega) j1 ((lcf (lst s) : Nat) : Int) (t.size : Int) (by omega)
  obtain ⟨u, j3, e3, m0, m1, -, x0, x1, -⟩ := draw_next2 hb (i := j2) (by omega) k1 ((lcf (lst ((lcf (lst s) : Nat) : Int)) : Nat) : Int) 3 (by omega)
  have hst : lst ((lcf (lst ((lcf (lst ((lcf (lst s) : Nat) : Int)) : Nat) : Int)) : Nat) : Int) = lcf (lcf (lcf (lst s))) := by rw [lst_f, lst_f, lst_f]
  simp only [e2, e3, Option.bind_some]
  generalize ((lcf (lst ((lcf (lst ((lcf (lst s) : Nat) : Int)) : Nat) : Int)) : Nat) : Int) = st at hst ⊢
  replace hst := Aside0.mk hst
  clear e e2 e3 hlen hb h0
  obtain ⟨m, rfl⟩ : ∃ m : Nat, k = m := ⟨k.toNat, by omega⟩
  have hw : Aside0 ( wrap64 ((m : Int) + 1) = ((m + 1 : Nat) : Int)) := Aside0.mk (by rw [w64 (by omega) (by omega)]; rfl)
  have mt : m ≤ t.size := Nat.le_of_lt (Int.ofNat_lt.1 u1)
  have s1 : (t.extract 0 m).size = m := by rw [ByteArray.size_extract, Nat.min_eq_left mt, Nat.sub_zero]
  have s2 : (t.extract (m + 1) t.size).size = t.size - (m + 1) := by rw [ByteArray.size_extract, Nat.min_self]
  have s3 : (t.extract m t.size).size = t.size - m := by rw [ByteArray.size_extract, Nat.min_self]
  have p1 : 0 ≤ (m : Int) := by omega
  have p2 : (m : Int) ≤ (t.size : Int) := by omega
  have p3 : 0 ≤ ((m + 1 : Nat) : Int) := by omega
  have p4 : ((m + 1 : Nat) : Int) ≤ (t.size : Int) := by omega
  simp only [hw.out, Int.toNat_natCast, if_pos p1, if_pos p2, if_pos p3, if_pos p4, ByteArray.size_append, s1, s2, s3, hc]
  have q1 : m + 1 ≤ 9223372036854775807 := by omega
  have q2 : m + 1 + (t.size - (m + 1)) ≤ 9223372036854775807 := by omega
  have q3 : m + (t.size - (m + 1)) ≤ 9223372036854775807 := by omega
  have q4 : m + 1 + (t.size - m) ≤ 9223372036854775807 := by omega
  simp only [if_pos q1, if_pos q2, if_pos q3, if_pos q4]
  by_cases y0 : u = 0
  ·
   rw [if_pos y0]
   exact ⟨_, j3, st, rfl, by omega, m1, by rw [ByteArray.size_append, ByteArray.size_append, s1, s2, hc]; omega, .inr hst.out⟩
  ·
   rw [if_neg y0]
   by_cases y1 : u = 1
   ·
    rw [if_pos y1]
    exact ⟨_, j3, st, rfl, by omega, m1, by rw [ByteArray.size_append, s1, s2]; omega, .inr hst.out⟩
   ·
    rw [if_neg y1]
    exact ⟨_, j3, st, rfl, by omega, m1, by rw [ByteArray.size_append, ByteArray.size_append, s1, s3, hc]; omega, .inr hst.out⟩
theorem lcn_succ (n h : Nat) : lcn (n + 1) h = lcn n (lcg h) := by rw [Nat.add_comm, lcn_add, lcn_one]
theorem dpp_end {l : List Int} (hb : Bytes l) (p : Int) : ∀ (n h : Nat) (s : Int) (t : ByteArray), lcf (lst s) = h → lcx (lcn n h) % 3 ≠ 0 → (n = 0 ∨ lcx (lcn (n + 1) h) % 3 ≠ 0) → t.size + n ≤ 1900000000 →
  ∃ t' : ByteArray, Ev (fun k => spec_DrawParsePoly.l0 k p t l l.length s) (p, t') ∧ t'.size ≤ t.size + n := by
 intro n
 induction n using Nat.strongRecOn with
 | _ n ih =>
  intro h s t hs a1 a2 ht
  obtain ⟨v, j, e, j0, j1, -, v0, v1, ve⟩ := draw_next2 hb (i := (l.length : Int)) (by omega) (Int.le_refl _) s 3 (by omega)
  have hj : j = (l.length : Int) := by omega
  subst hj
  have hv := ve rfl
  rw [hs] at e hv
  by_cases c : v = 0
  ·
   have hx : lcx h % 3 = 0 := by omega
   have hn0 : n ≠ 0 := fun z => by
    subst z
    rw [lcn_zero] at a1
    exact a1 hx
   have hlt : h < 18446744073709551616 := by rw [← hs]; exact lcf_lt _
   obtain ⟨t', j', s', e', j0', j1', hsz, hst⟩ := draw_damage hb (i := (l.length : Int)) (by omega) (Int.le_refl _) ((h : Nat) : Int) t (by omega)
   have hj' : j' = (l.length : Int) := by omega
   subst hj'
   rw [lst_nat h hlt] at hst
   have fin : ∀ (m h' : Nat), m < n → lcf (lst s') = h' → lcx (lcn m h') % 3 ≠ 0 → (m = 0 ∨ lcx (lcn (m + 1) h') % 3 ≠ 0) → ∃ t' : ByteArray, Ev (fun k => spec_DrawParsePoly.l0 k p t l l.length s) (p, t') ∧ t'.size ≤ t.size + n := fun m h' hm hs' b1 b2 => by
    obtain ⟨r, hr, hrs⟩ := ih m hm h' s' t' hs' b1 b2 (by omega)
    refine ⟨r, Ev.succ ?_, by omega⟩
    simp only [spec_DrawParsePoly.l0, e, Option.bind_some, if_pos c, e']
    exact hr
   obtain ⟨m, rfl⟩ : ∃ m, n = m + 1 := ⟨n - 1, by omega⟩
   have a2' : lcx (lcn (m + 1 + 1) h) % 3 ≠ 0 := by
    rcases a2 with z | z
    ·
     omega
    ·
     exact z
   rcases hst with hst | hst
   ·
    refine fin m (lcg h) (by omega) (by rw [hst, lcg_two]) (by rw [← lcn_succ]; exact a1) (.inr (by rw [← lcn_succ]; exact a2'))
   ·
    have hs2 : lcf (lst s') = lcg (lcg h) := by rw [hst, lcg_two, lcg_two]
    cases m with
    | zero => exact fin 0 _ (by omega) hs2 (by rw [← lcn_succ, ← lcn_succ]; exact a2') (.inl rfl)
    | succ m => exact fin m _ (by omega) hs2 (by rw [← lcn_succ, ← lcn_succ]; exact a1) (.inr (by rw [← lcn_succ, ← lcn_succ]; exact a2'))
  ·
   refine ⟨t, Ev.succ ?_, by omega⟩
   simp only [spec_DrawParsePoly.l0, e, Option.bind_some, if_neg c]
   exact Ev.now _
theorem dpp_loop {l : List Int} (hb : Bytes l) (p : Int) : ∀ (d : Nat) (i s : Int) (t : ByteArray), 0 ≤ i → i ≤ l.length → (l.length : Int) - i ≤ d → t.size + d ≤ 1000000 →
  ∃ t' : ByteArray, Ev (fun k => spec_DrawParsePoly.l0 k p t l i s) (p, t') ∧ t'.size ≤ t.size + d + 900000000 := by
 intro d
 have stop : ∀ (d : Nat) (s : Int) (t : ByteArray), t.size + d ≤ 1000000 → ∃ t' : ByteArray, Ev (fun k => spec_DrawParsePoly.l0 k p t l l.length s) (p, t') ∧ t'.size ≤ t.size + d + 900000000 := fun d s t ht => by
  obtain ⟨n, hn, a1, a2⟩ := lc_soon (lcf (lst s)) (lcf_lt _)
  obtain ⟨t', h1, h2⟩ := dpp_end hb p n (lcf (lst s)) s t rfl a1 (.inr a2) (by omega)
  exact ⟨t', h1, by omega⟩
 induction d with
 | zero =>
  intro i s t h0 h1 hd ht
  have : i = (l.length : Int) := by omega
  subst this
  exact stop 0 s t ht
 | succ d ih =>
  intro i s t h0 h1 hd ht
  by_cases hi : i = (l.length : Int)
  ·
   subst hi
   exact stop (d + 1) s t ht
  ·
   obtain ⟨v, j, e, j0, j1, j2, v0, v1, -⟩ := draw_next2 hb h0 h1 s 3 (by omega)
   have hj := j2 (by omega)
   by_cases c : v = 0
   ·
    obtain ⟨t', j', s', e', j0', j1', hsz, _⟩ := draw_damage hb (i := j) (by omega) j1 ((lcf (lst s) : Nat) : Int) t (by omega)
    obtain ⟨r, hr, hrs⟩ := ih j' s' t' (by omega) j1' (by omega) (by omega)
    refine ⟨r, Ev.succ ?_, by omega⟩
    simp only [spec_DrawParsePoly.l0, e, Option.bind_some, if_pos c, e']
    exact hr
   ·
    refine ⟨t, Ev.succ ?_, by omega⟩
    simp only [spec_DrawParsePoly.l0, e, Option.bind_some, if_neg c]
    exact Ev.now _
theorem spec_dec_any {c : Int} (h0 : -1000000000 ≤ c) (h1 : c ≤ 1000000000) : ∃ t : ByteArray, Ev (fun k => spec_l01Dec.f k c) t ∧ t.size ≤ 22 := by
 by_cases hc : 0 ≤ c
 ·
  refine ⟨_, spec_dec_i hc h1, ?_⟩
  have := itoa_len hc h1
  rw [ba_size]
  omega
 ·
  have hd := spec_dec_i (c := -c) (by omega) (by omega)
  have hl := itoa_len (c := -c) (by omega) (by omega)
  have q0 : c < 0 := by omega
  have e : wrap64 (-c) = -c := w64 (by omega) (by omega)
  have q1 : 1 + (⟨(Lib.itoa (-c)).toArray⟩ : ByteArray).size ≤ 9223372036854775807 := by rw [ba_size]; omega
  refine ⟨(⟨#[45]⟩ : ByteArray) ++ ⟨(Lib.itoa (-c)).toArray⟩, Ev.succ ?_, ?_⟩
  ·
   simp only [spec_l01Dec.f, if_pos q0, e]
   refine Ev.bind hd ?_
   simp only [if_pos q1]
   exact Ev.now _
  ·
   rw [ByteArray.size_append, ba_size (Lib.itoa (-c))]
   show 1 + _ ≤ 22
   omega
theorem spec_text_any (l : List Int) (hl : l.length ≤ 1000) (hb : ∀ x ∈ l, -1000000000 ≤ x ∧ x ≤ 1000000000) : ∃ t : ByteArray, Ev (fun k => spec_l01Text.f k l) t ∧ t.size ≤ 100000 := by
 have loop : ∀ i (x3 : ByteArray), i ≤ l.length → x3.size + 23 * i ≤ 90000 → ∃ t : ByteArray, Ev (fun k => spec_l01Text.l0 k l x3 ((i : Int) - 1)) t ∧ t.size ≤ x3.size + 23 * i := by
  intro i
  induction i with
  | zero =>
   intro x3 hi hx
   have q6 : ¬ (((0 : Nat) : Int) - 1) ≥ 0 := by omega
   refine ⟨x3, Ev.succ ?_, by omega⟩
   simp only [spec_l01Text.l0, if_neg q6]
   exact Ev.now _
  | succ i ih =>
   intro x3 hi hx
   have hel := hb (l[i]'(by omega)) (List.getElem_mem _)
   obtain ⟨u, hu, us⟩ := spec_dec_any hel.1 hel.2
   have e0 : rd l (i : Int) = l[i]'(by omega) := by rw [rd_n, List.getD_eq_getElem?_getD, List.getElem?_eq_getElem (by omega)]; rfl
   have q1 : (i : Int) ≥ 0 := by omega
   have q2 : (0 : Int) ≤ (i : Int) := by omega
   have q3 : (i : Int) < (l.length : Int) := by omega
   have q4 : x3.size + u.size ≤ 9223372036854775807 := by omega
   have z : ∀ y : ByteArray, y.size ≤ x3.size + 23 → ∃ t : ByteArray, Ev (fun k => spec_l01Text.l0 k l y (wrap64 ((i : Int) - 1))) t ∧ t.size ≤ x3.size + 23 * (i + 1) := fun y hy => by
    obtain ⟨t, h1, h2⟩ := ih y (by omega) (by omega)
    rw [wm1 (by omega)]
    exact ⟨t, h1, by omega⟩
   by_cases q5 : (i : Int) > 0
   ·
    obtain ⟨t, h1, h2⟩ := z ((x3 ++ u) ++ (⟨#[44]⟩ : ByteArray)) (by rw [ByteArray.size_append, ByteArray.size_append]; show x3.size + u.size + 1 ≤ _; omega)
    have q6 : (x3 ++ u).size + 1 ≤ 9223372036854775807 := by rw [ByteArray.size_append]; omega
    refine ⟨t, Ev.succ ?_, h2⟩
    rw [ws1]
    simp only [spec_l01Text.l0, if_pos q1, if_pos q2, if_pos q3, e0]
    refine Ev.bind hu ?_
    simp only [if_pos q4, if_pos q5, if_pos q6]
    exact h1
   ·
    obtain ⟨t, h1, h2⟩ := z (x3 ++ u) (by rw [ByteArray.size_append]; omega)
    refine ⟨t, Ev.succ ?_, h2⟩
    rw [ws1]
    simp only [spec_l01Text.l0, if_pos q1, if_pos q2, if_pos q3, e0]
    refine Ev.bind hu ?_
    simp only [if_pos q4, if_neg q5]
    exact h1
 by_cases h0 : (l.length : Int) = 0
 ·
  refine ⟨(⟨#[48]⟩ : ByteArray), ?_, by show 1 ≤ 100000; omega⟩
  simp only [spec_l01Text.f, if_pos h0]
  exact Ev.now _
 ·
  obtain ⟨t, h1, h2⟩ := loop l.length (⟨#[]⟩ : ByteArray) (Nat.le_refl _) (by show 0 + _ ≤ _; omega)
  have h3 : t.size ≤ 23 * l.length := by
   have : (⟨#[]⟩ : ByteArray).size = 0 := rfl
   omega
  refine ⟨t, ?_, by omega⟩
  simp only [spec_l01Text.f, if_neg h0, wm1 (show l.length ≤ 1000000000000 by omega)]
  exact h1
theorem draw_any2 {l : List Int} (hb : Bytes l) {i : Int} (h0 : 0 ≤ i) (h1 : i ≤ l.length) (s : Int) :
  ∃ v j t : Int, spec_l01Any.f l i s = some (v, j, t) ∧ 0 ≤ j ∧ j ≤ l.length ∧ -3 ≤ v ∧ v ≤ 10009 := by
 obtain ⟨v, j, t, e, j0, j1, _⟩ := draw_next hb h0 h1 s 24
 obtain ⟨v', j', t', e', j0', j1', hv'⟩ := draw_pick hb j0 j1 t ([0, 1, 4, 9, 10006, 10009, (-3)] : List Int) (by simp)
 obtain ⟨v2, j2, t2, e2, j02, j12, hv2⟩ := draw_prime hb j0 j1 t
 by_cases hv : v = 0
 ·
  exact ⟨v', j', t', by simp only [spec_l01Any.f, e, Option.bind_some, if_pos hv, e'], j0', j1', by simp at hv'; omega, by simp at hv'; omega⟩
 ·
  exact ⟨v2, j2, t2, by simp only [spec_l01Any.f, e, Option.bind_some, if_neg hv, e2], j02, j12, by simp at hv2; omega, by simp at hv2; omega⟩
theorem draw_bad2 {l : List Int} (hb : Bytes l) {i : Int} (h0 : 0 ≤ i) (h1 : i ≤ l.length) (s p : Int) (f : List Int) (hf : f.length ≤ 500) (hp : -100000 ≤ p ∧ p ≤ 100000) (hF : ∀ x ∈ f, -100000 ≤ x ∧ x ≤ 100000) :
  ∃ (r : List Int) (j t : Int), Ev (fun k => spec_l01Bad.f k l i s p f) (r, j, t) ∧ 0 ≤ j ∧ j ≤ l.length ∧ r.length ≤ 600 ∧ ∀ x ∈ r, -100000 ≤ x ∧ x ≤ 100000 := by
 obtain ⟨v, j, t, e, j0, j1, v0, v1⟩ := draw_next hb h0 h1 s 40
 have ho : spec_l01Own.f f = some f := own_some f (by omega)
 have hl : f.length < 17592186044416 := by omega
 have app : ∀ y : Int, -100000 ≤ y ∧ y ≤ 100000 → ∀ x ∈ f ++ [y], -100000 ≤ x ∧ x ≤ 100000 := fun y hy x hx => by
  rcases List.mem_append.1 hx with h | h
  ·
   exact hF x h
  ·
   rw [List.mem_singleton.1 h]; exact hy
 by_cases c0 : v = 0
 ·
  refine ⟨f ++ [0], j, t, ?_, j0, j1, by simp; omega, app 0 (by omega)⟩
  simp only [spec_l01Bad.f, e, Option.bind_some, if_pos c0, ho, if_pos hl]; exact Ev.now _
 by_cases c1 : v = 1
 ·
  obtain ⟨v', j', t', e', j0', j1', hm⟩ := draw_pick hb j0 j1 t ([p, (-1)] : List Int) (by simp)
  refine ⟨f ++ [v'], j', t', ?_, j0', j1', by simp; omega, app v' (by simp at hm; omega)⟩
  simp only [spec_l01Bad.f, e, Option.bind_some, if_neg c0, if_pos c1, ho, e', if_pos hl]; exact Ev.now _
 by_cases c2 : v = 2
 ·
  rcases Nat.lt_or_ge f.length 26 with h | h
  ·
   refine ⟨f ++ List.replicate (26 - f.length) 1, j, t, ?_, j0, j1, by simp; omega, fun x hx => ?_⟩
   ·
    simp only [spec_l01Bad.f, e, Option.bind_some, if_neg c0, if_neg c1, if_pos c2, ho]
    exact draw_bad0 l j t (26 - f.length) f (by omega)
   ·
    rcases List.mem_append.1 hx with h | h
    ·
     exact hF x h
    ·
     rw [List.eq_of_mem_replicate h]; omega
  ·
   refine ⟨f, j, t, ?_, j0, j1, by omega, hF⟩
   simp only [spec_l01Bad.f, e, Option.bind_some, if_neg c0, if_neg c1, if_pos c2, ho]
   refine Ev.succ ?_
   simp only [spec_l01Bad.l0, if_neg (show ¬ ((f.length : Int) ≤ 25) by omega)]; exact Ev.now _
 ·
  refine ⟨f, j, t, ?_, j0, j1, by omega, hF⟩
  simp only [spec_l01Bad.f, e, Option.bind_some, if_neg c0, if_neg c1, if_neg c2]; exact Ev.now _
theorem draw_one2 {l : List Int} (hb : Bytes l) {i : Int} (h0 : 0 ≤ i) (h1 : i ≤ l.length) (s : Int) :
  ∃ (p : Int) (f : List Int) (j t : Int), Ev (fun k => spec_l01One.f k l i s) (p, f, j, t) ∧ 0 ≤ j ∧ j ≤ l.length ∧ f.length ≤ 600 ∧ ∀ x ∈ f, -100000 ≤ x ∧ x ≤ 100000 := by
 obtain ⟨p, j, t, e, j0, j1, pb0, pb1⟩ := draw_any2 hb h0 h1 s
 obtain ⟨n, j2, t2, e2, j20, j21, hn⟩ := draw_pick hb j0 j1 t ([2, 4, 8, 24] : List Int) (by simp)
 have hn' : 0 ≤ n ∧ n ≤ 100 := by simp at hn; omega
 obtain ⟨f, j3, t3, e3, j30, j31, lf, rf⟩ := draw_poly hb (p := mx p 1) (n := n) (mx_1 p) hn'.1 hn'.2 j20 j21 t2
 have hm : mx p 1 ≤ 10009 := by unfold mx; split <;> omega
 obtain ⟨a, j7, t7, e7, j70, j71, la, ra⟩ := draw_bad2 hb j30 j31 t3 p f (by omega) (by omega) (fun x hx => by have := rf x hx; omega)
 refine ⟨p, a, j7, t7, ?_, j70, j71, la, ra⟩
 simp only [spec_l01One.f, e, e2, Option.bind_some]
 refine Ev.bind e3 ?_
 exact Ev.bind e7 (Ev.now _)
theorem draw_parsepoly {l : List Int} (hb : Bytes l) (hl : l.length ≤ 4096) : ∃ (p : Int) (t : ByteArray), Ev (fun k => spec_DrawParsePoly.f k l) (p, t) ∧ t.size ≤ 950000000 := by
 obtain ⟨s, hs⟩ := draw_from l hb.1
 obtain ⟨p, f, j, t, e, j0, j1, lf, rf⟩ := draw_one2 hb (i := 0) (by omega) (by omega) s
 obtain ⟨u, hu, us⟩ := spec_text_any f (by omega) (fun x hx => by have := rf x hx; omega)
 obtain ⟨r, hr, rs⟩ := dpp_loop hb p l.length j t u j0 j1 (by omega) (by omega)
 refine ⟨p, r, ?_, by omega⟩
 simp only [spec_DrawParsePoly.f]
 refine Ev.bind hs ?_
 refine Ev.bind e ?_
 refine Ev.bind hu ?_
 exact hr
theorem draw_polytext {l : List Int} (hb : Bytes l) : ∃ (p : Int) (f : List Int), Ev (fun k => spec_DrawPolyText.f k l) (p, f) ∧ f.length ≤ 600 := by
 obtain ⟨s, hs⟩ := draw_from l hb.1
 obtain ⟨p, f, j, t, e, j0, j1, lf, _⟩ := draw_one2 hb (i := 0) (by omega) (by omega) s
 refine ⟨p, f, ?_, lf⟩
 simp only [spec_DrawPolyText.f]
 refine Ev.bind hs ?_
 exact Ev.bind e (Ev.now _)
theorem draw_valueat {l : List Int} (hb : Bytes l) : ∃ (p : Int) (f : List Int) (x : Int), Ev (fun k => spec_DrawValueAt.f k l) (p, f, x) ∧ f.length ≤ 600 := by
 obtain ⟨s, hs⟩ := draw_from l hb.1
 obtain ⟨p, f, j, t, e, j0, j1, lf, _⟩ := draw_one2 hb (i := 0) (by omega) (by omega) s
 obtain ⟨v, j2, t2, e2, _⟩ := draw_near hb j0 j1 t (mx (wrap64 (p - 1)) 0)
 refine ⟨p, f, v, ?_, lf⟩
 simp only [spec_DrawValueAt.f]
 refine Ev.bind hs ?_
 refine Ev.bind e ?_
 simp only [e2, Option.bind_some]
 exact Ev.now _
theorem draw_shiftpoly {l : List Int} (hb : Bytes l) : ∃ (p : Int) (f : List Int) (x : Int), Ev (fun k => spec_DrawShiftPoly.f k l) (p, f, x) ∧ f.length ≤ 600 := by
 obtain ⟨s, hs⟩ := draw_from l hb.1
 obtain ⟨p, f, j, t, e, j0, j1, lf, _⟩ := draw_one2 hb (i := 0) (by omega) (by omega) s
 obtain ⟨v, j2, t2, e2, _⟩ := draw_near hb j0 j1 t (mx (wrap64 (p - 1)) 0)
 refine ⟨p, f, v, ?_, lf⟩
 simp only [spec_DrawShiftPoly.f]
 refine Ev.bind hs ?_
 refine Ev.bind e ?_
 simp only [e2, Option.bind_some]
 exact Ev.now _
theorem draw_compose {l : List Int} (hb : Bytes l) : ∃ (p : Int) (f g : List Int), Ev (fun k => spec_DrawComposePolys.f k l) (p, f, g) ∧ f.length ≤ 600 ∧ g.length ≤ 600 := by
 obtain ⟨s, hs⟩ := draw_from l hb.1
 obtain ⟨p, j, t, e, j0, j1, pb0, pb1⟩ := draw_any2 hb (i := 0) (by omega) (by omega) s
 obtain ⟨n, j2, t2, e2, j20, j21, hn⟩ := draw_pick hb j0 j1 t ([1, 3, 6] : List Int) (by simp)
 have hn' : 0 ≤ n ∧ n ≤ 100 := by simp at hn; omega
 have hm : mx p 1 ≤ 10009 := by unfold mx; split <;> omega
 obtain ⟨f, j3, t3, e3, j30, j31, lf, rf⟩ := draw_poly hb (p := mx p 1) (n := n) (mx_1 p) hn'.1 hn'.2 j20 j21 t2
 obtain ⟨n2, j4, t4, e4, j40, j41, hn2⟩ := draw_pick hb j30 j31 t3 ([1, 3, 5] : List Int) (by simp)
 have hn2' : 0 ≤ n2 ∧ n2 ≤ 100 := by simp at hn2; omega
 obtain ⟨g, j5, t5, e5, j50, j51, lg, rg⟩ := draw_poly hb (p := mx p 1) (n := n2) (mx_1 p) hn2'.1 hn2'.2 j40 j41 t4
 obtain ⟨a, j7, t7, e7, j70, j71, la, _⟩ := draw_bad2 hb j50 j51 t5 p f (by omega) (by omega) (fun x hx => by have := rf x hx; omega)
 obtain ⟨b, j8, t8, e8, j80, j81, lb, _⟩ := draw_bad2 hb j70 j71 t7 p g (by omega) (by omega) (fun x hx => by have := rg x hx; omega)
 refine ⟨p, a, b, ?_, la, lb⟩
 simp only [spec_DrawComposePolys.f]
 refine Ev.bind hs ?_
 simp only [e, e2, Option.bind_some]
 refine Ev.bind e3 ?_
 simp only [e4, Option.bind_some]
 refine Ev.bind e5 ?_
 refine Ev.bind e7 ?_
 exact Ev.bind e8 (Ev.now _)
theorem draw_interp_tail {l : List Int} (hb : Bytes l) (p q : Int) (hq : 1 ≤ q) (xs : List Int) (hx : xs.length ≤ 100) {i : Int} (h0 : 0 ≤ i) (h1 : i ≤ l.length) (s : Int) :
  ∃ ys : List Int, Ev (fun k => spec_DrawInterpolatePoly.j1 k p q xs l i s) (p, xs, ys) ∧ ys.length ≤ 200 := by
 obtain ⟨c, j, t, e, j0, j1, _⟩ := draw_next hb h0 h1 s 3
 obtain ⟨r, j2, t2, e2, j20, j21, e3, _⟩ := draw_list0 hb q c hq xs.length [] j t j0 j1 (by omega) (by simp) InR.nil
 simp only [List.length_nil] at e3
 have hd : Ev (fun k => spec_l01DrawList.f k l i s q (xs.length : Int)) (r, j2, t2) := by simp only [spec_l01DrawList.f, e, Option.bind_some]; exact e2
 obtain ⟨v, j3, t3, e4, _⟩ := draw_next hb j20 j21 t2 20
 have hl : r.length < 17592186044416 := by omega
 by_cases hv : v = 0
 ·
  refine ⟨r ++ [0], Ev.succ ?_, by simp; omega⟩
  simp only [spec_DrawInterpolatePoly.j1]
  refine Ev.bind hd ?_
  simp only [e4, Option.bind_some, if_pos hv, if_pos hl]
  exact Ev.now _
 ·
  refine ⟨r, Ev.succ ?_, by omega⟩
  simp only [spec_DrawInterpolatePoly.j1]
  refine Ev.bind hd ?_
  simp only [e4, Option.bind_some, if_neg hv]
  exact Ev.now _
theorem draw_interp_loop {l : List Int} (hb : Bytes l) (p q : Int) (hq : 1 ≤ q) : ∀ (d : Nat) (xs : List Int) (at_ : Int) (i s : Int), xs.length + d ≤ 100 → 0 ≤ i → i ≤ l.length →
  ∃ xs' ys : List Int, Ev (fun k => spec_DrawInterpolatePoly.l0 k p q xs at_ (d : Int) l i s) (p, xs', ys) ∧ xs'.length ≤ 100 ∧ ys.length ≤ 200
 | 0, xs, at_, i, s, hx, h0, h1 => by
  obtain ⟨ys, h, hy⟩ := draw_interp_tail hb p q hq xs (by omega) h0 h1 s
  refine ⟨xs, ys, Ev.succ ?_, by omega, hy⟩
  simp only [spec_DrawInterpolatePoly.l0, if_neg (show ¬ ((0 : Nat) : Int) > 0 by omega)]
  exact h
 | d + 1, xs, at_, i, s, hx, h0, h1 => by
  by_cases c : (xs.length : Int) < q
  ·
   obtain ⟨v, j, t, e, j0, j1, _⟩ := draw_next hb h0 h1 s 2
   obtain ⟨xs', ys, h, hx', hy⟩ := draw_interp_loop hb p q hq d (xs ++ [at_]) (Int.tmod (wrap64 ((wrap64 (at_ + 1)) + v)) q) j t (by simp; omega) j0 j1
   refine ⟨xs', ys, Ev.succ ?_, hx', hy⟩
   simp only [spec_DrawInterpolatePoly.l0, if_pos (show ((d + 1 : Nat) : Int) > 0 by omega), if_pos c, if_pos (show xs.length < 17592186044416 by omega), e, Option.bind_some, if_neg (show ¬ q = 0 by omega), show wrap64 (((d + 1 : Nat) : Int) - 1) = (d : Int) by rw [w64 (by omega) (by omega)]; omega]
   exact h
  ·
   obtain ⟨ys, h, hy⟩ := draw_interp_tail hb p q hq xs (by omega) h0 h1 s
   refine ⟨xs, ys, Ev.succ ?_, by omega, hy⟩
   simp only [spec_DrawInterpolatePoly.l0, if_pos (show ((d + 1 : Nat) : Int) > 0 by omega), if_neg c]
   exact h
theorem draw_interpolate {l : List Int} (hb : Bytes l) : ∃ (p : Int) (xs ys : List Int), Ev (fun k => spec_DrawInterpolatePoly.f k l) (p, xs, ys) ∧ xs.length ≤ 100 ∧ ys.length ≤ 200 := by
 obtain ⟨s, hs⟩ := draw_from l hb.1
 obtain ⟨p, j, t, e, j0, j1⟩ := draw_any hb (i := 0) (by omega) (by omega) s
 obtain ⟨a, j2, t2, e2, j20, j21, _⟩ := draw_next hb j0 j1 t (mx p 1)
 obtain ⟨n, j3, t3, e3, j30, j31, hn⟩ := draw_pick hb j20 j21 t2 ([0, 1, 2, 3, 5, 12] : List Int) (by simp)
 have hn' : 0 ≤ n ∧ n ≤ 12 := by simp at hn; omega
 obtain ⟨d, rfl⟩ : ∃ d : Nat, n = d := ⟨n.toNat, by omega⟩
 obtain ⟨xs, ys, h, hx, hy⟩ := draw_interp_loop hb p (mx p 1) (mx_1 p) d [] a j3 t3 (by simp; omega) j30 j31
 refine ⟨p, xs, ys, ?_, hx, hy⟩
 simp only [spec_DrawInterpolatePoly.f]
 refine Ev.bind hs ?_
 simp only [e, e2, e3, Option.bind_some]
 exact h
end Go.Proofs.YtmadpicanmjhhaaGreatDoor.H
