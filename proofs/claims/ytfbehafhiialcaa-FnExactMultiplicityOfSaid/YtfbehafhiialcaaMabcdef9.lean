/- Joined texts of a claim: the printed functions and what is proved of them. -/
import Derived.Test.YtfbehafhiialcaaHx0
import Derived.Test.YtfbehafhiialcaaMabcdef8
import Derived.Test.YtfbehafhiialcaaMabcdef3
import Derived.Test.YtfbehafhiialcaaMabcdef4
import Derived.Test.YtfbehafhiialcaaMabcdef6
import Derived.Test.YtfbehafhiialcaaMabcdef2
import Derived.Test.YtfbehafhiialcaaMabcdef1
-- written by wip/drive.py (the session's own program) over the translation; Lean checks it
namespace Go.Proofs.Ytfbehafhiialcaa.H
open Go.RowKit Go.Proofs.YtfbehafhiialcaaW.PrintWords Go.Proofs.YtfbehafhiialcaaW.PrintLast Go.Proofs.YtfbehafhiialcaaW.PrintMore
attribute [local go_sem] max2_int min2_int max_two min_two max_three min_three max_four min_four   -- for this text's walks alone
set_option linter.unusedVariables false
set_option linter.unusedSimpArgs false

/-! ### spec_l01At: function 67 -/
def spec_l01At.l0 : Nat → Int → List Int → Int → Int → Int → Option (Int)
  | 0, _, _, _, _, _ => none
  | k + 1, x0, x1, x2, x7, x8 => if x8 ≥ 0 then (if 0 ≤ x8 then (if x8 < (x1.length : Int) then (if x0 = 0 then (none) else (spec_l01At.l0 k x0 x1 x2 (Int.tmod (wrap64 ((wrap64 (x7 * x2)) + (rd x1 x8))) x0) (wrap64 (x8 - 1)))) else (none)) else (none)) else (some x7)
def spec_l01At.f (k : Nat) (a0 : Int) (l1 : List Int) (a2 : Int) : Option (Int) := spec_l01At.l0 k a0 l1 a2 0 (wrap64 ((l1.length : Int) - 1))
theorem spec_l01At.mono_l : ∀ k, (∀ y0 y1 y2 y3 y4, LeO (spec_l01At.l0 k y0 y1 y2 y3 y4) (spec_l01At.l0 (k + 1) y0 y1 y2 y3 y4))
  | 0 => fun _ _ _ _ _ r h => by simp [spec_l01At.l0] at h
  | k + 1 => by
    have ih0 := spec_l01At.mono_l k
    · intro y0 y1 y2 y3 y4
      unfold spec_l01At.l0
      repeat' first
      | (with_reducible exact ih0 _ _ _ _ _)
      | (with_reducible exact LeO.refl _)
      | (with_reducible exact LeO.none _)
      | (with_reducible refine LeO.ite ?_ ?_)
      | (with_reducible refine LeO.bind ?_ (fun _ => ?_))
      | exact ih0 _ _ _ _ _
      | exact LeO.none _
      | refine LeO.ite ?_ ?_
      | refine LeO.bind ?_ (fun _ => ?_)
theorem spec_l01At.mono : ∀ a0 a1 a2 k, LeO (spec_l01At.f k a0 a1 a2) (spec_l01At.f (k + 1) a0 a1 a2) := by
  intro a0 a1 a2 k
  have ih0 := spec_l01At.mono_l k
  unfold spec_l01At.f
  repeat' first
      | (with_reducible exact ih0 _ _ _ _ _)
      | (with_reducible exact LeO.refl _)
      | (with_reducible exact LeO.none _)
      | (with_reducible refine LeO.ite ?_ ?_)
      | (with_reducible refine LeO.bind ?_ (fun _ => ?_))
      | exact ih0 _ _ _ _ _
      | exact LeO.none _
      | refine LeO.ite ?_ ?_
      | refine LeO.bind ?_ (fun _ => ?_)
set_option maxHeartbeats 8000000 in
set_option maxRecDepth 100000 in
theorem spec_l01At.calls (k : Nat) (a0 : Int) (A1 : Option Addr) (c1 : Nat) (l1 : List Int) (a2 : Int) (r : Int) (w : World) (hr1 : Kd.C (Kd.int .i64) w A1 l1.length l1) (hc1 : l1.length ≤ c1) (h : spec_l01At.f k a0 l1 a2 = some r) :
    Calls Try.prog 67 #[.int .i64 a0, .slice A1 l1.length c1, .int .i64 a2] w fun e w' => e = .returned (.int .i64 r) ∧ Drawn0 w w' := by
  have HR1 := Aside0.mk hr1
  have HC1 := Aside0.mk hc1
  clear hr1 hc1
  have H : (spec_l01At.l0 k a0 l1 a2 0 (wrap64 ((l1.length : Int) - 1))) = some r := h
  clear h
  have H' := Aside0.mk H
  clear H
  go_enter Try.func67, Try.ntmps67
  go_wp2
  go_loopg [7, 8] k (fun kq v7 v8 w' => ∃ (x7_1 : Int) (x8_1 : Int), v7 = .int .i64 x7_1 ∧ v8 = .int .i64 x8_1 ∧ Aside0 (spec_l01At.l0 kq a0 l1 a2 x7_1 x8_1 = some r) ∧ Aside0 (kq ≤ k) ∧ Drawn0 w w')
  case atStart => exact ⟨(0), (wrap64 ((l1.length : Int) - 1)), ea_, ea_, H', ⟨Nat.le_refl _⟩, by repeat (first | exact Drawn0.refl _ | apply Drawn0.step)⟩
  case round =>
    clear H'
    try clear c1
    try clear p2
    obtain ⟨x7_1, x8_1, rfl, rfl, HA, HK1, ⟨m1, rfl⟩⟩ := hrel
    cases gk with
    | zero => exact absurd HA.out (by simp [spec_l01At.l0])
    | succ k1 =>
      have H := HA.out
      clear HA
      simp only [spec_l01At.l0] at H
      by_cases c4 : x8_1 ≥ 0
      · rw [if_pos c4] at H
        have c4b0 : decide (0 ≤ x8_1) = true := decide_eq_true c4
        clear c4
        by_cases c5 : 0 ≤ x8_1
        · rw [if_pos c5] at H
          have c5b0 : decide (0 ≤ x8_1) = true := decide_eq_true c5
          clear c5
          by_cases c6 : x8_1 < (l1.length : Int)
          · rw [if_pos c6] at H
            have c6b0 : decide (x8_1 < (l1.length : Int)) = true := decide_eq_true c6
            clear c6
            by_cases c7 : a0 = 0
            · rw [if_pos c7] at H
              exact absurd H (by simp)
            · rw [if_neg c7] at H
              have c7b0 : (a0 == 0) = false := beq_eq_false_iff_ne.mpr c7
              have c7b1 : (a0 != 0) = true := bne_iff_ne.mpr c7
              have H' := Aside0.mk H
              clear H
              have p474 : 0 ≤ (x8_1 : Int) := of_decide_eq_true (by first | (with_reducible assumption) | assumption)
              have q474 : x8_1 < (l1.length : Int) := of_decide_eq_true (by first | (with_reducible assumption) | assumption)
              obtain ⟨ad474, e474, hx474_0⟩ := Kd.at_int HR1.out x8_1 p474 q474
              cases e474
              replace p474 := eq_true p474
              replace q474 := eq_true q474
              go_wp2
              go_roundg k1
              case measure => have := HK1.out; omega
              case rel => exact ⟨(Int.tmod (wrap64 ((wrap64 (x7_1 * a2)) + (rd l1 x8_1))) a0), (wrap64 (x8_1 - 1)), ea_, ea_, H', ⟨by have := HK1.out; omega⟩, by repeat (first | exact Drawn0.refl _ | apply Drawn0.step)⟩
          · rw [if_neg c6] at H
            exact absurd H (by simp)
        · rw [if_neg c5] at H
          exact absurd H (by simp)
      · rw [if_neg c4] at H
        have c4b0 : decide (0 ≤ x8_1) = false := decide_eq_false c4
        clear c4
        obtain rfl := Option.some.inj H
        go_wp2
        go_ret
        exact ⟨by first | rfl | (simp; done) | (simp [*]; done), by repeat (first | exact Drawn0.refl _ | apply Drawn0.step)⟩

end Go.Proofs.Ytfbehafhiialcaa.H
/- Layer 1, part 6: values, compositions; codes with a range. -/
set_option linter.unusedVariables false
set_option linter.unusedSimpArgs false
namespace Go.Proofs.Ytfbehafhiialcaa.H
open Go.RowKit Go.Proofs.YtfbehafhiialcaaW.PrintWords Go.Proofs.YtfbehafhiialcaaW.PrintLast Go.Proofs.YtfbehafhiialcaaW.PrintMore Go.Proofs.Ytfbehafhiialcaa.Num

theorem code_cases (p : Int) (b : Bool) (ls : List (List Int)) :
    (codeL p true ls ≠ 0 ∧ codeL p b ls = codeL p true ls) ∨ (codeL p true ls = 0 ∧ b = false ∧ codeL p b ls = 2 ∧ IsP p) ∨ (codeL p true ls = 0 ∧ b = true ∧ codeL p b ls = 0 ∧ IsP p ∧ ∀ l ∈ ls, Po p l) := by
  by_cases h : codeL p true ls = 0
  · obtain ⟨hp, _, hq⟩ := codeL_0 h
    cases b with
    | true => exact .inr (.inr ⟨h, rfl, h, hp, hq⟩)
    | false =>
      refine .inr (.inl ⟨h, rfl, ?_, hp⟩)
      have hall : ls.all (polyB p) = true := List.all_eq_true.2 fun l hl => polyB_iff.2 (hq l hl)
      simp [codeL, hall]
  · refine .inl ⟨h, ?_⟩
    unfold codeL at h ⊢
    cases ha : ls.all (polyB p) with
    | false => simp
    | true => rw [ha] at h; cases hp : primeB p <;> simp [hp] at h ⊢
theorem in_any (x a b : Int) : spec_l01In.f x a b = some (decide (a ≤ x) && decide (x ≤ b)) := by
  unfold spec_l01In.f; by_cases h : x ≥ a
  · rw [if_pos h, decide_eq_true h, Bool.true_and]
  · rw [if_neg h, decide_eq_false h, Bool.false_and]
theorem in_has {p : Int} (hp : IsP p) (x : Int) : spec_l01In.f x 0 (wrap64 (p - 1)) = some (hasB p x) := by
  rw [in_any, w64 (by have := hp.1; omega) (by have := hp.2.1; omega)]; unfold hasB; congr 2; exact decide_eq_decide.2 (by omega)
theorem in_within (x a b : Int) : spec_l01In.f x a b = some (withinB x a b) := in_any x _ _
theorem _root_.Go.Proofs.Ytfbehafhiialcaa.Num.IsP.p2 {p : Int} (h : IsP p) : 2 ≤ p := h.1
theorem _root_.Go.Proofs.Ytfbehafhiialcaa.Num.IsP.pm {p : Int} (h : IsP p) : p ≤ 10007 := h.2.1
theorem _root_.Go.Proofs.Ytfbehafhiialcaa.Num.IsP.p0 {p : Int} (h : IsP p) : 0 < p := by have := h.1; omega

/-! ## values -/
def valL (p : Int) (f : List Int) (x : Int) : Int := f.foldr (fun c o => (o * x + c) % p) 0
theorem valL_bd {p : Int} (hp : 0 < p) (f : List Int) (x : Int) : 0 ≤ valL p f x ∧ valL p f x < p := by
  cases f with
  | nil => exact ⟨Int.le_refl _, hp⟩
  | cons c f => exact emod_bd hp
theorem hor_bd {p o x c : Int} (hp2 : p ≤ 10007) (ho : 0 ≤ o ∧ o < p) (hx : 0 ≤ x ∧ x < p) (hc : 0 ≤ c ∧ c < p) : 0 ≤ o * x ∧ o * x ≤ 1000700000 ∧ 0 ≤ o * x + c ∧ o * x + c ≤ 2000000000 := by
  have := mul_bd2 hp2 ho (y := x) (by omega); omega
theorem impl_val {p x : Int} {f : List Int} (hp : 2 ≤ p) (hp2 : p ≤ 10007) (rf : InR p f) (hx : 0 ≤ x ∧ x < p) : impl_field_value.f p f x = some (valL p f x) := by
  unfold impl_field_value.f
  rw [if_neg (by omega)]
  congr 1
  induction f with
  | nil => rfl
  | cons c f ih =>
    have hc := rf c (by simp)
    have rf' : InR p f := fun y hy => rf y (by simp [hy])
    have hb := valL_bd (p := p) (by omega) f x
    have h := hor_bd hp2 hb hx hc
    rw [List.foldr_cons, ih rf', stepv, w64 (x := valL p f x * x) (by omega) (by omega), w64 (by omega) (by omega), impl_mod (by omega) (by omega)]
    rfl
theorem spec_val {p x : Int} {f : List Int} (hp : 2 ≤ p) (hp2 : p ≤ 10007) (hf : f.length ≤ 1000) (rf : InR p f) (hx : 0 ≤ x ∧ x < p) : Ev (fun k => spec_l01At.f k p f x) (valL p f x) := by
  have loop : ∀ n, n ≤ f.length → Ev (fun k => spec_l01At.l0 k p f x (valL p (f.drop n) x) ((n : Int) - 1)) (valL p f x) := by
    intro n
    induction n with
    | zero => intro _; refine Ev.succ ?_; simp (disch := omega) only [spec_l01At.l0, if_neg, List.drop_zero]; exact Ev.now _
    | succ n ih =>
      intro hn
      have hb := valL_bd (p := p) (by omega) (f.drop (n + 1)) x
      have hc := rf.get (by omega) n
      have h := hor_bd hp2 hb hx hc
      have e : valL p (f.drop n) x = (valL p (f.drop (n + 1)) x * x + f.getD n 0) % p := by
        rw [List.drop_eq_getElem_cons (show n < f.length by omega), List.getD_eq_getElem?_getD, List.getElem?_eq_getElem (show n < f.length by omega)]
        rfl
      have hi := ih (by omega)
      rw [e] at hi
      refine Ev.succ ?_
      simp (disch := omega) only [spec_l01At.l0, ws1, if_pos, if_neg, rd_n, w64, wm1, tmod_nn]
      exact hi
  have h := loop f.length (Nat.le_refl _)
  rw [List.drop_length] at h
  simp only [spec_l01At.f, wm1 (show f.length ≤ 1000000000000 by omega)]
  exact h

/-! ## compositions -/
theorem comp_step {p c : Int} {X : List Int} (hp : 2 ≤ p) (rX : InR p X) (hc : 0 ≤ c ∧ c < p) : addL p X (trimL [c]) 1 = addL p X [1] c := by
  by_cases h0 : c = 0
  · subst h0
    cases X with
    | nil => simp [addL, trimL, tlen, ad, pad]
    | cons a X =>
      have ha := rX a (by simp)
      have e : a % p = a := Int.emod_eq_of_lt ha.1 ha.2
      simp [addL, trimL, tlen, ad, pad, e]
  · have e1 : trimL [c] = [c] := by simp [trimL, tlen, h0]
    rw [e1]
    simp [addL, ad]
end Go.Proofs.Ytfbehafhiialcaa.H

/- Sums, series of whole numbers, congruences. No program in sight. -/
set_option linter.unusedVariables false
set_option linter.unusedSimpArgs false
namespace Go.Proofs.Ytfbehafhiialcaa.Num

/-! ## sums -/
def su (f : Nat → Int) : Nat → Int
  | 0 => 0
  | n + 1 => su f n + f n
theorem su_congr {f g : Nat → Int} : ∀ {n : Nat}, (∀ i, i < n → f i = g i) → su f n = su g n
  | 0, _ => rfl
  | n + 1, h => by rw [su, su, su_congr (n := n) (fun i hi => h i (by omega)), h n (by omega)]
theorem su_zero {f : Nat → Int} : ∀ {n : Nat}, (∀ i, i < n → f i = 0) → su f n = 0
  | 0, _ => rfl
  | n + 1, h => by rw [su, su_zero (n := n) (fun i hi => h i (by omega)), h n (by omega)]; rfl
theorem su_add (f g : Nat → Int) : ∀ n, su (fun i => f i + g i) n = su f n + su g n
  | 0 => rfl
  | n + 1 => by simp only [su, su_add f g n]; omega
theorem su_sub (f g : Nat → Int) : ∀ n, su (fun i => f i - g i) n = su f n - su g n
  | 0 => rfl
  | n + 1 => by simp only [su, su_sub f g n]; omega
theorem su_mul (c : Int) (f : Nat → Int) : ∀ n, su (fun i => c * f i) n = c * su f n
  | 0 => by simp [su]
  | n + 1 => by simp only [su, su_mul c f n, Int.mul_add]
theorem su_mulr (c : Int) (f : Nat → Int) (n : Nat) : su (fun i => f i * c) n = su f n * c := by
  rw [Int.mul_comm, ← su_mul]; exact su_congr fun i _ => Int.mul_comm _ _
theorem su_split (f : Nat → Int) (m : Nat) : ∀ n, su f (m + n) = su f m + su (fun i => f (m + i)) n
  | 0 => by simp [su]
  | n + 1 => by rw [← Nat.add_assoc, su, su_split f m n, su]; omega
theorem su_head (f : Nat → Int) (n : Nat) : su f (n + 1) = f 0 + su (fun i => f (i + 1)) n := by
  rw [Nat.add_comm n 1, su_split f 1 n]
  simp only [su]
  rw [Int.zero_add, su_congr (g := fun i => f (i + 1)) (fun i _ => by rw [Nat.add_comm])]
theorem su_ext {f : Nat → Int} {m n : Nat} (h : m ≤ n) (hz : ∀ i, m ≤ i → i < n → f i = 0) : su f n = su f m := by
  obtain ⟨d, rfl⟩ : ∃ d, n = m + d := ⟨n - m, by omega⟩
  rw [su_split, su_zero (n := d) (fun i hi => hz _ (by omega) (by omega))]; omega
theorem su_rev (f : Nat → Int) : ∀ n, su (fun i => f (n - 1 - i)) n = su f n
  | 0 => rfl
  | n + 1 => by
    rw [su_head, su, Int.add_comm]
    congr 1
    rw [← su_rev f n]
    exact su_congr fun i hi => by congr 1; omega
theorem su_swap (f : Nat → Nat → Int) : ∀ m n, su (fun i => su (fun j => f i j) n) m = su (fun j => su (fun i => f i j) m) n
  | 0, n => by rw [su]; exact (su_zero fun _ _ => rfl).symm
  | m + 1, n => by
    rw [su, su_swap f m n, ← su_add]
    exact su_congr fun j _ => by rw [su]
/-- over a triangle, by rows and by columns -/
theorem su_tri (f : Nat → Nat → Int) : ∀ n, su (fun i => su (fun j => f i j) (i + 1)) n = su (fun j => su (fun i => f (j + i) j) (n - j)) n
  | 0 => rfl
  | n + 1 => by
    rw [su, su_tri f n]
    have h : ∀ j, j < n → su (fun i => f (j + i) j) (n + 1 - j) = su (fun i => f (j + i) j) (n - j) + f n j := fun j hj => by
      rw [show n + 1 - j = (n - j) + 1 by omega, su, show j + (n - j) = n by omega]
    have h3 : su (fun j => su (fun i => f (j + i) j) (n + 1 - j)) n = su (fun j => su (fun i => f (j + i) j) (n - j)) n + su (fun j => f n j) n := by rw [su_congr (n := n) h, su_add]
    have h2 : su (fun i => f (n + i) n) (n + 1 - n) = f n n := by rw [show n + 1 - n = 1 by omega]; simp [su]
    rw [su, su, h2, h3]
    omega

/-! ## series: the product -/
def cv (F G : Nat → Int) (n : Nat) : Int := su (fun i => F i * G (n - i)) (n + 1)
theorem cv_comm (F G : Nat → Int) (n : Nat) : cv F G n = cv G F n := by
  unfold cv
  rw [← su_rev]
  exact su_congr fun i hi => by
    rw [show n + 1 - 1 - i = n - i by omega, show n - (n - i) = i by omega, Int.mul_comm]
theorem cv_addl (F G H : Nat → Int) (n : Nat) : cv (fun i => F i + G i) H n = cv F H n + cv G H n := by
  unfold cv; rw [← su_add]; exact su_congr fun i _ => Int.add_mul _ _ _
theorem cv_addr (F G H : Nat → Int) (n : Nat) : cv F (fun i => G i + H i) n = cv F G n + cv F H n := by
  rw [cv_comm, cv_addl, cv_comm G, cv_comm H]
theorem cv_mull (c : Int) (F G : Nat → Int) (n : Nat) : cv (fun i => c * F i) G n = c * cv F G n := by
  unfold cv; rw [← su_mul]; exact su_congr fun i _ => Int.mul_assoc _ _ _
theorem cv_mulr (c : Int) (F G : Nat → Int) (n : Nat) : cv F (fun i => c * G i) n = c * cv F G n := by
  rw [cv_comm, cv_mull, cv_comm]
theorem cv_assoc (F G H : Nat → Int) (n : Nat) : cv (cv F G) H n = cv F (cv G H) n := by
  unfold cv
  have h1 : su (fun i => su (fun j => F j * G (i - j)) (i + 1) * H (n - i)) (n + 1) = su (fun i => su (fun j => F j * G (i - j) * H (n - i)) (i + 1)) (n + 1) :=
    su_congr fun i _ => (su_mulr _ _ _).symm
  rw [h1, su_tri (fun i j => F j * G (i - j) * H (n - i))]
  refine su_congr fun j hj => ?_
  rw [← su_mul, show n + 1 - j = n - j + 1 by omega]
  exact su_congr fun i _ => by rw [show j + i - j = i by omega, show n - (j + i) = n - j - i by omega, Int.mul_assoc]
theorem cv_one (F : Nat → Int) (c : Int) (n : Nat) : cv (fun i => if i = 0 then c else 0) F n = c * F n := by
  unfold cv
  rw [su_head, su_zero fun i _ => by simp]
  simp
theorem cv_zero (F : Nat → Int) (n : Nat) : cv (fun _ => 0) F n = 0 := su_zero fun i _ => Int.zero_mul _

/-! ## congruences -/
def cg (p a b : Int) : Prop := p ∣ a - b
theorem cg.refl {p : Int} (a : Int) : cg p a a := ⟨0, by omega⟩
theorem cg.of_eq {p a b : Int} (h : a = b) : cg p a b := h ▸ cg.refl a
theorem cg.symm {p a b : Int} : cg p a b → cg p b a := fun ⟨k, h⟩ => ⟨-k, by rw [Int.mul_neg, ← h]; omega⟩
theorem cg.trans {p a b c : Int} : cg p a b → cg p b c → cg p a c := fun ⟨k, h⟩ ⟨m, h'⟩ => ⟨k + m, by rw [Int.mul_add, ← h, ← h']; omega⟩
theorem cg.add {p a b c d : Int} : cg p a b → cg p c d → cg p (a + c) (b + d) := fun ⟨k, h⟩ ⟨m, h'⟩ => ⟨k + m, by rw [Int.mul_add, ← h, ← h']; omega⟩
theorem cg.neg {p a b : Int} : cg p a b → cg p (-a) (-b) := fun ⟨k, h⟩ => ⟨-k, by rw [Int.mul_neg, ← h]; omega⟩
theorem cg.sub {p a b c d : Int} (h : cg p a b) (h' : cg p c d) : cg p (a - c) (b - d) := by
  rw [Int.sub_eq_add_neg, Int.sub_eq_add_neg]; exact h.add h'.neg
theorem cg.mul {p a b c d : Int} : cg p a b → cg p c d → cg p (a * c) (b * d) := fun ⟨k, h⟩ ⟨m, h'⟩ => ⟨k * c + b * m, by
  have e1 : a = b + p * k := by omega
  have e2 : c = d + p * m := by omega
  rw [e1, e2]; grind⟩
theorem cg.mod (p a : Int) : cg p (a % p) a := ⟨-(a / p), by have := Int.mul_ediv_add_emod a p; rw [Int.mul_neg]; omega⟩
theorem cg.emod {p a b : Int} (h : cg p a b) : a % p = b % p := by
  obtain ⟨k, h⟩ := h
  rw [show a = b + p * k by omega, Int.add_mul_emod_self_left]
theorem cg.of_emod {p a b : Int} (h : a % p = b % p) : cg p a b := (cg.mod p a).symm.trans (h ▸ cg.mod p b)
theorem cg.eq {p a b : Int} (h : cg p a b) (ha : 0 ≤ a ∧ a < p) (hb : 0 ≤ b ∧ b < p) : a = b := by
  have := h.emod; rwa [Int.emod_eq_of_lt ha.1 ha.2, Int.emod_eq_of_lt hb.1 hb.2] at this
theorem cg.zero {p a : Int} : cg p a 0 ↔ a % p = 0 := ⟨fun h => by have := h.emod; simpa using this, fun h => cg.of_emod (by simpa using h)⟩
theorem cg.su {p : Int} {f g : Nat → Int} : ∀ {n : Nat}, (∀ i, i < n → cg p (f i) (g i)) → cg p (su f n) (su g n)
  | 0, _ => cg.refl _
  | n + 1, h => (cg.su (n := n) fun i hi => h i (by omega)).add (h n (by omega))
theorem cg.cv {p : Int} {F F' G G' : Nat → Int} (hF : ∀ i, cg p (F i) (F' i)) (hG : ∀ i, cg p (G i) (G' i)) (n : Nat) : cg p (cv F G n) (cv F' G' n) := cg.su fun i _ => (hF i).mul (hG _)
theorem cg.pow {p a b : Int} (h : cg p a b) : ∀ n : Nat, cg p (a ^ n) (b ^ n)
  | 0 => by rw [Int.pow_zero, Int.pow_zero]; exact cg.refl 1
  | n + 1 => by rw [Int.pow_succ, Int.pow_succ]; exact (cg.pow h n).mul h

/-! ## the field -/
/-- x to the p - 2 is an inverse -/
theorem inv_cg {p x : Int} (hp : IsP p) (hx : x % p ≠ 0) : cg p (x * (x ^ (p - 2).toNat % p)) 1 := by
  have h2 := hp.1
  obtain ⟨n, hn⟩ : ∃ n : Nat, p = n := ⟨p.toNat, by omega⟩
  subst hn
  have hpr : Pr n := by simpa using hp.2.2
  obtain ⟨a, ha⟩ : ∃ a : Nat, x % (n : Int) = a := ⟨(x % (n : Int)).toNat, by have := emod_bd (x := x) (p := n) (by omega); omega⟩
  have hb := emod_bd (x := x) (p := (n : Int)) (by omega)
  have hnd : ¬ n ∣ a := fun h => by have := Nat.le_of_dvd (by omega) h; omega
  have hf := hpr.fermat1 hnd
  have h1 : cg n ((a : Int) ^ (n - 1)) 1 := by
    refine cg.of_emod ?_
    have : ((a ^ (n - 1) % n : Nat) : Int) = 1 := by rw [hf]; rfl
    rw [Int.natCast_emod, Int.natCast_pow] at this
    rw [this, Int.emod_eq_of_lt (by omega) (by omega)]
  have hxa : cg n x a := ha ▸ (cg.mod n x).symm
  refine ((cg.refl x).mul (cg.mod _ _)).trans ?_
  have e : x * x ^ ((n : Int) - 2).toNat = x ^ (n - 1) := by
    rw [Int.mul_comm, ← Int.pow_succ]; congr 1; omega
  rw [e]
  exact (hxa.pow _).trans h1
theorem cg_mul0 {p a b : Int} (hp : IsP p) (h : cg p (a * b) 0) : cg p a 0 ∨ cg p b 0 := by
  by_cases ha : a % p = 0
  · exact .inl (cg.zero.2 ha)
  · right
    have h1 := inv_cg hp ha
    have h2 : cg p (a ^ (p - 2).toNat % p * (a * b)) (a ^ (p - 2).toNat % p * 0) := (cg.refl _).mul h
    have h3 : a ^ (p - 2).toNat % p * (a * b) = a * (a ^ (p - 2).toNat % p) * b := by grind
    rw [h3, Int.mul_zero] at h2
    have h4 := h1.mul (cg.refl b)
    rw [Int.one_mul] at h4
    exact h4.symm.trans h2
end Go.Proofs.Ytfbehafhiialcaa.Num

/- Layer 1, part 7: what division does to the numbers; greatest common divisors. -/
set_option linter.unusedVariables false
set_option linter.unusedSimpArgs false
namespace Go.Proofs.Ytfbehafhiialcaa.H
open Go.RowKit Go.Proofs.YtfbehafhiialcaaW.PrintWords Go.Proofs.YtfbehafhiialcaaW.PrintLast Go.Proofs.YtfbehafhiialcaaW.PrintMore Go.Proofs.Ytfbehafhiialcaa.Num

/-- the numbers of a list, 0 behind its end -/
def co (l : List Int) (i : Nat) : Int := l.getD i 0
theorem co_ge {l : List Int} {i : Nat} (h : l.length ≤ i) : co l i = 0 := by simp [co, List.getD_eq_getElem?_getD, h]
theorem co_set (l : List Int) (i j : Nat) (x : Int) (h : i < l.length) : co (l.set i x) j = if j = i then x else co l j := by
  unfold co
  simp only [List.getD_eq_getElem?_getD]
  by_cases e : j = i
  · subst e; rw [List.getElem?_set_self h, if_pos rfl]; rfl
  · rw [List.getElem?_set_ne (Ne.symm e), if_neg e]
theorem co_take {l : List Int} {n i : Nat} : co (l.take n) i = if i < n then co l i else 0 := by
  unfold co
  simp only [List.getD_eq_getElem?_getD, List.getElem?_take]
  split <;> rfl
theorem InR.co {p : Int} {l : List Int} (h : InR p l) (hp : 0 < p) (i : Nat) : 0 ≤ co l i ∧ co l i < p := h.get hp i
/-- behind the trimmed part there are noughts alone -/
theorem tlen_zero (l : List Int) : ∀ n i, tlen l n ≤ i → i < n → l.getD i 0 = 0
  | 0, i, _, h => by omega
  | n + 1, i, h1, h2 => by
    unfold tlen at h1
    split at h1
    · rename_i h0
      by_cases e : i = n
      · subst e; exact h0
      · exact tlen_zero l n i h1 (by omega)
    · omega
theorem tlen_last (l : List Int) : ∀ n, tlen l n = 0 ∨ l.getD (tlen l n - 1) 0 ≠ 0
  | 0 => .inl rfl
  | n + 1 => by
    unfold tlen
    split
    · exact tlen_last l n
    · right; simpa using ‹_›
theorem trimL_length (l : List Int) : (trimL l).length = tlen l l.length := by
  unfold trimL; rw [List.length_take, Nat.min_eq_left (tlen_le _ _)]
theorem co_trim (l : List Int) (i : Nat) : co (trimL l) i = co l i := by
  unfold trimL
  rw [co_take]
  split
  · rfl
  · rename_i h
    by_cases hi : i < l.length
    · exact (tlen_zero l l.length i (by omega) hi).symm
    · exact (co_ge (by omega)).symm
/-- a list without noughts at its end -/
def Nz (l : List Int) : Prop := l.length = 0 ∨ co l (l.length - 1) ≠ 0
theorem Nz.trim (l : List Int) : Nz (trimL l) := by
  unfold Nz
  rw [co_trim, trimL_length]
  exact tlen_last l l.length
theorem Nz.len_le {l : List Int} (h : Nz l) {n : Nat} (hz : ∀ i, n ≤ i → co l i = 0) : l.length ≤ n := by
  rcases h with h | h
  · omega
  · rcases Nat.lt_or_ge n l.length with hl | hl
    · exact absurd (hz _ (by omega)) h
    · exact hl
theorem Nz.ext {l l' : List Int} (h : Nz l) (h' : Nz l') (he : ∀ i, co l i = co l' i) : l = l' := by
  have h1 : l.length ≤ l'.length := h.len_le fun i hi => by rw [he]; exact co_ge hi
  have h2 : l'.length ≤ l.length := h'.len_le fun i hi => by rw [← he]; exact co_ge hi
  refine List.ext_getElem (by omega) fun i a b => ?_
  have := he i
  unfold co at this
  rwa [List.getD_eq_getElem?_getD, List.getD_eq_getElem?_getD, List.getElem?_eq_getElem a, List.getElem?_eq_getElem b] at this
theorem Nz.trim_id {l : List Int} (h : Nz l) : trimL l = l := trimL_id h
theorem Po.nz {p : Int} {l : List Int} (h : Po p l) : Nz l := by
  rcases h.last with h0 | h0
  · exact .inl h0
  · by_cases hl : l.length = 0
    · exact .inl hl
    · right
      unfold co
      rwa [← rd_nat, show ((l.length - 1 : Nat) : Int) = (l.length : Int) - 1 by omega]
theorem Po.of {p : Int} {l : List Int} (hl : l.length ≤ 25) (hr : InR p l) (hz : Nz l) : Po p l := by
  refine ⟨hl, hr, ?_⟩
  rcases hz with h | h
  · exact .inl h
  · by_cases h0 : l.length = 0
    · exact .inl h0
    · right
      unfold co at h
      rwa [← rd_nat, show ((l.length - 1 : Nat) : Int) = (l.length : Int) - 1 by omega] at h
theorem Nz.top {p : Int} {l : List Int} (h : Nz l) (hr : InR p l) (hp : 0 < p) (h0 : 0 < l.length) : 0 < co l (l.length - 1) ∧ co l (l.length - 1) < p := by
  have h1 := hr.co hp (l.length - 1)
  rcases h with h2 | h2
  · omega
  · omega

/-! ## inverses -/
theorem inv_one {p x : Int} (hp : IsP p) (hx : 0 < x ∧ x < p) : cg p (x * inv p x) 1 := inv_cg hp (by rw [Int.emod_eq_of_lt (by omega) hx.2]; omega)

/-! ## division -/
theorem dv1_get (p q : Int) (g : List Int) (a t : Nat) : ∀ d j r, a + j + d ≤ r.length → co (dv1 p q g a r j d) t = if a + j ≤ t ∧ t < a + j + d then (co r t - q * co g (t - a)) % p else co r t
  | 0, j, r, h => by rw [if_neg (by omega)]; rfl
  | d + 1, j, r, h => by
    rw [dv1, dv1_get p q g a t d (j + 1) _ (by simpa using by omega), co_set _ _ _ _ (by omega)]
    by_cases e : t = a + j
    · subst e
      rw [if_neg (by omega), if_pos rfl, if_pos (by omega), show a + j - a = j by omega]
      rfl
    · rw [if_neg e]
      by_cases h2 : a + (j + 1) ≤ t ∧ t < a + (j + 1) + d
      · rw [if_pos h2, if_pos (by omega)]
      · rw [if_neg h2, if_neg (by omega)]
/-- number t of g put m places up -/
def sh (g : List Int) (m t : Nat) : Int := if m ≤ t then co g (t - m) else 0
theorem dv1_cg {p : Int} (c : Int) (g r : List Int) (m t : Nat) (h : m + g.length ≤ r.length) : cg p (co r t) (co (dv1 p c g m r 0 g.length) t + c * sh g m t) := by
  rw [dv1_get p c g m t g.length 0 r (by omega)]
  unfold sh
  by_cases h1 : m + 0 ≤ t ∧ t < m + 0 + g.length
  · rw [if_pos h1, if_pos (by omega)]
    have := (cg.mod p (co r t - c * co g (t - m))).symm.add (cg.refl (c * co g (t - m)))
    rwa [show co r t - c * co g (t - m) + c * co g (t - m) = co r t by omega] at this
  · rw [if_neg h1]
    by_cases h2 : m ≤ t
    · rw [if_pos h2, co_ge (show g.length ≤ t - m by omega), Int.mul_zero, Int.add_zero]; exact cg.refl _
    · rw [if_neg h2, Int.mul_zero, Int.add_zero]; exact cg.refl _
theorem dvR_cg (p iv : Int) (g : List Int) (t : Nat) : ∀ m (q r : List Int), (m = 0 ∨ m + g.length ≤ r.length + 1) → m ≤ q.length →
    cg p (co r t) (co (dvR p iv g m q r).2 t + su (fun i => co (dvR p iv g m q r).1 i * sh g i t) m)
  | 0, q, r, _, _ => by simp only [dvR, su, Int.add_zero]; exact cg.refl _
  | m + 1, q, r, h, hq => by
    rw [dvR]
    have hq2 := dvR_top p iv g m m (q.set m (r.getD (m + g.length - 1) 0 * iv % p)) (dv1 p (r.getD (m + g.length - 1) 0 * iv % p) g m r 0 g.length) (Nat.le_refl m)
    have hc : co (q.set m (r.getD (m + g.length - 1) 0 * iv % p)) m = r.getD (m + g.length - 1) 0 * iv % p := by rw [co_set _ _ _ _ (by omega), if_pos rfl]
    have ih := dvR_cg p iv g t m (q.set m (r.getD (m + g.length - 1) 0 * iv % p)) (dv1 p (r.getD (m + g.length - 1) 0 * iv % p) g m r 0 g.length) (by rw [dv1_len]; omega) (by simp; omega)
    have h1 := dv1_cg (p := p) (r.getD (m + g.length - 1) 0 * iv % p) g r m t (by omega)
    refine h1.trans ?_
    rw [su]
    have e : co (dvR p iv g m (q.set m (r.getD (m + g.length - 1) 0 * iv % p)) (dv1 p (r.getD (m + g.length - 1) 0 * iv % p) g m r 0 g.length)).1 m = r.getD (m + g.length - 1) 0 * iv % p := hq2.trans hc
    rw [e]
    have := ih.add (cg.refl (r.getD (m + g.length - 1) 0 * iv % p * sh g m t))
    rwa [Int.add_assoc] at this
/-- what the steps leave is 0 from the divisor's degree on -/
theorem dvR_high {p iv : Int} (g : List Int) (h0 : 0 < g.length) (hp : 0 < p) (hiv : cg p (co g (g.length - 1) * iv) 1) : ∀ m (q r : List Int), (m = 0 ∨ m + g.length ≤ r.length + 1) → InR p r → (∀ t, m + g.length - 1 ≤ t → co r t = 0) →
    ∀ t, g.length - 1 ≤ t → co (dvR p iv g m q r).2 t = 0
  | 0, q, r, _, _, hz, t, ht => hz t (by omega)
  | m + 1, q, r, h, hr, hz, t, ht => by
    rw [dvR]
    refine dvR_high g h0 hp hiv m _ _ (by rw [dv1_len]; omega) (dv1_inR hp _ g m _ _ _ hr) (fun t ht => ?_) t ht
    rw [dv1_get _ _ _ _ _ _ _ _ (by omega)]
    by_cases e : t = m + g.length - 1
    · subst e
      rw [if_pos (by omega), show m + g.length - 1 - m = g.length - 1 by omega]
      have h1 : cg p (co r (m + g.length - 1) * iv % p * co g (g.length - 1)) (co r (m + g.length - 1)) := by
        refine ((cg.mod _ _).mul (cg.refl _)).trans ?_
        have := (cg.refl (co r (m + g.length - 1))).mul hiv
        rw [Int.mul_one] at this
        refine (cg.of_eq ?_).trans this
        rw [Int.mul_assoc, Int.mul_comm iv]
      have h2 := (cg.refl (co r (m + g.length - 1))).sub h1
      rw [Int.sub_self] at h2
      exact cg.zero.1 h2
    · rw [if_neg (by omega)]
      exact hz t (by omega)
theorem divL_facts {p : Int} {f g : List Int} (hp : IsP p) (rf : InR p f) (rg : InR p g) (zg : Nz g) (h0 : 0 < g.length) :
    (∀ t, cg p (co f t) (cv (co (divL p f g).1) (co g) t + co (divL p f g).2 t)) ∧ (Nz f → (divL p f g).2.length < g.length) ∧ (Nz f → Nz (divL p f g).2) ∧ InR p (divL p f g).1 ∧ InR p (divL p f g).2 ∧ (divL p f g).1.length = f.length + 1 - g.length := by
  have hiv := inv_one hp (zg.top rg hp.p0 h0)
  have hib := inv_bd hp.p0 (co g (g.length - 1))
  unfold divL
  by_cases hlt : f.length < g.length
  · rw [if_pos hlt]
    refine ⟨fun t => ?_, fun _ => hlt, fun h => h, InR.nil, rf, by simp; omega⟩
    have : cv (co []) (co g) t = 0 := su_zero fun i _ => by rw [co_ge (by simp), Int.zero_mul]
    simp only [this, Int.zero_add]
    exact cg.refl _
  · rw [if_neg hlt]
    have hl := dvR_len p (inv p (g.getD (g.length - 1) 0)) g (f.length - g.length + 1) (List.replicate (f.length - g.length + 1) 0) f
    have hr := dvR_inR hp.p0 (inv p (g.getD (g.length - 1) 0)) g (f.length - g.length + 1) (List.replicate (f.length - g.length + 1) 0) f (InR.zeros hp.p0 _) rf
    have hhigh := dvR_high (p := p) (iv := inv p (g.getD (g.length - 1) 0)) g h0 hp.p0 hiv (f.length - g.length + 1) (List.replicate (f.length - g.length + 1) 0) f (by omega) rf (fun t ht => co_ge (by omega))
    refine ⟨fun t => ?_, fun _ => ?_, fun _ => Nz.trim _, hr.1, hr.2.trim, by rw [hl.1, List.length_replicate]; omega⟩
    · have h := dvR_cg p (inv p (g.getD (g.length - 1) 0)) g t (f.length - g.length + 1) (List.replicate (f.length - g.length + 1) 0) f (by omega) (by simp)
      simp only
      rw [co_trim, Int.add_comm]
      refine h.trans ((cg.refl _).add (cg.of_eq ?_))
      generalize hq : (dvR p (inv p (g.getD (g.length - 1) 0)) g (f.length - g.length + 1) (List.replicate (f.length - g.length + 1) 0) f).1 = q at hl ⊢
      have hql : q.length = f.length - g.length + 1 := by rw [hl.1, List.length_replicate]
      have e1 : su (fun i => co q i * sh g i t) (f.length - g.length + 1) = su (fun i => co q i * sh g i t) (max (f.length - g.length + 1) (t + 1)) :=
        (su_ext (Nat.le_max_left _ _) fun i hi _ => by rw [co_ge (by omega), Int.zero_mul]).symm
      have e2 : su (fun i => co q i * sh g i t) (max (f.length - g.length + 1) (t + 1)) = su (fun i => co q i * sh g i t) (t + 1) :=
        su_ext (Nat.le_max_right _ _) fun i hi _ => by unfold sh; rw [if_neg (by omega), Int.mul_zero]
      rw [e1, e2]
      exact su_congr fun i hi => by unfold sh; rw [if_pos (by omega)]
    · have h1 : (trimL (dvR p (inv p (g.getD (g.length - 1) 0)) g (f.length - g.length + 1) (List.replicate (f.length - g.length + 1) 0) f).2).length ≤ g.length - 1 :=
        (Nz.trim _).len_le fun i hi => by rw [co_trim]; exact hhigh i hi
      simp only
      omega

/-! ## the greatest common divisor -/
def gcdF (p : Int) : Nat → List Int → List Int → List Int
  | 0, f, _ => f
  | n + 1, f, g => if g.length = 0 then (if f.length = 0 then [] else monicL p f) else gcdF p n g (divL p f g).2
def gcdL (p : Int) (f g : List Int) : List Int := gcdF p (g.length + 1) f g
theorem monicL_len (p : Int) (f : List Int) : (monicL p f).length ≤ f.length := by have := addL_len p [] f (inv p (rd f ((f.length : Int) - 1))); simpa [monicL] using this
theorem gcdF_facts {p : Int} (hp : IsP p) : ∀ (n : Nat) (f g : List Int), Po p f → Po p g → g.length < n →
    Ev (fun k => spec_l01Gcd.l0 k p f g) (gcdF p n f g) ∧ Ev (fun k => impl_field_gcd.l0 k p f g) (gcdF p n f g) ∧ (gcdF p n f g).length ≤ 25
  | 0, f, g, _, _, h => by omega
  | n + 1, f, g, pf, pg, h => by
    have lf := pf.len
    have lg := pg.len
    rw [gcdF]
    by_cases h0 : g.length = 0
    · rw [if_pos h0]
      refine ⟨?_, ?_, ?_⟩
      · refine Ev.succ ?_
        simp (disch := omega) only [spec_l01Gcd.l0, if_neg]
        exact Ev.bind (spec_monic hp.p2 hp.pm (by omega) pf.inR) (Ev.now _)
      · refine Ev.succ ?_
        by_cases hf : f.length = 0
        · simp (disch := omega) only [impl_field_gcd.l0, if_neg, if_pos]
          exact Ev.now _
        · simp (disch := omega) only [impl_field_gcd.l0, if_neg]
          exact Ev.bind (impl_monic hp.p2 hp.pm (by omega) pf.inR hf) (Ev.now _)
      · split
        · simp
        · have := monicL_len p f; omega
    · rw [if_neg h0]
      obtain ⟨d1, d2, d3, d4, d5, d6⟩ := divL_facts hp pf.inR pg.inR pg.nz (by omega)
      have hl := d2 pf.nz
      obtain ⟨i1, i2, i3⟩ := gcdF_facts hp n g (divL p f g).2 pg (Po.of (by omega) d5 (d3 pf.nz)) (by omega)
      refine ⟨?_, ?_, i3⟩
      · refine Ev.succ ?_
        simp (disch := omega) only [spec_l01Gcd.l0, if_pos]
        exact Ev.bind (spec_divide hp.p2 hp.pm (by omega) (by omega) (by omega) pf.inR pg.inR) i1
      · refine Ev.succ ?_
        simp (disch := omega) only [impl_field_gcd.l0, if_pos]
        exact Ev.bind (impl_divide hp.p2 hp.pm (by omega) (by omega) (by omega) pf.inR pg.inR) i2
theorem spec_gcd {p : Int} {f g : List Int} (hp : IsP p) (pf : Po p f) (pg : Po p g) : Ev (fun k => spec_l01Gcd.f k p f g) (gcdL p f g) := (gcdF_facts hp _ f g pf pg (Nat.lt_succ_self _)).1
theorem impl_gcd {p : Int} {f g : List Int} (hp : IsP p) (pf : Po p f) (pg : Po p g) : Ev (fun k => impl_field_gcd.f k p f g) (gcdL p f g) := (gcdF_facts hp _ f g pf pg (Nat.lt_succ_self _)).2.1
theorem gcdL_len {p : Int} {f g : List Int} (hp : IsP p) (pf : Po p f) (pg : Po p g) : (gcdL p f g).length ≤ 25 := (gcdF_facts hp _ f g pf pg (Nat.lt_succ_self _)).2.2
end Go.Proofs.Ytfbehafhiialcaa.H

-- written by wip/drive.py (the session's own program) over the translation; Lean checks it
namespace Go.Proofs.Ytfbehafhiialcaa.H
open Go.RowKit Go.Proofs.YtfbehafhiialcaaW.PrintWords Go.Proofs.YtfbehafhiialcaaW.PrintLast Go.Proofs.YtfbehafhiialcaaW.PrintMore
attribute [local go_sem] max2_int min2_int max_two min_two max_three min_three max_four min_four   -- for this text's walks alone
set_option linter.unusedVariables false
set_option linter.unusedSimpArgs false

/-! ### impl_length_int64: function 61 -/
def impl_length_int64.f (l0 : List Int) : Option (Int) := some (l0.length : Int)
set_option maxHeartbeats 8000000 in
set_option maxRecDepth 100000 in
theorem impl_length_int64.calls (A0 : Option Addr) (c0 : Nat) (l0 : List Int) (r : Int) (w : World) (hr0 : Kd.C (Kd.int .i64) w A0 l0.length l0) (hc0 : l0.length ≤ c0) (h : impl_length_int64.f l0 = some r) :
    Calls Try.prog 61 #[.slice A0 l0.length c0] w fun e w' => e = .returned (.int .i64 r) ∧ Drawn0 w w' := by
  have HR0 := Aside0.mk hr0
  have HC0 := Aside0.mk hc0
  clear hr0 hc0
  have H : (some (l0.length : Int)) = some r := h
  clear h
  obtain rfl := Option.some.inj H
  go_enter Try.func61, Try.ntmps61
  go_wp2
  go_ret
  exact ⟨by first | rfl | (simp; done) | (simp [*]; done), by repeat (first | exact Drawn0.refl _ | apply Drawn0.step)⟩

end Go.Proofs.Ytfbehafhiialcaa.H
-- written by wip/drive.py (the session's own program) over the translation; Lean checks it
namespace Go.Proofs.Ytfbehafhiialcaa.H
open Go.RowKit Go.Proofs.YtfbehafhiialcaaW.PrintWords Go.Proofs.YtfbehafhiialcaaW.PrintLast Go.Proofs.YtfbehafhiialcaaW.PrintMore
attribute [local go_sem] max2_int min2_int max_two min_two max_three min_three max_four min_four   -- for this text's walks alone
set_option linter.unusedVariables false
set_option linter.unusedSimpArgs false

/-! ### impl_degree: function 49 -/
def impl_degree.f (l0 : List Int) : Option (Int) := (impl_length_int64.f l0).bind fun t542 => (some (wrap64 (t542 - 1)))
set_option maxHeartbeats 8000000 in
set_option maxRecDepth 100000 in
theorem impl_degree.calls (A0 : Option Addr) (c0 : Nat) (l0 : List Int) (r : Int) (w : World) (hr0 : Kd.C (Kd.int .i64) w A0 l0.length l0) (hc0 : l0.length ≤ c0) (h : impl_degree.f l0 = some r) :
    Calls Try.prog 49 #[.slice A0 l0.length c0] w fun e w' => e = .returned (.int .i64 r) ∧ Drawn0 w w' := by
  have HR0 := Aside0.mk hr0
  have HC0 := Aside0.mk hc0
  clear hr0 hc0
  have H : ((impl_length_int64.f l0).bind fun t542 => (some (wrap64 (t542 - 1)))) = some r := h
  clear h
  replace H := Option.bind_eq_some_iff.mp H
  obtain ⟨t542, A20, H⟩ := H
  have A2 := Aside0.mk A20
  clear A20
  obtain rfl := Option.some.inj H
  go_enter Try.func49, Try.ntmps49
  go_wp2_with (first | ((with_reducible refine gate_callee (f := 61) rfl ?_); refine goesM_ (some 4) rfl rfl Try.func61 #[.slice A0 l0.length c0] rfl ?_; (with_reducible refine (impl_length_int64.calls _ _ l0 t542 _ ?side1 ?side2 A2.out).mono ?_); (case side1 => exact cs (HR0.out)); (case side2 => exact HC0.out); rintro e w' ⟨rfl, ⟨nd, rfl⟩⟩; refine ⟨_, rfl, ?_⟩))
  go_ret
  exact ⟨by first | rfl | (simp; done) | (simp [*]; done), by repeat (first | exact Drawn0.refl _ | apply Drawn0.step)⟩

end Go.Proofs.Ytfbehafhiialcaa.H
-- written by wip/drive.py (the session's own program) over the translation; Lean checks it
namespace Go.Proofs.Ytfbehafhiialcaa.H
open Go.RowKit Go.Proofs.YtfbehafhiialcaaW.PrintWords Go.Proofs.YtfbehafhiialcaaW.PrintLast Go.Proofs.YtfbehafhiialcaaW.PrintMore
attribute [local go_sem] max2_int min2_int max_two min_two max_three min_three max_four min_four   -- for this text's walks alone
set_option linter.unusedVariables false
set_option linter.unusedSimpArgs false

/-! ### impl_field_roots: function 70 -/
def impl_field_roots.l0 : Nat → Int → List Int → List Int → Int → Int → Option (List Int)
  | 0, _, _, _, _, _ => none
  | k + 1, x0, x1, x5, x7, x8 => if x8 < x7 then ((impl_field_value.f x0 x1 x8).bind fun t543 => (if t543 = 0 then (if x5.length < 17592186044416 then (impl_field_roots.l0 k x0 x1 (x5 ++ [x8]) x7 (wrap64 (x8 + 1))) else (none)) else (impl_field_roots.l0 k x0 x1 x5 x7 (wrap64 (x8 + 1))))) else (some x5)
def impl_field_roots.f (k : Nat) (a0 : Int) (l1 : List Int) : Option (List Int) := impl_field_roots.l0 k a0 l1 ([] : List Int) a0 0
theorem impl_field_roots.mono_l : ∀ k, (∀ y0 y1 y2 y3 y4, LeO (impl_field_roots.l0 k y0 y1 y2 y3 y4) (impl_field_roots.l0 (k + 1) y0 y1 y2 y3 y4))
  | 0 => fun _ _ _ _ _ r h => by simp [impl_field_roots.l0] at h
  | k + 1 => by
    have ih0 := impl_field_roots.mono_l k
    · intro y0 y1 y2 y3 y4
      unfold impl_field_roots.l0
      repeat' first
      | (with_reducible exact ih0 _ _ _ _ _)
      | (with_reducible exact LeO.refl _)
      | (with_reducible exact LeO.none _)
      | (with_reducible refine LeO.ite ?_ ?_)
      | (with_reducible refine LeO.bind ?_ (fun _ => ?_))
      | exact ih0 _ _ _ _ _
      | exact LeO.none _
      | refine LeO.ite ?_ ?_
      | refine LeO.bind ?_ (fun _ => ?_)
theorem impl_field_roots.mono : ∀ a0 a1 k, LeO (impl_field_roots.f k a0 a1) (impl_field_roots.f (k + 1) a0 a1) := by
  intro a0 a1 k
  have ih0 := impl_field_roots.mono_l k
  unfold impl_field_roots.f
  repeat' first
      | (with_reducible exact ih0 _ _ _ _ _)
      | (with_reducible exact LeO.refl _)
      | (with_reducible exact LeO.none _)
      | (with_reducible refine LeO.ite ?_ ?_)
      | (with_reducible refine LeO.bind ?_ (fun _ => ?_))
      | exact ih0 _ _ _ _ _
      | exact LeO.none _
      | refine LeO.ite ?_ ?_
      | refine LeO.bind ?_ (fun _ => ?_)
set_option maxHeartbeats 8000000 in
set_option maxRecDepth 100000 in
theorem impl_field_roots.calls (k : Nat) (a0 : Int) (A1 : Option Addr) (c1 : Nat) (l1 : List Int) (r : List Int) (w : World) (hr1 : Kd.C (Kd.int .i64) w A1 l1.length l1) (hc1 : l1.length ≤ c1) (h : impl_field_roots.f k a0 l1 = some r) :
    Calls Try.prog 70 #[.int .i64 a0, .slice A1 l1.length c1] w fun e w' => ∃ v0_ : Value, e = .returned (v0_) ∧ Kd.R (Kd.int .i64) 2 w' w.heap.size (fun _ => True) v0_ r ∧ Below w.heap.size w w' := by
  have HR1 := Aside0.mk hr1
  have HC1 := Aside0.mk hc1
  clear hr1 hc1
  have HB := Aside0.mk (Below.refl w.heap.size w)
  have H : (impl_field_roots.l0 k a0 l1 ([] : List Int) a0 0) = some r := h
  clear h
  have H' := Aside0.mk H
  clear H
  go_enter Try.func70, Try.ntmps70
  go_wp2
  go_loopg [5, 8] k (fun kq v5 v8 w' => ∃ (x5_1 : List Int) (x8_1 : Int), v8 = .int .i64 x8_1 ∧ Aside0 (impl_field_roots.l0 kq a0 l1 x5_1 a0 x8_1 = some r) ∧ Aside0 (kq ≤ k) ∧ Aside0 (Kd.R (Kd.int .i64) 2 w' w.heap.size (fun _ => True) v5 x5_1) ∧ Aside0 (Below w.heap.size w w'))
  case atStart => exact ⟨(([] : List Int)), (0), ea_, H', ⟨Nat.le_refl _⟩, ⟨by first | exact Kd.R_nil _ _ _ _ _ | exact Kd.N_nil _ _ _ _ _ | exact Kd.V_nil _ _ _ _ _ | exact Kd.Q_nil _ _ _ _ _ | exact Kd.S_nil _ _ _ _ _⟩, ⟨by repeat (first | (with_reducible first | exact HB.out | apply below_alloc | apply pw_below_drewN | apply below_drew1) | exact HB.out)⟩⟩
  case round =>
    clear H'
    try clear c1
    try clear p2
    obtain ⟨x5_1, x8_1, rfl, HA, HK1, HO_5, HB⟩ := hrel
    cases gk with
    | zero => exact absurd HA.out (by simp [impl_field_roots.l0])
    | succ k1 =>
      have H := HA.out
      clear HA
      simp only [impl_field_roots.l0] at H
      by_cases c3 : x8_1 < a0
      · rw [if_pos c3] at H
        have c3b0 : decide (x8_1 < a0) = true := decide_eq_true c3
        clear c3
        replace H := Option.bind_eq_some_iff.mp H
        obtain ⟨t543, A40, H⟩ := H
        have A4 := Aside0.mk A40
        clear A40
        by_cases c5 : t543 = 0
        · rw [if_pos c5] at H
          have c5b0 : (t543 == 0) = true := beq_iff_eq.mpr c5
          have c5b1 : (t543 != 0) = false := bne_eq_false_iff_eq.mpr c5
          clear c5
          by_cases c6 : x5_1.length < 17592186044416
          · rw [if_pos c6] at H
            have LMc6 := Aside0.mk c6
            clear c6
            obtain ⟨y544, hy544⟩ : ∃ y_ : List Int, y_ = (x5_1 ++ [x8_1]) := ⟨_, rfl⟩
            replace H : (impl_field_roots.l0 k1 a0 l1 y544 a0 (wrap64 (x8_1 + 1))) = some r := by first | (rw [hy544]; with_reducible exact H) | (have H2_ := (Option.bind_some _ _).symm.trans H; rw [hy544]; with_reducible exact H2_) | (have H2_ := (Option.bind_some _ _).symm.trans H; with_reducible exact H2_) | with_reducible exact H | (rw [hy544]; exact H) | exact H
            have Ny544 := Aside0.mk hy544
            clear hy544
            have H' := Aside0.mk H
            clear H
            go_wp2_with (first | ((with_reducible refine gate_callee (f := 68) rfl ?_); refine goesM_ (some 14) rfl rfl Try.func68 #[.int .i64 a0, .slice A1 l1.length c1, .int .i64 x8_1] rfl ?_; (with_reducible refine (impl_field_value.calls a0 _ _ l1 x8_1 t543 _ ?side1 ?side2 A4.out).mono ?_); (case side1 => exact cs ((Kd.C_below HR1.out HB.out))); (case side2 => exact HC1.out); rintro e w7 ⟨rfl, hb⟩; refine ⟨_, rfl, ?_⟩; have n0_ := Aside0.mk (Kd.R_below (rs HO_5) hb); have n1_ := Aside0.mk (below_step (bs HB) hb); clear HO_5; clear HB; have HO_5 := n0_; have HB := n1_; clear n0_ n1_; (try clear hb); (try clear hb2); (try clear hk); (try clear hi)) | ((with_reducible refine gate_builtin (b := .append) (xs := #[.tmp 16, .tmp 18]) rfl ?_); at_builtin; refine Kd.R_append (Kd.int .i64) (w0 := w) w.heap.size rfl (.tmp 16) (.tmp 18) 22 2 (.int .i64 0) 8 rfl Try.underlying22 info2 rfl (by decide) (by omega) u5 x5_1 x8_1 [.int .i64 x8_1] (fun _ => True) (fun _ => False) rfl rfl ?aP (fun _ hk => hk.elim) ?aF ?aO ?aB ?aS ?aL ?_; (case aP => exact rfl); (case aB => exact (bs HB)); (case aF => exact (fun _ _ => trivial)); (case aO => exact (rs HO_5)); (case aS => exact (below_size (bs HB))); (case aL => have := LMc6.out; omega); intro v545 w8 ho hb hg hat; rw [← Ny544.out] at ho; have n0_ := Aside0.mk (hb); have n1_ := Aside0.mk (ho); clear HB; clear HO_5; have HB := n0_; have HO546 := n1_; clear n0_ n1_; clear ho hb hg hat))
            go_roundg k1
            case measure => have := HK1.out; omega
            case rel => exact ⟨(y544), (wrap64 (x8_1 + 1)), ea_, H', ⟨by have := HK1.out; omega⟩, ⟨by (with_reducible repeat (first | apply Kd.R_alloc | apply Kd.R_drewN | apply Kd.R_drew)); exact HO546.out⟩, ⟨by repeat (first | (with_reducible first | exact HB.out | apply below_alloc | apply pw_below_drewN | apply below_drew1) | exact HB.out)⟩⟩
          · rw [if_neg c6] at H
            exact absurd H (by simp)
        · rw [if_neg c5] at H
          have c5b0 : (t543 == 0) = false := beq_eq_false_iff_ne.mpr c5
          have c5b1 : (t543 != 0) = true := bne_iff_ne.mpr c5
          have H' := Aside0.mk H
          clear H
          go_wp2_with (first | ((with_reducible refine gate_callee (f := 68) rfl ?_); refine goesM_ (some 14) rfl rfl Try.func68 #[.int .i64 a0, .slice A1 l1.length c1, .int .i64 x8_1] rfl ?_; (with_reducible refine (impl_field_value.calls a0 _ _ l1 x8_1 t543 _ ?side1 ?side2 A4.out).mono ?_); (case side1 => exact cs ((Kd.C_below HR1.out HB.out))); (case side2 => exact HC1.out); rintro e w9 ⟨rfl, hb⟩; refine ⟨_, rfl, ?_⟩; have n0_ := Aside0.mk (Kd.R_below (rs HO_5) hb); have n1_ := Aside0.mk (below_step (bs HB) hb); clear HO_5; clear HB; have HO_5 := n0_; have HB := n1_; clear n0_ n1_; (try clear hb); (try clear hb2); (try clear hk); (try clear hi)))
          go_roundg k1
          case measure => have := HK1.out; omega
          case rel => exact ⟨(x5_1), (wrap64 (x8_1 + 1)), ea_, H', ⟨by have := HK1.out; omega⟩, ⟨by (with_reducible repeat (first | apply Kd.R_alloc | apply Kd.R_drewN | apply Kd.R_drew)); exact HO_5.out⟩, ⟨by repeat (first | (with_reducible first | exact HB.out | apply below_alloc | apply pw_below_drewN | apply below_drew1) | exact HB.out)⟩⟩
      · rw [if_neg c3] at H
        have c3b0 : decide (x8_1 < a0) = false := decide_eq_false c3
        clear c3
        obtain rfl := Option.some.inj H
        go_wp2
        go_ret
        exact ⟨_, by first | rfl | (simp [errW_none, errW_some] <;> rfl) | (simp [*, errW_none, errW_some] <;> rfl), by (with_reducible repeat (first | apply Kd.R_alloc | apply Kd.R_drewN | apply Kd.R_drew)); exact HO_5.out, by repeat (first | (with_reducible first | exact HB.out | apply below_alloc | apply pw_below_drewN | apply below_drew1) | exact HB.out)⟩

end Go.Proofs.Ytfbehafhiialcaa.H
-- written by wip/drive.py (the session's own program) over the translation; Lean checks it
namespace Go.Proofs.Ytfbehafhiialcaa.H
open Go.RowKit Go.Proofs.YtfbehafhiialcaaW.PrintWords Go.Proofs.YtfbehafhiialcaaW.PrintLast Go.Proofs.YtfbehafhiialcaaW.PrintMore
attribute [local go_sem] max2_int min2_int max_two min_two max_three min_three max_four min_four   -- for this text's walks alone
set_option linter.unusedVariables false
set_option linter.unusedSimpArgs false

/-! ### impl_filledCode: function 37 (by hand) -/
/-- 'func(f []int64) bool { return len(f) > 0 }' -/
theorem filledClos (A : Option Addr) (c : Nat) (l : List Int) (w : World) : Gives 64 #[] (.slice A l.length c) (decide (0 < l.length)) w := by
  intro W hW
  have HB := Aside0.mk (Below.refl W.heap.size W)
  clear hW
  show Calls Try.prog 64 #[.slice A l.length c] W _
  by_cases h0 : 0 < l.length
  · have d0 : decide (0 < (l.length : Int)) = true := decide_eq_true (by omega)
    have d1 : decide (0 < l.length) = true := decide_eq_true h0
    rw [d1]
    clear h0 d1
    go_enter Try.func64, Try.ntmps64
    go_wp2
    go_ret
    exact ⟨by have h := of_decide_eq_true d0; simp; omega, HB.out⟩
  · have d0 : decide (0 < (l.length : Int)) = false := decide_eq_false (by omega)
    have d1 : decide (0 < l.length) = false := decide_eq_false h0
    rw [d1]
    clear h0 d1
    go_enter Try.func64, Try.ntmps64
    go_wp2
    go_ret
    exact ⟨by have h := of_decide_eq_false d0; have h2 : l = [] := List.eq_nil_of_length_eq_zero (by omega); subst h2; rfl, HB.out⟩
set_option maxHeartbeats 4000000 in
set_option maxRecDepth 100000 in
theorem filledCode_any (p C : Int) (g : Nat) (lb : Array Value) (P : Addr) (n c : Nat) (hn : n ≤ 9223372036854775807) (fl : Bool) (q : Nat → Bool) (hok : fl = true ↔ ∀ j, j < n → q j = true) (w : World)
    (h : ∀ j, j < n → ∃ (A : Option Addr) (c : Nat) (l : List Int), w.cell? (P.add j) = some (.slice A l.length c) ∧ q j = decide (0 < l.length))
    (HP : Calls Try.prog 27 #[.int .i64 p, .func (.func g) #[] lb, .slice (some P) n c] w fun e w' => e = .returned (.int .i64 C) ∧ Below w.heap.size w w') :
    Calls Try.prog 37 #[.int .i64 p, .func (.func g) #[] lb, .slice (some P) n c] w fun e w' => e = .returned (.int .i64 (if C = 0 then (if fl = true then 0 else 5) else C)) ∧ Below w.heap.size w w' := by
  have ec : ∀ args w, (callFunc 64 args).run Try.prog w = .ok (.enter 64 args) w := enters_of Try.func64 (by kernel_rfl) rfl
  have HA := fun W (hW : Below w.heap.size w W) => areAll2_clos (some P) n c q fl hok 64 #[] ec W hn (fun j hj => by
    obtain ⟨A, c, l, hc, hq⟩ := h j hj
    exact ⟨P, _, rfl, pw_cell_below hW hc, hq ▸ filledClos A c l W⟩)
  clear h ec hok
  by_cases hC : C = 0
  · subst hC
    rw [if_pos rfl]
    cases fl with
    | _ =>
      go_enter Try.func37, Try.ntmps37
      go_wp2_with (first | (go_at_call 27; refine HP.mono ?_; clear HP; rintro e w' ⟨rfl, hb⟩; have HA' := HA _ hb; have Hb := Aside0.mk hb; clear hb HA) | (go_at_call 54; refine HA'.mono ?_; clear HA'; rintro e w'' ⟨rfl, hb'⟩; have Hb' := Aside0.mk hb'; clear hb'))
      go_ret
      exact ⟨rfl, below_next Hb.out Hb'.out⟩
  · rw [if_neg hC]
    have d0 : (C == 0) = false := beq_eq_false_iff_ne.mpr hC
    have d1 : (C != 0) = true := bne_iff_ne.mpr hC
    clear HA
    go_enter Try.func37, Try.ntmps37
    go_wp2_with (go_at_call 27; refine HP.mono ?_; clear HP; rintro e w' ⟨rfl, hb⟩; have Hb := Aside0.mk hb; clear hb)
    go_ret
    exact ⟨rfl, Hb.out⟩
def impl_filledCode_1.f (k : Nat) (a0 : Int) (a1 : Bool) (l2 : List Int) : Option Int := (impl_polyCode_1.f k a0 a1 l2).bind fun c => some (if c = 0 then (if decide (0 < l2.length) = true then 0 else 5) else c)
def impl_filledCode_2.f (k : Nat) (a0 : Int) (a1 : Bool) (l2 l3 : List Int) : Option Int := (impl_polyCode_2.f k a0 a1 l2 l3).bind fun c => some (if c = 0 then (if (decide (0 < l2.length) && decide (0 < l3.length)) = true then 0 else 5) else c)
theorem impl_filledCode_1.mono : ∀ a0 a1 a2 k, LeO (impl_filledCode_1.f k a0 a1 a2) (impl_filledCode_1.f (k + 1) a0 a1 a2) := by
  intro a0 a1 a2 k; unfold impl_filledCode_1.f; exact LeO.bind (impl_polyCode_1.mono _ _ _ _) fun _ => LeO.refl _
theorem impl_filledCode_2.mono : ∀ a0 a1 a2 a3 k, LeO (impl_filledCode_2.f k a0 a1 a2 a3) (impl_filledCode_2.f (k + 1) a0 a1 a2 a3) := by
  intro a0 a1 a2 a3 k; unfold impl_filledCode_2.f; exact LeO.bind (impl_polyCode_2.mono _ _ _ _ _) fun _ => LeO.refl _
theorem impl_filledCode_1.calls (k : Nat) (a0 : Int) (a1 : Bool) (A2 : Option Addr) (c2 : Nat) (l2 : List Int) (r : Int) (w : World) {g : Nat} {lb : Array Value} {P : Nat}
    (hr2 : Kd.C (Kd.int .i64) w A2 l2.length l2) (hc2 : l2.length ≤ c2) (h : impl_filledCode_1.f k a0 a1 l2 = some r) (eg : ∀ args w, (callFunc g args).run Try.prog w = .ok (.enter g args) w) (hg : Gives0 g lb a1 w) (hP : w.cell? ⟨P, 0, none⟩ = some (.slice A2 l2.length c2)) :
    Calls Try.prog 37 #[.int .i64 a0, .func (.func g) #[] lb, .slice (some ⟨P, 0, none⟩) 1 1] w fun e w' => e = .returned (.int .i64 r) ∧ Below w.heap.size w w' := by
  unfold impl_filledCode_1.f at h
  obtain ⟨C, h1, h2⟩ := Option.bind_eq_some_iff.mp h
  obtain rfl := Option.some.inj h2
  exact filledCode_any a0 C g lb ⟨P, 0, none⟩ 1 1 (by decide) (decide (0 < l2.length)) (fun _ => decide (0 < l2.length)) ⟨fun h j _ => h, fun h => h 0 (by decide)⟩ w (fun j hj => by
    obtain rfl : j = 0 := by omega
    exact ⟨A2, c2, l2, by rw [add_plain]; exact hP, rfl⟩) (impl_polyCode_1.calls k a0 a1 A2 c2 l2 C w hr2 hc2 h1 eg hg hP)
theorem impl_filledCode_2.calls (k : Nat) (a0 : Int) (a1 : Bool) (A2 : Option Addr) (c2 : Nat) (l2 : List Int) (A3 : Option Addr) (c3 : Nat) (l3 : List Int) (r : Int) (w : World) {g : Nat} {lb : Array Value} {P : Nat}
    (hr2 : Kd.C (Kd.int .i64) w A2 l2.length l2) (hc2 : l2.length ≤ c2) (hr3 : Kd.C (Kd.int .i64) w A3 l3.length l3) (hc3 : l3.length ≤ c3) (h : impl_filledCode_2.f k a0 a1 l2 l3 = some r) (eg : ∀ args w, (callFunc g args).run Try.prog w = .ok (.enter g args) w) (hg : Gives0 g lb a1 w) (hP : w.cell? ⟨P, 0, none⟩ = some (.slice A2 l2.length c2)) (hP1 : w.cell? ⟨P, 1, none⟩ = some (.slice A3 l3.length c3)) :
    Calls Try.prog 37 #[.int .i64 a0, .func (.func g) #[] lb, .slice (some ⟨P, 0, none⟩) 2 2] w fun e w' => e = .returned (.int .i64 r) ∧ Below w.heap.size w w' := by
  unfold impl_filledCode_2.f at h
  obtain ⟨C, h1, h2⟩ := Option.bind_eq_some_iff.mp h
  obtain rfl := Option.some.inj h2
  exact filledCode_any a0 C g lb ⟨P, 0, none⟩ 2 2 (by decide) (decide (0 < l2.length) && decide (0 < l3.length)) (fun j => if j = 0 then decide (0 < l2.length) else decide (0 < l3.length))
    ⟨fun h j hj => by
      rw [Bool.and_eq_true] at h
      by_cases e : j = 0
      · rw [if_pos e]; exact h.1
      · rw [if_neg e]; exact h.2, fun h => by
      rw [Bool.and_eq_true]
      exact ⟨by simpa using h 0 (by decide), by simpa using h 1 (by decide)⟩⟩ w (fun j hj => by
    by_cases e : j = 0
    · subst e; exact ⟨A2, c2, l2, by rw [add_plain]; exact hP, by rw [if_pos rfl]⟩
    · obtain rfl : j = 1 := by omega
      exact ⟨A3, c3, l3, by rw [add_plain]; exact hP1, by rw [if_neg e]⟩) (impl_polyCode_2.calls k a0 a1 A2 c2 l2 A3 c3 l3 C w hr2 hc2 hr3 hc3 h1 eg hg hP hP1)

end Go.Proofs.Ytfbehafhiialcaa.H
-- written by wip/drive.py (the session's own program) over the translation; Lean checks it
namespace Go.Proofs.Ytfbehafhiialcaa.H
open Go.RowKit Go.Proofs.YtfbehafhiialcaaW.PrintWords Go.Proofs.YtfbehafhiialcaaW.PrintLast Go.Proofs.YtfbehafhiialcaaW.PrintMore
attribute [local go_sem] max2_int min2_int max_two min_two max_three min_three max_four min_four   -- for this text's walks alone
set_option linter.unusedVariables false
set_option linter.unusedSimpArgs false

/-! ### spec_l06Code: function 35 -/
def spec_l06Code.l0 : Nat → List (List Int) → Int → Option (Int)
  | 0, _, _ => none
  | k + 1, x1, x6 => if x6 < (x1.length : Int) then (if 0 ≤ x6 then (if ((rd_L1 x1 x6).length : Int) = 0 then (some 5) else (spec_l06Code.l0 k x1 (wrap64 (x6 + 1)))) else (none)) else (some 0)
def spec_l06Code.f (k : Nat) (a0 : Int) (l1 : List (List Int)) : Option (Int) := (spec_l01Code.f k a0 l1).bind fun t410 => (if t410 = 0 then (spec_l06Code.l0 k l1 0) else (some t410))
theorem spec_l06Code.mono_l : ∀ k, (∀ y0 y1, LeO (spec_l06Code.l0 k y0 y1) (spec_l06Code.l0 (k + 1) y0 y1))
  | 0 => fun _ _ r h => by simp [spec_l06Code.l0] at h
  | k + 1 => by
    have ih0 := spec_l06Code.mono_l k
    · intro y0 y1
      unfold spec_l06Code.l0
      repeat' first
      | (with_reducible exact ih0 _ _)
      | (with_reducible exact spec_l01Code.mono _ _ _)
      | (with_reducible exact LeO.refl _)
      | (with_reducible exact LeO.none _)
      | (with_reducible refine LeO.ite ?_ ?_)
      | (with_reducible refine LeO.bind ?_ (fun _ => ?_))
      | exact ih0 _ _
      | exact spec_l01Code.mono _ _ _
      | exact LeO.none _
      | refine LeO.ite ?_ ?_
      | refine LeO.bind ?_ (fun _ => ?_)
theorem spec_l06Code.mono : ∀ a0 a1 k, LeO (spec_l06Code.f k a0 a1) (spec_l06Code.f (k + 1) a0 a1) := by
  intro a0 a1 k
  have ih0 := spec_l06Code.mono_l k
  unfold spec_l06Code.f
  repeat' first
      | (with_reducible exact ih0 _ _)
      | (with_reducible exact spec_l01Code.mono _ _ _)
      | (with_reducible exact LeO.refl _)
      | (with_reducible exact LeO.none _)
      | (with_reducible refine LeO.ite ?_ ?_)
      | (with_reducible refine LeO.bind ?_ (fun _ => ?_))
      | exact ih0 _ _
      | exact spec_l01Code.mono _ _ _
      | exact LeO.none _
      | refine LeO.ite ?_ ?_
      | refine LeO.bind ?_ (fun _ => ?_)
set_option maxHeartbeats 8000000 in
set_option maxRecDepth 100000 in
theorem spec_l06Code.calls (k : Nat) (a0 : Int) (A1 : Option Addr) (c1 : Nat) (l1 : List (List Int)) (r : Int) (w : World) (hr1 : Kd.C (Kd.slice 2 (Kd.int .i64)) w A1 l1.length l1) (hc1 : l1.length ≤ c1) (h : spec_l06Code.f k a0 l1 = some r) :
    Calls Try.prog 35 #[.int .i64 a0, .slice A1 l1.length c1] w fun e w' => e = .returned (.int .i64 r) ∧ Drawn0 w w' := by
  have HR1 := Aside0.mk hr1
  have HC1 := Aside0.mk hc1
  clear hr1 hc1
  have H : ((spec_l01Code.f k a0 l1).bind fun t410 => (if t410 = 0 then (spec_l06Code.l0 k l1 0) else (some t410))) = some r := h
  clear h
  replace H := Option.bind_eq_some_iff.mp H
  obtain ⟨t410, A30, H⟩ := H
  have A3 := Aside0.mk A30
  clear A30
  by_cases c4 : t410 = 0
  · rw [if_pos c4] at H
    have c4b0 : (t410 == 0) = true := beq_iff_eq.mpr c4
    have c4b1 : (t410 != 0) = false := bne_eq_false_iff_eq.mpr c4
    clear c4
    have H' := Aside0.mk H
    clear H
    go_enter Try.func35, Try.ntmps35
    go_wp2_with (first | ((with_reducible refine gate_callee (f := 25) rfl ?_); refine goesM_ (some 9) rfl rfl Try.func25 #[.int .i64 a0, .slice A1 l1.length c1] rfl ?_; (with_reducible refine (spec_l01Code.calls k a0 _ _ l1 t410 _ ?side1 ?side2 A3.out).mono ?_); (case side1 => exact cs (HR1.out)); (case side2 => exact HC1.out); rintro e w' ⟨rfl, ⟨nd, rfl⟩⟩; refine ⟨_, rfl, ?_⟩))
    go_loopg [6] k (fun kq v6 w' => ∃ (x6_1 : Int), v6 = .int .i64 x6_1 ∧ Aside0 (spec_l06Code.l0 kq l1 x6_1 = some r) ∧ Aside0 (kq ≤ k) ∧ Drawn0 w w')
    case atStart => exact ⟨(0), ea_, H', ⟨Nat.le_refl _⟩, by repeat (first | exact Drawn0.refl _ | apply Drawn0.step)⟩
    case round =>
      clear H'
      try clear c1
      try clear c2
      try clear p2
      try clear c3
      try clear c4
      try clear c4b0
      try clear c4b1
      obtain ⟨x6_1, rfl, HA, HK1, ⟨m1, rfl⟩⟩ := hrel
      cases gk with
      | zero => exact absurd HA.out (by simp [spec_l06Code.l0])
      | succ k1 =>
        have H := HA.out
        clear HA
        simp only [spec_l06Code.l0] at H
        by_cases c5 : x6_1 < (l1.length : Int)
        · rw [if_pos c5] at H
          have c5b0 : decide (x6_1 < (l1.length : Int)) = true := decide_eq_true c5
          clear c5
          by_cases c6 : 0 ≤ x6_1
          · rw [if_pos c6] at H
            have c6b0 : decide (0 ≤ x6_1) = true := decide_eq_true c6
            clear c6
            by_cases c7 : ((rd_L1 l1 x6_1).length : Int) = 0
            · rw [if_pos c7] at H
              have c7b0 : (((rd_L1 l1 x6_1).length : Int) == 0) = true := beq_iff_eq.mpr c7
              have c7b1 : (((rd_L1 l1 x6_1).length : Int) != 0) = false := bne_eq_false_iff_eq.mpr c7
              clear c7
              obtain rfl := Option.some.inj H
              have p411 : 0 ≤ (x6_1 : Int) := of_decide_eq_true (by first | (with_reducible assumption) | assumption)
              have q411 : x6_1 < (l1.length : Int) := of_decide_eq_true (by first | (with_reducible assumption) | assumption)
              obtain ⟨ad411, A411_0, c411_0, e411, hx411_0, hl411_0, hi411_0⟩ := at_L1 HR1.out x6_1 p411 q411
              cases e411
              have HR411_0 := Aside0.mk hi411_0
              have HC411_0 := Aside0.mk hl411_0
              clear hi411_0 hl411_0
              replace p411 := eq_true p411
              replace q411 := eq_true q411
              go_wp2
              go_ret
              exact ⟨by first | rfl | (simp; done) | (simp [*]; done), by repeat (first | exact Drawn0.refl _ | apply Drawn0.step)⟩
            · rw [if_neg c7] at H
              have c7b0 : (((rd_L1 l1 x6_1).length : Int) == 0) = false := beq_eq_false_iff_ne.mpr c7
              have c7b1 : (((rd_L1 l1 x6_1).length : Int) != 0) = true := bne_iff_ne.mpr c7
              have c7b2 : ¬ ((rd_L1 l1 x6_1) = []) := fun h_ => c7 (by rw [h_]; rfl)
              have H' := Aside0.mk H
              clear H
              have p411 : 0 ≤ (x6_1 : Int) := of_decide_eq_true (by first | (with_reducible assumption) | assumption)
              have q411 : x6_1 < (l1.length : Int) := of_decide_eq_true (by first | (with_reducible assumption) | assumption)
              obtain ⟨ad411, A411_0, c411_0, e411, hx411_0, hl411_0, hi411_0⟩ := at_L1 HR1.out x6_1 p411 q411
              cases e411
              have HR411_0 := Aside0.mk hi411_0
              have HC411_0 := Aside0.mk hl411_0
              clear hi411_0 hl411_0
              replace p411 := eq_true p411
              replace q411 := eq_true q411
              go_wp2
              go_roundg k1
              case measure => have := HK1.out; omega
              case rel => exact ⟨(wrap64 (x6_1 + 1)), ea_, H', ⟨by have := HK1.out; omega⟩, by repeat (first | exact Drawn0.refl _ | apply Drawn0.step)⟩
          · rw [if_neg c6] at H
            exact absurd H (by simp)
        · rw [if_neg c5] at H
          have c5b0 : decide (x6_1 < (l1.length : Int)) = false := decide_eq_false c5
          clear c5
          obtain rfl := Option.some.inj H
          go_wp2
          go_ret
          exact ⟨by first | rfl | (simp; done) | (simp [*]; done), by repeat (first | exact Drawn0.refl _ | apply Drawn0.step)⟩
  · rw [if_neg c4] at H
    have c4b0 : (t410 == 0) = false := beq_eq_false_iff_ne.mpr c4
    have c4b1 : (t410 != 0) = true := bne_iff_ne.mpr c4
    obtain rfl := Option.some.inj H
    go_enter Try.func35, Try.ntmps35
    go_wp2_with (first | ((with_reducible refine gate_callee (f := 25) rfl ?_); refine goesM_ (some 9) rfl rfl Try.func25 #[.int .i64 a0, .slice A1 l1.length c1] rfl ?_; (with_reducible refine (spec_l01Code.calls k a0 _ _ l1 t410 _ ?side1 ?side2 A3.out).mono ?_); (case side1 => exact cs (HR1.out)); (case side2 => exact HC1.out); rintro e w' ⟨rfl, ⟨nd, rfl⟩⟩; refine ⟨_, rfl, ?_⟩))
    go_ret
    exact ⟨by first | rfl | (simp; done) | (simp [*]; done), by repeat (first | exact Drawn0.refl _ | apply Drawn0.step)⟩

end Go.Proofs.Ytfbehafhiialcaa.H
-- written by wip/drive.py (the session's own program) over the translation; Lean checks it
namespace Go.Proofs.Ytfbehafhiialcaa.H
open Go.RowKit Go.Proofs.YtfbehafhiialcaaW.PrintWords Go.Proofs.YtfbehafhiialcaaW.PrintLast Go.Proofs.YtfbehafhiialcaaW.PrintMore
attribute [local go_sem] max2_int min2_int max_two min_two max_three min_three max_four min_four   -- for this text's walks alone
set_option linter.unusedVariables false
set_option linter.unusedSimpArgs false

/-! ### spec_l06Roots: function 69 -/
def spec_l06Roots.l0 : Nat → Int → List Int → List Int → Int → Option (List Int)
  | 0, _, _, _, _ => none
  | k + 1, x0, x1, x5, x6 => if x6 < x0 then ((spec_l01At.f k x0 x1 x6).bind fun t528 => (if t528 = 0 then (if x5.length < 17592186044416 then (spec_l06Roots.l0 k x0 x1 (x5 ++ [x6]) (wrap64 (x6 + 1))) else (none)) else (spec_l06Roots.l0 k x0 x1 x5 (wrap64 (x6 + 1))))) else (some x5)
def spec_l06Roots.f (k : Nat) (a0 : Int) (l1 : List Int) : Option (List Int) := spec_l06Roots.l0 k a0 l1 (([] : List Int)) 0
theorem spec_l06Roots.mono_l : ∀ k, (∀ y0 y1 y2 y3, LeO (spec_l06Roots.l0 k y0 y1 y2 y3) (spec_l06Roots.l0 (k + 1) y0 y1 y2 y3))
  | 0 => fun _ _ _ _ r h => by simp [spec_l06Roots.l0] at h
  | k + 1 => by
    have ih0 := spec_l06Roots.mono_l k
    · intro y0 y1 y2 y3
      unfold spec_l06Roots.l0
      repeat' first
      | (with_reducible exact ih0 _ _ _ _)
      | (with_reducible exact spec_l01At.mono _ _ _ _)
      | (with_reducible exact LeO.refl _)
      | (with_reducible exact LeO.none _)
      | (with_reducible refine LeO.ite ?_ ?_)
      | (with_reducible refine LeO.bind ?_ (fun _ => ?_))
      | exact ih0 _ _ _ _
      | exact spec_l01At.mono _ _ _ _
      | exact LeO.none _
      | refine LeO.ite ?_ ?_
      | refine LeO.bind ?_ (fun _ => ?_)
theorem spec_l06Roots.mono : ∀ a0 a1 k, LeO (spec_l06Roots.f k a0 a1) (spec_l06Roots.f (k + 1) a0 a1) := by
  intro a0 a1 k
  have ih0 := spec_l06Roots.mono_l k
  unfold spec_l06Roots.f
  repeat' first
      | (with_reducible exact ih0 _ _ _ _)
      | (with_reducible exact spec_l01At.mono _ _ _ _)
      | (with_reducible exact LeO.refl _)
      | (with_reducible exact LeO.none _)
      | (with_reducible refine LeO.ite ?_ ?_)
      | (with_reducible refine LeO.bind ?_ (fun _ => ?_))
      | exact ih0 _ _ _ _
      | exact spec_l01At.mono _ _ _ _
      | exact LeO.none _
      | refine LeO.ite ?_ ?_
      | refine LeO.bind ?_ (fun _ => ?_)
set_option maxHeartbeats 8000000 in
set_option maxRecDepth 100000 in
theorem spec_l06Roots.calls (k : Nat) (a0 : Int) (A1 : Option Addr) (c1 : Nat) (l1 : List Int) (r : List Int) (w : World) (hr1 : Kd.C (Kd.int .i64) w A1 l1.length l1) (hc1 : l1.length ≤ c1) (h : spec_l06Roots.f k a0 l1 = some r) :
    Calls Try.prog 69 #[.int .i64 a0, .slice A1 l1.length c1] w fun e w' => ∃ v0_ : Value, e = .returned (v0_) ∧ Kd.R (Kd.int .i64) 2 w' w.heap.size (fun _ => True) v0_ r ∧ Below w.heap.size w w' := by
  have HR1 := Aside0.mk hr1
  have HC1 := Aside0.mk hc1
  clear hr1 hc1
  have HB := Aside0.mk (Below.refl w.heap.size w)
  have H : (spec_l06Roots.l0 k a0 l1 (([] : List Int)) 0) = some r := h
  clear h
  obtain ⟨y525, hy525⟩ : ∃ y_ : List Int, y_ = (([] : List Int)) := ⟨_, rfl⟩
  replace H : (spec_l06Roots.l0 k a0 l1 y525 0) = some r := by first | (rw [hy525]; with_reducible exact H) | (have H2_ := (Option.bind_some _ _).symm.trans H; rw [hy525]; with_reducible exact H2_) | (have H2_ := (Option.bind_some _ _).symm.trans H; with_reducible exact H2_) | with_reducible exact H | (rw [hy525]; exact H) | exact H
  have Ny525 := Aside0.mk hy525
  clear hy525
  have H' := Aside0.mk H
  clear H
  go_enter Try.func69, Try.ntmps69
  go_wp2_with (first | ((with_reducible refine gate_dst (N := 7) rfl ?_); refine Kd.R_lit (Kd.int .i64) _ 2 ?hg (N := 7) ?hd (xs := ([] : List Int)) (inner := []) (ok := fun _ => True) (okp := fun _ => True) ?hr ?hp (fun _ hk => hk) trivial (Below.refl _ _) (Nat.le_refl _) (by simp) ?_; (case hd => rfl); (case hg => rfl); (case hr => first | (go_simp; done) | (go_simp; rfl)); (case hp => exact (Reps.none _ _)); intro v526 w3 ho4 hb hg_ hnew_; clear hg_ hnew_; (first | rw [← Ny525.out] at ho4 | (simp only [Int.reduceToNat] at ho4; rw [← Ny525.out] at ho4)); have n0_ := Aside0.mk (Kd.R_lower ho4 (below_size (bs HB))); have n1_ := Aside0.mk (below_step (bs HB) hb); clear HB; have HO527 := n0_; have HB := n1_; clear n0_ n1_; clear hb ho4))
  go_loopg [5, 6] k (fun kq v5 v6 w' => ∃ (x5_1 : List Int) (x6_1 : Int), v6 = .int .i64 x6_1 ∧ Aside0 (spec_l06Roots.l0 kq a0 l1 x5_1 x6_1 = some r) ∧ Aside0 (kq ≤ k) ∧ Aside0 (Kd.R (Kd.int .i64) 2 w' w.heap.size (fun _ => True) v5 x5_1) ∧ Aside0 (Below w.heap.size w w'))
  case atStart => exact ⟨(y525), (0), ea_, H', ⟨Nat.le_refl _⟩, ⟨by (with_reducible repeat (first | apply Kd.R_alloc | apply Kd.R_drewN | apply Kd.R_drew)); exact HO527.out⟩, ⟨by repeat (first | (with_reducible first | exact HB.out | apply below_alloc | apply pw_below_drewN | apply below_drew1) | exact HB.out)⟩⟩
  case round =>
    clear H'
    try clear c1
    try clear p2
    obtain ⟨x5_1, x6_1, rfl, HA, HK1, HO_5, HB⟩ := hrel
    cases gk with
    | zero => exact absurd HA.out (by simp [spec_l06Roots.l0])
    | succ k1 =>
      have H := HA.out
      clear HA
      simp only [spec_l06Roots.l0] at H
      by_cases c5 : x6_1 < a0
      · rw [if_pos c5] at H
        have c5b0 : decide (x6_1 < a0) = true := decide_eq_true c5
        clear c5
        replace H := Option.bind_eq_some_iff.mp H
        obtain ⟨t528, A60, H⟩ := H
        have A6 := Aside0.mk A60
        clear A60
        by_cases c7 : t528 = 0
        · rw [if_pos c7] at H
          have c7b0 : (t528 == 0) = true := beq_iff_eq.mpr c7
          have c7b1 : (t528 != 0) = false := bne_eq_false_iff_eq.mpr c7
          clear c7
          by_cases c8 : x5_1.length < 17592186044416
          · rw [if_pos c8] at H
            have LMc8 := Aside0.mk c8
            clear c8
            obtain ⟨y529, hy529⟩ : ∃ y_ : List Int, y_ = (x5_1 ++ [x6_1]) := ⟨_, rfl⟩
            replace H : (spec_l06Roots.l0 k1 a0 l1 y529 (wrap64 (x6_1 + 1))) = some r := by first | (rw [hy529]; with_reducible exact H) | (have H2_ := (Option.bind_some _ _).symm.trans H; rw [hy529]; with_reducible exact H2_) | (have H2_ := (Option.bind_some _ _).symm.trans H; with_reducible exact H2_) | with_reducible exact H | (rw [hy529]; exact H) | exact H
            have Ny529 := Aside0.mk hy529
            clear hy529
            have H' := Aside0.mk H
            clear H
            go_wp2_with (first | ((with_reducible refine gate_callee (f := 67) rfl ?_); refine goesM_ (some 16) rfl rfl Try.func67 #[.int .i64 a0, .slice A1 l1.length c1, .int .i64 x6_1] rfl ?_; (with_reducible refine (spec_l01At.calls k1 a0 _ _ l1 x6_1 t528 _ ?side1 ?side2 A6.out).mono ?_); (case side1 => exact cs ((Kd.C_below HR1.out HB.out))); (case side2 => exact HC1.out); rintro e w' ⟨rfl, ⟨nd, rfl⟩⟩; refine ⟨_, rfl, ?_⟩) | ((with_reducible refine gate_builtin (b := .append) (xs := #[.tmp 18, .tmp 20]) rfl ?_); at_builtin; refine Kd.R_append (Kd.int .i64) (w0 := w) w.heap.size rfl (.tmp 18) (.tmp 20) 22 2 (.int .i64 0) 8 rfl Try.underlying22 info2 rfl (by decide) (by omega) u5 x5_1 x6_1 [.int .i64 x6_1] (fun _ => True) (fun _ => False) rfl rfl ?aP (fun _ hk => hk.elim) ?aF ?aO ?aB ?aS ?aL ?_; (case aP => exact rfl); (case aB => exact (bs HB)); (case aF => exact (fun _ _ => trivial)); (case aO => exact (rs HO_5)); (case aS => exact (below_size (bs HB))); (case aL => have := LMc8.out; omega); intro v530 w9 ho hb hg hat; rw [← Ny529.out] at ho; have n0_ := Aside0.mk (hb); have n1_ := Aside0.mk (ho); clear HB; clear HO_5; have HB := n0_; have HO531 := n1_; clear n0_ n1_; clear ho hb hg hat))
            go_roundg k1
            case measure => have := HK1.out; omega
            case rel => exact ⟨(y529), (wrap64 (x6_1 + 1)), ea_, H', ⟨by have := HK1.out; omega⟩, ⟨by (with_reducible repeat (first | apply Kd.R_alloc | apply Kd.R_drewN | apply Kd.R_drew)); exact HO531.out⟩, ⟨by repeat (first | (with_reducible first | exact HB.out | apply below_alloc | apply pw_below_drewN | apply below_drew1) | exact HB.out)⟩⟩
          · rw [if_neg c8] at H
            exact absurd H (by simp)
        · rw [if_neg c7] at H
          have c7b0 : (t528 == 0) = false := beq_eq_false_iff_ne.mpr c7
          have c7b1 : (t528 != 0) = true := bne_iff_ne.mpr c7
          have H' := Aside0.mk H
          clear H
          go_wp2_with (first | ((with_reducible refine gate_callee (f := 67) rfl ?_); refine goesM_ (some 16) rfl rfl Try.func67 #[.int .i64 a0, .slice A1 l1.length c1, .int .i64 x6_1] rfl ?_; (with_reducible refine (spec_l01At.calls k1 a0 _ _ l1 x6_1 t528 _ ?side1 ?side2 A6.out).mono ?_); (case side1 => exact cs ((Kd.C_below HR1.out HB.out))); (case side2 => exact HC1.out); rintro e w' ⟨rfl, ⟨nd, rfl⟩⟩; refine ⟨_, rfl, ?_⟩))
          go_roundg k1
          case measure => have := HK1.out; omega
          case rel => exact ⟨(x5_1), (wrap64 (x6_1 + 1)), ea_, H', ⟨by have := HK1.out; omega⟩, ⟨by (with_reducible repeat (first | apply Kd.R_alloc | apply Kd.R_drewN | apply Kd.R_drew)); exact HO_5.out⟩, ⟨by repeat (first | (with_reducible first | exact HB.out | apply below_alloc | apply pw_below_drewN | apply below_drew1) | exact HB.out)⟩⟩
      · rw [if_neg c5] at H
        have c5b0 : decide (x6_1 < a0) = false := decide_eq_false c5
        clear c5
        obtain rfl := Option.some.inj H
        go_wp2
        go_ret
        exact ⟨_, by first | rfl | (simp [errW_none, errW_some] <;> rfl) | (simp [*, errW_none, errW_some] <;> rfl), by (with_reducible repeat (first | apply Kd.R_alloc | apply Kd.R_drewN | apply Kd.R_drew)); exact HO_5.out, by repeat (first | (with_reducible first | exact HB.out | apply below_alloc | apply pw_below_drewN | apply below_drew1) | exact HB.out)⟩

end Go.Proofs.Ytfbehafhiialcaa.H
/- Layer 6: codes of polynomials other than 0, roots, scaled roots. -/
set_option linter.unusedVariables false
set_option linter.unusedSimpArgs false
namespace Go.Proofs.Ytfbehafhiialcaa.H
open Go.RowKit Go.Proofs.YtfbehafhiialcaaW.PrintWords Go.Proofs.YtfbehafhiialcaaW.PrintLast Go.Proofs.YtfbehafhiialcaaW.PrintMore Go.Proofs.Ytfbehafhiialcaa.Num

theorem impl_deg (l : List Int) (h : l.length ≤ 1000000000000) : impl_degree.f l = some ((l.length : Int) - 1) := by
  simp (disch := omega) only [impl_degree.f, impl_length_int64.f, Option.bind_some, w64]

/-- the code with the test for 0 behind it -/
def fillL (c : Int) (ls : List (List Int)) : Int := if c = 0 then (if ls.all (fun l => decide (0 < l.length)) = true then 0 else 5) else c
theorem fill_loop (ls : List (List Int)) (hl : ls.length ≤ 1000000) : ∀ (d i : Nat), i + d = ls.length → Ev (fun k => spec_l06Code.l0 k ls (i : Int)) (if (ls.drop i).all (fun l => decide (0 < l.length)) = true then 0 else 5) := by
  intro d
  induction d with
  | zero => intro i h; refine Ev.succ ?_; simp (disch := omega) only [spec_l06Code.l0, if_neg, List.drop_of_length_le]; exact Ev.now _
  | succ d ih =>
    intro i h
    have hi := ih (i + 1) (by omega)
    have hrd : rd_L1 ls (i : Int) = ls[i]'(by omega) := by simp [rd_L1, List.getD_eq_getElem?_getD, show i < ls.length by omega]
    refine Ev.succ ?_
    rw [List.drop_eq_getElem_cons (show i < ls.length by omega)]
    simp (disch := omega) only [spec_l06Code.l0, if_pos, hrd, wp1, List.all_cons]
    by_cases h0 : (ls[i]'(by omega)).length = 0
    · have h1 : (((ls[i]'(by omega)).length : Nat) : Int) = 0 := by omega
      simp only [h1, if_true, h0, Nat.lt_irrefl, decide_false, Bool.false_and, Bool.false_eq_true, if_false]
      exact Ev.now _
    · have h1 : ¬ (((ls[i]'(by omega)).length : Nat) : Int) = 0 := by omega
      simp only [if_neg h1, decide_eq_true (show 0 < (ls[i]'(by omega)).length by omega), Bool.true_and]
      exact hi
theorem spec_code6 (p : Int) (ls : List (List Int)) (hl : ls.length ≤ 1000000) (hls : ∀ l ∈ ls, l.length ≤ 1000000000) : Ev (fun k => spec_l06Code.f k p ls) (fillL (codeL p true ls) ls) := by
  have h1 := spec_code p ls hl hls
  have h2 := fill_loop ls hl ls.length 0 (by omega)
  simp only [spec_l06Code.f, fillL]
  refine Ev.bind h1 ?_
  by_cases h : codeL p true ls = 0
  · simp only [h, if_true]; exact h2
  · simp only [if_neg h]; exact Ev.now _
theorem impl_fill1 (p : Int) (b : Bool) (l : List Int) : Ev (fun k => impl_filledCode_1.f k p b l) (fillL (codeL p b [l]) [l]) := by
  simp only [impl_filledCode_1.f]
  refine Ev.bind (impl_code1 p b l) ?_
  simp only [fillL, List.all_cons, List.all_nil, Bool.and_true]
  exact Ev.now _
theorem impl_fill2 (p : Int) (b : Bool) (l l' : List Int) : Ev (fun k => impl_filledCode_2.f k p b l l') (fillL (codeL p b [l, l']) [l, l']) := by
  simp only [impl_filledCode_2.f]
  refine Ev.bind (impl_code2 p b l l') ?_
  simp only [fillL, List.all_cons, List.all_nil, Bool.and_true]
  exact Ev.now _
/-- what the code 0 tells -/
theorem fillL_0 {p : Int} {b : Bool} {ls : List (List Int)} (h : fillL (codeL p b ls) ls = 0) : IsP p ∧ b = true ∧ ∀ l ∈ ls, Po p l ∧ 0 < l.length := by
  unfold fillL at h
  split at h
  · rename_i hc
    split at h
    · rename_i ha
      obtain ⟨h1, h2, h3⟩ := codeL_0 hc
      exact ⟨h1, h2, fun l hl => ⟨h3 l hl, of_decide_eq_true (List.all_eq_true.1 ha l hl)⟩⟩
    · cases h
  · rename_i hc; exact absurd h hc

/-! ## roots -/
def rts (p : Int) (f : List Int) (i : Nat) : List Int := ((List.range i).map (fun (n : Nat) => (n : Int))).filter (fun x => decide (valL p f x = 0))
def rootsL (p : Int) (f : List Int) : List Int := rts p f p.toNat
theorem rts_succ (p : Int) (f : List Int) (i : Nat) : rts p f (i + 1) = if valL p f i = 0 then rts p f i ++ [(i : Int)] else rts p f i := by
  unfold rts
  rw [List.range_succ, List.map_append, List.filter_append]
  by_cases h : valL p f i = 0 <;> simp [h]
theorem rts_len (p : Int) (f : List Int) (i : Nat) : (rts p f i).length ≤ i := by
  unfold rts
  refine Nat.le_trans (List.length_filter_le _ _) ?_
  simp
theorem spec_roots {p : Int} {f : List Int} (hp : 2 ≤ p) (hp2 : p ≤ 10007) (hf : f.length ≤ 1000) (rf : InR p f) : Ev (fun k => spec_l06Roots.f k p f) (rootsL p f) := by
  have loop : ∀ (d i : Nat), i + d = p.toNat → Ev (fun k => spec_l06Roots.l0 k p f (rts p f i) (i : Int)) (rootsL p f) := by
    intro d
    induction d with
    | zero => intro i h; refine Ev.succ ?_; simp (disch := omega) only [spec_l06Roots.l0, if_neg]; rw [show i = p.toNat by omega]; exact Ev.now _
    | succ d ih =>
      intro i h
      have hi := ih (i + 1) (by omega)
      have hv := spec_val (x := i) hp hp2 hf rf (by omega)
      have hl := rts_len p f i
      rw [rts_succ] at hi
      refine Ev.succ ?_
      simp (disch := omega) only [spec_l06Roots.l0, if_pos, wp1]
      refine Ev.bind hv ?_
      by_cases h0 : valL p f i = 0
      · simp (disch := omega) only [if_pos h0, if_pos]; rw [if_pos h0] at hi; exact hi
      · simp only [if_neg h0]; rw [if_neg h0] at hi; exact hi
  have h := loop p.toNat 0 (by omega)
  simp only [spec_l06Roots.f]
  exact h
theorem impl_roots {p : Int} {f : List Int} (hp : 2 ≤ p) (hp2 : p ≤ 10007) (hf : f.length ≤ 1000) (rf : InR p f) : Ev (fun k => impl_field_roots.f k p f) (rootsL p f) := by
  have loop : ∀ (d i : Nat), i + d = p.toNat → Ev (fun k => impl_field_roots.l0 k p f (rts p f i) p (i : Int)) (rootsL p f) := by
    intro d
    induction d with
    | zero => intro i h; refine Ev.succ ?_; simp (disch := omega) only [impl_field_roots.l0, if_neg]; rw [show i = p.toNat by omega]; exact Ev.now _
    | succ d ih =>
      intro i h
      have hi := ih (i + 1) (by omega)
      have hv := impl_val (x := i) (f := f) hp hp2 rf (by omega)
      have hl := rts_len p f i
      rw [rts_succ] at hi
      refine Ev.succ ?_
      simp (disch := omega) only [impl_field_roots.l0, if_pos, wp1, hv, Option.bind_some]
      by_cases h0 : valL p f i = 0
      · simp (disch := omega) only [if_pos h0, if_pos]; rw [if_pos h0] at hi; exact hi
      · simp only [if_neg h0]; rw [if_neg h0] at hi; exact hi
  have h := loop p.toNat 0 (by omega)
  simp only [impl_field_roots.f]
  exact h
theorem rootsL_len {p : Int} (hp : 0 < p) (hp2 : p ≤ 10007) (f : List Int) : (rootsL p f).length ≤ 10007 := by
  have := rts_len p f p.toNat; unfold rootsL; omega

/-! ## scaled roots -/
/-- number i of the scaled polynomial -/
def scN (p c : Int) (f : List Int) (i : Nat) : Int := f.getD i 0 * (c ^ (f.length - 1 - i) % p) % p
def scL (p c : Int) (f : List Int) : List Int := (List.range f.length).map (scN p c f)
theorem scL_len (p c : Int) (f : List Int) : (scL p c f).length = f.length := by simp [scL]
theorem scL_get (p c : Int) (f : List Int) (i : Nat) (h : i < f.length) : (scL p c f)[i]'(by rw [scL_len]; exact h) = scN p c f i := by simp [scL]
end Go.Proofs.Ytfbehafhiialcaa.H

-- written by wip/drive.py (the session's own program) over the translation; Lean checks it
namespace Go.Proofs.Ytfbehafhiialcaa.H
open Go.RowKit Go.Proofs.YtfbehafhiialcaaW.PrintWords Go.Proofs.YtfbehafhiialcaaW.PrintLast Go.Proofs.YtfbehafhiialcaaW.PrintMore
attribute [local go_sem] max2_int min2_int max_two min_two max_three min_three max_four min_four   -- for this text's walks alone
set_option linter.unusedVariables false
set_option linter.unusedSimpArgs false

/-! ### impl_areNumbers: function 33 (by hand) -/
def impl_areNumbers.f (k : Nat) (a0 : Int) (l1 : List Int) (a2 : Int) (a3 : Int) : Option (Bool) := (impl_IsPrime.f k a0).bind fun t => some (t && (withinB (l1.length : Int) a2 a3 && l1.all (hasB a0)))
theorem impl_areNumbers.mono : ∀ a0 a1 a2 a3 k, LeO (impl_areNumbers.f k a0 a1 a2 a3) (impl_areNumbers.f (k + 1) a0 a1 a2 a3) := by
  intro a0 a1 a2 a3 k; unfold impl_areNumbers.f; exact LeO.bind (impl_IsPrime.mono _ _) fun _ => LeO.refl _
set_option maxHeartbeats 4000000 in
set_option maxRecDepth 100000 in
theorem impl_areNumbers.calls (k : Nat) (a0 : Int) (A1 : Option Addr) (c1 : Nat) (l1 : List Int) (a2 : Int) (a3 : Int) (r : Bool) (w : World) (hr1 : Kd.C (Kd.int .i64) w A1 l1.length l1) (hc1 : l1.length ≤ c1) (h : impl_areNumbers.f k a0 l1 a2 a3 = some r) :
    Calls Try.prog 33 #[.int .i64 a0, .slice A1 l1.length c1, .int .i64 a2, .int .i64 a3] w fun e w' => e = .returned (.bool r) ∧ Below w.heap.size w w' := by
  unfold impl_areNumbers.f at h
  obtain ⟨t, ht, hv⟩ := Option.bind_eq_some_iff.mp h
  obtain rfl := Option.some.inj hv
  clear h hv
  have eg : ∀ args w, (callFunc 42 args).run Try.prog w = .ok (.enter 42 args) w := enters_of Try.func42 (by kernel_rfl) rfl
  have HI := fun W => impl_IsPrime.calls k a0 t W ht
  have HL := fun W (hW : Below w.heap.size w W) => impl_length_int64.calls A1 c1 l1 (l1.length : Int) W (Kd.C_below hr1 hW) hc1 rfl
  have HW := fun W => within_withinB (l1.length : Int) a2 a3 W
  have HA := fun W (hW : Below w.heap.size w W) => areAll_bound A1 c1 l1 (hasB a0) 42 (.int .i64 a0) eg W (Kd.C_below hr1 hW) (fun x W' _ => has_hasB a0 x W')
  clear eg ht hr1
  generalize withinB (l1.length : Int) a2 a3 = b at HW ⊢
  generalize l1.all (hasB a0) = c at HA ⊢
  have HB := Aside0.mk (Below.refl w.heap.size w)
  cases t with
  | false =>
    go_enter Try.func33, Try.ntmps33
    go_wp2_with (go_at_call 57; refine (HI _).mono ?_; rintro e w' ⟨rfl, ⟨nd, rfl⟩⟩)
    go_ret
    exact ⟨rfl, pw_below_drewN HB.out _⟩
  | true =>
    cases b with
    | false =>
      go_enter Try.func33, Try.ntmps33
      go_wp2_with (first | (go_at_call 57; refine (HI _).mono ?_; rintro e w' ⟨rfl, ⟨nd, rfl⟩⟩) | (go_at_call 61; refine (HL _ (by exact pw_below_drewN HB.out _)).mono ?_; rintro e w' ⟨rfl, ⟨nd1, rfl⟩⟩) | (go_at_call 48; refine (HW _).mono ?_; rintro e w' ⟨rfl, ⟨nd2, rfl⟩⟩))
      go_ret
      exact ⟨rfl, pw_below_drewN HB.out _⟩
    | true =>
      cases c with
      | _ =>
        go_enter Try.func33, Try.ntmps33
        go_wp2_with (first | (go_at_call 57; refine (HI _).mono ?_; rintro e w' ⟨rfl, ⟨nd, rfl⟩⟩) | (go_at_call 61; refine (HL _ (by exact pw_below_drewN HB.out _)).mono ?_; rintro e w' ⟨rfl, ⟨nd1, rfl⟩⟩) | (go_at_call 48; refine (HW _).mono ?_; rintro e w' ⟨rfl, ⟨nd2, rfl⟩⟩) | (go_at_call 62; refine (HA _ (by exact pw_below_drewN HB.out _)).mono ?_; rintro e w' ⟨rfl, hb⟩; have HB4 := Aside0.mk (below_step (pw_below_drewN HB.out _) hb); clear hb))
        go_ret
        exact ⟨rfl, HB4.out⟩

end Go.Proofs.Ytfbehafhiialcaa.H
-- written by wip/drive.py (the session's own program) over the translation; Lean checks it
namespace Go.Proofs.Ytfbehafhiialcaa.H
open Go.RowKit Go.Proofs.YtfbehafhiialcaaW.PrintWords Go.Proofs.YtfbehafhiialcaaW.PrintLast Go.Proofs.YtfbehafhiialcaaW.PrintMore
attribute [local go_sem] max2_int min2_int max_two min_two max_three min_three max_four min_four   -- for this text's walks alone
set_option linter.unusedVariables false
set_option linter.unusedSimpArgs false

/-! ### impl_field_multiplicity: function 43 -/
mutual
def impl_field_multiplicity.l0 : Nat → Int → List Int → Int → Int → Option (Int)
  | 0, _, _, _, _ => none
  | k + 1, x0, x1, x2, x7 => if (x1.length : Int) > 0 then ((impl_field_value.f x0 x1 x2).bind fun t496 => (impl_field_multiplicity.j1 k x0 x1 x2 x7 (t496 == 0))) else (impl_field_multiplicity.j1 k x0 x1 x2 x7 false)
def impl_field_multiplicity.j1 : Nat → Int → List Int → Int → Int → Bool → Option (Int)
  | 0, _, _, _, _, _ => none
  | k + 1, x0, x1, x2, x7, x17 => if x17 = true then ((impl_field_mod.f x0 (wrap64 (-x2))).bind fun t497 => ((impl_field_divide.f k x0 x1 (([t497, 1] : List Int))).bind fun bt501 => (impl_field_multiplicity.l0 k x0 bt501.1 x2 (wrap64 (x7 + 1))))) else (some x7)
end
def impl_field_multiplicity.f (k : Nat) (a0 : Int) (l1 : List Int) (a2 : Int) : Option (Int) := impl_field_multiplicity.l0 k a0 l1 a2 0
theorem impl_field_multiplicity.mono_l : ∀ k, (∀ y0 y1 y2 y3, LeO (impl_field_multiplicity.l0 k y0 y1 y2 y3) (impl_field_multiplicity.l0 (k + 1) y0 y1 y2 y3)) ∧ (∀ y0 y1 y2 y3 y4, LeO (impl_field_multiplicity.j1 k y0 y1 y2 y3 y4) (impl_field_multiplicity.j1 (k + 1) y0 y1 y2 y3 y4))
  | 0 => ⟨fun _ _ _ _ r h => by simp [impl_field_multiplicity.l0] at h, fun _ _ _ _ _ r h => by simp [impl_field_multiplicity.j1] at h⟩
  | k + 1 => by
    obtain ⟨ih0, ih1⟩ := impl_field_multiplicity.mono_l k
    refine ⟨?_, ?_⟩
    · intro y0 y1 y2 y3
      unfold impl_field_multiplicity.l0
      repeat' first
      | (with_reducible exact ih0 _ _ _ _)
      | (with_reducible exact ih1 _ _ _ _ _)
      | (with_reducible exact impl_field_divide.mono _ _ _ _)
      | (with_reducible exact LeO.refl _)
      | (with_reducible exact LeO.none _)
      | (with_reducible refine LeO.ite ?_ ?_)
      | (with_reducible refine LeO.bind ?_ (fun _ => ?_))
      | exact ih0 _ _ _ _
      | exact ih1 _ _ _ _ _
      | exact impl_field_divide.mono _ _ _ _
      | exact LeO.none _
      | refine LeO.ite ?_ ?_
      | refine LeO.bind ?_ (fun _ => ?_)
    · intro y0 y1 y2 y3 y4
      unfold impl_field_multiplicity.j1
      repeat' first
      | (with_reducible exact ih0 _ _ _ _)
      | (with_reducible exact ih1 _ _ _ _ _)
      | (with_reducible exact impl_field_divide.mono _ _ _ _)
      | (with_reducible exact LeO.refl _)
      | (with_reducible exact LeO.none _)
      | (with_reducible refine LeO.ite ?_ ?_)
      | (with_reducible refine LeO.bind ?_ (fun _ => ?_))
      | exact ih0 _ _ _ _
      | exact ih1 _ _ _ _ _
      | exact impl_field_divide.mono _ _ _ _
      | exact LeO.none _
      | refine LeO.ite ?_ ?_
      | refine LeO.bind ?_ (fun _ => ?_)
theorem impl_field_multiplicity.mono : ∀ a0 a1 a2 k, LeO (impl_field_multiplicity.f k a0 a1 a2) (impl_field_multiplicity.f (k + 1) a0 a1 a2) := by
  intro a0 a1 a2 k
  obtain ⟨ih0, ih1⟩ := impl_field_multiplicity.mono_l k
  unfold impl_field_multiplicity.f
  repeat' first
      | (with_reducible exact ih0 _ _ _ _)
      | (with_reducible exact ih1 _ _ _ _ _)
      | (with_reducible exact impl_field_divide.mono _ _ _ _)
      | (with_reducible exact LeO.refl _)
      | (with_reducible exact LeO.none _)
      | (with_reducible refine LeO.ite ?_ ?_)
      | (with_reducible refine LeO.bind ?_ (fun _ => ?_))
      | exact ih0 _ _ _ _
      | exact ih1 _ _ _ _ _
      | exact impl_field_divide.mono _ _ _ _
      | exact LeO.none _
      | refine LeO.ite ?_ ?_
      | refine LeO.bind ?_ (fun _ => ?_)
set_option maxHeartbeats 8000000 in
set_option maxRecDepth 100000 in
theorem impl_field_multiplicity.calls (k : Nat) (a0 : Int) (P1_ : Nat → Prop) (A1 : Option Addr) (c1 : Nat) (l1 : List Int) (a2 : Int) (r : Int) (w : World) (hs1 : Kd.V (Kd.int .i64) 2 w w.heap.size (fun k_ => P1_ k_) (.slice A1 l1.length c1) l1) (h : impl_field_multiplicity.f k a0 l1 a2 = some r) :
    Calls Try.prog 43 #[.int .i64 a0, .slice A1 l1.length c1, .int .i64 a2] w fun e w' => e = .returned (.int .i64 r) ∧ Below w.heap.size w w' := by
  have HO1 := Aside0.mk (show Kd.V (Kd.int .i64) 2 w w.heap.size (fun k_ => (P1_ k_ ∨ w.heap.size ≤ k_)) (.slice A1 l1.length c1) l1 from Kd.V_mono hs1 (fun k_ hk => .inl hk))
  have HB := Aside0.mk (Below.refl w.heap.size w)
  have H : (impl_field_multiplicity.l0 k a0 l1 a2 0) = some r := h
  clear h
  have H' := Aside0.mk H
  clear H
  go_enter Try.func43, Try.ntmps43
  go_wp2
  go_loopg [1, 7] k (fun kq v1 v7 w' => ∃ (x1_1 : List Int) (x7_1 : Int), v7 = .int .i64 x7_1 ∧ Aside0 (impl_field_multiplicity.l0 kq a0 x1_1 a2 x7_1 = some r) ∧ Aside0 (kq ≤ k) ∧ Aside0 (Kd.V (Kd.int .i64) 2 w' w.heap.size (fun k_ => (P1_ k_ ∨ w.heap.size ≤ k_)) v1 x1_1) ∧ Aside0 (Below w.heap.size w w'))
  case atStart => exact ⟨(l1), (0), ea_, H', ⟨Nat.le_refl _⟩, ⟨by (with_reducible repeat (first | apply Kd.V_alloc | apply Kd.V_drewN | apply Kd.V_drew)); exact HO1.out⟩, ⟨by repeat (first | (with_reducible first | exact HB.out | apply below_alloc | apply pw_below_drewN | apply below_drew1) | exact HB.out)⟩⟩
  case round =>
    clear H'
    try clear c1
    try clear p2
    obtain ⟨x1_1, x7_1, rfl, HA, HK1, HO_1, HB⟩ := hrel
    cases gk with
    | zero => exact absurd HA.out (by simp [impl_field_multiplicity.l0])
    | succ k1 =>
      have H := HA.out
      clear HA
      simp only [impl_field_multiplicity.l0] at H
      have HC4 := Aside0.mk H
      clear H
      go_upto_region 2 with (fail)
      go_cut [17] (fun v17 wc => ∃ (kq : Nat) (x17_3 : Bool), v17 = .bool x17_3 ∧ Aside0 (impl_field_multiplicity.j1 kq a0 x1_1 a2 x7_1 x17_3 = some r) ∧ Aside0 (kq ≤ k1) ∧ Aside0 (Kd.V (Kd.int .i64) 2 wc w.heap.size (fun k_ => (P1_ k_ ∨ w.heap.size ≤ k_)) u1 x1_1) ∧ Aside0 (Below w.heap.size w wc))
      case first =>
        have H := HC4.out
        clear HC4
        by_cases c5 : (x1_1.length : Int) > 0
        · rw [if_pos c5] at H
          have c5b0 : decide (0 < (x1_1.length : Int)) = true := decide_eq_true c5
          have c5b1 : decide (0 < x1_1.length) = true := decide_eq_true (by omega)
          clear c5
          (first | rw [c5b0] | (simp only [i64_w, i32_w]; rw [c5b0]) | skip)
          replace H := Option.bind_eq_some_iff.mp H
          obtain ⟨t496, A60, H⟩ := H
          have A6 := Aside0.mk A60
          clear A60
          have H' := Aside0.mk H
          clear H
          obtain ⟨Ao7, co7, eo7⟩ := Kd.V_slice HO_1.out
          subst eo7
          go_wp2_with (first | (go_at_call 68; (with_reducible refine (impl_field_value.calls a0 _ _ x1_1 a2 t496 _ ?side1 ?side2 A6.out).mono ?_); (case side1 => exact cs ((Kd.V_reads' HO_1.out).2.2)); (case side2 => exact (Kd.V_reads' HO_1.out).2.1); rintro e w8 ⟨rfl, hb⟩; have n0_ := Aside0.mk (Kd.V_below (by (with_reducible repeat (first | apply Kd.V_alloc | apply Kd.V_drewN | apply Kd.V_drew)); exact HO_1.out) hb); have n1_ := Aside0.mk (below_step (bs HB) hb); clear HO_1; clear HB; have HO_1 := n0_; have HB := n1_; clear n0_ n1_; (try clear hb); (try clear hb2); (try clear hk); (try clear hi)))
          go_meet
          case rel => exact ⟨_, ((t496 == 0)), ea_, H', ⟨by have := HK1.out; first | omega | exact Nat.le_refl _⟩, ⟨by (with_reducible repeat (first | apply Kd.V_alloc | apply Kd.V_drewN | apply Kd.V_drew)); exact HO_1.out⟩, ⟨by repeat (first | (with_reducible first | exact HB.out | apply below_alloc | apply pw_below_drewN | apply below_drew1) | exact HB.out)⟩⟩
        · rw [if_neg c5] at H
          have c5b0 : decide (0 < (x1_1.length : Int)) = false := decide_eq_false c5
          have c5b1 : decide (0 < x1_1.length) = false := decide_eq_false (by omega)
          clear c5
          (first | rw [c5b0] | (simp only [i64_w, i32_w]; rw [c5b0]) | skip)
          have H' := Aside0.mk H
          clear H
          obtain ⟨Ao9, co9, eo9⟩ := Kd.V_slice HO_1.out
          subst eo9
          go_wp2
          go_meet
          case rel => exact ⟨_, (false), ea_, H', ⟨by have := HK1.out; first | omega | exact Nat.le_refl _⟩, ⟨by (with_reducible repeat (first | apply Kd.V_alloc | apply Kd.V_drewN | apply Kd.V_drew)); exact HO_1.out⟩, ⟨by repeat (first | (with_reducible first | exact HB.out | apply below_alloc | apply pw_below_drewN | apply below_drew1) | exact HB.out)⟩⟩
      case rest =>
        clear HC4
        try clear c1
        try clear p2
        try clear c4
        try clear c5
        try clear c5b0
        try clear c5b1
        try clear p2
        obtain ⟨kq, x17_3, rfl, HA, HJ3, HO_1, HB⟩ := hcut
        cases kq with
        | zero => exact absurd HA.out (by simp [impl_field_multiplicity.j1])
        | succ kj3 =>
          have H := HA.out
          clear HA
          simp only [impl_field_multiplicity.j1] at H
          by_cases c10 : x17_3 = true
          · subst c10
            have H1 : ((impl_field_mod.f a0 (wrap64 (-a2))).bind fun t497 => ((impl_field_divide.f kj3 a0 x1_1 (([t497, 1] : List Int))).bind fun bt501 => (impl_field_multiplicity.l0 kj3 a0 bt501.1 a2 (wrap64 (x7_1 + 1))))) = some r := by rw [if_pos rfl] at H; exact H
            clear H
            have H := H1
            clear H1
            replace H := Option.bind_eq_some_iff.mp H
            obtain ⟨t497, A110, H⟩ := H
            have A11 := Aside0.mk A110
            clear A110
            obtain ⟨y498, hy498⟩ : ∃ y_ : List Int, y_ = (([t497, 1] : List Int)) := ⟨_, rfl⟩
            replace H : ((impl_field_divide.f kj3 a0 x1_1 y498).bind fun bt501 => (impl_field_multiplicity.l0 kj3 a0 bt501.1 a2 (wrap64 (x7_1 + 1)))) = some r := by first | (rw [hy498]; with_reducible exact H) | (have H2_ := (Option.bind_some _ _).symm.trans H; rw [hy498]; with_reducible exact H2_) | (have H2_ := (Option.bind_some _ _).symm.trans H; with_reducible exact H2_) | with_reducible exact H | (rw [hy498]; exact H) | exact H
            have Ny498 := Aside0.mk hy498
            clear hy498
            replace H := Option.bind_eq_some_iff.mp H
            obtain ⟨⟨t501, t502⟩, A120, H⟩ := H
            have A12 := Aside0.mk A120
            clear A120
            have H' := Aside0.mk H
            clear H
            go_wp2_with (first | ((with_reducible refine gate_callee (f := 63) rfl ?_); refine goesM_ (some 24) rfl rfl Try.func63 #[.int .i64 a0, .int .i64 (wrap64 (-a2))] rfl ?_; (with_reducible refine (impl_field_mod.calls a0 (wrap64 (-a2)) t497 _ A11.out).mono ?_); rintro e w' ⟨rfl, ⟨nd, rfl⟩⟩; refine ⟨_, rfl, ?_⟩) | ((with_reducible refine gate_dst (N := 25) rfl ?_); refine Kd.R_lit (Kd.int .i64) _ 2 ?hg (N := 25) ?hd (xs := ([t497, 1] : List Int)) (inner := [.int .i64 t497, .int .i64 1]) (ok := fun _ => True) (okp := fun _ => True) ?hr ?hp (fun _ hk => hk) trivial (Below.refl _ _) (Nat.le_refl _) (by simp) ?_; (case hd => rfl); (case hg => rfl); (case hr => first | (go_simp; done) | (go_simp; rfl)); (case hp => exact (Reps.one (show Kd.M (Kd.int .i64) _ _ _ t497 [.int .i64 t497] from rfl) (Reps.one (show Kd.M (Kd.int .i64) _ _ _ 1 [.int .i64 1] from rfl) (Reps.none _ _)))); intro v499 w13 ho14 hb hg_ hnew_; clear hg_ hnew_; (first | rw [← Ny498.out] at ho14 | (simp only [Int.reduceToNat] at ho14; rw [← Ny498.out] at ho14)); have n0_ := Aside0.mk (Kd.V_elder' (by (with_reducible repeat (first | apply Kd.V_alloc | apply Kd.V_drewN | apply Kd.V_drew)); exact HO_1.out) (Kd.R_base ho14) hb); have n1_ := Aside0.mk (Kd.R_lower (Kd.R_newM (M := fun k_ => (w.heap.size ≤ k_)) ho14 (below_size (bs HB)) (fun k_ h_ => h_)) (below_size (bs HB))); have n2_ := Aside0.mk (below_step (bs HB) hb); clear HO_1; clear HB; have HO_1 := n0_; have HO500 := n1_; have HB := n2_; clear n0_ n1_ n2_; clear hb ho14; obtain ⟨Ao15, co15, eo15⟩ := Kd.V_slice HO_1.out; subst eo15; obtain ⟨Ao16, co16, eo16⟩ := Kd.R_slice HO500.out; subst eo16) | ((with_reducible refine gate_callee (f := 58) rfl ?_); refine goesM_ (some 26) rfl rfl Try.func58 #[.int .i64 a0, .slice Ao15 x1_1.length co15, .slice Ao16 y498.length co16] rfl ?_; (with_reducible refine (impl_field_divide.calls kj3 a0 _ _ x1_1 _ _ y498 t501 t502 _ ?side1 ?side2 ?side3 ?side4 A12.out).mono ?_); (case side1 => exact cs ((Kd.V_reads' HO_1.out).2.2)); (case side2 => exact (Kd.V_reads' HO_1.out).2.1); (case side3 => exact cs ((Kd.R_reads' HO500.out).2.2)); (case side4 => exact (Kd.R_reads' HO500.out).2.1); rintro e w17 ⟨v503, v505, rfl, ho0, ho1, hb⟩; refine ⟨_, rfl, ?_⟩; have n0_ := Aside0.mk (Kd.V_mono (Kd.V_told (Kd.V_told (Kd.V_old (by (with_reducible repeat (first | apply Kd.V_alloc | apply Kd.V_drewN | apply Kd.V_drew)); exact HO_1.out) hb) (Kd.R_base ho0)) (Kd.R_base ho1)) (fun _ h_ => h_.1)); have n1_ := Aside0.mk (Kd.R_mono (Kd.R_told (Kd.R_told (Kd.R_old (rs HO500) hb) (Kd.R_base ho0)) (Kd.R_base ho1)) (fun _ h_ => h_.1)); have n2_ := Aside0.mk (Kd.R_lower (Kd.R_new' (Kd.R_newM (M := fun k_ => (w.heap.size ≤ k_)) ho0 (below_size (bs HB)) (fun k_ h_ => h_)) (Kd.R_lt (rs HO500))) (below_size (bs HB))); have n3_ := Aside0.mk (Kd.R_lower (Kd.R_new' (Kd.R_newM (M := fun k_ => (w.heap.size ≤ k_)) ho1 (below_size (bs HB)) (fun k_ h_ => h_)) (Kd.R_lt (rs HO500))) (below_size (bs HB))); have n4_ := Aside0.mk (below_step (bs HB) hb); clear HO_1; clear HO500; clear HB; have HO_1 := n0_; have HO500 := n1_; have HO504 := n2_; have HO506 := n3_; have HB := n4_; clear n0_ n1_ n2_ n3_ n4_; (try clear hb); (try clear hb2); (try clear hk); (try clear hi); (try clear ho0); (try clear ho1)))
            go_roundg kj3
            case measure => have := HK1.out; have := HJ3.out; omega
            case rel => exact ⟨(t501), (wrap64 (x7_1 + 1)), ea_, H', ⟨by have := HK1.out; have := HJ3.out; omega⟩, ⟨Kd.V_mono (Kd.R_V (by (with_reducible repeat (first | apply Kd.R_alloc | apply Kd.R_drewN | apply Kd.R_drew)); exact Kd.R_mono HO504.out (fun _ hk => hk.1.1))) (fun k_ hk => by first | exact ⟨(.inr (hk.1)), hk.2⟩ | exact (.inr (hk)))⟩, ⟨by repeat (first | (with_reducible first | exact HB.out | apply below_alloc | apply pw_below_drewN | apply below_drew1) | exact HB.out)⟩⟩
          · replace c10 := Bool.eq_false_iff.mpr c10
            subst c10
            have H1 : (some x7_1) = some r := by rw [if_neg (show ¬ (false = true) by decide)] at H; exact H
            clear H
            have H := H1
            clear H1
            obtain rfl := Option.some.inj H
            go_wp2
            go_ret
            exact ⟨by first | rfl | (simp [errW_none, errW_some] <;> rfl) | (simp [*, errW_none, errW_some] <;> rfl), by repeat (first | (with_reducible first | exact HB.out | apply below_alloc | apply pw_below_drewN | apply below_drew1) | exact HB.out)⟩

end Go.Proofs.Ytfbehafhiialcaa.H
