/- Joined texts of a claim: the printed functions and what is proved of them. -/
import Derived.Test.YtnigpjcnffgfgaaYHx0
import Derived.Shelf.SlGeneric
import Derived.Shelf.SlicesG.CompactI
import Derived.Ground.SlgnProg
import Derived.Lib.SlKeysI
import Derived.Shelf.SortM.Plain
import Derived.Shelf.SortM.SortNone
import Derived.Ground.SlgmProg
namespace Go.Proofs.Ytnigpjcnffgfgaa.H
open Go.RowKit Go.Proofs.YtnigpjcnffgfgaaW.PrintWords Go.Proofs.YtnigpjcnffgfgaaW.PrintLast Go.Proofs.YtnigpjcnffgfgaaW.PrintMore
attribute [local go_sem] max2_int min2_int max_two min_two max_three min_three max_four min_four   -- for this text's walks alone
set_option linter.unusedVariables false
set_option linter.unusedSimpArgs false
def impl_within.f (a0 : Int) (a1 : Int) (a2 : Int) : Option (Bool) := if a1 ≤ a0 then (some (decide (a0 ≤ a2))) else (some false)
set_option maxHeartbeats 8000000 in
set_option maxRecDepth 100000 in
theorem impl_within.calls (a0 : Int) (a1 : Int) (a2 : Int) (r : Bool) (w : World) (h : impl_within.f a0 a1 a2 = some r) :
  Calls Try.prog 24 #[.int .i64 a0, .int .i64 a1, .int .i64 a2] w fun e w' => e = .returned (.bool r) ∧ Drawn0 w w' := by
 have H : (if a1 ≤ a0 then (some (decide (a0 ≤ a2))) else (some false)) = some r := h
 clear h
 by_cases c4 : a1 ≤ a0
 ·
  rw [if_pos c4] at H
  have c4b0 : decide (a1 ≤ a0) = true := decide_eq_true c4
  clear c4
  obtain rfl := Option.some.inj H
  go_enter Try.func24, Try.ntmps24
  go_wp2
  go_ret
  exact ⟨ea_, dr_⟩
 ·
  rw [if_neg c4] at H
  have c4b0 : decide (a1 ≤ a0) = false := decide_eq_false c4
  clear c4
  obtain rfl := Option.some.inj H
  go_enter Try.func24, Try.ntmps24
  go_wp2
  go_ret
  exact ⟨ea_, dr_⟩
def impl_IsPrime.l0 : Nat → Int → Int → Option (Bool)
 | 0, _, _ => none
 | k + 1, x0, x3 => if (wrap64 (x3 * x3)) ≤ x0 then (if x3 = 0 then (none) else (if (Int.tmod x0 x3) = 0 then (some false) else (impl_IsPrime.l0 k x0 (wrap64 (x3 + 1))))) else (some true)
def impl_IsPrime.f (k : Nat) (a0 : Int) : Option (Bool) := (impl_within.f a0 2 10007).bind fun t187 => (if t187 = true then (impl_IsPrime.l0 k a0 2) else (some false))
set_option maxHeartbeats 8000000 in
set_option maxRecDepth 100000 in
theorem impl_IsPrime.calls (k : Nat) (a0 : Int) (r : Bool) (w : World) (h : impl_IsPrime.f k a0 = some r) :
  Calls Try.prog 31 #[.int .i64 a0] w fun e w' => e = .returned (.bool r) ∧ Drawn0 w w' := by
 have H : ((impl_within.f a0 2 10007).bind fun t187 => (if t187 = true then (impl_IsPrime.l0 k a0 2) else (some false))) = some r := h
 clear h
 replace H := Option.bind_eq_some_iff.mp H
 obtain ⟨t187, A20, H⟩ := H
 have A2 := as0 A20
 clear A20
 by_cases c3 : t187 = true
 ·
  subst c3
  have H1 : (impl_IsPrime.l0 k a0 2) = some r := by rw [if_pos rfl] at H; exact H
  clear H
  have H := H1
  clear H1
  have H' := as0 H
  clear H
  go_enter Try.func31, Try.ntmps31
  go_wp2_with (first | ((with_reducible refine gate_callee (f := 24) rfl ?_); refine goesM_ (some 5) rfl rfl Try.func24 #[.int .i64 a0, .int .i64 2, .int .i64 10007] rfl ?_; (with_reducible refine (impl_within.calls a0 2 10007 true _ A2.out).mono ?_); rintro e w' ⟨rfl, ⟨nd, rfl⟩⟩; refine ⟨_, rfl, ?_⟩))
  go_loopg [3] k (fun kq v3 w' => ∃ (x3_1 : Int), v3 = .int .i64 x3_1 ∧ Aside0 (impl_IsPrime.l0 kq a0 x3_1 = some r) ∧ Aside0 (kq ≤ k) ∧ Drawn0 w w')
  case atStart => exact ⟨(2), ea_, H', ⟨Nat.le_refl _⟩, dr_⟩
  case round =>
   clear H'
   try clear c2
   try clear p2
   try clear c3
   obtain ⟨x3_1, rfl, HA, HK1, ⟨m1, rfl⟩⟩ := hrel
   cases gk with
   | zero => exact absurd HA.out (by simp [impl_IsPrime.l0])
   | succ k1 =>
    have H := HA.out
    clear HA
    simp only [impl_IsPrime.l0] at H
    by_cases c4 : (wrap64 (x3_1 * x3_1)) ≤ a0
    ·
     rw [if_pos c4] at H
     have c4b0 : decide ((wrap64 (x3_1 * x3_1)) ≤ a0) = true := decide_eq_true c4
     clear c4
     by_cases c5 : x3_1 = 0
     ·
      rw [if_pos c5] at H
      exact absurd H (by simp)
     ·
      rw [if_neg c5] at H
      have c5b0 : (x3_1 == 0) = false := beq_eq_false_iff_ne.mpr c5
      have c5b1 : (x3_1 != 0) = true := bne_iff_ne.mpr c5
      by_cases c6 : (Int.tmod a0 x3_1) = 0
      ·
       rw [if_pos c6] at H
       have c6b0 : ((Int.tmod a0 x3_1) == 0) = true := beq_iff_eq.mpr c6
       have c6b1 : ((Int.tmod a0 x3_1) != 0) = false := bne_eq_false_iff_eq.mpr c6
       clear c6
       obtain rfl := Option.some.inj H
       go_wp2
       go_ret
       exact ⟨ea_, dr_⟩
      ·
       rw [if_neg c6] at H
       have c6b0 : ((Int.tmod a0 x3_1) == 0) = false := beq_eq_false_iff_ne.mpr c6
       have c6b1 : ((Int.tmod a0 x3_1) != 0) = true := bne_iff_ne.mpr c6
       have H' := as0 H
       clear H
       go_wp2
       go_roundg k1
       case measure => have := HK1.out; omega
       case rel => exact ⟨(wrap64 (x3_1 + 1)), ea_, H', ⟨by have := HK1.out; omega⟩, dr_⟩
    ·
     rw [if_neg c4] at H
     have c4b0 : decide ((wrap64 (x3_1 * x3_1)) ≤ a0) = false := decide_eq_false c4
     clear c4
     obtain rfl := Option.some.inj H
     go_wp2
     go_ret
     exact ⟨ea_, dr_⟩
 ·
  replace c3 := Bool.eq_false_iff.mpr c3
  subst c3
  have H1 : (some false) = some r := by rw [if_neg (show ¬ (false = true) by decide)] at H; exact H
  clear H
  have H := H1
  clear H1
  obtain rfl := Option.some.inj H
  go_enter Try.func31, Try.ntmps31
  go_wp2_with (first | ((with_reducible refine gate_callee (f := 24) rfl ?_); refine goesM_ (some 5) rfl rfl Try.func24 #[.int .i64 a0, .int .i64 2, .int .i64 10007] rfl ?_; (with_reducible refine (impl_within.calls a0 2 10007 false _ A2.out).mono ?_); rintro e w' ⟨rfl, ⟨nd, rfl⟩⟩; refine ⟨_, rfl, ?_⟩))
  go_ret
  exact ⟨ea_, dr_⟩
def impl_field_has.f (a0 : Int) (a1 : Int) : Option (Bool) := if a1 ≥ 0 then (some (decide (a1 < a0))) else (some false)
set_option maxHeartbeats 8000000 in
set_option maxRecDepth 100000 in
theorem impl_field_has.calls (a0 : Int) (a1 : Int) (r : Bool) (w : World) (h : impl_field_has.f a0 a1 = some r) :
  Calls Try.prog 33 #[.int .i64 a0, .int .i64 a1] w fun e w' => e = .returned (.bool r) ∧ Drawn0 w w' := by
 have H : (if a1 ≥ 0 then (some (decide (a1 < a0))) else (some false)) = some r := h
 clear h
 by_cases c3 : a1 ≥ 0
 ·
  rw [if_pos c3] at H
  have c3b0 : decide (0 ≤ a1) = true := decide_eq_true c3
  clear c3
  obtain rfl := Option.some.inj H
  go_enter Try.func33, Try.ntmps33
  go_wp2
  go_ret
  exact ⟨ea_, dr_⟩
 ·
  rw [if_neg c3] at H
  have c3b0 : decide (0 ≤ a1) = false := decide_eq_false c3
  clear c3
  obtain rfl := Option.some.inj H
  go_enter Try.func33, Try.ntmps33
  go_wp2
  go_ret
  exact ⟨ea_, dr_⟩
def Gives (g : Nat) (lb : Array Value) (v : Value) (r : Bool) (w : World) : Prop :=
 ∀ W : World, Below w.heap.size w W → Calls Try.prog g (#[v] ++ lb) W fun e w' => e = .returned (.bool r) ∧ Below W.heap.size W w'
theorem below_next {w W w' : World} (h : Below w.heap.size w W) (k : Below W.heap.size W w') : Below w.heap.size w w' := h.trans (k.mono h.size)
set_option maxHeartbeats 4000000 in
set_option maxRecDepth 100000 in
theorem indexFunc_any (A : Option Addr) (n c : Nat) (q : Nat → Bool) (g : Nat) (lb : Array Value) (eg : ∀ args w, (callFunc g args).run Try.prog w = .ok (.enter g args) w) (w : World)
  (hn : n ≤ 9223372036854775807) (h : ∀ j, j < n → ∃ ad v, A = some ad ∧ w.cell? (ad.add j) = some v ∧ Gives g lb v (q j) w) :
  Calls Try.prog 54 #[.slice A n c, .func (.func g) #[] lb] w fun e w' => (∃ i : Int, e = .returned (.int .i64 i) ∧ (0 ≤ i ↔ ∃ j, j < n ∧ q j = true)) ∧ Below w.heap.size w w' := by
 have HH := as0 h
 clear h
 go_enter Try.func54, Try.ntmps54
 go_wp2
 go_loopg [5, 8] n (fun gg _ s8 wr => ∃ kk : Nat, kk ≤ n ∧ n - kk ≤ gg ∧ s8 = .int .i64 kk ∧ Aside0 (∀ j, j < kk → q j = false) ∧ Aside0 (Below w.heap.size w wr))
 case atStart => exact ⟨0, Nat.zero_le _, by omega, rfl, ⟨fun j hj => absurd hj (Nat.not_lt_zero _)⟩, ⟨Below.refl _ _⟩⟩
 case round =>
  obtain ⟨kk, hkk, hg, rfl, HA, HB⟩ := hrel
  by_cases hlt : kk < n
  ·
   have hltz : (kk : Int) < (n : Int) := by omega
   obtain ⟨ad, v, rfl, hc, hcall⟩ := HH.out kk hlt
   have hcall' := hcall wr HB.out
   have hc' := pw_cell_below HB.out hc
   clear hcall hc
   cases hq : q kk with
   | true =>
    rw [hq] at hcall'
    have Hq := as0 hq
    clear hq HH
    go_wp2_with fail
    refine (hcall').mono ?_
    rintro e w' ⟨rfl, hb⟩
    have HB' := as0 (below_next HB.out hb)
    clear hcall' eg hb HB
    go_wp2
    go_ret
    exact ⟨⟨kk, rfl, by constructor; (intro _; exact ⟨kk, hlt, Hq.out⟩); (intro _; omega)⟩, HB'.out⟩
   | false =>
    rw [hq] at hcall'
    have Hq := as0 hq
    clear hq HH
    go_wp2_with fail
    refine (hcall').mono ?_
    rintro e w' ⟨rfl, hb⟩
    have HB' := as0 (below_next HB.out hb)
    clear hcall' eg hb HB
    go_wp2
    go_roundg (n - (kk + 1))
    case measure => omega
    case rel =>
     refine ⟨kk + 1, by omega, by omega, by go_num, ⟨fun j hj => ?_⟩, HB'⟩
     by_cases e : j = kk
     ·
      subst e; exact Hq.out
     ·
      exact HA.out j (by omega)
  ·
   have hltz : ¬ (kk : Int) < (n : Int) := by omega
   have : kk = n := by omega
   subst this
   go_wp2
   go_ret
   refine ⟨⟨-1, rfl, ?_⟩, HB.out⟩
   constructor
   ·
    intro h; omega
   ·
    rintro ⟨j, hj, hq⟩
    rw [HA.out j hj] at hq
    cases hq
end Go.Proofs.Ytnigpjcnffgfgaa.H
namespace Go.Proofs.Ytnigpjcnffgfgaa.H
open Go.RowKit Go.Proofs.YtnigpjcnffgfgaaW.PrintWords Go.Proofs.YtnigpjcnffgfgaaW.PrintLast Go.Proofs.YtnigpjcnffgfgaaW.PrintMore
attribute [local go_sem] max2_int min2_int max_two min_two max_three min_three max_four min_four   -- for this text's walks alone
set_option linter.unusedVariables false
set_option linter.unusedSimpArgs false
set_option maxHeartbeats 4000000 in
set_option maxRecDepth 100000 in
theorem containsFunc_any (A : Option Addr) (n c : Nat) (q : Nat → Bool) (r : Bool) (hr : r = true ↔ ∃ j, j < n ∧ q j = true) (g : Nat) (lb : Array Value) (eg : ∀ args w, (callFunc g args).run Try.prog w = .ok (.enter g args) w) (w : World)
    (hn : n ≤ 9223372036854775807) (h : ∀ j, j < n → ∃ ad v, A = some ad ∧ w.cell? (ad.add j) = some v ∧ Gives g lb v (q j) w) :
    Calls Try.prog 45 #[.slice A n c, .func (.func g) #[] lb] w fun e w' => e = .returned (.bool r) ∧ Below w.heap.size w w' := by
  have HC := indexFunc_any A n c q g lb eg w hn h
  clear h eg
  have Hr := as0 hr
  clear hr
  cases r with
  | true =>
    have HC' : Calls Try.prog 54 #[.slice A n c, .func (.func g) #[] lb] w fun e w' => (∃ i : Int, e = .returned (.int .i64 i) ∧ 0 ≤ i) ∧ Below w.heap.size w w' :=
      HC.mono fun e w' ⟨⟨i, he, hi⟩, hd⟩ => ⟨⟨i, he, hi.2 (Hr.out.1 rfl)⟩, hd⟩
    clear HC
    go_enter Try.func45, Try.ntmps45
    go_wp2_with (go_at_call 54; refine HC'.mono ?_; rintro e w' ⟨⟨i, rfl, hi⟩, hb⟩)
    go_ret
    exact ⟨rfl, hb⟩
  | false =>
    have HC' : Calls Try.prog 54 #[.slice A n c, .func (.func g) #[] lb] w fun e w' => (∃ i : Int, e = .returned (.int .i64 i) ∧ i < 0) ∧ Below w.heap.size w w' :=
      HC.mono fun e w' ⟨⟨i, he, hi⟩, hd⟩ => ⟨⟨i, he, by
        rcases Int.lt_or_le i 0 with h | h
        · exact h
        · exact absurd (Hr.out.2 (hi.1 h)) (by simp)⟩, hd⟩
    clear HC
    go_enter Try.func45, Try.ntmps45
    go_wp2_with (go_at_call 54; refine HC'.mono ?_; rintro e w' ⟨⟨i, rfl, hi⟩, hb⟩)
    go_ret
    exact ⟨by have hn0 : ¬ 0 ≤ i := by omega
              simp [hn0], hb⟩
end Go.Proofs.Ytnigpjcnffgfgaa.H
namespace Go.Proofs.Ytnigpjcnffgfgaa.H
open Go.RowKit Go.Proofs.YtnigpjcnffgfgaaW.PrintWords Go.Proofs.YtnigpjcnffgfgaaW.PrintLast Go.Proofs.YtnigpjcnffgfgaaW.PrintMore
attribute [local go_sem] max2_int min2_int max_two min_two max_three min_three max_four min_four   -- for this text's walks alone
set_option linter.unusedVariables false
set_option linter.unusedSimpArgs false
set_option maxHeartbeats 4000000 in
set_option maxRecDepth 100000 in
theorem notIs_bound (v : Value) (r : Bool) (g : Nat) (f : Value) (B : Nat) (eg : ∀ args w, (callFunc g args).run Try.prog w = .ok (.enter g args) w) (w : World)
  (hB : w.cell? ⟨B, 0, none⟩ = some (.func (.func g) #[f] #[]))
  (h : ∀ W : World, Below w.heap.size w W → Calls Try.prog g #[f, v] W fun e w' => e = .returned (.bool r) ∧ Drawn0 W w') :
  Gives 46 #[.pointer (some ⟨B, 0, none⟩)] v (!r) w := by
 intro W hW
 have hB' := (hW.cell (p := ⟨B, 0, none⟩) (World.block_lt_of_cell? w _ hB)).trans hB
 have h' := h W hW
 clear h hW hB
 show Calls Try.prog 46 #[v, .pointer (some ⟨B, 0, none⟩)] W _
 go_enter Try.func46, Try.ntmps46
 go_wp2_with fail
 refine h'.mono ?_
 rintro e w' ⟨rfl, ⟨q', rfl⟩⟩
 clear h' eg hB'
 go_wp2
 go_ret
 exact ⟨rfl, (show Drawn0 W _ by repeat (first | exact Drawn0.refl _ | apply Drawn0.step)).below⟩
set_option maxHeartbeats 4000000 in
set_option maxRecDepth 100000 in
theorem areAll_bound (A : Option Addr) (c : Nat) (l : List Int) (p : Int → Bool) (g : Nat) (f : Value) (eg : ∀ args w, (callFunc g args).run Try.prog w = .ok (.enter g args) w) (w : World)
  (hr : Kd.C (Kd.int .i64) w A l.length l)
  (h : ∀ (x : Int) (W : World), Below w.heap.size w W → Calls Try.prog g #[f, .int .i64 x] W fun e w' => e = .returned (.bool (p x)) ∧ Drawn0 W w') :
  Calls Try.prog 32 #[.slice A l.length c, .func (.func g) #[f] #[]] w fun e w' => e = .returned (.bool (l.all p)) ∧ Below w.heap.size w w' := by
 have ec : ∀ args w, (callFunc 46 args).run Try.prog w = .ok (.enter 46 args) w := enters_of Try.func46 (by kernel_rfl) rfl
 have hcell : (w.alloc (.cells #[.func (.func g) #[f] #[]] 36)).cell? ⟨w.heap.size, 0, none⟩ = some (.func (.func g) #[f] #[]) := by simp
 have hb : Below w.heap.size w (w.alloc (.cells #[.func (.func g) #[f] #[]] 36)) := (Below.refl _ w).alloc (Nat.le_refl _) _
 have HC := containsFunc_any A l.length c (fun j => !(p (rd l j))) (!(l.all p)) (by
   rw [Bool.not_eq_true', List.all_eq_false]
   constructor
   ·
    rintro ⟨x, hx, hp⟩
    obtain ⟨j, hj, rfl⟩ := List.getElem_of_mem hx
    exact ⟨j, hj, by simpa [rd, List.getD_eq_getElem?_getD, hj] using hp⟩
   ·
    rintro ⟨j, hj, hp⟩
    exact ⟨l[j], List.getElem_mem hj, by simpa [rd, List.getD_eq_getElem?_getD, hj] using hp⟩) 46 #[.pointer (some ⟨w.heap.size, 0, none⟩)] ec (w.alloc (.cells #[.func (.func g) #[f] #[]] 36)) (Kd.C_max hr)
  (fun j hj => by
   obtain ⟨ad, rfl, hc⟩ := Kd.at_int hr j (by omega) (by omega)
   exact ⟨ad, _, rfl, by simpa using pw_cell_below hb hc, notIs_bound _ (p (rd l j)) g f w.heap.size eg _ hcell fun W hW => h _ W (hb.trans (hW.mono (by simp)))⟩)
 clear h eg hcell ec
 generalize l.all p = r at HC ⊢
 go_enter Try.func32, Try.ntmps32
 go_wp2_with (go_at_call 45; refine HC.mono ?_; rintro e w' ⟨rfl, hb'⟩)
 go_ret
 exact ⟨by simp, hb.trans (hb'.mono (by simp))⟩
def hasB (p x : Int) : Bool := decide (0 ≤ x) && decide (x < p)
theorem has_hasB (p x : Int) (W : World) : Calls Try.prog 33 #[.int .i64 p, .int .i64 x] W fun e w' => e = .returned (.bool (hasB p x)) ∧ Drawn0 W w' :=
 impl_field_has.calls p x (hasB p x) W (by unfold impl_field_has.f hasB; by_cases h : x ≥ 0 <;> simp [h])
def impl_areAll_has.f (l0 : List Int) (a1 : Int) : Option Bool := some (l0.all (hasB a1))
theorem impl_areAll_has.calls (A0 : Option Addr) (c0 : Nat) (l0 : List Int) (a1 : Int) (r : Bool) (w : World) (hr0 : Kd.C (Kd.int .i64) w A0 l0.length l0) (hc0 : l0.length ≤ c0) (h : impl_areAll_has.f l0 a1 = some r) :
  Calls Try.prog 32 #[.slice A0 l0.length c0, .func (.func 33) #[.int .i64 a1] #[]] w fun e w' => e = .returned (.bool r) ∧ Below w.heap.size w w' := by
 obtain rfl := Option.some.inj h
 exact areAll_bound A0 c0 l0 (hasB a1) 33 (.int .i64 a1) (enters_of Try.func33 (by kernel_rfl) rfl) w hr0 (fun x W' _ => has_hasB a1 x W')
end Go.Proofs.Ytnigpjcnffgfgaa.H
namespace Go.Proofs.Ytnigpjcnffgfgaa.H
open Go.RowKit Go.Proofs.YtnigpjcnffgfgaaW.PrintWords Go.Proofs.YtnigpjcnffgfgaaW.PrintLast Go.Proofs.YtnigpjcnffgfgaaW.PrintMore
attribute [local go_sem] max2_int min2_int max_two min_two max_three min_three max_four min_four   -- for this text's walks alone
set_option linter.unusedVariables false
set_option linter.unusedSimpArgs false
open Go.Shelf Go.Sort
def compactI_ren : Go.Shelf.Ren := ⟨fun | 43 => 47 | n => n, fun | 22 => 22 | 23 => 2 | 3 => 3 | 4 => 4 | 0 => 0 | n => n, fun | n => n⟩
theorem compactI : Go.Proofs.SlLaysN.n43 Try.prog compactI_ren := {
 mixed := by kernel_rfl
 f43 := ⟨Try.f47.name, by decide, Try.func47.trans (congrArg some (by kernel_rfl))⟩
 t0 := Try.underlying0
 a0 := Try.isAgg0
 z0 := Try.sizeOf0
 v0 := Try.zeroValue0
 t3 := Try.underlying3
 a3 := Try.isAgg3
 z3 := Try.sizeOf3
 v3 := Try.zeroValue3
 t4 := Try.underlying4
 a4 := Try.isAgg4
 z4 := Try.sizeOf4
 v4 := Try.zeroValue4
 t22 := Try.underlying22
 a22 := Try.isAgg22
 z22 := Try.sizeOf22
 v22 := Try.zeroValue22
 t23 := Try.underlying2
 a23 := Try.isAgg2
 z23 := Try.sizeOf2
 v23 := Try.zeroValue2
 i23 := by kernel_rfl }
theorem compact_row (v : Value) (ss : List Int) (hz : ss.length ≤ 1000000) (B : Nat) (w : World) (hr : w.ownsRow B 2 1 v ss.length (ss.map (Value.int .i64))) (hB : B ≤ w.heap.size) :
  Calls Try.prog 47 #[v] w fun e w' => (∃ A c, e = .returned (.slice A (Lib.compact ss).length c)) ∧ Below B w w' := by
 rcases hr.2 with ⟨rfl, hz0⟩ | ⟨gb, cap, cur, rfl, hbase, hgb, r1, r2, r3, r4⟩
 ·
  have hss : ss = [] := List.eq_nil_of_length_eq_zero hz0
  subst hss
  have hs := AnyG.slices_Compact_int_empty compactI none 0 w
  change Calls Try.prog 47 _ _ _ at hs
  refine hs.mono ?_
  rintro e w' ⟨rfl, rfl⟩
  exact ⟨⟨_, _, rfl⟩, Below.refl _ _⟩
 ·
  have hH := holds_of_block_i hgb (by simpa using r4)
  have hs := AnyG.slices_Compact_int compactI gb 0 cap ss w hH (by omega) r1
  change Calls Try.prog 47 _ _ _ at hs
  refine hs.mono ?_
  rintro e w' ⟨rfl, q, rfl⟩
  have hg := grownBy_sorted_i (w := w) (g := gb) (n := q) (os := #[]) (Lib.compact ss ++ List.replicate (ss.length - (Lib.compact ss).length) 0).toArray
  simp only [grow, Array.append_empty] at hg
  exact ⟨⟨_, _, rfl⟩, (Below.refl _ _).grown hg hB (fun j hj => by cases hj; exact hbase)⟩
end Go.Proofs.Ytnigpjcnffgfgaa.H
namespace Go.Proofs.Ytnigpjcnffgfgaa.H
open Go.RowKit Go.Proofs.YtnigpjcnffgfgaaW.PrintWords Go.Proofs.YtnigpjcnffgfgaaW.PrintLast Go.Proofs.YtnigpjcnffgfgaaW.PrintMore
attribute [local go_sem] max2_int min2_int max_two min_two max_three min_three max_four min_four   -- for this text's walks alone
set_option linter.unusedVariables false
set_option linter.unusedSimpArgs false
attribute [local go_sem] Oper.semAt_some
open Go.Shelf
set_option maxRecDepth 100000 in
set_option maxHeartbeats 2000000 in
theorem values1_in (zs : List Int) (F : Fence) (n : Nat) (hF : F.fn 57) (hro : F.round = none) (hn : 1 ≤ n) (l Bs n₀ c : Nat) (A : Option Addr) (hlen : zs.length ≤ 9223372036854775807) (hBn : Bs < n₀) (J Jx : List Int → World → Prop)
  (hY : ∀ pre x W, J pre W → pre.length < zs.length → YieldAt F (n - 1) Try.prog l #[.int .i64 x] W fun e W' =>
   (e = .returned (.bool true) ∧ J (pre ++ [x]) W' ∧ Below n₀ W W') ∨ (e = .returned (.bool false) ∧ Jx (pre ++ [x]) W'))
  (W : World) (hBs : Boxed W Bs 22 (.slice A zs.length c)) (hC : ∀ W', Below n₀ W W' → ∀ j, j < zs.length → ∃ ad, A = some ad ∧ W'.cell? (ad.add j) = some (.int .i64 (rd zs (j : Nat)))) (h0 : J [] W) :
  CallsIn F n Try.prog 57 #[.func (.yield l) #[] #[], .pointer (some ⟨Bs, 0, none⟩)] W fun e W' => (∃ v, e = .returned v) ∧
   ((∃ ys, ys = zs ∧ J ys W') ∨ (∃ pre, True ∧ Jx pre W')) := by
 refine callsIn_of_wp Try.func57 rfl hF ?_ hro
 simp only [Try.ntmps57, List.size_toArray, List.length_cons, List.length_nil, Nat.reduceAdd, Nat.reduceSub, Array.replicate_succ, Array.replicate_zero, List.push_toArray, List.append_toArray, List.nil_append, List.cons_append]
 have hBs0 := hBs.cell
 gi_wp2
 gi_loopw [7] (fun i wr => ∃ k : Nat, k ≤ zs.length ∧ i = .int .i64 k ∧ J (zs.take k) wr ∧ Below n₀ W wr)
  (fun i _ => zs.length - (intOf i).toNat)
 case atStart => exact ⟨0, Nat.zero_le _, rfl, by simpa using h0, Below.refl _ _⟩
 case round =>
  obtain ⟨k, hk, rfl, hJs, hnx⟩ := hrel
  by_cases hlt : k < zs.length
  ·
   have hltz : (k : Int) < (zs.length : Int) := by omega
   obtain ⟨ad, rfl, hc⟩ := hC wr hnx k hlt
   obtain ⟨fn, tmps, assign, body, hy, hR⟩ := hY _ (rd zs (k : Nat)) wr hJs (by rw [List.length_take]; omega)
   have ht : zs.take k ++ [rd zs (k : Nat)] = zs.take (k + 1) := by
    rw [List.take_add_one, List.getElem?_eq_getElem hlt]
    simp [rd, hlt]
   rw [ht] at hR
   clear ht
   gi_wp2
   refine hR.mono ?_
   rintro e W3 (⟨rfl, hJ3, hk3⟩ | ⟨rfl, hJx3⟩)
   ·
    gi_wp2
    go_roundw
    case rel => exact ⟨k + 1, by omega, by simp, hJ3, hnx.trans hk3⟩
    case measure => simp [intOf]; omega
   ·
    gi_wp2
    refine bodyPost_ret (results_none rfl _ _ _) rfl ?_
    exact ⟨⟨_, rfl⟩, .inr ⟨_, trivial, hJx3⟩⟩
  ·
   obtain rfl : k = zs.length := by omega
   gi_wp2
   go_end0
   rw [List.take_length] at hJs
   exact ⟨⟨_, rfl⟩, .inl ⟨_, rfl, hJs⟩⟩
set_option maxHeartbeats 1000000 in
theorem values_in (F : Fence) (n : Nat) (hF : F.fn 49) (hro : F.round = none) (a : Option Addr) (len cap : Nat) (w : World) :
  CallsIn F n Try.prog 49 #[.slice a len cap] w fun e w' => e = .returned (.func (.func 57) #[] #[.pointer (some ⟨w.heap.size, 0, none⟩)]) ∧ w' = w.alloc (.cells #[.slice a len cap] 22) := by
 refine callsIn_of_wp Try.func49 rfl hF ?_ hro
 simp only [Try.ntmps49, List.size_toArray, List.length_cons, List.length_nil, Nat.reduceAdd, Nat.reduceSub, Array.replicate_succ, Array.replicate_zero, List.push_toArray, List.append_toArray, List.nil_append, List.cons_append]
 gi_wp2
 go_ret
 exact ⟨rfl, rfl⟩
theorem values_stops (zs : List Int) (F : Fence) (n : Nat) (hF : F.fn 57) (hro : F.round = none) (hn : 1 ≤ n) (Bs n₀ c : Nat) (A : Option Addr) (hlen : zs.length ≤ 9223372036854775807) (hBn : Bs < n₀) (w : World) (hBs : Bs < w.heap.size) (hn₀ : n₀ ≤ w.heap.size)
  (hc : Boxed w Bs 22 (.slice A zs.length c)) (hC : ∀ W', Below n₀ w W' → ∀ j, j < zs.length → ∃ ad, A = some ad ∧ W'.cell? (ad.add j) = some (.int .i64 (rd zs (j : Nat)))) :
  SeqStopsK F n Try.prog 57 #[.pointer (some ⟨Bs, 0, none⟩)] (fun x : Int => #[Value.int .i64 x]) (Below n₀) (fun ys => ys = zs) (fun _ => True) zs.length w := fun l J Jx W hW _ _ hY h0 =>
 values1_in zs F n hF hro hn l Bs n₀ c A hlen hBn J Jx hY W ((hW.block Bs hBs).trans hc) (fun W' hW' => hC W' ((hW.mono hn₀).trans hW')) h0
end Go.Proofs.Ytnigpjcnffgfgaa.H
namespace Go.Proofs.Ytnigpjcnffgfgaa.H
open Go.RowKit Go.Proofs.YtnigpjcnffgfgaaW.PrintWords Go.Proofs.YtnigpjcnffgfgaaW.PrintLast Go.Proofs.YtnigpjcnffgfgaaW.PrintMore
attribute [local go_sem] max2_int min2_int max_two min_two max_three min_three max_four min_four   -- for this text's walks alone
set_option linter.unusedVariables false
set_option linter.unusedSimpArgs false
attribute [local go_sem] Oper.semAt_some
open Go.Shelf
set_option maxRecDepth 100000 in
set_option maxHeartbeats 2000000 in
theorem appendSeq_values (zs : List Int) (hz : zs.length ≤ 1000000) (Bs c : Nat) (A : Option Addr) (w : World) (hBs : Boxed w Bs 22 (.slice A zs.length c)) (hC : Kd.C (Kd.int .i64) w A zs.length zs) :
  Calls Try.prog 59 #[.slice none 0 0, .func (.func 57) #[] #[.pointer (some ⟨Bs, 0, none⟩)]] w fun e W' =>
   ∃ v, e = .returned v ∧ W'.ownsRow w.heap.size 2 1 v zs.length (zs.map (Value.int .i64)) ∧ Below w.heap.size w W' := by
 refine (callsIn_wide (n := 3)).1 ?_
 have hmax : (1000000 : Nat) ≤ maxLen := by decide
 have hinf : (Try.prog.info? 2).map (fun i => (i.zero, i.size, i.bytes)) = some (some (.int .i64 0), 1, 8) := by kernel_rfl
 obtain ⟨i0, hi, hz0, hz1, hz2⟩ := info_parts hinf
 refine callsIn_of_wp_marks Try.func59 rfl trivial ?_ rfl
 simp only [Try.ntmps59, List.size_toArray, List.length_cons, List.length_nil, Nat.reduceAdd, Nat.reduceSub, Array.replicate_succ, Array.replicate_zero, List.push_toArray, List.append_toArray, List.nil_append, List.cons_append]
 gi_wp2
 have bO := Boxed.new w 22 (.slice none 0 0)
 have hB0 : Below w.heap.size w (w.alloc (.cells #[.slice none 0 0] 22)) := (Below.refl _ w).alloc (Nat.le_refl _) _
 have hBlt := hBs.lt
 have hBs' : Boxed (w.alloc (.cells #[.slice none 0 0] 22)) Bs 22 (.slice A zs.length c) := (hB0.block _ hBlt).trans hBs
 have hCC : ∀ W', Below w.heap.size (w.alloc (.cells #[.slice none 0 0] 22)) W' → ∀ j, j < zs.length → ∃ ad, A = some ad ∧ W'.cell? (ad.add j) = some (.int .i64 (rd zs (j : Nat))) := fun W' hW' j hj => by
  obtain ⟨ad, e, h⟩ := Kd.at_int (Kd.C_below hC (hB0.trans hW')) (j : Int) (by omega) (by omega)
  exact ⟨ad, e, by simpa using h⟩
 refine wpIn_rangeFunc_ownG rfl (by omega) (gf := 57) (lb := #[.pointer (some ⟨Bs, 0, none⟩)]) rfl trivial (enters_of Try.func57 (by kernel_rfl) rfl)
  (values_stops zs Fence.wide 2 trivial rfl (by omega) Bs w.heap.size c A (by omega) hBlt _ (by simp; omega) (by simp) hBs' hCC) belowK_t (belowK_b (by simp)) (Below.refl _ _) (fun _ => rfl)
  (fun (pre : List Int) W => (∃ v, Boxed W w.heap.size 22 v ∧ W.ownsRow w.heap.size 2 1 v pre.length (pre.map (Value.int .i64)) ∧ True) ∧ Below w.heap.size w W)
  (fun _ _ _ => False)
  (OwnFrom.and (Own.from (holdsRow_own w.heap.size w.heap.size 22 2 1 (fun (pre : List Int) => pre.length) (fun (pre : List Int) => pre.map (Value.int .i64)) (fun _ _ => True)) _) (ownFrom_below (Nat.le_refl _) (by simp)))
  (fun _ _ _ _ _ hs _ _ => hs)
  ⟨⟨_, bO, World.ownsRow_nil _ _ _ _, trivial⟩, hB0⟩
  (fun x => { tmps := #[.slice none 0 0, .func (.func 57) #[] #[.pointer (some ⟨Bs, 0, none⟩)], .pointer (some ⟨w.heap.size, 0, none⟩), undef, .slice none 0 0, .int .i64 x, .func (.func 57) #[] #[.pointer (some ⟨Bs, 0, none⟩)], .int .i64 x, undef, undef, undef, undef, undef], defers := [] }) ?assign ?body ?done ?stop
 case assign =>
  intro l x W K hK
  gi_wp2
  exact hK
 case body =>
  rintro l pre x W ⟨⟨v, hv, hrow, _⟩, hB⟩ hlt
  have hc := hv.cell
  gi_wp2_with (gi_at_builtin; refine wpListIn_append_own _ rfl _ _ 22 rfl w.heap.size 2 i0 (.int .i64 0) 1 8 Try.underlying22 hi hz0 hz1 hz2 rfl (by decide) _ _ _ rfl (hrow.alloc _) ⟨W.heap.size, 0, none⟩ 1 1 [.int .i64 x] rfl rfl (cell_one_new _ _ _) (by simp [Value.oneCell']) (by omega) (by omega) (by have := hB.size; simp; omega) ?_; intro v' w1 hown' hgrow _; obtain ⟨g', cap', rfl⟩ := ownsRow_succ hown'; obtain ⟨hv1, hv2, hr2, hk2, hb2⟩ := hv.appended (by decide) hrow hB.size (Nat.le_refl _) hown' hgrow; have hc1 := hv1.cell; have hf1 := hv1.frozen)
  exact ⟨hk2.from _, hb2, ⟨_, hv2, by simpa using hr2, trivial⟩, hB.trans hb2⟩
 case done =>
  rintro D ys W hD rfl ⟨⟨v, hv, hrow, _⟩, hB⟩ hK
  have hc := hv.cell
  gi_wp2
  refine ⟨by simp, .inl ⟨_, _, rfl, run_takeDeferred hK, ?_⟩⟩
  exact ⟨_, results_tmp rfl _ _ _, v, rfl, ownsRow_putObj hrow _ hK rfl, hB.trans (belowK_b (w := w) (Nat.le_refl _) W D _ _ (by simp at hD; omega) hK rfl rfl)⟩
 case stop =>
  rintro D c pre W _ _ h _
  exact h.elim
end Go.Proofs.Ytnigpjcnffgfgaa.H
namespace Go.Proofs.Ytnigpjcnffgfgaa.H
open Go.RowKit Go.Proofs.YtnigpjcnffgfgaaW.PrintWords Go.Proofs.YtnigpjcnffgfgaaW.PrintLast Go.Proofs.YtnigpjcnffgfgaaW.PrintMore
attribute [local go_sem] max2_int min2_int max_two min_two max_three min_three max_four min_four   -- for this text's walks alone
set_option linter.unusedVariables false
set_option linter.unusedSimpArgs false
open Go.Shelf
theorem collect_values (zs : List Int) (hz : zs.length ≤ 1000000) (Bs c : Nat) (A : Option Addr) (w : World) (hBs : Boxed w Bs 22 (.slice A zs.length c)) (hC : Kd.C (Kd.int .i64) w A zs.length zs) :
  Calls Try.prog 55 #[.func (.func 57) #[] #[.pointer (some ⟨Bs, 0, none⟩)]] w fun e W' =>
   ∃ v, e = .returned v ∧ W'.ownsRow w.heap.size 2 1 v zs.length (zs.map (Value.int .i64)) ∧ Below w.heap.size w W' := by
 have h := appendSeq_values zs hz Bs c A w hBs hC
 clear hBs hC
 go_enter Try.func55, Try.ntmps55
 go_wp2_with (go_at_call 59; refine h.mono ?_; rintro e w' ⟨v, rfl, hv, hb⟩)
 go_ret
 exact ⟨v, rfl, hv, hb⟩
end Go.Proofs.Ytnigpjcnffgfgaa.H
namespace Go.Proofs.Ytnigpjcnffgfgaa.H
open Go.RowKit Go.Proofs.YtnigpjcnffgfgaaW.PrintWords Go.Proofs.YtnigpjcnffgfgaaW.PrintLast Go.Proofs.YtnigpjcnffgfgaaW.PrintMore
attribute [local go_sem] max2_int min2_int max_two min_two max_three min_three max_four min_four   -- for this text's walks alone
set_option linter.unusedVariables false
set_option linter.unusedSimpArgs false
open Go.Shelf Go.Sort
def sortI_ren : Go.Shelf.Ren := ⟨fun | 5 => 56 | 8 => 61 | 7 => 60 | 19 => 71 | 20 => 72 | 10 => 62 | 11 => 63 | 12 => 64 | 13 => 65 | 14 => 66 | 15 => 67 | 16 => 68 | 17 => 69 | 18 => 70 | 30 => 73 | 31 => 74 | 32 => 75 | 33 => 76 | 34 => 77 | 35 => 78 | 40 => 79 | n => n, fun | 23 => 22 | 25 => 2 | 3 => 3 | 32 => 68 | 22 => 22 | 0 => 0 | 44 => 79 | 46 => 81 | 4 => 4 | 36 => 71 | 35 => 70 | 41 => 76 | 5 => 5 | 9 => 9 | 53 => 82 | 57 => 86 | 63 => 88 | 64 => 89 | n => n, fun | n => n⟩
theorem sortI : Go.Proofs.SlLaysM.n5 Try.prog sortI_ren := {
 mixed := by kernel_rfl
 f5 := ⟨Try.f56.name, by decide, Try.func56.trans (congrArg some (by kernel_rfl))⟩
 f7 := ⟨Try.f60.name, by decide, Try.func60.trans (congrArg some (by kernel_rfl))⟩
 f8 := Try.func61.trans (congrArg some (by kernel_rfl))
 f10 := ⟨Try.f62.name, by decide, Try.func62.trans (congrArg some (by kernel_rfl))⟩
 f11 := ⟨Try.f63.name, by decide, Try.func63.trans (congrArg some (by kernel_rfl))⟩
 f12 := ⟨Try.f64.name, by decide, Try.func64.trans (congrArg some (by kernel_rfl))⟩
 f13 := ⟨Try.f65.name, by decide, Try.func65.trans (congrArg some (by kernel_rfl))⟩
 f14 := ⟨Try.f66.name, by decide, Try.func66.trans (congrArg some (by kernel_rfl))⟩
 f15 := ⟨Try.f67.name, by decide, Try.func67.trans (congrArg some (by kernel_rfl))⟩
 f16 := ⟨Try.f68.name, by decide, Try.func68.trans (congrArg some (by kernel_rfl))⟩
 f17 := ⟨Try.f69.name, by decide, Try.func69.trans (congrArg some (by kernel_rfl))⟩
 f18 := ⟨Try.f70.name, by decide, Try.func70.trans (congrArg some (by kernel_rfl))⟩
 f19 := Try.func71.trans (congrArg some (by kernel_rfl))
 f20 := Try.func72.trans (congrArg some (by kernel_rfl))
 f30 := ⟨Try.f73.name, by decide, Try.func73.trans (congrArg some (by kernel_rfl))⟩
 f31 := Try.func74.trans (congrArg some (by kernel_rfl))
 f32 := Try.func75.trans (congrArg some (by kernel_rfl))
 f33 := ⟨Try.f76.name, by decide, Try.func76.trans (congrArg some (by kernel_rfl))⟩
 f34 := ⟨Try.f77.name, by decide, Try.func77.trans (congrArg some (by kernel_rfl))⟩
 f35 := ⟨Try.f78.name, by decide, Try.func78.trans (congrArg some (by kernel_rfl))⟩
 f40 := ⟨Try.f79.name, by decide, Try.func79.trans (congrArg some (by kernel_rfl))⟩
 t0 := Try.underlying0
 a0 := Try.isAgg0
 z0 := Try.sizeOf0
 v0 := Try.zeroValue0
 t3 := Try.underlying3
 a3 := Try.isAgg3
 z3 := Try.sizeOf3
 v3 := Try.zeroValue3
 t4 := Try.underlying4
 a4 := Try.isAgg4
 z4 := Try.sizeOf4
 v4 := Try.zeroValue4
 t5 := Try.underlying5
 a5 := Try.isAgg5
 z5 := Try.sizeOf5
 v5 := Try.zeroValue5
 t9 := Try.underlying9
 a9 := Try.isAgg9
 z9 := Try.sizeOf9
 v9 := Try.zeroValue9
 t22 := Try.underlying22
 a22 := Try.isAgg22
 z22 := Try.sizeOf22
 v22 := Try.zeroValue22
 t23 := Try.underlying22
 a23 := Try.isAgg22
 z23 := Try.sizeOf22
 v23 := Try.zeroValue22
 t25 := Try.underlying2
 a25 := Try.isAgg2
 z25 := Try.sizeOf2
 v25 := Try.zeroValue2
 t32 := Try.underlying68
 a32 := Try.isAgg68
 z32 := Try.sizeOf68
 v32 := Try.zeroValue68
 t35 := Try.underlying70
 a35 := Try.isAgg70
 z35 := Try.sizeOf70
 v35 := Try.zeroValue70
 t36 := Try.underlying71
 a36 := Try.isAgg71
 z36 := Try.sizeOf71
 v36 := Try.zeroValue71
 t41 := Try.underlying76
 a41 := Try.isAgg76
 z41 := Try.sizeOf76
 v41 := Try.zeroValue76
 t44 := Try.underlying79
 a44 := Try.isAgg79
 z44 := Try.sizeOf79
 v44 := Try.zeroValue79
 t46 := Try.underlying81
 a46 := Try.isAgg81
 z46 := Try.sizeOf81
 v46 := Try.zeroValue81
 t53 := Try.underlying82
 a53 := Try.isAgg82
 z53 := Try.sizeOf82
 v53 := Try.zeroValue82
 t57 := Try.underlying86
 a57 := Try.isAgg86
 z57 := Try.sizeOf86
 v57 := Try.zeroValue86
 t63 := Try.underlying88
 a63 := Try.isAgg88
 z63 := Try.sizeOf88
 v63 := Try.zeroValue88
 t64 := Try.underlying89
 a64 := Try.isAgg89
 z64 := Try.sizeOf89
 v64 := Try.zeroValue89 }
theorem sort_row (v : Value) (ss : List Int) (hz : ss.length ≤ 1000000) (B : Nat) (w : World) (hr : w.ownsRow B 2 1 v ss.length (ss.map (Value.int .i64))) (hB : B ≤ w.heap.size) :
  Calls Try.prog 56 #[v] w fun e w' => e = .returned (.tuple #[]) ∧ w'.ownsRow B 2 1 v ss.length ((ss.mergeSort fun x y => decide (x ≤ y)).map (Value.int .i64)) ∧ Below B w w' := by
 rcases hr.2 with ⟨rfl, hz0⟩ | ⟨gb, cap, cur, rfl, hbase, hgb, r1, r2, r3, r4⟩
 ·
  have hss : ss = [] := List.eq_nil_of_length_eq_zero hz0
  subst hss
  have hs := AnyM.slices_Sort_int_none sortI none 0 w
  change Calls Try.prog 56 _ _ _ at hs
  refine hs.mono ?_
  rintro e w' ⟨rfl, rfl⟩
  exact ⟨rfl, by simpa using hr, Below.refl _ _⟩
 ·
  have hH := holds_of_block_i hgb (by simpa using r4)
  have hgl := (Array.getElem?_eq_some_iff.1 hgb).1
  have hs := AnyM.slices_Sort_int sortI gb 0 cap ss w hH hgl (by omega)
  change Calls Try.prog 56 _ _ _ at hs
  refine hs.mono ?_
  rintro e w' ⟨rfl, n, os, rfl⟩
  exact ⟨rfl, ownsRow_sorted_i (by simp) hbase hgb r1 r2 r3, (Below.refl _ _).grown (grownBy_sorted_i _) hB (fun j hj => by cases hj; exact hbase)⟩
theorem sorted_values (zs : List Int) (hz : zs.length ≤ 1000000) (Bs c : Nat) (A : Option Addr) (w : World) (hBs : Boxed w Bs 22 (.slice A zs.length c)) (hC : Kd.C (Kd.int .i64) w A zs.length zs) :
  Calls Try.prog 48 #[.func (.func 57) #[] #[.pointer (some ⟨Bs, 0, none⟩)]] w fun e W' =>
   ∃ v, e = .returned v ∧ W'.ownsRow w.heap.size 2 1 v zs.length ((zs.mergeSort fun x y => decide (x ≤ y)).map (Value.int .i64)) ∧ Below w.heap.size w W' := by
 have h := collect_values zs hz Bs c A w hBs hC
 have h2 := fun v W hv hb => sort_row v zs hz w.heap.size W hv hb
 clear hBs hC
 go_enter Try.func48, Try.ntmps48
 go_wp2_with (first
  | (go_at_call 55; refine h.mono ?_; rintro e w1 ⟨v, rfl, hv, hb⟩; have h3 := h2 v w1 hv hb.size)
  | (go_at_call 56; refine h3.mono ?_; rintro e w2 ⟨rfl, hv2, hb2⟩))
 go_ret
 exact ⟨v, rfl, hv2, hb.trans hb2⟩
end Go.Proofs.Ytnigpjcnffgfgaa.H
