/- Joined texts of a claim: the printed functions and what is proved of them. -/
import Derived.Test.YtlmolloallhclaaYHx0
namespace Go.Proofs.Ytlmolloallhclaa.H
open Go.RowKit Go.Proofs.YtlmolloallhclaaW.PrintWords Go.Proofs.YtlmolloallhclaaW.PrintLast Go.Proofs.YtlmolloallhclaaW.PrintMore
attribute [local go_sem] max2_int min2_int max_two min_two max_three min_three max_four min_four   -- for this text's walks alone
set_option linter.unusedVariables false
set_option linter.unusedSimpArgs false
def impl_field_has.f (a0 : Int) (a1 : Int) : Option (Bool) := if a1 ≥ 0 then (some (decide (a1 < a0))) else (some false)
set_option maxHeartbeats 8000000 in
set_option maxRecDepth 100000 in
theorem impl_field_has.calls (a0 : Int) (a1 : Int) (r : Bool) (w : World) (h : impl_field_has.f a0 a1 = some r) :
  Calls Try.prog 78 #[.int .i64 a0, .int .i64 a1] w fun e w' => e = .returned (.bool r) ∧ Drawn0 w w' := by
 have H : (if a1 ≥ 0 then (some (decide (a1 < a0))) else (some false)) = some r := h
 clear h
 by_cases c3 : a1 ≥ 0
 ·
  rw [if_pos c3] at H
  have c3b0 : decide (0 ≤ a1) = true := decide_eq_true c3
  clear c3
  obtain rfl := Option.some.inj H
  go_enter Try.func78, Try.ntmps78
  go_wp2
  go_ret
  exact ⟨by first | rfl | (simp; done) | (simp [*]; done), by repeat (first | exact Drawn0.refl _ | apply Drawn0.step)⟩
 ·
  rw [if_neg c3] at H
  have c3b0 : decide (0 ≤ a1) = false := decide_eq_false c3
  clear c3
  obtain rfl := Option.some.inj H
  go_enter Try.func78, Try.ntmps78
  go_wp2
  go_ret
  exact ⟨by first | rfl | (simp; done) | (simp [*]; done), by repeat (first | exact Drawn0.refl _ | apply Drawn0.step)⟩
end Go.Proofs.Ytlmolloallhclaa.H
namespace Go.Proofs.Ytlmolloallhclaa.H
open Go.RowKit Go.Proofs.YtlmolloallhclaaW.PrintWords Go.Proofs.YtlmolloallhclaaW.PrintLast Go.Proofs.YtlmolloallhclaaW.PrintMore
attribute [local go_sem] max2_int min2_int max_two min_two max_three min_three max_four min_four   -- for this text's walks alone
set_option linter.unusedVariables false
set_option linter.unusedSimpArgs false
def impl_within.f (a0 : Int) (a1 : Int) (a2 : Int) : Option (Bool) := if a1 ≤ a0 then (some (decide (a0 ≤ a2))) else (some false)
set_option maxHeartbeats 8000000 in
set_option maxRecDepth 100000 in
theorem impl_within.calls (a0 : Int) (a1 : Int) (a2 : Int) (r : Bool) (w : World) (h : impl_within.f a0 a1 a2 = some r) :
  Calls Try.prog 114 #[.int .i64 a0, .int .i64 a1, .int .i64 a2] w fun e w' => e = .returned (.bool r) ∧ Drawn0 w w' := by
 have H : (if a1 ≤ a0 then (some (decide (a0 ≤ a2))) else (some false)) = some r := h
 clear h
 by_cases c4 : a1 ≤ a0
 ·
  rw [if_pos c4] at H
  have c4b0 : decide (a1 ≤ a0) = true := decide_eq_true c4
  clear c4
  obtain rfl := Option.some.inj H
  go_enter Try.func114, Try.ntmps114
  go_wp2
  go_ret
  exact ⟨by first | rfl | (simp; done) | (simp [*]; done), by repeat (first | exact Drawn0.refl _ | apply Drawn0.step)⟩
 ·
  rw [if_neg c4] at H
  have c4b0 : decide (a1 ≤ a0) = false := decide_eq_false c4
  clear c4
  obtain rfl := Option.some.inj H
  go_enter Try.func114, Try.ntmps114
  go_wp2
  go_ret
  exact ⟨by first | rfl | (simp; done) | (simp [*]; done), by repeat (first | exact Drawn0.refl _ | apply Drawn0.step)⟩
end Go.Proofs.Ytlmolloallhclaa.H
namespace Go.Proofs.Ytlmolloallhclaa.H
open Go.RowKit Go.Proofs.YtlmolloallhclaaW.PrintWords Go.Proofs.YtlmolloallhclaaW.PrintLast Go.Proofs.YtlmolloallhclaaW.PrintMore
attribute [local go_sem] max2_int min2_int max_two min_two max_three min_three max_four min_four   -- for this text's walks alone
set_option linter.unusedVariables false
set_option linter.unusedSimpArgs false
def Gives (g : Nat) (lb : Array Value) (v : Value) (r : Bool) (w : World) : Prop :=
 ∀ W : World, Below w.heap.size w W → Calls Try.prog g (#[v] ++ lb) W fun e w' => e = .returned (.bool r) ∧ Below W.heap.size W w'
theorem below_next {w W w' : World} (h : Below w.heap.size w W) (k : Below W.heap.size W w') : Below w.heap.size w w' := h.trans (k.mono h.size)
set_option maxHeartbeats 4000000 in
set_option maxRecDepth 100000 in
theorem indexFunc_any (A : Option Addr) (n c : Nat) (q : Nat → Bool) (g : Nat) (lb : Array Value) (eg : ∀ args w, (callFunc g args).run Try.prog w = .ok (.enter g args) w) (w : World)
  (hn : n ≤ 9223372036854775807) (h : ∀ j, j < n → ∃ ad v, A = some ad ∧ w.cell? (ad.add j) = some v ∧ Gives g lb v (q j) w) :
  Calls Try.prog 126 #[.slice A n c, .func (.func g) #[] lb] w fun e w' => (∃ i : Int, e = .returned (.int .i64 i) ∧ (0 ≤ i ↔ ∃ j, j < n ∧ q j = true)) ∧ Below w.heap.size w w' := by
 have HH := Aside0.mk h
 clear h
 go_enter Try.func126, Try.ntmps126
 go_wp2
 go_loopg [5, 8] n (fun gg _ s8 wr => ∃ kk : Nat, kk ≤ n ∧ n - kk ≤ gg ∧ s8 = .int .i64 kk ∧ Aside0 (∀ j, j < kk → q j = false) ∧ Aside0 (Below w.heap.size w wr))
 case atStart => exact ⟨0, Nat.zero_le _, by omega, rfl, ⟨fun j hj => absurd hj (Nat.not_lt_zero _)⟩, ⟨Below.refl _ _⟩⟩
 case round =>
  obtain ⟨kk, hkk, hg, rfl, HA, HB⟩ := hrel
  by_cases hlt : kk < n
  ·
   have hltz : (kk : Int) < (n : Int) := by omega
   obtain ⟨ad, v, rfl, hc, hcall⟩ := HH.out kk hlt
   have hcall' := hcall wr HB.out
   have hc' := pw_cell_below HB.out hc
   clear hcall hc
   cases hq : q kk with
   | true =>
    rw [hq] at hcall'
    have Hq := Aside0.mk hq
    clear hq HH
    go_wp2_with fail
    refine (hcall').mono ?_
    rintro e w' ⟨rfl, hb⟩
    have HB' := Aside0.mk (below_next HB.out hb)
    clear hcall' eg hb HB
    go_wp2
    go_ret
    exact ⟨⟨kk, rfl, by constructor; (intro _; exact ⟨kk, hlt, Hq.out⟩); (intro _; omega)⟩, HB'.out⟩
   | false =>
    rw [hq] at hcall'
    have Hq := Aside0.mk hq
    clear hq HH
    go_wp2_with fail
    refine (hcall').mono ?_
    rintro e w' ⟨rfl, hb⟩
    have HB' := Aside0.mk (below_next HB.out hb)
    clear hcall' eg hb HB
    go_wp2
    go_roundg (n - (kk + 1))
    case measure => omega
    case rel =>
     refine ⟨kk + 1, by omega, by omega, by go_num, ⟨fun j hj => ?_⟩, HB'⟩
     by_cases e : j = kk
     ·
      subst e; exact Hq.out
     ·
      exact HA.out j (by omega)
  ·
   have hltz : ¬ (kk : Int) < (n : Int) := by omega
   have : kk = n := by omega
   subst this
   go_wp2
   go_ret
   refine ⟨⟨-1, rfl, ?_⟩, HB.out⟩
   constructor
   ·
    intro h; omega
   ·
    rintro ⟨j, hj, hq⟩
    rw [HA.out j hj] at hq
    cases hq
end Go.Proofs.Ytlmolloallhclaa.H
namespace Go.Proofs.Ytlmolloallhclaa.H
open Go.RowKit Go.Proofs.YtlmolloallhclaaW.PrintWords Go.Proofs.YtlmolloallhclaaW.PrintLast Go.Proofs.YtlmolloallhclaaW.PrintMore
attribute [local go_sem] max2_int min2_int max_two min_two max_three min_three max_four min_four   -- for this text's walks alone
set_option linter.unusedVariables false
set_option linter.unusedSimpArgs false
set_option maxHeartbeats 4000000 in
set_option maxRecDepth 100000 in
theorem containsFunc_any (A : Option Addr) (n c : Nat) (q : Nat → Bool) (r : Bool) (hr : r = true ↔ ∃ j, j < n ∧ q j = true) (g : Nat) (lb : Array Value) (eg : ∀ args w, (callFunc g args).run Try.prog w = .ok (.enter g args) w) (w : World)
    (hn : n ≤ 9223372036854775807) (h : ∀ j, j < n → ∃ ad v, A = some ad ∧ w.cell? (ad.add j) = some v ∧ Gives g lb v (q j) w) :
    Calls Try.prog 118 #[.slice A n c, .func (.func g) #[] lb] w fun e w' => e = .returned (.bool r) ∧ Below w.heap.size w w' := by
  have HC := indexFunc_any A n c q g lb eg w hn h
  clear h eg
  have Hr := Aside0.mk hr
  clear hr
  cases r with
  | true =>
    have HC' : Calls Try.prog 126 #[.slice A n c, .func (.func g) #[] lb] w fun e w' => (∃ i : Int, e = .returned (.int .i64 i) ∧ 0 ≤ i) ∧ Below w.heap.size w w' :=
      HC.mono fun e w' ⟨⟨i, he, hi⟩, hd⟩ => ⟨⟨i, he, hi.2 (Hr.out.1 rfl)⟩, hd⟩
    clear HC
    go_enter Try.func118, Try.ntmps118
    go_wp2_with (go_at_call 126; refine HC'.mono ?_; rintro e w' ⟨⟨i, rfl, hi⟩, hb⟩)
    go_ret
    exact ⟨rfl, hb⟩
  | false =>
    have HC' : Calls Try.prog 126 #[.slice A n c, .func (.func g) #[] lb] w fun e w' => (∃ i : Int, e = .returned (.int .i64 i) ∧ i < 0) ∧ Below w.heap.size w w' :=
      HC.mono fun e w' ⟨⟨i, he, hi⟩, hd⟩ => ⟨⟨i, he, by
        rcases Int.lt_or_le i 0 with h | h
        · exact h
        · exact absurd (Hr.out.2 (hi.1 h)) (by simp)⟩, hd⟩
    clear HC
    go_enter Try.func118, Try.ntmps118
    go_wp2_with (go_at_call 126; refine HC'.mono ?_; rintro e w' ⟨⟨i, rfl, hi⟩, hb⟩)
    go_ret
    exact ⟨by have hn0 : ¬ 0 ≤ i := by omega
              simp [hn0], hb⟩
end Go.Proofs.Ytlmolloallhclaa.H
namespace Go.Proofs.Ytlmolloallhclaa.H
open Go.RowKit Go.Proofs.YtlmolloallhclaaW.PrintWords Go.Proofs.YtlmolloallhclaaW.PrintLast Go.Proofs.YtlmolloallhclaaW.PrintMore
attribute [local go_sem] max2_int min2_int max_two min_two max_three min_three max_four min_four   -- for this text's walks alone
set_option linter.unusedVariables false
set_option linter.unusedSimpArgs false
set_option maxHeartbeats 4000000 in
set_option maxRecDepth 100000 in
theorem notIs_bound (v : Value) (r : Bool) (g : Nat) (f : Value) (B : Nat) (eg : ∀ args w, (callFunc g args).run Try.prog w = .ok (.enter g args) w) (w : World)
  (hB : w.cell? ⟨B, 0, none⟩ = some (.func (.func g) #[f] #[]))
  (h : ∀ W : World, Below w.heap.size w W → Calls Try.prog g #[f, v] W fun e w' => e = .returned (.bool r) ∧ Drawn0 W w') :
  Gives 119 #[.pointer (some ⟨B, 0, none⟩)] v (!r) w := by
 intro W hW
 have hB' := (hW.cell (p := ⟨B, 0, none⟩) (World.block_lt_of_cell? w _ hB)).trans hB
 have h' := h W hW
 clear h hW hB
 show Calls Try.prog 119 #[v, .pointer (some ⟨B, 0, none⟩)] W _
 go_enter Try.func119, Try.ntmps119
 go_wp2_with fail
 refine h'.mono ?_
 rintro e w' ⟨rfl, ⟨q', rfl⟩⟩
 clear h' eg hB'
 go_wp2
 go_ret
 exact ⟨rfl, (show Drawn0 W _ by repeat (first | exact Drawn0.refl _ | apply Drawn0.step)).below⟩
set_option maxHeartbeats 4000000 in
set_option maxRecDepth 100000 in
theorem areAll_bound (A : Option Addr) (c : Nat) (l : List Int) (p : Int → Bool) (g : Nat) (f : Value) (eg : ∀ args w, (callFunc g args).run Try.prog w = .ok (.enter g args) w) (w : World)
  (hr : Kd.C (Kd.int .i64) w A l.length l)
  (h : ∀ (x : Int) (W : World), Below w.heap.size w W → Calls Try.prog g #[f, .int .i64 x] W fun e w' => e = .returned (.bool (p x)) ∧ Drawn0 W w') :
  Calls Try.prog 101 #[.slice A l.length c, .func (.func g) #[f] #[]] w fun e w' => e = .returned (.bool (l.all p)) ∧ Below w.heap.size w w' := by
 have ec : ∀ args w, (callFunc 119 args).run Try.prog w = .ok (.enter 119 args) w := enters_of Try.func119 (by kernel_rfl) rfl
 have hcell : (w.alloc (.cells #[.func (.func g) #[f] #[]] 71)).cell? ⟨w.heap.size, 0, none⟩ = some (.func (.func g) #[f] #[]) := by simp
 have hb : Below w.heap.size w (w.alloc (.cells #[.func (.func g) #[f] #[]] 71)) := (Below.refl _ w).alloc (Nat.le_refl _) _
 have HC := containsFunc_any A l.length c (fun j => !(p (rd l j))) (!(l.all p)) (by
   rw [Bool.not_eq_true', List.all_eq_false]
   constructor
   ·
    rintro ⟨x, hx, hp⟩
    obtain ⟨j, hj, rfl⟩ := List.getElem_of_mem hx
    exact ⟨j, hj, by simpa [rd, List.getD_eq_getElem?_getD, hj] using hp⟩
   ·
    rintro ⟨j, hj, hp⟩
    exact ⟨l[j], List.getElem_mem hj, by simpa [rd, List.getD_eq_getElem?_getD, hj] using hp⟩) 119 #[.pointer (some ⟨w.heap.size, 0, none⟩)] ec (w.alloc (.cells #[.func (.func g) #[f] #[]] 71)) (Kd.C_max hr)
  (fun j hj => by
   obtain ⟨ad, rfl, hc⟩ := Kd.at_int hr j (by omega) (by omega)
   exact ⟨ad, _, rfl, by simpa using pw_cell_below hb hc, notIs_bound _ (p (rd l j)) g f w.heap.size eg _ hcell fun W hW => h _ W (hb.trans (hW.mono (by simp)))⟩)
 clear h eg hcell ec
 generalize l.all p = r at HC ⊢
 go_enter Try.func101, Try.ntmps101
 go_wp2_with (go_at_call 118; refine HC.mono ?_; rintro e w' ⟨rfl, hb'⟩)
 go_ret
 exact ⟨by simp, hb.trans (hb'.mono (by simp))⟩
def hasB (p x : Int) : Bool := decide (0 ≤ x) && decide (x < p)
theorem has_hasB (p x : Int) (W : World) : Calls Try.prog 78 #[.int .i64 p, .int .i64 x] W fun e w' => e = .returned (.bool (hasB p x)) ∧ Drawn0 W w' :=
 impl_field_has.calls p x (hasB p x) W (by unfold impl_field_has.f hasB; by_cases h : x ≥ 0 <;> simp [h])
end Go.Proofs.Ytlmolloallhclaa.H
namespace Go.Proofs.Ytlmolloallhclaa.H
open Go.RowKit Go.Proofs.YtlmolloallhclaaW.PrintWords Go.Proofs.YtlmolloallhclaaW.PrintLast Go.Proofs.YtlmolloallhclaaW.PrintMore
attribute [local go_sem] max2_int min2_int max_two min_two max_three min_three max_four min_four   -- for this text's walks alone
set_option linter.unusedVariables false
set_option linter.unusedSimpArgs false
def impl_IsPoly.f (a0 : Int) (l1 : List Int) : Option Bool := some (decide (l1.length ≤ 25) && l1.all (hasB a0) && (decide (l1.length = 0) || decide (rd l1 ((l1.length : Int) - 1) ≠ 0)))
set_option maxHeartbeats 4000000 in
set_option maxRecDepth 100000 in
theorem impl_IsPoly.calls (a0 : Int) (A1 : Option Addr) (c1 : Nat) (l1 : List Int) (r : Bool) (w : World) (hr1 : Kd.C (Kd.int .i64) w A1 l1.length l1) (hc1 : l1.length ≤ c1) (h : impl_IsPoly.f a0 l1 = some r) :
  Calls Try.prog 85 #[.int .i64 a0, .slice A1 l1.length c1] w fun e w' => e = .returned (.bool r) ∧ Below w.heap.size w w' := by
 obtain rfl := Option.some.inj h
 clear h
 have eg : ∀ args w, (callFunc 78 args).run Try.prog w = .ok (.enter 78 args) w := enters_of Try.func78 (by kernel_rfl) rfl
 have HC := fun W (hW : Below w.heap.size w W) => areAll_bound A1 c1 l1 (hasB a0) 78 (.int .i64 a0) eg W (Kd.C_below hr1 hW) (fun x W' _ => has_hasB a0 x W')
 clear eg
 have HB := Aside0.mk (Below.refl w.heap.size w)
 by_cases h1 : l1.length ≤ 25
 ·
  have d1 : decide ((l1.length : Int) ≤ 25) = true := decide_eq_true (by omega)
  generalize ha : l1.all (hasB a0) = b at HC ⊢
  clear ha
  have HC' := HC w (Below.refl _ _)
  clear HC
  cases b with
  | false =>
   go_enter Try.func85, Try.ntmps85
   go_wp2_with (go_at_call 101; refine HC'.mono ?_; rintro e w' ⟨rfl, hb⟩)
   go_ret
   exact ⟨by simp, hb⟩
  | true =>
   by_cases h0 : l1.length = 0
   ·
    have d0 : (((l1.length : Nat) : Int) == 0) = true := by simp [h0]
    have d2 : decide (l1.length = 0) = true := decide_eq_true h0
    have H0 := Aside0.mk h0
    clear h0
    go_enter Try.func85, Try.ntmps85
    go_wp2_with (go_at_call 101; refine HC'.mono ?_; rintro e w' ⟨rfl, hb⟩)
    go_ret
    exact ⟨by simp [h1, H0.out], hb⟩
   ·
    have d0 : (((l1.length : Nat) : Int) == 0) = false := beq_eq_false_iff_ne.mpr (by omega)
    have q0 : 0 ≤ (l1.length : Int) - 1 := by omega
    have q1 : (l1.length : Int) - 1 < (l1.length : Int) := by omega
    obtain ⟨ad, rfl, hcell⟩ := Kd.at_int hr1 ((l1.length : Int) - 1) q0 q1
    rw [show ((l1.length : Int) - 1).toNat = l1.length - 1 by omega] at hcell
    clear hr1
    have H0 := Aside0.mk h0
    clear h0
    go_enter Try.func85, Try.ntmps85
    go_wp2_with (go_at_call 101; refine HC'.mono ?_; rintro e w' ⟨rfl, hb⟩; have hcell' := pw_cell_below hb hcell; clear hcell)
    go_ret
    exact ⟨by simp [h1, H0.out, bne, rd]; rfl, hb⟩
 ·
  have d1 : decide ((l1.length : Int) ≤ 25) = false := decide_eq_false (by omega)
  clear HC
  go_enter Try.func85, Try.ntmps85
  go_wp2
  go_ret
  exact ⟨by simp [h1], HB.out⟩
end Go.Proofs.Ytlmolloallhclaa.H
namespace Go.Proofs.Ytlmolloallhclaa.H
open Go.RowKit Go.Proofs.YtlmolloallhclaaW.PrintWords Go.Proofs.YtlmolloallhclaaW.PrintLast Go.Proofs.YtlmolloallhclaaW.PrintMore
attribute [local go_sem] max2_int min2_int max_two min_two max_three min_three max_four min_four   -- for this text's walks alone
set_option linter.unusedVariables false
set_option linter.unusedSimpArgs false
def impl_IsPrime.l0 : Nat → Int → Int → Option (Bool)
 | 0, _, _ => none
 | k + 1, x0, x3 => if (wrap64 (x3 * x3)) ≤ x0 then (if x3 = 0 then (none) else (if (Int.tmod x0 x3) = 0 then (some false) else (impl_IsPrime.l0 k x0 (wrap64 (x3 + 1))))) else (some true)
def impl_IsPrime.f (k : Nat) (a0 : Int) : Option (Bool) := (impl_within.f a0 2 10007).bind fun t169 => (if t169 = true then (impl_IsPrime.l0 k a0 2) else (some false))
set_option maxHeartbeats 8000000 in
set_option maxRecDepth 100000 in
theorem impl_IsPrime.calls (k : Nat) (a0 : Int) (r : Bool) (w : World) (h : impl_IsPrime.f k a0 = some r) :
  Calls Try.prog 86 #[.int .i64 a0] w fun e w' => e = .returned (.bool r) ∧ Drawn0 w w' := by
 have H : ((impl_within.f a0 2 10007).bind fun t169 => (if t169 = true then (impl_IsPrime.l0 k a0 2) else (some false))) = some r := h
 clear h
 replace H := Option.bind_eq_some_iff.mp H
 obtain ⟨t169, A20, H⟩ := H
 have A2 := Aside0.mk A20
 clear A20
 by_cases c3 : t169 = true
 ·
  subst c3
  have H1 : (impl_IsPrime.l0 k a0 2) = some r := by rw [if_pos rfl] at H; exact H
  clear H
  have H := H1
  clear H1
  have H' := Aside0.mk H
  clear H
  go_enter Try.func86, Try.ntmps86
  go_wp2_with (first | ((with_reducible refine gate_callee (f := 114) rfl ?_); refine goesM_ (some 5) rfl rfl Try.func114 #[.int .i64 a0, .int .i64 2, .int .i64 10007] rfl ?_; (with_reducible refine (impl_within.calls a0 2 10007 true _ A2.out).mono ?_); rintro e w' ⟨rfl, ⟨nd, rfl⟩⟩; refine ⟨_, rfl, ?_⟩))
  go_loopg [3] k (fun kq v3 w' => ∃ (x3_1 : Int), v3 = .int .i64 x3_1 ∧ Aside0 (impl_IsPrime.l0 kq a0 x3_1 = some r) ∧ Aside0 (kq ≤ k) ∧ Drawn0 w w')
  case atStart => exact ⟨(2), ea_, H', ⟨Nat.le_refl _⟩, by repeat (first | exact Drawn0.refl _ | apply Drawn0.step)⟩
  case round =>
   clear H'
   try clear c1
   try clear p2
   try clear c3
   obtain ⟨x3_1, rfl, HA, HK1, ⟨m1, rfl⟩⟩ := hrel
   cases gk with
   | zero => exact absurd HA.out (by simp [impl_IsPrime.l0])
   | succ k1 =>
    have H := HA.out
    clear HA
    simp only [impl_IsPrime.l0] at H
    by_cases c4 : (wrap64 (x3_1 * x3_1)) ≤ a0
    ·
     rw [if_pos c4] at H
     have c4b0 : decide ((wrap64 (x3_1 * x3_1)) ≤ a0) = true := decide_eq_true c4
     clear c4
     by_cases c5 : x3_1 = 0
     ·
      rw [if_pos c5] at H
      exact absurd H (by simp)
     ·
      rw [if_neg c5] at H
      have c5b0 : (x3_1 == 0) = false := beq_eq_false_iff_ne.mpr c5
      have c5b1 : (x3_1 != 0) = true := bne_iff_ne.mpr c5
      by_cases c6 : (Int.tmod a0 x3_1) = 0
      ·
       rw [if_pos c6] at H
       have c6b0 : ((Int.tmod a0 x3_1) == 0) = true := beq_iff_eq.mpr c6
       have c6b1 : ((Int.tmod a0 x3_1) != 0) = false := bne_eq_false_iff_eq.mpr c6
       clear c6
       obtain rfl := Option.some.inj H
       go_wp2
       go_ret
       exact ⟨by first | rfl | (simp; done) | (simp [*]; done), by repeat (first | exact Drawn0.refl _ | apply Drawn0.step)⟩
      ·
       rw [if_neg c6] at H
       have c6b0 : ((Int.tmod a0 x3_1) == 0) = false := beq_eq_false_iff_ne.mpr c6
       have c6b1 : ((Int.tmod a0 x3_1) != 0) = true := bne_iff_ne.mpr c6
       have H' := Aside0.mk H
       clear H
       go_wp2
       go_roundg k1
       case measure => have := HK1.out; omega
       case rel => exact ⟨(wrap64 (x3_1 + 1)), ea_, H', ⟨by have := HK1.out; omega⟩, by repeat (first | exact Drawn0.refl _ | apply Drawn0.step)⟩
    ·
     rw [if_neg c4] at H
     have c4b0 : decide ((wrap64 (x3_1 * x3_1)) ≤ a0) = false := decide_eq_false c4
     clear c4
     obtain rfl := Option.some.inj H
     go_wp2
     go_ret
     exact ⟨by first | rfl | (simp; done) | (simp [*]; done), by repeat (first | exact Drawn0.refl _ | apply Drawn0.step)⟩
 ·
  replace c3 := Bool.eq_false_iff.mpr c3
  subst c3
  have H1 : (some false) = some r := by rw [if_neg (show ¬ (false = true) by decide)] at H; exact H
  clear H
  have H := H1
  clear H1
  obtain rfl := Option.some.inj H
  go_enter Try.func86, Try.ntmps86
  go_wp2_with (first | ((with_reducible refine gate_callee (f := 114) rfl ?_); refine goesM_ (some 5) rfl rfl Try.func114 #[.int .i64 a0, .int .i64 2, .int .i64 10007] rfl ?_; (with_reducible refine (impl_within.calls a0 2 10007 false _ A2.out).mono ?_); rintro e w' ⟨rfl, ⟨nd, rfl⟩⟩; refine ⟨_, rfl, ?_⟩))
  go_ret
  exact ⟨by first | rfl | (simp; done) | (simp [*]; done), by repeat (first | exact Drawn0.refl _ | apply Drawn0.step)⟩
end Go.Proofs.Ytlmolloallhclaa.H
namespace Go.Proofs.Ytlmolloallhclaa.H
open Go.RowKit Go.Proofs.YtlmolloallhclaaW.PrintWords Go.Proofs.YtlmolloallhclaaW.PrintLast Go.Proofs.YtlmolloallhclaaW.PrintMore
attribute [local go_sem] max2_int min2_int max_two min_two max_three min_three max_four min_four   -- for this text's walks alone
set_option linter.unusedVariables false
set_option linter.unusedSimpArgs false
def impl_always.f  : Option (Bool) := some true
set_option maxHeartbeats 8000000 in
set_option maxRecDepth 100000 in
theorem impl_always.calls  (r : Bool) (w : World) (h : impl_always.f  = some r) :
  Calls Try.prog 44 #[] w fun e w' => e = .returned (.bool r) ∧ Drawn0 w w' := by
 have H : (some true) = some r := h
 clear h
 obtain rfl := Option.some.inj H
 go_enter Try.func44, Try.ntmps44
 go_wp2
 go_ret
 exact ⟨by first | rfl | (simp; done) | (simp [*]; done), by repeat (first | exact Drawn0.refl _ | apply Drawn0.step)⟩
end Go.Proofs.Ytlmolloallhclaa.H
namespace Go.Proofs.Ytlmolloallhclaa.H
open Go.RowKit Go.Proofs.YtlmolloallhclaaW.PrintWords Go.Proofs.YtlmolloallhclaaW.PrintLast Go.Proofs.YtlmolloallhclaaW.PrintMore
attribute [local go_sem] max2_int min2_int max_two min_two max_three min_three max_four min_four   -- for this text's walks alone
set_option linter.unusedVariables false
set_option linter.unusedSimpArgs false
set_option maxHeartbeats 4000000 in
set_option maxRecDepth 100000 in
theorem indexFunc2_any (A : Option Addr) (n c : Nat) (q : Nat → Bool) (g : Nat) (lb : Array Value) (eg : ∀ args w, (callFunc g args).run Try.prog w = .ok (.enter g args) w) (w : World)
  (hn : n ≤ 9223372036854775807) (h : ∀ j, j < n → ∃ ad v, A = some ad ∧ w.cell? (ad.add j) = some v ∧ Gives g lb v (q j) w) :
  Calls Try.prog 115 #[.slice A n c, .func (.func g) #[] lb] w fun e w' => (∃ i : Int, e = .returned (.int .i64 i) ∧ (0 ≤ i ↔ ∃ j, j < n ∧ q j = true)) ∧ Below w.heap.size w w' := by
 have HH := Aside0.mk h
 clear h
 go_enter Try.func115, Try.ntmps115
 go_wp2
 go_loopg [5, 8] n (fun gg _ s8 wr => ∃ kk : Nat, kk ≤ n ∧ n - kk ≤ gg ∧ s8 = .int .i64 kk ∧ Aside0 (∀ j, j < kk → q j = false) ∧ Aside0 (Below w.heap.size w wr))
 case atStart => exact ⟨0, Nat.zero_le _, by omega, rfl, ⟨fun j hj => absurd hj (Nat.not_lt_zero _)⟩, ⟨Below.refl _ _⟩⟩
 case round =>
  obtain ⟨kk, hkk, hg, rfl, HA, HB⟩ := hrel
  by_cases hlt : kk < n
  ·
   have hltz : (kk : Int) < (n : Int) := by omega
   obtain ⟨ad, v, rfl, hc, hcall⟩ := HH.out kk hlt
   have hcall' := hcall wr HB.out
   have hc' := pw_cell_below HB.out hc
   clear hcall hc
   cases hq : q kk with
   | true =>
    rw [hq] at hcall'
    have Hq := Aside0.mk hq
    clear hq HH
    go_wp2_with fail
    refine (hcall').mono ?_
    rintro e w' ⟨rfl, hb⟩
    have HB' := Aside0.mk (below_next HB.out hb)
    clear hcall' eg hb HB
    go_wp2
    go_ret
    exact ⟨⟨kk, rfl, by constructor; (intro _; exact ⟨kk, hlt, Hq.out⟩); (intro _; omega)⟩, HB'.out⟩
   | false =>
    rw [hq] at hcall'
    have Hq := Aside0.mk hq
    clear hq HH
    go_wp2_with fail
    refine (hcall').mono ?_
    rintro e w' ⟨rfl, hb⟩
    have HB' := Aside0.mk (below_next HB.out hb)
    clear hcall' eg hb HB
    go_wp2
    go_roundg (n - (kk + 1))
    case measure => omega
    case rel =>
     refine ⟨kk + 1, by omega, by omega, by go_num, ⟨fun j hj => ?_⟩, HB'⟩
     by_cases e : j = kk
     ·
      subst e; exact Hq.out
     ·
      exact HA.out j (by omega)
  ·
   have hltz : ¬ (kk : Int) < (n : Int) := by omega
   have : kk = n := by omega
   subst this
   go_wp2
   go_ret
   refine ⟨⟨-1, rfl, ?_⟩, HB.out⟩
   constructor
   ·
    intro h; omega
   ·
    rintro ⟨j, hj, hq⟩
    rw [HA.out j hj] at hq
    cases hq
end Go.Proofs.Ytlmolloallhclaa.H
namespace Go.Proofs.Ytlmolloallhclaa.H
open Go.RowKit Go.Proofs.YtlmolloallhclaaW.PrintWords Go.Proofs.YtlmolloallhclaaW.PrintLast Go.Proofs.YtlmolloallhclaaW.PrintMore
attribute [local go_sem] max2_int min2_int max_two min_two max_three min_three max_four min_four   -- for this text's walks alone
set_option linter.unusedVariables false
set_option linter.unusedSimpArgs false
set_option maxHeartbeats 4000000 in
set_option maxRecDepth 100000 in
theorem containsFunc2_any (A : Option Addr) (n c : Nat) (q : Nat → Bool) (r : Bool) (hr : r = true ↔ ∃ j, j < n ∧ q j = true) (g : Nat) (lb : Array Value) (eg : ∀ args w, (callFunc g args).run Try.prog w = .ok (.enter g args) w) (w : World)
    (hn : n ≤ 9223372036854775807) (h : ∀ j, j < n → ∃ ad v, A = some ad ∧ w.cell? (ad.add j) = some v ∧ Gives g lb v (q j) w) :
    Calls Try.prog 112 #[.slice A n c, .func (.func g) #[] lb] w fun e w' => e = .returned (.bool r) ∧ Below w.heap.size w w' := by
  have HC := indexFunc2_any A n c q g lb eg w hn h
  clear h eg
  have Hr := Aside0.mk hr
  clear hr
  cases r with
  | true =>
    have HC' : Calls Try.prog 115 #[.slice A n c, .func (.func g) #[] lb] w fun e w' => (∃ i : Int, e = .returned (.int .i64 i) ∧ 0 ≤ i) ∧ Below w.heap.size w w' :=
      HC.mono fun e w' ⟨⟨i, he, hi⟩, hd⟩ => ⟨⟨i, he, hi.2 (Hr.out.1 rfl)⟩, hd⟩
    clear HC
    go_enter Try.func112, Try.ntmps112
    go_wp2_with (go_at_call 115; refine HC'.mono ?_; rintro e w' ⟨⟨i, rfl, hi⟩, hb⟩)
    go_ret
    exact ⟨rfl, hb⟩
  | false =>
    have HC' : Calls Try.prog 115 #[.slice A n c, .func (.func g) #[] lb] w fun e w' => (∃ i : Int, e = .returned (.int .i64 i) ∧ i < 0) ∧ Below w.heap.size w w' :=
      HC.mono fun e w' ⟨⟨i, he, hi⟩, hd⟩ => ⟨⟨i, he, by
        rcases Int.lt_or_le i 0 with h | h
        · exact h
        · exact absurd (Hr.out.2 (hi.1 h)) (by simp)⟩, hd⟩
    clear HC
    go_enter Try.func112, Try.ntmps112
    go_wp2_with (go_at_call 115; refine HC'.mono ?_; rintro e w' ⟨⟨i, rfl, hi⟩, hb⟩)
    go_ret
    exact ⟨by have hn0 : ¬ 0 ≤ i := by omega
              simp [hn0], hb⟩
end Go.Proofs.Ytlmolloallhclaa.H
namespace Go.Proofs.Ytlmolloallhclaa.H
open Go.RowKit Go.Proofs.YtlmolloallhclaaW.PrintWords Go.Proofs.YtlmolloallhclaaW.PrintLast Go.Proofs.YtlmolloallhclaaW.PrintMore
attribute [local go_sem] max2_int min2_int max_two min_two max_three min_three max_four min_four   -- for this text's walks alone
set_option linter.unusedVariables false
set_option linter.unusedSimpArgs false
set_option maxHeartbeats 4000000 in
set_option maxRecDepth 100000 in
theorem notIs2_clos (v : Value) (r : Bool) (g : Nat) (lb : Array Value) (B : Nat) (eg : ∀ args w, (callFunc g args).run Try.prog w = .ok (.enter g args) w) (w : World)
  (hB : w.cell? ⟨B, 0, none⟩ = some (.func (.func g) #[] lb)) (h : Gives g lb v r w) :
  Gives 113 #[.pointer (some ⟨B, 0, none⟩)] v (!r) w := by
 intro W hW
 have hB' := (hW.cell (p := ⟨B, 0, none⟩) (World.block_lt_of_cell? w _ hB)).trans hB
 have h' := h W hW
 clear h hW hB
 show Calls Try.prog 113 #[v, .pointer (some ⟨B, 0, none⟩)] W _
 go_enter Try.func113, Try.ntmps113
 go_wp2_with fail
 refine h'.mono ?_
 rintro e w' ⟨rfl, hb⟩
 clear h' eg hB'
 go_wp2
 go_ret
 exact ⟨rfl, hb⟩
set_option maxHeartbeats 4000000 in
set_option maxRecDepth 100000 in
theorem areAll2_clos (A : Option Addr) (n c : Nat) (q : Nat → Bool) (r : Bool) (hr : r = true ↔ ∀ j, j < n → q j = true) (g : Nat) (lb : Array Value) (eg : ∀ args w, (callFunc g args).run Try.prog w = .ok (.enter g args) w) (w : World)
  (hn : n ≤ 9223372036854775807) (h : ∀ j, j < n → ∃ ad v, A = some ad ∧ w.cell? (ad.add j) = some v ∧ Gives g lb v (q j) w) :
  Calls Try.prog 83 #[.slice A n c, .func (.func g) #[] lb] w fun e w' => e = .returned (.bool r) ∧ Below w.heap.size w w' := by
 have ec : ∀ args w, (callFunc 113 args).run Try.prog w = .ok (.enter 113 args) w := enters_of Try.func113 (by kernel_rfl) rfl
 have hcell : (w.alloc (.cells #[.func (.func g) #[] lb] 75)).cell? ⟨w.heap.size, 0, none⟩ = some (.func (.func g) #[] lb) := by simp
 have hb : Below w.heap.size w (w.alloc (.cells #[.func (.func g) #[] lb] 75)) := (Below.refl _ w).alloc (Nat.le_refl _) _
 have HC := containsFunc2_any A n c (fun j => !(q j)) (!r) (by
   rw [Bool.not_eq_true']
   constructor
   ·
    intro hf
    refine Classical.byContradiction fun hne => ?_
    have : r = true := hr.2 fun j hj => by
     cases hq : q j with
     | true => rfl
     | false => exact absurd ⟨j, hj, by simp [hq]⟩ hne
    rw [this] at hf; cases hf
   ·
    rintro ⟨j, hj, hq⟩
    cases hr' : r with
    | false => rfl
    | true => have := hr.1 hr' j hj; rw [this] at hq; cases hq) 113 #[.pointer (some ⟨w.heap.size, 0, none⟩)] ec (w.alloc (.cells #[.func (.func g) #[] lb] 75)) hn
  (fun j hj => by
   obtain ⟨ad, v, rfl, hc, hg⟩ := h j hj
   exact ⟨ad, v, rfl, pw_cell_below hb hc, notIs2_clos v (q j) g lb w.heap.size eg _ hcell fun W hW => hg W (hb.trans (hW.mono (by simp)))⟩)
 clear h eg hcell ec hr
 go_enter Try.func83, Try.ntmps83
 go_wp2_with (go_at_call 112; refine HC.mono ?_; rintro e w' ⟨rfl, hb'⟩)
 go_ret
 exact ⟨by simp, hb.trans (hb'.mono (by simp))⟩
end Go.Proofs.Ytlmolloallhclaa.H
namespace Go.Proofs.Ytlmolloallhclaa.H
open Go.RowKit Go.Proofs.YtlmolloallhclaaW.PrintWords Go.Proofs.YtlmolloallhclaaW.PrintLast Go.Proofs.YtlmolloallhclaaW.PrintMore
attribute [local go_sem] max2_int min2_int max_two min_two max_three min_three max_four min_four   -- for this text's walks alone
set_option linter.unusedVariables false
set_option linter.unusedSimpArgs false
def polyB (p : Int) (l : List Int) : Bool := decide (l.length ≤ 25) && l.all (hasB p) && (decide (l.length = 0) || decide (rd l ((l.length : Int) - 1) ≠ 0))
theorem polyClos (p : Int) (A : Option Addr) (c : Nat) (l : List Int) (B : Nat) (w : World) (hB : w.cell? ⟨B, 0, none⟩ = some (.int .i64 p)) (hr : Kd.C (Kd.int .i64) w A l.length l) (hc : l.length ≤ c) :
  Gives 84 #[.pointer (some ⟨B, 0, none⟩)] (.slice A l.length c) (polyB p l) w := by
 intro W hW
 have hB' := (hW.cell (p := ⟨B, 0, none⟩) (World.block_lt_of_cell? w _ hB)).trans hB
 have hP := impl_IsPoly.calls p A c l (polyB p l) W (Kd.C_below hr hW) hc rfl
 clear hW hB hr
 show Calls Try.prog 84 #[.slice A l.length c, .pointer (some ⟨B, 0, none⟩)] W _
 go_enter Try.func84, Try.ntmps84
 go_wp2_with (go_at_call 85; refine hP.mono ?_; rintro e w' ⟨rfl, hb⟩)
 go_ret
 exact ⟨rfl, hb⟩
def Gives0 (g : Nat) (lb : Array Value) (r : Bool) (w : World) : Prop :=
 ∀ W : World, Below w.heap.size w W → Calls Try.prog g lb W fun e w' => e = .returned (.bool r) ∧ Below W.heap.size W w'
theorem always_gives (w : World) : Gives0 44 #[] true w := fun W _ => (impl_always.calls true W rfl).mono fun _ _ ⟨he, hd⟩ => ⟨he, hd.below⟩
set_option maxHeartbeats 4000000 in
set_option maxRecDepth 100000 in
theorem polyCode_any (k : Nat) (p : Int) (g : Nat) (lb : Array Value) (eg : ∀ args w, (callFunc g args).run Try.prog w = .ok (.enter g args) w) (b t : Bool) (P : Addr) (n c : Nat) (hn : n ≤ 9223372036854775807) (ok : Bool) (q : Nat → Bool) (hok : ok = true ↔ ∀ j, j < n → q j = true) (w : World)
  (hg : Gives0 g lb b w) (h : ∀ j, j < n → ∃ (A : Option Addr) (c : Nat) (l : List Int), w.cell? (P.add j) = some (.slice A l.length c) ∧ Kd.C (Kd.int .i64) w A l.length l ∧ l.length ≤ c ∧ q j = polyB p l) (ht : ok = true → impl_IsPrime.f k p = some t) :
  Calls Try.prog 43 #[.int .i64 p, .func (.func g) #[] lb, .slice (some P) n c] w fun e w' => e = .returned (.int .i64 (if ok = true then (if (t && b) = true then 0 else 2) else 1)) ∧ Below w.heap.size w w' := by
 have ec : ∀ args w, (callFunc 84 args).run Try.prog w = .ok (.enter 84 args) w := enters_of Try.func84 (by kernel_rfl) rfl
 have hcell : (w.alloc (.cells #[.int .i64 p] 2)).cell? ⟨w.heap.size, 0, none⟩ = some (.int .i64 p) := by simp
 have hb0 : Below w.heap.size w (w.alloc (.cells #[.int .i64 p] 2)) := (Below.refl _ w).alloc (Nat.le_refl _) _
 have HA := areAll2_clos (some P) n c q ok hok 84 #[.pointer (some ⟨w.heap.size, 0, none⟩)] ec (w.alloc (.cells #[.int .i64 p] 2)) hn (fun j hj => by
  obtain ⟨A, c, l, hc, hr, hlc, hq⟩ := h j hj
  exact ⟨P, _, rfl, pw_cell_below hb0 hc, hq ▸ polyClos p A c l _ _ hcell (Kd.C_below hr hb0) hlc⟩)
 clear h ec hok
 have Hb0 := Aside0.mk hb0
 clear hb0
 cases ok with
 | false =>
  clear hg eg hcell
  go_enter Try.func43, Try.ntmps43
  go_wp2_with (go_at_call 83; refine HA.mono ?_; rintro e w' ⟨rfl, hb⟩)
  go_ret
  exact ⟨rfl, Hb0.out.trans (hb.mono (by simp))⟩
 | true =>
  have HP := fun W => impl_IsPrime.calls k p t W (ht rfl)
  have Hc := Aside0.mk hcell
  clear ht hcell
  cases t with
  | false =>
   clear hg eg
   go_enter Try.func43, Try.ntmps43
   go_wp2_with (first | (go_at_call 83; refine HA.mono ?_; rintro e w' ⟨rfl, hb⟩; have hc' := pw_cell_below hb Hc.out; have Hb := Aside0.mk hb; clear hb HA) | (go_at_call 86; refine (HP _).mono ?_; rintro e w' ⟨rfl, ⟨nd, rfl⟩⟩))
   go_ret
   exact ⟨rfl, pw_below_drewN (Hb0.out.trans (Hb.out.mono (by simp))) _⟩
  | true =>
   have Hg := Aside0.mk hg
   clear hg
   cases b with
   | _ =>
    go_enter Try.func43, Try.ntmps43
    go_wp2_with (first | (go_at_call 83; refine HA.mono ?_; rintro e w' ⟨rfl, hb⟩; have hc' := pw_cell_below hb Hc.out; have Hb := Aside0.mk hb; clear hb HA) | (go_at_call 86; refine (HP _).mono ?_; clear HP; rintro e w' ⟨rfl, ⟨nd, rfl⟩⟩))
    have Hd := Aside0.mk (pw_below_drewN (Hb0.out.trans (Hb.out.mono (by simp))) nd)
    refine (Hg.out _ Hd.out).mono ?_
    rintro e w' ⟨rfl, hb⟩
    have He := Aside0.mk (below_next Hd.out hb)
    clear hb Hd Hb hc' Hc Hg eg
    go_wp2
    go_ret
    exact ⟨rfl, He.out⟩
def impl_polyCode_2.f (k : Nat) (a0 : Int) (a1 : Bool) (l2 l3 : List Int) : Option Int := if (polyB a0 l2 && polyB a0 l3) = true then (impl_IsPrime.f k a0).bind fun t => some (if (t && a1) = true then 0 else 2) else some 1
theorem impl_polyCode_2.calls (k : Nat) (a0 : Int) (a1 : Bool) (A2 : Option Addr) (c2 : Nat) (l2 : List Int) (A3 : Option Addr) (c3 : Nat) (l3 : List Int) (r : Int) (w : World) {g : Nat} {lb : Array Value} {P : Nat}
  (hr2 : Kd.C (Kd.int .i64) w A2 l2.length l2) (hc2 : l2.length ≤ c2) (hr3 : Kd.C (Kd.int .i64) w A3 l3.length l3) (hc3 : l3.length ≤ c3) (h : impl_polyCode_2.f k a0 a1 l2 l3 = some r) (eg : ∀ args w, (callFunc g args).run Try.prog w = .ok (.enter g args) w) (hg : Gives0 g lb a1 w) (hP : w.cell? ⟨P, 0, none⟩ = some (.slice A2 l2.length c2)) (hP1 : w.cell? ⟨P, 1, none⟩ = some (.slice A3 l3.length c3)) :
  Calls Try.prog 43 #[.int .i64 a0, .func (.func g) #[] lb, .slice (some ⟨P, 0, none⟩) 2 2] w fun e w' => e = .returned (.int .i64 r) ∧ Below w.heap.size w w' := by
 unfold impl_polyCode_2.f at h
 obtain ⟨t, ht, hv⟩ : ∃ t, ((polyB a0 l2 && polyB a0 l3) = true → impl_IsPrime.f k a0 = some t) ∧ r = (if (polyB a0 l2 && polyB a0 l3) = true then (if (t && a1) = true then 0 else 2) else 1) := by
  cases hq : (polyB a0 l2 && polyB a0 l3) with
  | false => rw [hq] at h; simp at h; exact ⟨true, by simp, by simp [h]⟩
  | true =>
   rw [hq] at h; simp only [if_true] at h
   obtain ⟨t, h1, h2⟩ := Option.bind_eq_some_iff.mp h
   exact ⟨t, fun _ => h1, by simpa using (Option.some.inj h2).symm⟩
 rw [hv]
 exact polyCode_any k a0 g lb eg a1 t ⟨P, 0, none⟩ 2 2 (by decide) (polyB a0 l2 && polyB a0 l3) (fun j => if j = 0 then polyB a0 l2 else polyB a0 l3)
  ⟨fun h j hj => by
   rw [Bool.and_eq_true] at h
   by_cases e : j = 0
   ·
    rw [if_pos e]; exact h.1
   ·
    rw [if_neg e]; exact h.2, fun h => by
   rw [Bool.and_eq_true]
   exact ⟨by simpa using h 0 (by decide), by simpa using h 1 (by decide)⟩⟩ w hg (fun j hj => by
  by_cases e : j = 0
  ·
   subst e; exact ⟨A2, c2, l2, by rw [add_plain]; exact hP, hr2, hc2, by rw [if_pos rfl]⟩
  ·
   obtain rfl : j = 1 := by omega
   exact ⟨A3, c3, l3, by rw [add_plain]; exact hP1, hr3, hc3, rfl⟩) ht
end Go.Proofs.Ytlmolloallhclaa.H
