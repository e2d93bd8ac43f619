/- Joined texts of a claim: the printed functions and what is proved of them. -/
import Derived.Test.YtiffnigjblbakaaYHx0
namespace Go.Proofs.Ytiffnigjblbakaa.H
open Go.RowKit Go.Proofs.YtiffnigjblbakaaW.PrintWords Go.Proofs.YtiffnigjblbakaaW.PrintLast Go.Proofs.YtiffnigjblbakaaW.PrintMore
attribute [local go_sem] max2_int min2_int max_two min_two max_three min_three max_four min_four   -- for this text's walks alone
set_option linter.unusedVariables false
set_option linter.unusedSimpArgs false
/-! ### impl_field_has: function 68 -/
def impl_field_has.f (a0 : Int) (a1 : Int) : Option (Bool) := if a1 ≥ 0 then (some (decide (a1 < a0))) else (some false)
set_option maxHeartbeats 8000000 in
set_option maxRecDepth 100000 in
theorem impl_field_has.calls (a0 : Int) (a1 : Int) (r : Bool) (w : World) (h : impl_field_has.f a0 a1 = some r) :
    Calls Try.prog 68 #[.int .i64 a0, .int .i64 a1] w fun e w' => e = .returned (.bool r) ∧ Drawn0 w w' := by
  have H : (if a1 ≥ 0 then (some (decide (a1 < a0))) else (some false)) = some r := h
  clear h
  by_cases c3 : a1 ≥ 0
  · rw [if_pos c3] at H
    have c3b0 : decide (0 ≤ a1) = true := decide_eq_true c3
    clear c3
    obtain rfl := Option.some.inj H
    go_enter Try.func68, Try.ntmps68
    go_wp2
    go_ret
    exact ⟨by first | rfl | (simp; done) | (simp [*]; done), by repeat (first | exact Drawn0.refl _ | apply Drawn0.step)⟩
  · rw [if_neg c3] at H
    have c3b0 : decide (0 ≤ a1) = false := decide_eq_false c3
    clear c3
    obtain rfl := Option.some.inj H
    go_enter Try.func68, Try.ntmps68
    go_wp2
    go_ret
    exact ⟨by first | rfl | (simp; done) | (simp [*]; done), by repeat (first | exact Drawn0.refl _ | apply Drawn0.step)⟩
end Go.Proofs.Ytiffnigjblbakaa.H
namespace Go.Proofs.Ytiffnigjblbakaa.H
open Go.RowKit Go.Proofs.YtiffnigjblbakaaW.PrintWords Go.Proofs.YtiffnigjblbakaaW.PrintLast Go.Proofs.YtiffnigjblbakaaW.PrintMore
attribute [local go_sem] max2_int min2_int max_two min_two max_three min_three max_four min_four   -- for this text's walks alone
set_option linter.unusedVariables false
set_option linter.unusedSimpArgs false
/-! ### impl_within: function 58 -/
def impl_within.f (a0 : Int) (a1 : Int) (a2 : Int) : Option (Bool) := if a1 ≤ a0 then (some (decide (a0 ≤ a2))) else (some false)
set_option maxHeartbeats 8000000 in
set_option maxRecDepth 100000 in
theorem impl_within.calls (a0 : Int) (a1 : Int) (a2 : Int) (r : Bool) (w : World) (h : impl_within.f a0 a1 a2 = some r) :
    Calls Try.prog 58 #[.int .i64 a0, .int .i64 a1, .int .i64 a2] w fun e w' => e = .returned (.bool r) ∧ Drawn0 w w' := by
  have H : (if a1 ≤ a0 then (some (decide (a0 ≤ a2))) else (some false)) = some r := h
  clear h
  by_cases c4 : a1 ≤ a0
  · rw [if_pos c4] at H
    have c4b0 : decide (a1 ≤ a0) = true := decide_eq_true c4
    clear c4
    obtain rfl := Option.some.inj H
    go_enter Try.func58, Try.ntmps58
    go_wp2
    go_ret
    exact ⟨by first | rfl | (simp; done) | (simp [*]; done), by repeat (first | exact Drawn0.refl _ | apply Drawn0.step)⟩
  · rw [if_neg c4] at H
    have c4b0 : decide (a1 ≤ a0) = false := decide_eq_false c4
    clear c4
    obtain rfl := Option.some.inj H
    go_enter Try.func58, Try.ntmps58
    go_wp2
    go_ret
    exact ⟨by first | rfl | (simp; done) | (simp [*]; done), by repeat (first | exact Drawn0.refl _ | apply Drawn0.step)⟩
end Go.Proofs.Ytiffnigjblbakaa.H
namespace Go.Proofs.Ytiffnigjblbakaa.H
open Go.RowKit Go.Proofs.YtiffnigjblbakaaW.PrintWords Go.Proofs.YtiffnigjblbakaaW.PrintLast Go.Proofs.YtiffnigjblbakaaW.PrintMore
attribute [local go_sem] max2_int min2_int max_two min_two max_three min_three max_four min_four   -- for this text's walks alone
set_option linter.unusedVariables false
set_option linter.unusedSimpArgs false
/-! ### impl_field_isUnit: function 95 -/
def impl_field_isUnit.f (a0 : Int) (a1 : Int) : Option (Bool) := (impl_within.f a1 1 (wrap64 (a0 - 1))).bind fun t142 => (some t142)
set_option maxHeartbeats 8000000 in
set_option maxRecDepth 100000 in
theorem impl_field_isUnit.calls (a0 : Int) (a1 : Int) (r : Bool) (w : World) (h : impl_field_isUnit.f a0 a1 = some r) :
    Calls Try.prog 95 #[.int .i64 a0, .int .i64 a1] w fun e w' => e = .returned (.bool r) ∧ Drawn0 w w' := by
  have H : ((impl_within.f a1 1 (wrap64 (a0 - 1))).bind fun t142 => (some t142)) = some r := h
  clear h
  replace H := Option.bind_eq_some_iff.mp H
  obtain ⟨t142, A30, H⟩ := H
  have A3 := Aside0.mk A30
  clear A30
  obtain rfl := Option.some.inj H
  go_enter Try.func95, Try.ntmps95
  go_wp2_with (first | ((with_reducible refine gate_callee (f := 58) rfl ?_); refine goesM_ (some 8) rfl rfl Try.func58 #[.int .i64 a1, .int .i64 1, .int .i64 (wrap64 (a0 - 1))] rfl ?_; (with_reducible refine (impl_within.calls a1 1 (wrap64 (a0 - 1)) t142 _ A3.out).mono ?_); rintro e w' ⟨rfl, ⟨nd, rfl⟩⟩; refine ⟨_, rfl, ?_⟩))
  go_ret
  exact ⟨by first | rfl | (simp; done) | (simp [*]; done), by repeat (first | exact Drawn0.refl _ | apply Drawn0.step)⟩
end Go.Proofs.Ytiffnigjblbakaa.H
namespace Go.Proofs.Ytiffnigjblbakaa.H
open Go.RowKit Go.Proofs.YtiffnigjblbakaaW.PrintWords Go.Proofs.YtiffnigjblbakaaW.PrintLast Go.Proofs.YtiffnigjblbakaaW.PrintMore
attribute [local go_sem] max2_int min2_int max_two min_two max_three min_three max_four min_four   -- for this text's walks alone
set_option linter.unusedVariables false
set_option linter.unusedSimpArgs false
/-! ### slices_IndexFunc_int64_int64_132: function 132 (by hand) -/
/-- what a function value answers at a value, in every later world -/
def Gives (g : Nat) (lb : Array Value) (v : Value) (r : Bool) (w : World) : Prop :=
  ∀ W : World, Below w.heap.size w W → Calls Try.prog g (#[v] ++ lb) W fun e w' => e = .returned (.bool r) ∧ Below W.heap.size W w'
theorem below_next {w W w' : World} (h : Below w.heap.size w W) (k : Below W.heap.size W w') : Below w.heap.size w w' := h.trans (k.mono h.size)
set_option maxHeartbeats 4000000 in
set_option maxRecDepth 100000 in
theorem indexFunc_any (A : Option Addr) (n c : Nat) (q : Nat → Bool) (g : Nat) (lb : Array Value) (eg : ∀ args w, (callFunc g args).run Try.prog w = .ok (.enter g args) w) (w : World)
    (hn : n ≤ 9223372036854775807) (h : ∀ j, j < n → ∃ ad v, A = some ad ∧ w.cell? (ad.add j) = some v ∧ Gives g lb v (q j) w) :
    Calls Try.prog 132 #[.slice A n c, .func (.func g) #[] lb] w fun e w' => (∃ i : Int, e = .returned (.int .i64 i) ∧ (0 ≤ i ↔ ∃ j, j < n ∧ q j = true)) ∧ Below w.heap.size w w' := by
  have HH := Aside0.mk h
  clear h
  go_enter Try.func132, Try.ntmps132
  go_wp2
  go_loopg [5, 8] n (fun gg _ s8 wr => ∃ kk : Nat, kk ≤ n ∧ n - kk ≤ gg ∧ s8 = .int .i64 kk ∧ Aside0 (∀ j, j < kk → q j = false) ∧ Aside0 (Below w.heap.size w wr))
  case atStart => exact ⟨0, Nat.zero_le _, by omega, rfl, ⟨fun j hj => absurd hj (Nat.not_lt_zero _)⟩, ⟨Below.refl _ _⟩⟩
  case round =>
    obtain ⟨kk, hkk, hg, rfl, HA, HB⟩ := hrel
    by_cases hlt : kk < n
    · have hltz : (kk : Int) < (n : Int) := by omega
      obtain ⟨ad, v, rfl, hc, hcall⟩ := HH.out kk hlt
      have hcall' := hcall wr HB.out
      have hc' := pw_cell_below HB.out hc
      clear hcall hc
      cases hq : q kk with
      | true =>
        rw [hq] at hcall'
        have Hq := Aside0.mk hq
        clear hq HH
        go_wp2_with fail
        refine (hcall').mono ?_
        rintro e w' ⟨rfl, hb⟩
        have HB' := Aside0.mk (below_next HB.out hb)
        clear hcall' eg hb HB
        go_wp2
        go_ret
        exact ⟨⟨kk, rfl, by constructor; (intro _; exact ⟨kk, hlt, Hq.out⟩); (intro _; omega)⟩, HB'.out⟩
      | false =>
        rw [hq] at hcall'
        have Hq := Aside0.mk hq
        clear hq HH
        go_wp2_with fail
        refine (hcall').mono ?_
        rintro e w' ⟨rfl, hb⟩
        have HB' := Aside0.mk (below_next HB.out hb)
        clear hcall' eg hb HB
        go_wp2
        go_roundg (n - (kk + 1))
        case measure => omega
        case rel =>
          refine ⟨kk + 1, by omega, by omega, by go_num, ⟨fun j hj => ?_⟩, HB'⟩
          by_cases e : j = kk
          · subst e; exact Hq.out
          · exact HA.out j (by omega)
    · have hltz : ¬ (kk : Int) < (n : Int) := by omega
      have : kk = n := by omega
      subst this
      go_wp2
      go_ret
      refine ⟨⟨-1, rfl, ?_⟩, HB.out⟩
      constructor
      · intro h; omega
      · rintro ⟨j, hj, hq⟩
        rw [HA.out j hj] at hq
        cases hq
end Go.Proofs.Ytiffnigjblbakaa.H
namespace Go.Proofs.Ytiffnigjblbakaa.H
open Go.RowKit Go.Proofs.YtiffnigjblbakaaW.PrintWords Go.Proofs.YtiffnigjblbakaaW.PrintLast Go.Proofs.YtiffnigjblbakaaW.PrintMore
attribute [local go_sem] max2_int min2_int max_two min_two max_three min_three max_four min_four   -- for this text's walks alone
set_option linter.unusedVariables false
set_option linter.unusedSimpArgs false
/-! ### slices_ContainsFunc_int64_int64_117: function 117 (by hand) -/
set_option maxHeartbeats 4000000 in
set_option maxRecDepth 100000 in
theorem containsFunc_any (A : Option Addr) (n c : Nat) (q : Nat → Bool) (r : Bool) (hr : r = true ↔ ∃ j, j < n ∧ q j = true) (g : Nat) (lb : Array Value) (eg : ∀ args w, (callFunc g args).run Try.prog w = .ok (.enter g args) w) (w : World)
    (hn : n ≤ 9223372036854775807) (h : ∀ j, j < n → ∃ ad v, A = some ad ∧ w.cell? (ad.add j) = some v ∧ Gives g lb v (q j) w) :
    Calls Try.prog 117 #[.slice A n c, .func (.func g) #[] lb] w fun e w' => e = .returned (.bool r) ∧ Below w.heap.size w w' := by
  have HC := indexFunc_any A n c q g lb eg w hn h
  clear h eg
  have Hr := Aside0.mk hr
  clear hr
  cases r with
  | true =>
    have HC' : Calls Try.prog 132 #[.slice A n c, .func (.func g) #[] lb] w fun e w' => (∃ i : Int, e = .returned (.int .i64 i) ∧ 0 ≤ i) ∧ Below w.heap.size w w' :=
      HC.mono fun e w' ⟨⟨i, he, hi⟩, hd⟩ => ⟨⟨i, he, hi.2 (Hr.out.1 rfl)⟩, hd⟩
    clear HC
    go_enter Try.func117, Try.ntmps117
    go_wp2_with (go_at_call 132; refine HC'.mono ?_; rintro e w' ⟨⟨i, rfl, hi⟩, hb⟩)
    go_ret
    exact ⟨rfl, hb⟩
  | false =>
    have HC' : Calls Try.prog 132 #[.slice A n c, .func (.func g) #[] lb] w fun e w' => (∃ i : Int, e = .returned (.int .i64 i) ∧ i < 0) ∧ Below w.heap.size w w' :=
      HC.mono fun e w' ⟨⟨i, he, hi⟩, hd⟩ => ⟨⟨i, he, by
        rcases Int.lt_or_le i 0 with h | h
        · exact h
        · exact absurd (Hr.out.2 (hi.1 h)) (by simp)⟩, hd⟩
    clear HC
    go_enter Try.func117, Try.ntmps117
    go_wp2_with (go_at_call 132; refine HC'.mono ?_; rintro e w' ⟨⟨i, rfl, hi⟩, hb⟩)
    go_ret
    exact ⟨by have hn0 : ¬ 0 ≤ i := by omega
              simp [hn0], hb⟩
end Go.Proofs.Ytiffnigjblbakaa.H
namespace Go.Proofs.Ytiffnigjblbakaa.H
open Go.RowKit Go.Proofs.YtiffnigjblbakaaW.PrintWords Go.Proofs.YtiffnigjblbakaaW.PrintLast Go.Proofs.YtiffnigjblbakaaW.PrintMore
attribute [local go_sem] max2_int min2_int max_two min_two max_three min_three max_four min_four   -- for this text's walks alone
set_option linter.unusedVariables false
set_option linter.unusedSimpArgs false
/-! ### impl_areAll_int64_67: function 67 (by hand) -/
def withinB (x a b : Int) : Bool := decide (a ≤ x) && decide (x ≤ b)
theorem within_withinB (x a b : Int) (W : World) : Calls Try.prog 58 #[.int .i64 x, .int .i64 a, .int .i64 b] W fun e w' => e = .returned (.bool (withinB x a b)) ∧ Drawn0 W w' :=
  impl_within.calls x a b (withinB x a b) W (by unfold impl_within.f withinB; by_cases h : a ≤ x <;> simp [h])
set_option maxHeartbeats 4000000 in
set_option maxRecDepth 100000 in
theorem notIs_bound (v : Value) (r : Bool) (g : Nat) (f : Value) (B : Nat) (eg : ∀ args w, (callFunc g args).run Try.prog w = .ok (.enter g args) w) (w : World)
    (hB : w.cell? ⟨B, 0, none⟩ = some (.func (.func g) #[f] #[]))
    (h : ∀ W : World, Below w.heap.size w W → Calls Try.prog g #[f, v] W fun e w' => e = .returned (.bool r) ∧ Drawn0 W w') :
    Gives 118 #[.pointer (some ⟨B, 0, none⟩)] v (!r) w := by
  intro W hW
  have hB' := (hW.cell (p := ⟨B, 0, none⟩) (World.block_lt_of_cell? w _ hB)).trans hB
  have h' := h W hW
  clear h hW hB
  show Calls Try.prog 118 #[v, .pointer (some ⟨B, 0, none⟩)] W _
  go_enter Try.func118, Try.ntmps118
  go_wp2_with fail
  refine h'.mono ?_
  rintro e w' ⟨rfl, ⟨q', rfl⟩⟩
  clear h' eg hB'
  go_wp2
  go_ret
  exact ⟨rfl, (show Drawn0 W _ by repeat (first | exact Drawn0.refl _ | apply Drawn0.step)).below⟩
set_option maxHeartbeats 4000000 in
set_option maxRecDepth 100000 in
theorem areAll_bound (A : Option Addr) (c : Nat) (l : List Int) (p : Int → Bool) (g : Nat) (f : Value) (eg : ∀ args w, (callFunc g args).run Try.prog w = .ok (.enter g args) w) (w : World)
    (hr : Kd.C (Kd.int .i64) w A l.length l)
    (h : ∀ (x : Int) (W : World), Below w.heap.size w W → Calls Try.prog g #[f, .int .i64 x] W fun e w' => e = .returned (.bool (p x)) ∧ Drawn0 W w') :
    Calls Try.prog 67 #[.slice A l.length c, .func (.func g) #[f] #[]] w fun e w' => e = .returned (.bool (l.all p)) ∧ Below w.heap.size w w' := by
  have ec : ∀ args w, (callFunc 118 args).run Try.prog w = .ok (.enter 118 args) w := enters_of Try.func118 (by kernel_rfl) rfl
  have hcell : (w.alloc (.cells #[.func (.func g) #[f] #[]] 79)).cell? ⟨w.heap.size, 0, none⟩ = some (.func (.func g) #[f] #[]) := by simp
  have hb : Below w.heap.size w (w.alloc (.cells #[.func (.func g) #[f] #[]] 79)) := (Below.refl _ w).alloc (Nat.le_refl _) _
  have HC := containsFunc_any A l.length c (fun j => !(p (rd l j))) (!(l.all p)) (by
      rw [Bool.not_eq_true', List.all_eq_false]
      constructor
      · rintro ⟨x, hx, hp⟩
        obtain ⟨j, hj, rfl⟩ := List.getElem_of_mem hx
        exact ⟨j, hj, by simpa [rd, List.getD_eq_getElem?_getD, hj] using hp⟩
      · rintro ⟨j, hj, hp⟩
        exact ⟨l[j], List.getElem_mem hj, by simpa [rd, List.getD_eq_getElem?_getD, hj] using hp⟩) 118 #[.pointer (some ⟨w.heap.size, 0, none⟩)] ec (w.alloc (.cells #[.func (.func g) #[f] #[]] 79)) (Kd.C_max hr)
    (fun j hj => by
      obtain ⟨ad, rfl, hc⟩ := Kd.at_int hr j (by omega) (by omega)
      exact ⟨ad, _, rfl, by simpa using pw_cell_below hb hc, notIs_bound _ (p (rd l j)) g f w.heap.size eg _ hcell fun W hW => h _ W (hb.trans (hW.mono (by simp)))⟩)
  clear h eg hcell ec
  generalize l.all p = r at HC ⊢
  go_enter Try.func67, Try.ntmps67
  go_wp2_with (go_at_call 117; refine HC.mono ?_; rintro e w' ⟨rfl, hb'⟩)
  go_ret
  exact ⟨by simp, hb.trans (hb'.mono (by simp))⟩
def hasB (p x : Int) : Bool := decide (0 ≤ x) && decide (x < p)
theorem has_hasB (p x : Int) (W : World) : Calls Try.prog 68 #[.int .i64 p, .int .i64 x] W fun e w' => e = .returned (.bool (hasB p x)) ∧ Drawn0 W w' :=
  impl_field_has.calls p x (hasB p x) W (by unfold impl_field_has.f hasB; by_cases h : x ≥ 0 <;> simp [h])
def unitB (p x : Int) : Bool := decide (1 ≤ x) && decide (x ≤ wrap64 (p - 1))
theorem unit_unitB (p x : Int) (W : World) : Calls Try.prog 95 #[.int .i64 p, .int .i64 x] W fun e w' => e = .returned (.bool (unitB p x)) ∧ Drawn0 W w' :=
  impl_field_isUnit.calls p x (unitB p x) W (by unfold impl_field_isUnit.f impl_within.f unitB; by_cases h : 1 ≤ x <;> simp [h])
end Go.Proofs.Ytiffnigjblbakaa.H
namespace Go.Proofs.Ytiffnigjblbakaa.H
open Go.RowKit Go.Proofs.YtiffnigjblbakaaW.PrintWords Go.Proofs.YtiffnigjblbakaaW.PrintLast Go.Proofs.YtiffnigjblbakaaW.PrintMore
attribute [local go_sem] max2_int min2_int max_two min_two max_three min_three max_four min_four   -- for this text's walks alone
set_option linter.unusedVariables false
set_option linter.unusedSimpArgs false
/-! ### impl_length_int64: function 120 -/
def impl_length_int64.f (l0 : List Int) : Option (Int) := some (l0.length : Int)
set_option maxHeartbeats 8000000 in
set_option maxRecDepth 100000 in
theorem impl_length_int64.calls (A0 : Option Addr) (c0 : Nat) (l0 : List Int) (r : Int) (w : World) (hr0 : Kd.C (Kd.int .i64) w A0 l0.length l0) (hc0 : l0.length ≤ c0) (h : impl_length_int64.f l0 = some r) :
    Calls Try.prog 120 #[.slice A0 l0.length c0] w fun e w' => e = .returned (.int .i64 r) ∧ Drawn0 w w' := by
  have HR0 := Aside0.mk hr0
  have HC0 := Aside0.mk hc0
  clear hr0 hc0
  have H : (some (l0.length : Int)) = some r := h
  clear h
  obtain rfl := Option.some.inj H
  go_enter Try.func120, Try.ntmps120
  go_wp2
  go_ret
  exact ⟨by first | rfl | (simp; done) | (simp [*]; done), by repeat (first | exact Drawn0.refl _ | apply Drawn0.step)⟩
end Go.Proofs.Ytiffnigjblbakaa.H
namespace Go.Proofs.Ytiffnigjblbakaa.H
open Go.RowKit Go.Proofs.YtiffnigjblbakaaW.PrintWords Go.Proofs.YtiffnigjblbakaaW.PrintLast Go.Proofs.YtiffnigjblbakaaW.PrintMore
attribute [local go_sem] max2_int min2_int max_two min_two max_three min_three max_four min_four   -- for this text's walks alone
set_option linter.unusedVariables false
set_option linter.unusedSimpArgs false
/-! ### impl_degree: function 85 -/
def impl_degree.f (l0 : List Int) : Option (Int) := (impl_length_int64.f l0).bind fun t617 => (some (wrap64 (t617 - 1)))
set_option maxHeartbeats 8000000 in
set_option maxRecDepth 100000 in
theorem impl_degree.calls (A0 : Option Addr) (c0 : Nat) (l0 : List Int) (r : Int) (w : World) (hr0 : Kd.C (Kd.int .i64) w A0 l0.length l0) (hc0 : l0.length ≤ c0) (h : impl_degree.f l0 = some r) :
    Calls Try.prog 85 #[.slice A0 l0.length c0] w fun e w' => e = .returned (.int .i64 r) ∧ Drawn0 w w' := by
  have HR0 := Aside0.mk hr0
  have HC0 := Aside0.mk hc0
  clear hr0 hc0
  have H : ((impl_length_int64.f l0).bind fun t617 => (some (wrap64 (t617 - 1)))) = some r := h
  clear h
  replace H := Option.bind_eq_some_iff.mp H
  obtain ⟨t617, A20, H⟩ := H
  have A2 := Aside0.mk A20
  clear A20
  obtain rfl := Option.some.inj H
  go_enter Try.func85, Try.ntmps85
  go_wp2_with (first | ((with_reducible refine gate_callee (f := 120) rfl ?_); refine goesM_ (some 4) rfl rfl Try.func120 #[.slice A0 l0.length c0] rfl ?_; (with_reducible refine (impl_length_int64.calls _ _ l0 t617 _ ?side1 ?side2 A2.out).mono ?_); (case side1 => exact cs (HR0.out)); (case side2 => exact HC0.out); rintro e w' ⟨rfl, ⟨nd, rfl⟩⟩; refine ⟨_, rfl, ?_⟩))
  go_ret
  exact ⟨by first | rfl | (simp; done) | (simp [*]; done), by repeat (first | exact Drawn0.refl _ | apply Drawn0.step)⟩
end Go.Proofs.Ytiffnigjblbakaa.H
namespace Go.Proofs.Ytiffnigjblbakaa.H
open Go.RowKit Go.Proofs.YtiffnigjblbakaaW.PrintWords Go.Proofs.YtiffnigjblbakaaW.PrintLast Go.Proofs.YtiffnigjblbakaaW.PrintMore
attribute [local go_sem] max2_int min2_int max_two min_two max_three min_three max_four min_four   -- for this text's walks alone
set_option linter.unusedVariables false
set_option linter.unusedSimpArgs false
/-! ### impl_field_mod: function 108 -/
def impl_field_mod.f (a0 : Int) (a1 : Int) : Option (Int) := if a0 = 0 then (none) else (some (Int.tmod (wrap64 ((Int.tmod a1 a0) + a0)) a0))
set_option maxHeartbeats 8000000 in
set_option maxRecDepth 100000 in
theorem impl_field_mod.calls (a0 : Int) (a1 : Int) (r : Int) (w : World) (h : impl_field_mod.f a0 a1 = some r) :
    Calls Try.prog 108 #[.int .i64 a0, .int .i64 a1] w fun e w' => e = .returned (.int .i64 r) ∧ Drawn0 w w' := by
  have H : (if a0 = 0 then (none) else (some (Int.tmod (wrap64 ((Int.tmod a1 a0) + a0)) a0))) = some r := h
  clear h
  by_cases c3 : a0 = 0
  · rw [if_pos c3] at H
    exact absurd H (by simp)
  · rw [if_neg c3] at H
    have c3b0 : (a0 == 0) = false := beq_eq_false_iff_ne.mpr c3
    have c3b1 : (a0 != 0) = true := bne_iff_ne.mpr c3
    obtain rfl := Option.some.inj H
    go_enter Try.func108, Try.ntmps108
    go_wp2
    go_ret
    exact ⟨by first | rfl | (simp; done) | (simp [*]; done), by repeat (first | exact Drawn0.refl _ | apply Drawn0.step)⟩
end Go.Proofs.Ytiffnigjblbakaa.H
namespace Go.Proofs.Ytiffnigjblbakaa.H
open Go.RowKit Go.Proofs.YtiffnigjblbakaaW.PrintWords Go.Proofs.YtiffnigjblbakaaW.PrintLast Go.Proofs.YtiffnigjblbakaaW.PrintMore
attribute [local go_sem] max2_int min2_int max_two min_two max_three min_three max_four min_four   -- for this text's walks alone
set_option linter.unusedVariables false
set_option linter.unusedSimpArgs false
/-! ### impl_trimmed: function 115 -/
def impl_trimmed.l0 : Nat → List Int → Option (List Int)
  | 0, _ => none
  | k + 1, x0 => if (x0.length : Int) > 0 then (if 0 ≤ (wrap64 ((x0.length : Int) - 1)) then (if (wrap64 ((x0.length : Int) - 1)) < (x0.length : Int) then (if (rd x0 (wrap64 ((x0.length : Int) - 1))) = 0 then (if (wrap64 ((x0.length : Int) - 1)) ≤ (x0.length : Int) then (impl_trimmed.l0 k (x0.take ((wrap64 ((x0.length : Int) - 1)) : Int).toNat)) else (none)) else (some x0)) else (none)) else (none)) else (some x0)
def impl_trimmed.f (k : Nat) (l0 : List Int) : Option (List Int) := impl_trimmed.l0 k l0
set_option maxHeartbeats 8000000 in
set_option maxRecDepth 100000 in
theorem impl_trimmed.calls (k : Nat) (P0_ : Nat → Prop) (u9000_ : Value) (l0 : List Int) (r : List Int) (w0 w : World) (hB : Below w0.heap.size w0 w) (ho0 : Kd.R (Kd.int .i64) 2 w w0.heap.size P0_ u9000_ l0) (h : impl_trimmed.f k l0 = some r) :
    Calls Try.prog 115 #[u9000_] w fun e w' => ∃ v0_ : Value, e = .returned (v0_) ∧ Kd.R (Kd.int .i64) 2 w' w0.heap.size (fun k_ => (P0_ k_ ∨ w.heap.size ≤ k_)) v0_ r ∧ Below w0.heap.size w0 w' ∧ Kept w w' (fun k_ => P0_ k_) := by
  have HO0 := Aside0.mk (show Kd.R (Kd.int .i64) 2 w w0.heap.size (fun k_ => (P0_ k_ ∨ w.heap.size ≤ k_)) u9000_ l0 from Kd.R_mono ho0 (fun k_ hk => (.inl hk)))
  have HK := Aside0.mk (Kept.refl w (fun k_ => P0_ k_))
  have HW0 := Aside0.mk hB.size
  have HB := Aside0.mk hB
  clear hB
  have H : (impl_trimmed.l0 k l0) = some r := h
  clear h
  have H' := Aside0.mk H
  clear H
  go_enter Try.func115, Try.ntmps115
  go_wp2
  go_loopg [0] k (fun kq v0 w' => ∃ (x0_1 : List Int), Aside0 (impl_trimmed.l0 kq x0_1 = some r) ∧ Aside0 (kq ≤ k) ∧ Aside0 (Kd.R (Kd.int .i64) 2 w' w0.heap.size (fun k_ => (P0_ k_ ∨ w.heap.size ≤ k_)) v0 x0_1) ∧ Aside0 (Kept w w' (fun k_ => P0_ k_)) ∧ Aside0 (Below w0.heap.size w0 w'))
  case atStart => exact ⟨(l0), H', ⟨Nat.le_refl _⟩, ⟨by (with_reducible repeat (first | apply Kd.R_alloc | apply Kd.R_drewN | apply Kd.R_drew)); exact HO0.out⟩, ⟨by repeat (first | (with_reducible first | exact HK.out | apply Kept.alloc | apply Kept.drewN | apply Kept.drew) | exact HK.out)⟩, ⟨by repeat (first | (with_reducible first | exact HB.out | apply below_alloc | apply pw_below_drewN | apply below_drew1) | exact HB.out)⟩⟩
  case round =>
    clear H'
    try clear c1
    obtain ⟨x0_1, HA, HK1, HO_0, HK, HB⟩ := hrel
    cases gk with
    | zero => exact absurd HA.out (by simp [impl_trimmed.l0])
    | succ k1 =>
      have H := HA.out
      clear HA
      simp only [impl_trimmed.l0] at H
      by_cases c2 : (x0_1.length : Int) > 0
      · rw [if_pos c2] at H
        have c2b0 : decide (0 < (x0_1.length : Int)) = true := decide_eq_true c2
        have c2b1 : decide (0 < x0_1.length) = true := decide_eq_true (by omega)
        clear c2
        obtain ⟨ji3, hji3⟩ : ∃ j_ : Int, (wrap64 ((x0_1.length : Int) - 1)) = j_ := ⟨_, rfl⟩
        replace H : (if 0 ≤ (ji3) then (if (ji3) < (x0_1.length : Int) then (if (rd x0_1 (ji3)) = 0 then (if (ji3) ≤ (x0_1.length : Int) then (impl_trimmed.l0 k1 (x0_1.take ((ji3) : Int).toNat)) else (none)) else (some x0_1)) else (none)) else (none)) = some r := by first | (rw [hji3] at H; exact H) | (simp only [hji3] at H ⊢; exact H)
        have hji3w : (IntKind.i64.wrap ((x0_1.length : Int) - 1)) = ji3 := (i64_w _).trans hji3
        by_cases c4 : 0 ≤ (ji3)
        · rw [if_pos c4] at H
          have c4b0 : decide (0 ≤ (ji3)) = true := decide_eq_true c4
          clear c4
          by_cases c5 : (ji3) < (x0_1.length : Int)
          · rw [if_pos c5] at H
            have c5b0 : decide ((ji3) < (x0_1.length : Int)) = true := decide_eq_true c5
            clear c5
            by_cases c6 : (rd x0_1 (ji3)) = 0
            · rw [if_pos c6] at H
              have c6b0 : ((rd x0_1 (ji3)) == 0) = true := beq_iff_eq.mpr c6
              have c6b1 : ((rd x0_1 (ji3)) != 0) = false := bne_eq_false_iff_eq.mpr c6
              clear c6
              by_cases c7 : (ji3) ≤ (x0_1.length : Int)
              · rw [if_pos c7] at H
                have c7b0 := eq_true c7
                have c7b1 : decide ((ji3) ≤ (x0_1.length : Int)) = true := decide_eq_true c7
                clear c7
                obtain ⟨y545, hy545⟩ : ∃ y_ : List Int, y_ = (x0_1.take ((ji3) : Int).toNat) := ⟨_, rfl⟩
                replace H : (impl_trimmed.l0 k1 y545) = some r := by first | (rw [hy545]; with_reducible exact H) | (have H2_ := (Option.bind_some _ _).symm.trans H; rw [hy545]; with_reducible exact H2_) | (have H2_ := (Option.bind_some _ _).symm.trans H; with_reducible exact H2_) | with_reducible exact H | (rw [hy545]; exact H) | exact H
                have Ny545 := Aside0.mk hy545
                clear hy545
                have H' := Aside0.mk H
                clear H
                obtain ⟨Ao8, co8, eo8⟩ := Kd.R_slice HO_0.out
                subst eo8
                have p544 : 0 ≤ ((ji3) : Int) := of_decide_eq_true (by first | (with_reducible assumption) | assumption)
                have q544 : (ji3) < (x0_1.length : Int) := of_decide_eq_true (by first | (with_reducible assumption) | assumption)
                obtain ⟨ad544, e544, hx544_0⟩ := Kd.at_int (Kd.R_reads' HO_0.out).2.2 (ji3) p544 q544
                cases e544
                replace p544 := eq_true p544
                replace q544 := eq_true q544
                have q9 : ((ji3) : Int) ≤ ((x0_1.length : Int) : Int) := of_decide_eq_true (by first | (with_reducible assumption) | assumption)
                obtain ⟨i09, hi09, _, hsz9, _⟩ := info_parts info2
                have hcut9 := cut_to (P := Try.prog) 22 2 .i64 Try.underlying22 hi09 (some ad544) x0_1.length co8 (ji3) (of_decide_eq_true (by first | (with_reducible assumption) | assumption)) q9 (Kd.R_reads' HO_0.out).2.1
                have hr9 := Kd.R_take (m := ((ji3) : Int).toNat) HO_0.out (by omega)
                have hy9 : y545.length = ((ji3) : Int).toNat := (by rw [Ny545.out, List.length_take]; omega)
                rw [← Ny545.out] at hr9
                rw [← hy9] at hr9 hcut9
                clear hy9 hi09 hsz9 HO_0
                have HO547 := Aside0.mk hr9
                clear hr9
                replace q9 := eq_true q9
                go_wp2
                go_roundg k1
                case measure => have := HK1.out; omega
                case rel => exact ⟨(y545), H', ⟨by have := HK1.out; omega⟩, ⟨by (with_reducible repeat (first | apply Kd.R_alloc | apply Kd.R_drewN | apply Kd.R_drew)); exact HO547.out⟩, ⟨by repeat (first | (with_reducible first | exact HK.out | apply Kept.alloc | apply Kept.drewN | apply Kept.drew) | exact HK.out)⟩, ⟨by repeat (first | (with_reducible first | exact HB.out | apply below_alloc | apply pw_below_drewN | apply below_drew1) | exact HB.out)⟩⟩
              · rw [if_neg c7] at H
                exact absurd H (by simp)
            · rw [if_neg c6] at H
              have c6b0 : ((rd x0_1 (ji3)) == 0) = false := beq_eq_false_iff_ne.mpr c6
              have c6b1 : ((rd x0_1 (ji3)) != 0) = true := bne_iff_ne.mpr c6
              obtain rfl := Option.some.inj H
              obtain ⟨Ao10, co10, eo10⟩ := Kd.R_slice HO_0.out
              subst eo10
              have p544 : 0 ≤ ((ji3) : Int) := of_decide_eq_true (by first | (with_reducible assumption) | assumption)
              have q544 : (ji3) < (x0_1.length : Int) := of_decide_eq_true (by first | (with_reducible assumption) | assumption)
              obtain ⟨ad544, e544, hx544_0⟩ := Kd.at_int (Kd.R_reads' HO_0.out).2.2 (ji3) p544 q544
              cases e544
              replace p544 := eq_true p544
              replace q544 := eq_true q544
              go_wp2
              go_ret
              exact ⟨_, by first | rfl | (simp [errW_none, errW_some] <;> rfl) | (simp only [← hji3]; first | rfl | (simp [errW_none, errW_some] <;> rfl)) | (simp [*, errW_none, errW_some] <;> rfl), by (with_reducible repeat (first | apply Kd.R_alloc | apply Kd.R_drewN | apply Kd.R_drew)); exact HO_0.out, by repeat (first | (with_reducible first | exact HB.out | apply below_alloc | apply pw_below_drewN | apply below_drew1) | exact HB.out), by repeat (first | (with_reducible first | exact HK.out | apply Kept.alloc | apply Kept.drewN | apply Kept.drew) | exact HK.out)⟩
          · rw [if_neg c5] at H
            exact absurd H (by simp)
        · rw [if_neg c4] at H
          exact absurd H (by simp)
      · rw [if_neg c2] at H
        have c2b0 : decide (0 < (x0_1.length : Int)) = false := decide_eq_false c2
        have c2b1 : decide (0 < x0_1.length) = false := decide_eq_false (by omega)
        clear c2
        obtain rfl := Option.some.inj H
        obtain ⟨Ao11, co11, eo11⟩ := Kd.R_slice HO_0.out
        subst eo11
        go_wp2
        go_ret
        exact ⟨_, by first | rfl | (simp [errW_none, errW_some] <;> rfl) | (simp [*, errW_none, errW_some] <;> rfl), by (with_reducible repeat (first | apply Kd.R_alloc | apply Kd.R_drewN | apply Kd.R_drew)); exact HO_0.out, by repeat (first | (with_reducible first | exact HB.out | apply below_alloc | apply pw_below_drewN | apply below_drew1) | exact HB.out), by repeat (first | (with_reducible first | exact HK.out | apply Kept.alloc | apply Kept.drewN | apply Kept.drew) | exact HK.out)⟩
end Go.Proofs.Ytiffnigjblbakaa.H
namespace Go.Proofs.Ytiffnigjblbakaa.H
open Go.RowKit Go.Proofs.YtiffnigjblbakaaW.PrintWords Go.Proofs.YtiffnigjblbakaaW.PrintLast Go.Proofs.YtiffnigjblbakaaW.PrintMore
attribute [local go_sem] max2_int min2_int max_two min_two max_three min_three max_four min_four   -- for this text's walks alone
set_option linter.unusedVariables false
set_option linter.unusedSimpArgs false
/-! ### impl_field_add: function 73 -/
def impl_field_add.l0 : Nat → Int → Int → List Int → List Int → Int → Int → Option (List Int)
  | 0, _, _, _, _, _, _ => none
  | k + 1, x0, x3, x9, x21, x22, x23 => if x23 < x22 then (if 0 ≤ x23 then (if x23 < (x21.length : Int) then (if x23 < (x9.length : Int) then ((impl_field_mod.f x0 (wrap64 ((rd x9 x23) + (wrap64 (x3 * (rd x21 x23)))))).bind fun t643 => (impl_field_add.l0 k x0 x3 (x9.set (x23 : Int).toNat t643) x21 x22 (wrap64 (x23 + 1)))) else (none)) else (none)) else (none)) else ((impl_trimmed.f k x9).bind fun t645 => (some t645))
def impl_field_add.f (k : Nat) (a0 : Int) (l1 : List Int) (l2 : List Int) (a3 : Int) : Option (List Int) := if (l1.length : Int) < (l2.length : Int) then (if 0 ≤ (l2.length : Int) then (if ((l2.length : Int) : Int).toNat ≤ 35184372088832 then (impl_field_add.l0 k a0 a3 (cpInto (List.replicate ((l2.length : Int) : Int).toNat 0) l1) l2 (l2.length : Int) 0) else (none)) else (none)) else (if 0 ≤ (l1.length : Int) then (if ((l1.length : Int) : Int).toNat ≤ 35184372088832 then (impl_field_add.l0 k a0 a3 (cpInto (List.replicate ((l1.length : Int) : Int).toNat 0) l1) l2 (l2.length : Int) 0) else (none)) else (none))
set_option maxHeartbeats 8000000 in
set_option maxRecDepth 100000 in
theorem impl_field_add.calls (k : Nat) (a0 : Int) (A1 : Option Addr) (c1 : Nat) (l1 : List Int) (A2 : Option Addr) (c2 : Nat) (l2 : List Int) (a3 : Int) (r : List Int) (w : World) (hr1 : Kd.C (Kd.int .i64) w A1 l1.length l1) (hc1 : l1.length ≤ c1) (hr2 : Kd.C (Kd.int .i64) w A2 l2.length l2) (hc2 : l2.length ≤ c2) (h : impl_field_add.f k a0 l1 l2 a3 = some r) :
    Calls Try.prog 73 #[.int .i64 a0, .slice A1 l1.length c1, .slice A2 l2.length c2, .int .i64 a3] w fun e w' => ∃ v0_ : Value, e = .returned (v0_) ∧ Kd.R (Kd.int .i64) 2 w' w.heap.size (fun _ => True) v0_ r ∧ Below w.heap.size w w' := by
  have HR1 := Aside0.mk hr1
  have HC1 := Aside0.mk hc1
  clear hr1 hc1
  have HR2 := Aside0.mk hr2
  have HC2 := Aside0.mk hc2
  clear hr2 hc2
  have HB := Aside0.mk (Below.refl w.heap.size w)
  have H : (if (l1.length : Int) < (l2.length : Int) then (if 0 ≤ (l2.length : Int) then (if ((l2.length : Int) : Int).toNat ≤ 35184372088832 then (impl_field_add.l0 k a0 a3 (cpInto (List.replicate ((l2.length : Int) : Int).toNat 0) l1) l2 (l2.length : Int) 0) else (none)) else (none)) else (if 0 ≤ (l1.length : Int) then (if ((l1.length : Int) : Int).toNat ≤ 35184372088832 then (impl_field_add.l0 k a0 a3 (cpInto (List.replicate ((l1.length : Int) : Int).toNat 0) l1) l2 (l2.length : Int) 0) else (none)) else (none))) = some r := h
  clear h
  by_cases c5 : (l1.length : Int) < (l2.length : Int)
  · rw [if_pos c5] at H
    have c5i := eq_true c5
    have c5b0 : decide ((l1.length : Int) < (l2.length : Int)) = true := decide_eq_true c5
    have c5b1 : decide (l1.length < l2.length) = true := decide_eq_true (Int.ofNat_lt.mp c5)
    clear c5
    by_cases c6 : 0 ≤ (l2.length : Int)
    · rw [if_pos c6] at H
      have c6b0 := eq_true c6
      have c6b1 : decide (0 ≤ (l2.length : Int)) = true := decide_eq_true c6
      clear c6
      by_cases c7 : ((l2.length : Int) : Int).toNat ≤ 35184372088832
      · rw [if_pos c7] at H
        have c7b0 := eq_true c7
        have c7b1 : decide (((l2.length : Int) : Int).toNat ≤ 35184372088832) = true := decide_eq_true c7
        clear c7
        obtain ⟨y638, hy638⟩ : ∃ y_ : List Int, y_ = (cpInto (List.replicate ((l2.length : Int) : Int).toNat 0) l1) := ⟨_, rfl⟩
        replace H : (impl_field_add.l0 k a0 a3 y638 l2 (l2.length : Int) 0) = some r := by first | (rw [hy638]; with_reducible exact H) | (have H2_ := (Option.bind_some _ _).symm.trans H; rw [hy638]; with_reducible exact H2_) | (have H2_ := (Option.bind_some _ _).symm.trans H; with_reducible exact H2_) | with_reducible exact H | (rw [hy638]; exact H) | exact H
        have Ny638 := Aside0.mk hy638
        clear hy638
        have H' := Aside0.mk H
        clear H
        go_enter Try.func73, Try.ntmps73
        go_wp2_with (first | ((with_reducible refine gate_dst (N := 17) rfl ?_); refine Kd.R_make (Kd.int .i64) _ 2 rfl (N := 17) rfl 22 _ _ rfl (l2.length : Int) rfl rfl Try.underlying22 (.int .i64 0) 8 info2 rfl (by decide) (by omega) 0 (ok := fun _ => True) (okp := fun _ => True) rfl (fun _ hk => hk) trivial (of_decide_eq_true (by first | (with_reducible assumption) | assumption)) (Nat.le_trans (Nat.mul_le_mul_right _ (of_decide_eq_true (by first | (with_reducible assumption) | assumption) : (l2.length : Int).toNat ≤ 35184372088832)) (by omega)) (Below.refl _ _) (Nat.le_refl _) ?_; intro v639 w8 ho9 hb hg_ hnew_; clear hg_ hnew_; have n0_ := Aside0.mk (Kd.R_lower ho9 (below_size (bs HB))); have n1_ := Aside0.mk (below_step (bs HB) hb); clear HB; have HPy638 := n0_; have HB := n1_; clear n0_ n1_; clear hb ho9) | ((with_reducible refine gate_builtin (b := .copy) rfl ?_); refine copy_into rfl _ _ _ rfl Try.underlying22 (by kernel_rfl) l1 rfl rfl HPy638.out ?cpR ?cpM HB.out ?_; (case cpR => exact Kd.C_below HR1.out HB.out); (case cpM => (first | (simp; done) | (simp only [List.length_replicate, Int.toNat_natCast]; exact Nat.le_of_lt (of_decide_eq_true (by assumption))))); intro wcp hcp hbb; have HO640 := Aside0.mk hcp; (rw [← Ny638.out] at HO640); clear HB; have HB := Aside0.mk hbb; clear hcp hbb HPy638))
        go_loopg [23] k (fun kq v23 w' => ∃ (x9_1 : List Int) (x23_1 : Int), v23 = .int .i64 x23_1 ∧ Aside0 (impl_field_add.l0 kq a0 a3 x9_1 l2 (l2.length : Int) x23_1 = some r) ∧ Aside0 (kq ≤ k) ∧ Aside0 (Kd.R (Kd.int .i64) 2 w' w.heap.size (fun _ => True) v639 x9_1) ∧ Aside0 (Below w.heap.size w w'))
        case atStart => exact ⟨(y638), (0), ea_, H', ⟨Nat.le_refl _⟩, ⟨by (with_reducible repeat (first | apply Kd.R_alloc | apply Kd.R_drewN | apply Kd.R_drew)); exact HO640.out⟩, ⟨by repeat (first | (with_reducible first | exact HB.out | apply below_alloc | apply pw_below_drewN | apply below_drew1) | exact HB.out)⟩⟩
        case round =>
          clear H'
          try clear c1
          try clear c2
          try clear p2
          try clear c5
          try clear c5b0
          try clear c5b1
          try clear c6
          try clear c6b0
          try clear c6b1
          try clear c7
          try clear c7b0
          try clear c7b1
          obtain ⟨x9_1, x23_1, rfl, HA, HK1, HO_9, HB⟩ := hrel
          cases gk with
          | zero => exact absurd HA.out (by simp [impl_field_add.l0])
          | succ k1 =>
            have H := HA.out
            clear HA
            simp only [impl_field_add.l0] at H
            by_cases c10 : x23_1 < (l2.length : Int)
            · rw [if_pos c10] at H
              have c10b0 : decide (x23_1 < (l2.length : Int)) = true := decide_eq_true c10
              clear c10
              by_cases c11 : 0 ≤ x23_1
              · rw [if_pos c11] at H
                have c11b0 : decide (0 ≤ x23_1) = true := decide_eq_true c11
                clear c11
                by_cases c12 : x23_1 < (l2.length : Int)
                · rw [if_pos c12] at H
                  have c12b0 : decide (x23_1 < (l2.length : Int)) = true := decide_eq_true c12
                  clear c12
                  by_cases c13 : x23_1 < (x9_1.length : Int)
                  · rw [if_pos c13] at H
                    have c13b0 : decide (x23_1 < (x9_1.length : Int)) = true := decide_eq_true c13
                    clear c13
                    replace H := Option.bind_eq_some_iff.mp H
                    obtain ⟨t643, A140, H⟩ := H
                    have A14 := Aside0.mk A140
                    clear A140
                    obtain ⟨y644, hy644⟩ : ∃ y_ : List Int, y_ = (x9_1.set (x23_1 : Int).toNat t643) := ⟨_, rfl⟩
                    replace H : (impl_field_add.l0 k1 a0 a3 y644 l2 (l2.length : Int) (wrap64 (x23_1 + 1))) = some r := by first | (rw [hy644]; with_reducible exact H) | (have H2_ := (Option.bind_some _ _).symm.trans H; rw [hy644]; with_reducible exact H2_) | (have H2_ := (Option.bind_some _ _).symm.trans H; with_reducible exact H2_) | with_reducible exact H | (rw [hy644]; exact H) | exact H
                    have Ny644 := Aside0.mk hy644
                    clear hy644
                    have H' := Aside0.mk H
                    clear H
                    have p641 : 0 ≤ (x23_1 : Int) := of_decide_eq_true (by first | (with_reducible assumption) | assumption)
                    have q641 : x23_1 < (l2.length : Int) := of_decide_eq_true (by first | (with_reducible assumption) | assumption)
                    obtain ⟨ad641, e641, hx641_0⟩ := Kd.at_int HR2.out x23_1 p641 q641
                    cases e641
                    replace hx641_0 := (HB.out.cell (World.block_lt_of_cell? w _ hx641_0)).trans hx641_0
                    replace p641 := eq_true p641
                    replace q641 := eq_true q641
                    obtain ⟨Ao16, co16, eo16⟩ := Kd.R_slice HO_9.out
                    subst eo16
                    have p642 : 0 ≤ (x23_1 : Int) := of_decide_eq_true (by first | (with_reducible assumption) | assumption)
                    have q642 : x23_1 < (x9_1.length : Int) := of_decide_eq_true (by first | (with_reducible assumption) | assumption)
                    obtain ⟨ad642, e642, hx642_0⟩ := Kd.at_int (Kd.R_reads' HO_9.out).2.2 x23_1 p642 q642
                    cases e642
                    replace p642 := eq_true p642
                    replace q642 := eq_true q642
                    go_wp2_with (first | ((with_reducible refine gate_callee (f := 108) rfl ?_); refine goesM_ (some 39) rfl rfl Try.func108 #[.int .i64 a0, .int .i64 (wrap64 ((rd x9_1 x23_1) + (wrap64 (a3 * (rd l2 x23_1)))))] rfl ?_; (with_reducible refine (impl_field_mod.calls a0 (wrap64 ((rd x9_1 x23_1) + (wrap64 (a3 * (rd l2 x23_1))))) t643 _ A14.out).mono ?_); rintro e w' ⟨rfl, ⟨nd, rfl⟩⟩; refine ⟨_, rfl, ?_⟩; (try (rw [drewN_self wr]; generalize hq_ : World.drewN wr _ = wr; have n0_ : Aside0 (Kd.R (Kd.int .i64) 2 wr w.heap.size (fun _ => True) (.slice (some ad642) x9_1.length co16) x9_1) := ⟨by rw [← hq_]; exact (rs HO_9)⟩; have n1_ : Aside0 (Below w.heap.size w wr) := ⟨by rw [← hq_]; exact (bs HB)⟩; clear HO_9 HB hq_; have HO_9 := n0_; have HB := n1_; clear n0_ n1_)); have p15 : 0 ≤ (x23_1 : Int) := of_decide_eq_true (by first | (with_reducible assumption) | assumption); have q15 : (x23_1 : Int) < ((x9_1.length : Int) : Int) := of_decide_eq_true (by first | (with_reducible assumption) | assumption); obtain ⟨go15, co15, eo15, gb15, gl15, cl15, HG15⟩ := Kd.R_form HO_9.out (by omega); (first | cases eo15 | (injection eo15 with ea_ en_ ec_; (first | subst ea_ | (injection ea_ with ea_; subst ea_)); subst ec_; clear en_)); have GB15 := Aside0.mk gb15; have GG15 := Aside0.mk HG15; clear gb15 gl15 HG15; (first | simp only [add_plain] at hx642_0 | skip); obtain ⟨hx15_0, hf15_0⟩ := Kd.R_celln 0 HO_9.out (x23_1 : Int) p15 q15; replace p15 := eq_true p15; replace q15 := eq_true q15; obtain ⟨hy17_, hz17_⟩ := Kd.R_celln 0 HO_9.out (x23_1 : Int) (of_decide_eq_true (by first | (with_reducible assumption) | assumption)) (of_decide_eq_true (by first | (with_reducible assumption) | assumption)); have HP17 := Kd.R_putg HO_9.out (x23_1 : Int) t643) | ((with_reducible refine gate_store (t := 2) (p := 40) rfl ?_); refine store_event (t := 2) (p := 40) (v := ?vo_w18) (w1 := (wr.setCell ⟨go15, (x23_1 : Int).toNat, none⟩ (.int .i64 t643))) ?hg ?ho ?hn ?hr ?_; (case ho => rfl); (case hg => rfl); (case hn => rfl); (case hr => first | (go_simp; done) | (go_simp; rfl)); intro w18 hw; have hg : wr.grownBy w18 (some go15) := (by rw [hw]; exact HP17.2); have hp_ : Kd.R (Kd.int .i64) 2 w18 w.heap.size (fun _ => True) (.slice (some ⟨go15, 0, none⟩) x9_1.length co16) y644 := (by rw [hw, Ny644.out]; exact HP17.1); clear HP17; have n0_ := Aside0.mk (hp_); have n1_ := Aside0.mk ((by rw [hw]; exact below_set (HB.out) GB15.out : Below w.heap.size w w18)); clear HO_9; clear HB; have HO_9 := n0_; have HB := n1_; clear n0_ n1_; clear hg hw hp_))
                    go_roundg k1
                    case measure => have := HK1.out; omega
                    case rel => exact ⟨(y644), (wrap64 (x23_1 + 1)), ea_, H', ⟨by have := HK1.out; omega⟩, ⟨by (with_reducible repeat (first | apply Kd.R_alloc | apply Kd.R_drewN | apply Kd.R_drew)); exact HO_9.out⟩, ⟨by repeat (first | (with_reducible first | exact HB.out | apply below_alloc | apply pw_below_drewN | apply below_drew1) | exact HB.out)⟩⟩
                  · rw [if_neg c13] at H
                    exact absurd H (by simp)
                · rw [if_neg c12] at H
                  exact absurd H (by simp)
              · rw [if_neg c11] at H
                exact absurd H (by simp)
            · rw [if_neg c10] at H
              have c10b0 : decide (x23_1 < (l2.length : Int)) = false := decide_eq_false c10
              clear c10
              replace H := Option.bind_eq_some_iff.mp H
              obtain ⟨t645, A190, H⟩ := H
              have A19 := Aside0.mk A190
              clear A190
              obtain rfl := Option.some.inj H
              obtain ⟨Ao20, co20, eo20⟩ := Kd.R_slice HO_9.out
              subst eo20
              go_wp2_with (first | ((with_reducible refine gate_callee (f := 115) rfl ?_); refine goesM_ (some 43) rfl rfl Try.func115 #[.slice Ao20 x9_1.length co20] rfl ?_; (with_reducible refine (impl_trimmed.calls k1 (fun k_ => some k_ = (.slice Ao20 x9_1.length co20 : Value).ownBlock) (.slice Ao20 x9_1.length co20) x9_1 t645 w _ ?side1 ?side2 A19.out).mono ?_); (case side1 => exact bs HB); (case side2 => exact Kd.R_tight rfl HO_9.out); rintro e w21 ⟨v646, rfl, ho0, hb, hkp⟩; refine ⟨_, rfl, ?_⟩; have n0_ := Aside0.mk (Kd.R_mono (ok' := fun k_ => True) ho0 (fun k_ hk_ => trivial)); have n1_ := Aside0.mk (hb); clear HB; clear HO_9; have HO647 := n0_; have HB := n1_; clear n0_ n1_; (try clear hb); (try clear hkp); (try clear ho0)))
              go_ret
              exact ⟨_, by first | rfl | (simp [errW_none, errW_some] <;> rfl) | (simp [*, errW_none, errW_some] <;> rfl), by (with_reducible repeat (first | apply Kd.R_alloc | apply Kd.R_drewN | apply Kd.R_drew)); exact HO647.out, by repeat (first | (with_reducible first | exact HB.out | apply below_alloc | apply pw_below_drewN | apply below_drew1) | exact HB.out)⟩
      · rw [if_neg c7] at H
        exact absurd H (by simp)
    · rw [if_neg c6] at H
      exact absurd H (by simp)
  · rw [if_neg c5] at H
    have c5i := eq_false c5
    have c5b0 : decide ((l1.length : Int) < (l2.length : Int)) = false := decide_eq_false c5
    have c5b1 : decide (l1.length < l2.length) = false := decide_eq_false (fun h => c5 (Int.ofNat_lt.mpr h))
    clear c5
    by_cases c22 : 0 ≤ (l1.length : Int)
    · rw [if_pos c22] at H
      have c22b0 := eq_true c22
      have c22b1 : decide (0 ≤ (l1.length : Int)) = true := decide_eq_true c22
      clear c22
      by_cases c23 : ((l1.length : Int) : Int).toNat ≤ 35184372088832
      · rw [if_pos c23] at H
        have c23b0 := eq_true c23
        have c23b1 : decide (((l1.length : Int) : Int).toNat ≤ 35184372088832) = true := decide_eq_true c23
        clear c23
        obtain ⟨y648, hy648⟩ : ∃ y_ : List Int, y_ = (cpInto (List.replicate ((l1.length : Int) : Int).toNat 0) l1) := ⟨_, rfl⟩
        replace H : (impl_field_add.l0 k a0 a3 y648 l2 (l2.length : Int) 0) = some r := by first | (rw [hy648]; with_reducible exact H) | (have H2_ := (Option.bind_some _ _).symm.trans H; rw [hy648]; with_reducible exact H2_) | (have H2_ := (Option.bind_some _ _).symm.trans H; with_reducible exact H2_) | with_reducible exact H | (rw [hy648]; exact H) | exact H
        have Ny648 := Aside0.mk hy648
        clear hy648
        have H' := Aside0.mk H
        clear H
        go_enter Try.func73, Try.ntmps73
        go_wp2_with (first | ((with_reducible refine gate_dst (N := 17) rfl ?_); refine Kd.R_make (Kd.int .i64) _ 2 rfl (N := 17) rfl 22 _ _ rfl (l1.length : Int) rfl rfl Try.underlying22 (.int .i64 0) 8 info2 rfl (by decide) (by omega) 0 (ok := fun _ => True) (okp := fun _ => True) rfl (fun _ hk => hk) trivial (of_decide_eq_true (by first | (with_reducible assumption) | assumption)) (Nat.le_trans (Nat.mul_le_mul_right _ (of_decide_eq_true (by first | (with_reducible assumption) | assumption) : (l1.length : Int).toNat ≤ 35184372088832)) (by omega)) (Below.refl _ _) (Nat.le_refl _) ?_; intro v649 w24 ho25 hb hg_ hnew_; clear hg_ hnew_; have n0_ := Aside0.mk (Kd.R_lower ho25 (below_size (bs HB))); have n1_ := Aside0.mk (below_step (bs HB) hb); clear HB; have HPy648 := n0_; have HB := n1_; clear n0_ n1_; clear hb ho25) | ((with_reducible refine gate_builtin (b := .copy) rfl ?_); refine copy_into rfl _ _ _ rfl Try.underlying22 (by kernel_rfl) l1 rfl rfl HPy648.out ?cpR ?cpM HB.out ?_; (case cpR => exact Kd.C_below HR1.out HB.out); (case cpM => (first | (simp; done) | (simp only [List.length_replicate, Int.toNat_natCast]; exact Nat.le_of_lt (of_decide_eq_true (by assumption))))); intro wcp hcp hbb; have HO650 := Aside0.mk hcp; (rw [← Ny648.out] at HO650); clear HB; have HB := Aside0.mk hbb; clear hcp hbb HPy648))
        go_loopg [23] k (fun kq v23 w' => ∃ (x9_1 : List Int) (x23_1 : Int), v23 = .int .i64 x23_1 ∧ Aside0 (impl_field_add.l0 kq a0 a3 x9_1 l2 (l2.length : Int) x23_1 = some r) ∧ Aside0 (kq ≤ k) ∧ Aside0 (Kd.R (Kd.int .i64) 2 w' w.heap.size (fun _ => True) v649 x9_1) ∧ Aside0 (Below w.heap.size w w'))
        case atStart => exact ⟨(y648), (0), ea_, H', ⟨Nat.le_refl _⟩, ⟨by (with_reducible repeat (first | apply Kd.R_alloc | apply Kd.R_drewN | apply Kd.R_drew)); exact HO650.out⟩, ⟨by repeat (first | (with_reducible first | exact HB.out | apply below_alloc | apply pw_below_drewN | apply below_drew1) | exact HB.out)⟩⟩
        case round =>
          clear H'
          try clear c1
          try clear p1
          try clear q1
          try clear hx1
          try clear c2
          try clear p2
          try clear c5
          try clear c5b0
          try clear c5b1
          try clear c6
          try clear c6b0
          try clear c6b1
          try clear p6
          try clear q6
          try clear hx6
          try clear c7
          try clear c7b0
          try clear c7b1
          try clear c10
          try clear c10b0
          try clear c11
          try clear c11b0
          try clear c12
          try clear c12b0
          try clear c13
          try clear c13b0
          try clear p15
          try clear q15
          try clear hx15
          try clear hf15
          try clear c22
          try clear c22b0
          try clear c22b1
          try clear c23
          try clear c23b0
          try clear c23b1
          try clear hx15_0
          try clear hx641_0
          try clear hx642_0
          try clear p15
          try clear p2
          try clear p641
          try clear p642
          try clear q15
          try clear q641
          try clear q642
          obtain ⟨x9_1, x23_1, rfl, HA, HK1, HO_9, HB⟩ := hrel
          cases gk with
          | zero => exact absurd HA.out (by simp [impl_field_add.l0])
          | succ k1 =>
            have H := HA.out
            clear HA
            simp only [impl_field_add.l0] at H
            by_cases c26 : x23_1 < (l2.length : Int)
            · rw [if_pos c26] at H
              have c26b0 : decide (x23_1 < (l2.length : Int)) = true := decide_eq_true c26
              clear c26
              by_cases c27 : 0 ≤ x23_1
              · rw [if_pos c27] at H
                have c27b0 : decide (0 ≤ x23_1) = true := decide_eq_true c27
                clear c27
                by_cases c28 : x23_1 < (l2.length : Int)
                · rw [if_pos c28] at H
                  have c28b0 : decide (x23_1 < (l2.length : Int)) = true := decide_eq_true c28
                  clear c28
                  by_cases c29 : x23_1 < (x9_1.length : Int)
                  · rw [if_pos c29] at H
                    have c29b0 : decide (x23_1 < (x9_1.length : Int)) = true := decide_eq_true c29
                    clear c29
                    replace H := Option.bind_eq_some_iff.mp H
                    obtain ⟨t643, A300, H⟩ := H
                    have A30 := Aside0.mk A300
                    clear A300
                    obtain ⟨y644, hy644⟩ : ∃ y_ : List Int, y_ = (x9_1.set (x23_1 : Int).toNat t643) := ⟨_, rfl⟩
                    replace H : (impl_field_add.l0 k1 a0 a3 y644 l2 (l2.length : Int) (wrap64 (x23_1 + 1))) = some r := by first | (rw [hy644]; with_reducible exact H) | (have H2_ := (Option.bind_some _ _).symm.trans H; rw [hy644]; with_reducible exact H2_) | (have H2_ := (Option.bind_some _ _).symm.trans H; with_reducible exact H2_) | with_reducible exact H | (rw [hy644]; exact H) | exact H
                    have Ny644 := Aside0.mk hy644
                    clear hy644
                    have H' := Aside0.mk H
                    clear H
                    have p641 : 0 ≤ (x23_1 : Int) := of_decide_eq_true (by first | (with_reducible assumption) | assumption)
                    have q641 : x23_1 < (l2.length : Int) := of_decide_eq_true (by first | (with_reducible assumption) | assumption)
                    obtain ⟨ad641, e641, hx641_0⟩ := Kd.at_int HR2.out x23_1 p641 q641
                    cases e641
                    replace hx641_0 := (HB.out.cell (World.block_lt_of_cell? w _ hx641_0)).trans hx641_0
                    replace p641 := eq_true p641
                    replace q641 := eq_true q641
                    obtain ⟨Ao32, co32, eo32⟩ := Kd.R_slice HO_9.out
                    subst eo32
                    have p642 : 0 ≤ (x23_1 : Int) := of_decide_eq_true (by first | (with_reducible assumption) | assumption)
                    have q642 : x23_1 < (x9_1.length : Int) := of_decide_eq_true (by first | (with_reducible assumption) | assumption)
                    obtain ⟨ad642, e642, hx642_0⟩ := Kd.at_int (Kd.R_reads' HO_9.out).2.2 x23_1 p642 q642
                    cases e642
                    replace p642 := eq_true p642
                    replace q642 := eq_true q642
                    go_wp2_with (first | ((with_reducible refine gate_callee (f := 108) rfl ?_); refine goesM_ (some 39) rfl rfl Try.func108 #[.int .i64 a0, .int .i64 (wrap64 ((rd x9_1 x23_1) + (wrap64 (a3 * (rd l2 x23_1)))))] rfl ?_; (with_reducible refine (impl_field_mod.calls a0 (wrap64 ((rd x9_1 x23_1) + (wrap64 (a3 * (rd l2 x23_1))))) t643 _ A30.out).mono ?_); rintro e w' ⟨rfl, ⟨nd, rfl⟩⟩; refine ⟨_, rfl, ?_⟩; (try (rw [drewN_self wr]; generalize hq_ : World.drewN wr _ = wr; have n0_ : Aside0 (Kd.R (Kd.int .i64) 2 wr w.heap.size (fun _ => True) (.slice (some ad642) x9_1.length co32) x9_1) := ⟨by rw [← hq_]; exact (rs HO_9)⟩; have n1_ : Aside0 (Below w.heap.size w wr) := ⟨by rw [← hq_]; exact (bs HB)⟩; clear HO_9 HB hq_; have HO_9 := n0_; have HB := n1_; clear n0_ n1_)); have p31 : 0 ≤ (x23_1 : Int) := of_decide_eq_true (by first | (with_reducible assumption) | assumption); have q31 : (x23_1 : Int) < ((x9_1.length : Int) : Int) := of_decide_eq_true (by first | (with_reducible assumption) | assumption); obtain ⟨go31, co31, eo31, gb31, gl31, cl31, HG31⟩ := Kd.R_form HO_9.out (by omega); (first | cases eo31 | (injection eo31 with ea_ en_ ec_; (first | subst ea_ | (injection ea_ with ea_; subst ea_)); subst ec_; clear en_)); have GB31 := Aside0.mk gb31; have GG31 := Aside0.mk HG31; clear gb31 gl31 HG31; (first | simp only [add_plain] at hx642_0 | skip); obtain ⟨hx31_0, hf31_0⟩ := Kd.R_celln 0 HO_9.out (x23_1 : Int) p31 q31; replace p31 := eq_true p31; replace q31 := eq_true q31; obtain ⟨hy33_, hz33_⟩ := Kd.R_celln 0 HO_9.out (x23_1 : Int) (of_decide_eq_true (by first | (with_reducible assumption) | assumption)) (of_decide_eq_true (by first | (with_reducible assumption) | assumption)); have HP33 := Kd.R_putg HO_9.out (x23_1 : Int) t643) | ((with_reducible refine gate_store (t := 2) (p := 40) rfl ?_); refine store_event (t := 2) (p := 40) (v := ?vo_w34) (w1 := (wr.setCell ⟨go31, (x23_1 : Int).toNat, none⟩ (.int .i64 t643))) ?hg ?ho ?hn ?hr ?_; (case ho => rfl); (case hg => rfl); (case hn => rfl); (case hr => first | (go_simp; done) | (go_simp; rfl)); intro w34 hw; have hg : wr.grownBy w34 (some go31) := (by rw [hw]; exact HP33.2); have hp_ : Kd.R (Kd.int .i64) 2 w34 w.heap.size (fun _ => True) (.slice (some ⟨go31, 0, none⟩) x9_1.length co32) y644 := (by rw [hw, Ny644.out]; exact HP33.1); clear HP33; have n0_ := Aside0.mk (hp_); have n1_ := Aside0.mk ((by rw [hw]; exact below_set (HB.out) GB31.out : Below w.heap.size w w34)); clear HO_9; clear HB; have HO_9 := n0_; have HB := n1_; clear n0_ n1_; clear hg hw hp_))
                    go_roundg k1
                    case measure => have := HK1.out; omega
                    case rel => exact ⟨(y644), (wrap64 (x23_1 + 1)), ea_, H', ⟨by have := HK1.out; omega⟩, ⟨by (with_reducible repeat (first | apply Kd.R_alloc | apply Kd.R_drewN | apply Kd.R_drew)); exact HO_9.out⟩, ⟨by repeat (first | (with_reducible first | exact HB.out | apply below_alloc | apply pw_below_drewN | apply below_drew1) | exact HB.out)⟩⟩
                  · rw [if_neg c29] at H
                    exact absurd H (by simp)
                · rw [if_neg c28] at H
                  exact absurd H (by simp)
              · rw [if_neg c27] at H
                exact absurd H (by simp)
            · rw [if_neg c26] at H
              have c26b0 : decide (x23_1 < (l2.length : Int)) = false := decide_eq_false c26
              clear c26
              replace H := Option.bind_eq_some_iff.mp H
              obtain ⟨t645, A350, H⟩ := H
              have A35 := Aside0.mk A350
              clear A350
              obtain rfl := Option.some.inj H
              obtain ⟨Ao36, co36, eo36⟩ := Kd.R_slice HO_9.out
              subst eo36
              go_wp2_with (first | ((with_reducible refine gate_callee (f := 115) rfl ?_); refine goesM_ (some 43) rfl rfl Try.func115 #[.slice Ao36 x9_1.length co36] rfl ?_; (with_reducible refine (impl_trimmed.calls k1 (fun k_ => some k_ = (.slice Ao36 x9_1.length co36 : Value).ownBlock) (.slice Ao36 x9_1.length co36) x9_1 t645 w _ ?side1 ?side2 A35.out).mono ?_); (case side1 => exact bs HB); (case side2 => exact Kd.R_tight rfl HO_9.out); rintro e w37 ⟨v646, rfl, ho0, hb, hkp⟩; refine ⟨_, rfl, ?_⟩; have n0_ := Aside0.mk (Kd.R_mono (ok' := fun k_ => True) ho0 (fun k_ hk_ => trivial)); have n1_ := Aside0.mk (hb); clear HB; clear HO_9; have HO647 := n0_; have HB := n1_; clear n0_ n1_; (try clear hb); (try clear hkp); (try clear ho0)))
              go_ret
              exact ⟨_, by first | rfl | (simp [errW_none, errW_some] <;> rfl) | (simp [*, errW_none, errW_some] <;> rfl), by (with_reducible repeat (first | apply Kd.R_alloc | apply Kd.R_drewN | apply Kd.R_drew)); exact HO647.out, by repeat (first | (with_reducible first | exact HB.out | apply below_alloc | apply pw_below_drewN | apply below_drew1) | exact HB.out)⟩
      · rw [if_neg c23] at H
        exact absurd H (by simp)
    · rw [if_neg c22] at H
      exact absurd H (by simp)
end Go.Proofs.Ytiffnigjblbakaa.H
namespace Go.Proofs.Ytiffnigjblbakaa.H
open Go.RowKit Go.Proofs.YtiffnigjblbakaaW.PrintWords Go.Proofs.YtiffnigjblbakaaW.PrintLast Go.Proofs.YtiffnigjblbakaaW.PrintMore
attribute [local go_sem] max2_int min2_int max_two min_two max_three min_three max_four min_four   -- for this text's walks alone
set_option linter.unusedVariables false
set_option linter.unusedSimpArgs false
/-! ### impl_field_mul: function 123 -/
def impl_field_mul.f (a0 : Int) (a1 : Int) (a2 : Int) : Option (Int) := (impl_field_mod.f a0 (wrap64 (a1 * a2))).bind fun t270 => (some t270)
set_option maxHeartbeats 8000000 in
set_option maxRecDepth 100000 in
theorem impl_field_mul.calls (a0 : Int) (a1 : Int) (a2 : Int) (r : Int) (w : World) (h : impl_field_mul.f a0 a1 a2 = some r) :
    Calls Try.prog 123 #[.int .i64 a0, .int .i64 a1, .int .i64 a2] w fun e w' => e = .returned (.int .i64 r) ∧ Drawn0 w w' := by
  have H : ((impl_field_mod.f a0 (wrap64 (a1 * a2))).bind fun t270 => (some t270)) = some r := h
  clear h
  replace H := Option.bind_eq_some_iff.mp H
  obtain ⟨t270, A40, H⟩ := H
  have A4 := Aside0.mk A40
  clear A40
  obtain rfl := Option.some.inj H
  go_enter Try.func123, Try.ntmps123
  go_wp2_with (first | ((with_reducible refine gate_callee (f := 108) rfl ?_); refine goesM_ (some 11) rfl rfl Try.func108 #[.int .i64 a0, .int .i64 (wrap64 (a1 * a2))] rfl ?_; (with_reducible refine (impl_field_mod.calls a0 (wrap64 (a1 * a2)) t270 _ A4.out).mono ?_); rintro e w' ⟨rfl, ⟨nd, rfl⟩⟩; refine ⟨_, rfl, ?_⟩))
  go_ret
  exact ⟨by first | rfl | (simp; done) | (simp [*]; done), by repeat (first | exact Drawn0.refl _ | apply Drawn0.step)⟩
end Go.Proofs.Ytiffnigjblbakaa.H
namespace Go.Proofs.Ytiffnigjblbakaa.H
open Go.RowKit Go.Proofs.YtiffnigjblbakaaW.PrintWords Go.Proofs.YtiffnigjblbakaaW.PrintLast Go.Proofs.YtiffnigjblbakaaW.PrintMore
attribute [local go_sem] max2_int min2_int max_two min_two max_three min_three max_four min_four   -- for this text's walks alone
set_option linter.unusedVariables false
set_option linter.unusedSimpArgs false
/-! ### impl_field_power: function 109 -/
def impl_field_power.l0 : Nat → Int → Int → Int → Int → Option (Int)
  | 0, _, _, _, _ => none
  | k + 1, x0, x1, x2, x7 => if x2 > 0 then (if (Int.tmod x2 2) = 1 then ((impl_field_mul.f x0 x7 x1).bind fun t272 => ((impl_field_mul.f x0 x1 x1).bind fun t273 => (impl_field_power.l0 k x0 t273 (wrap64 (Int.tdiv x2 2)) t272))) else ((impl_field_mul.f x0 x1 x1).bind fun t274 => (impl_field_power.l0 k x0 t274 (wrap64 (Int.tdiv x2 2)) x7))) else (some x7)
def impl_field_power.f (k : Nat) (a0 : Int) (a1 : Int) (a2 : Int) : Option (Int) := (impl_field_mod.f a0 1).bind fun t271 => (impl_field_power.l0 k a0 a1 a2 t271)
set_option maxHeartbeats 8000000 in
set_option maxRecDepth 100000 in
theorem impl_field_power.calls (k : Nat) (a0 : Int) (a1 : Int) (a2 : Int) (r : Int) (w : World) (h : impl_field_power.f k a0 a1 a2 = some r) :
    Calls Try.prog 109 #[.int .i64 a0, .int .i64 a1, .int .i64 a2] w fun e w' => e = .returned (.int .i64 r) ∧ Drawn0 w w' := by
  have H : ((impl_field_mod.f a0 1).bind fun t271 => (impl_field_power.l0 k a0 a1 a2 t271)) = some r := h
  clear h
  replace H := Option.bind_eq_some_iff.mp H
  obtain ⟨t271, A40, H⟩ := H
  have A4 := Aside0.mk A40
  clear A40
  have H' := Aside0.mk H
  clear H
  go_enter Try.func109, Try.ntmps109
  go_wp2_with (first | ((with_reducible refine gate_callee (f := 108) rfl ?_); refine goesM_ (some 9) rfl rfl Try.func108 #[.int .i64 a0, .int .i64 1] rfl ?_; (with_reducible refine (impl_field_mod.calls a0 1 t271 _ A4.out).mono ?_); rintro e w' ⟨rfl, ⟨nd, rfl⟩⟩; refine ⟨_, rfl, ?_⟩))
  go_loopg [1, 2, 7] k (fun kq v1 v2 v7 w' => ∃ (x1_1 : Int) (x2_1 : Int) (x7_1 : Int), v1 = .int .i64 x1_1 ∧ v2 = .int .i64 x2_1 ∧ v7 = .int .i64 x7_1 ∧ Aside0 (impl_field_power.l0 kq a0 x1_1 x2_1 x7_1 = some r) ∧ Aside0 (kq ≤ k) ∧ Drawn0 w w')
  case atStart => exact ⟨(a1), (a2), (t271), ea_, ea_, ea_, H', ⟨Nat.le_refl _⟩, by repeat (first | exact Drawn0.refl _ | apply Drawn0.step)⟩
  case round =>
    clear H'
    try clear c1
    try clear p2
    obtain ⟨x1_1, x2_1, x7_1, rfl, rfl, rfl, HA, HK1, ⟨m1, rfl⟩⟩ := hrel
    cases gk with
    | zero => exact absurd HA.out (by simp [impl_field_power.l0])
    | succ k1 =>
      have H := HA.out
      clear HA
      simp only [impl_field_power.l0] at H
      by_cases c5 : x2_1 > 0
      · rw [if_pos c5] at H
        have c5b0 : decide (0 < x2_1) = true := decide_eq_true c5
        clear c5
        by_cases c6 : (Int.tmod x2_1 2) = 1
        · rw [if_pos c6] at H
          have c6b0 : ((Int.tmod x2_1 2) == 1) = true := beq_iff_eq.mpr c6
          have c6b1 : ((Int.tmod x2_1 2) != 1) = false := bne_eq_false_iff_eq.mpr c6
          clear c6
          replace H := Option.bind_eq_some_iff.mp H
          obtain ⟨t272, A70, H⟩ := H
          have A7 := Aside0.mk A70
          clear A70
          replace H := Option.bind_eq_some_iff.mp H
          obtain ⟨t273, A80, H⟩ := H
          have A8 := Aside0.mk A80
          clear A80
          have H' := Aside0.mk H
          clear H
          go_wp2_with (first | ((with_reducible refine gate_callee (f := 123) rfl ?_); refine goesM_ (some 20) rfl rfl Try.func123 #[.int .i64 a0, .int .i64 x7_1, .int .i64 x1_1] rfl ?_; (with_reducible refine (impl_field_mul.calls a0 x7_1 x1_1 t272 _ A7.out).mono ?_); rintro e w' ⟨rfl, ⟨nd, rfl⟩⟩; refine ⟨_, rfl, ?_⟩) | ((with_reducible refine gate_callee (f := 123) rfl ?_); refine goesM_ (some 24) rfl rfl Try.func123 #[.int .i64 a0, .int .i64 x1_1, .int .i64 x1_1] rfl ?_; (with_reducible refine (impl_field_mul.calls a0 x1_1 x1_1 t273 _ A8.out).mono ?_); rintro e w' ⟨rfl, ⟨nd, rfl⟩⟩; refine ⟨_, rfl, ?_⟩))
          go_roundg k1
          case measure => have := HK1.out; omega
          case rel => exact ⟨(t273), (wrap64 (Int.tdiv x2_1 2)), (t272), ea_, ea_, ea_, H', ⟨by have := HK1.out; omega⟩, by repeat (first | exact Drawn0.refl _ | apply Drawn0.step)⟩
        · rw [if_neg c6] at H
          have c6b0 : ((Int.tmod x2_1 2) == 1) = false := beq_eq_false_iff_ne.mpr c6
          have c6b1 : ((Int.tmod x2_1 2) != 1) = true := bne_iff_ne.mpr c6
          replace H := Option.bind_eq_some_iff.mp H
          obtain ⟨t274, A90, H⟩ := H
          have A9 := Aside0.mk A90
          clear A90
          have H' := Aside0.mk H
          clear H
          go_wp2_with (first | ((with_reducible refine gate_callee (f := 123) rfl ?_); refine goesM_ (some 24) rfl rfl Try.func123 #[.int .i64 a0, .int .i64 x1_1, .int .i64 x1_1] rfl ?_; (with_reducible refine (impl_field_mul.calls a0 x1_1 x1_1 t274 _ A9.out).mono ?_); rintro e w' ⟨rfl, ⟨nd, rfl⟩⟩; refine ⟨_, rfl, ?_⟩))
          go_roundg k1
          case measure => have := HK1.out; omega
          case rel => exact ⟨(t274), (wrap64 (Int.tdiv x2_1 2)), (x7_1), ea_, ea_, ea_, H', ⟨by have := HK1.out; omega⟩, by repeat (first | exact Drawn0.refl _ | apply Drawn0.step)⟩
      · rw [if_neg c5] at H
        have c5b0 : decide (0 < x2_1) = false := decide_eq_false c5
        clear c5
        obtain rfl := Option.some.inj H
        go_wp2
        go_ret
        exact ⟨by first | rfl | (simp; done) | (simp [*]; done), by repeat (first | exact Drawn0.refl _ | apply Drawn0.step)⟩
end Go.Proofs.Ytiffnigjblbakaa.H
namespace Go.Proofs.Ytiffnigjblbakaa.H
open Go.RowKit Go.Proofs.YtiffnigjblbakaaW.PrintWords Go.Proofs.YtiffnigjblbakaaW.PrintLast Go.Proofs.YtiffnigjblbakaaW.PrintMore
attribute [local go_sem] max2_int min2_int max_two min_two max_three min_three max_four min_four   -- for this text's walks alone
set_option linter.unusedVariables false
set_option linter.unusedSimpArgs false
/-! ### impl_field_inverse: function 122 -/
def impl_field_inverse.f (k : Nat) (a0 : Int) (a1 : Int) : Option (Int) := (impl_field_power.f k a0 a1 (wrap64 (a0 - 2))).bind fun t541 => (some t541)
set_option maxHeartbeats 8000000 in
set_option maxRecDepth 100000 in
theorem impl_field_inverse.calls (k : Nat) (a0 : Int) (a1 : Int) (r : Int) (w : World) (h : impl_field_inverse.f k a0 a1 = some r) :
    Calls Try.prog 122 #[.int .i64 a0, .int .i64 a1] w fun e w' => e = .returned (.int .i64 r) ∧ Drawn0 w w' := by
  have H : ((impl_field_power.f k a0 a1 (wrap64 (a0 - 2))).bind fun t541 => (some t541)) = some r := h
  clear h
  replace H := Option.bind_eq_some_iff.mp H
  obtain ⟨t541, A30, H⟩ := H
  have A3 := Aside0.mk A30
  clear A30
  obtain rfl := Option.some.inj H
  go_enter Try.func122, Try.ntmps122
  go_wp2_with (first | ((with_reducible refine gate_callee (f := 109) rfl ?_); refine goesM_ (some 9) rfl rfl Try.func109 #[.int .i64 a0, .int .i64 a1, .int .i64 (wrap64 (a0 - 2))] rfl ?_; (with_reducible refine (impl_field_power.calls k a0 a1 (wrap64 (a0 - 2)) t541 _ A3.out).mono ?_); rintro e w' ⟨rfl, ⟨nd, rfl⟩⟩; refine ⟨_, rfl, ?_⟩))
  go_ret
  exact ⟨by first | rfl | (simp; done) | (simp [*]; done), by repeat (first | exact Drawn0.refl _ | apply Drawn0.step)⟩
end Go.Proofs.Ytiffnigjblbakaa.H
namespace Go.Proofs.Ytiffnigjblbakaa.H
open Go.RowKit Go.Proofs.YtiffnigjblbakaaW.PrintWords Go.Proofs.YtiffnigjblbakaaW.PrintLast Go.Proofs.YtiffnigjblbakaaW.PrintMore
attribute [local go_sem] max2_int min2_int max_two min_two max_three min_three max_four min_four   -- for this text's walks alone
set_option linter.unusedVariables false
set_option linter.unusedSimpArgs false
/-! ### impl_field_times: function 121 -/
def impl_field_times.f (k : Nat) (a0 : Int) (l1 : List Int) (a2 : Int) : Option (List Int) := (impl_field_add.f k a0 ([] : List Int) l1 a2).bind fun t670 => (some t670)
set_option maxHeartbeats 8000000 in
set_option maxRecDepth 100000 in
theorem impl_field_times.calls (k : Nat) (a0 : Int) (A1 : Option Addr) (c1 : Nat) (l1 : List Int) (a2 : Int) (r : List Int) (w : World) (hr1 : Kd.C (Kd.int .i64) w A1 l1.length l1) (hc1 : l1.length ≤ c1) (h : impl_field_times.f k a0 l1 a2 = some r) :
    Calls Try.prog 121 #[.int .i64 a0, .slice A1 l1.length c1, .int .i64 a2] w fun e w' => ∃ v0_ : Value, e = .returned (v0_) ∧ Kd.R (Kd.int .i64) 2 w' w.heap.size (fun _ => True) v0_ r ∧ Below w.heap.size w w' := by
  have HR1 := Aside0.mk hr1
  have HC1 := Aside0.mk hc1
  clear hr1 hc1
  have HB := Aside0.mk (Below.refl w.heap.size w)
  have H : ((impl_field_add.f k a0 ([] : List Int) l1 a2).bind fun t670 => (some t670)) = some r := h
  clear h
  replace H := Option.bind_eq_some_iff.mp H
  obtain ⟨t670, A40, H⟩ := H
  have A4 := Aside0.mk A40
  clear A40
  obtain rfl := Option.some.inj H
  go_enter Try.func121, Try.ntmps121
  go_wp2_with (first | ((with_reducible refine gate_callee (f := 73) rfl ?_); refine goesM_ (some 10) rfl rfl Try.func73 #[.int .i64 a0, .slice none 0 0, .slice A1 l1.length c1, .int .i64 a2] rfl ?_; (refine (impl_field_add.calls k a0 _ _ ([] : List Int) _ _ l1 a2 t670 _ ?side1 ?side2 ?side3 ?side4 A4.out).mono ?_); (case side1 => exact Kd.C_nil _ _); (case side2 => exact Nat.le_refl _); (case side3 => exact cs (HR1.out)); (case side4 => exact HC1.out); rintro e w5 ⟨v671, rfl, ho0, hb⟩; refine ⟨_, rfl, ?_⟩; have n0_ := Aside0.mk (Kd.R_lower ho0 (below_size (bs HB))); have n1_ := Aside0.mk (below_step (bs HB) hb); clear HB; have HO672 := n0_; have HB := n1_; clear n0_ n1_; (try clear hb); (try clear hb2); (try clear hk); (try clear hi); (try clear ho0)))
  go_ret
  exact ⟨_, by first | rfl | (simp [errW_none, errW_some] <;> rfl) | (simp [*, errW_none, errW_some] <;> rfl), by (with_reducible repeat (first | apply Kd.R_alloc | apply Kd.R_drewN | apply Kd.R_drew)); exact HO672.out, by repeat (first | (with_reducible first | exact HB.out | apply below_alloc | apply pw_below_drewN | apply below_drew1) | exact HB.out)⟩
end Go.Proofs.Ytiffnigjblbakaa.H
namespace Go.Proofs.Ytiffnigjblbakaa.H
open Go.RowKit Go.Proofs.YtiffnigjblbakaaW.PrintWords Go.Proofs.YtiffnigjblbakaaW.PrintLast Go.Proofs.YtiffnigjblbakaaW.PrintMore
attribute [local go_sem] max2_int min2_int max_two min_two max_three min_three max_four min_four   -- for this text's walks alone
set_option linter.unusedVariables false
set_option linter.unusedSimpArgs false
/-! ### impl_field_monic: function 87 -/
def impl_field_monic.f (k : Nat) (a0 : Int) (l1 : List Int) : Option (List Int) := if 0 ≤ (wrap64 ((l1.length : Int) - 1)) then (if (wrap64 ((l1.length : Int) - 1)) < (l1.length : Int) then ((impl_field_inverse.f k a0 (rd l1 (wrap64 ((l1.length : Int) - 1)))).bind fun t674 => ((impl_field_times.f k a0 l1 t674).bind fun t675 => (some t675))) else (none)) else (none)
set_option maxHeartbeats 8000000 in
set_option maxRecDepth 100000 in
theorem impl_field_monic.calls (k : Nat) (a0 : Int) (A1 : Option Addr) (c1 : Nat) (l1 : List Int) (r : List Int) (w : World) (hr1 : Kd.C (Kd.int .i64) w A1 l1.length l1) (hc1 : l1.length ≤ c1) (h : impl_field_monic.f k a0 l1 = some r) :
    Calls Try.prog 87 #[.int .i64 a0, .slice A1 l1.length c1] w fun e w' => ∃ v0_ : Value, e = .returned (v0_) ∧ Kd.R (Kd.int .i64) 2 w' w.heap.size (fun _ => True) v0_ r ∧ Below w.heap.size w w' := by
  have HR1 := Aside0.mk hr1
  have HC1 := Aside0.mk hc1
  clear hr1 hc1
  have HB := Aside0.mk (Below.refl w.heap.size w)
  have H : (if 0 ≤ (wrap64 ((l1.length : Int) - 1)) then (if (wrap64 ((l1.length : Int) - 1)) < (l1.length : Int) then ((impl_field_inverse.f k a0 (rd l1 (wrap64 ((l1.length : Int) - 1)))).bind fun t674 => ((impl_field_times.f k a0 l1 t674).bind fun t675 => (some t675))) else (none)) else (none)) = some r := h
  clear h
  obtain ⟨ji3, hji3⟩ : ∃ j_ : Int, (wrap64 ((l1.length : Int) - 1)) = j_ := ⟨_, rfl⟩
  replace H : (if 0 ≤ (ji3) then (if (ji3) < (l1.length : Int) then ((impl_field_inverse.f k a0 (rd l1 (ji3))).bind fun t674 => ((impl_field_times.f k a0 l1 t674).bind fun t675 => (some t675))) else (none)) else (none)) = some r := by first | (rw [hji3] at H; exact H) | (simp only [hji3] at H ⊢; exact H)
  have hji3w : (IntKind.i64.wrap ((l1.length : Int) - 1)) = ji3 := (i64_w _).trans hji3
  by_cases c4 : 0 ≤ (ji3)
  · rw [if_pos c4] at H
    have c4b0 : decide (0 ≤ (ji3)) = true := decide_eq_true c4
    clear c4
    by_cases c5 : (ji3) < (l1.length : Int)
    · rw [if_pos c5] at H
      have c5b0 : decide ((ji3) < (l1.length : Int)) = true := decide_eq_true c5
      clear c5
      replace H := Option.bind_eq_some_iff.mp H
      obtain ⟨t674, A60, H⟩ := H
      have A6 := Aside0.mk A60
      clear A60
      replace H := Option.bind_eq_some_iff.mp H
      obtain ⟨t675, A70, H⟩ := H
      have A7 := Aside0.mk A70
      clear A70
      obtain rfl := Option.some.inj H
      have p673 : 0 ≤ ((ji3) : Int) := of_decide_eq_true (by first | (with_reducible assumption) | assumption)
      have q673 : (ji3) < (l1.length : Int) := of_decide_eq_true (by first | (with_reducible assumption) | assumption)
      obtain ⟨ad673, e673, hx673_0⟩ := Kd.at_int HR1.out (ji3) p673 q673
      cases e673
      replace p673 := eq_true p673
      replace q673 := eq_true q673
      go_enter Try.func87, Try.ntmps87
      go_wp2_with (first | ((with_reducible refine gate_callee (f := 122) rfl ?_); refine goesL_ (some 14) rfl rfl Try.func122 (by kernel_rfl) rfl #[.int .i64 a0, .int .i64 (rd l1 (ji3))] rfl (by (try simp only [List.map_toArray, List.map_cons, List.map_nil]); first | done | (simp only [hji3]; rfl) | rfl | (simp only [List.length_drop, List.length_take]; rfl)) ?_; (with_reducible refine (impl_field_inverse.calls k a0 (rd l1 (ji3)) t674 _ A6.out).mono ?_); rintro e w' ⟨rfl, ⟨nd, rfl⟩⟩; refine ⟨_, rfl, ?_⟩) | ((with_reducible refine gate_callee (f := 121) rfl ?_); refine goesM_ (some 15) rfl rfl Try.func121 #[.int .i64 a0, .slice (some ad673) l1.length c1, .int .i64 t674] rfl ?_; (with_reducible refine (impl_field_times.calls k a0 _ _ l1 t674 t675 _ ?side1 ?side2 A7.out).mono ?_); (case side1 => exact cs (HR1.out)); (case side2 => exact HC1.out); rintro e w8 ⟨v676, rfl, ho0, hb⟩; refine ⟨_, rfl, ?_⟩; have n0_ := Aside0.mk (Kd.R_lower ho0 (below_size (bs HB))); have n1_ := Aside0.mk (below_step (bs HB) hb); clear HB; have HO677 := n0_; have HB := n1_; clear n0_ n1_; (try clear hb); (try clear hb2); (try clear hk); (try clear hi); (try clear ho0)))
      go_ret
      exact ⟨_, by first | rfl | (simp [errW_none, errW_some] <;> rfl) | (simp only [← hji3]; first | rfl | (simp [errW_none, errW_some] <;> rfl)) | (simp [*, errW_none, errW_some] <;> rfl), by (with_reducible repeat (first | apply Kd.R_alloc | apply Kd.R_drewN | apply Kd.R_drew)); exact HO677.out, by repeat (first | (with_reducible first | exact HB.out | apply below_alloc | apply pw_below_drewN | apply below_drew1) | exact HB.out)⟩
    · rw [if_neg c5] at H
      exact absurd H (by simp)
  · rw [if_neg c4] at H
    exact absurd H (by simp)
end Go.Proofs.Ytiffnigjblbakaa.H
namespace Go.Proofs.Ytiffnigjblbakaa.H
open Go.RowKit Go.Proofs.YtiffnigjblbakaaW.PrintWords Go.Proofs.YtiffnigjblbakaaW.PrintLast Go.Proofs.YtiffnigjblbakaaW.PrintMore
attribute [local go_sem] max2_int min2_int max_two min_two max_three min_three max_four min_four   -- for this text's walks alone
set_option linter.unusedVariables false
set_option linter.unusedSimpArgs false
/-! ### impl_field_product: function 71 -/
mutual
def impl_field_product.j0 : Nat → Int → List Int → List Int → Bool → Option (List Int)
  | 0, _, _, _, _ => none
  | k + 1, x0, x1, x2, x19 => if x19 = true then (some ([] : List Int)) else (if 0 ≤ (wrap64 ((wrap64 ((x1.length : Int) + (x2.length : Int))) - 1)) then (if (wrap64 ((wrap64 ((x1.length : Int) + (x2.length : Int))) - 1) : Int).toNat ≤ 35184372088832 then (impl_field_product.l0 k x0 x2 (List.replicate (wrap64 ((wrap64 ((x1.length : Int) + (x2.length : Int))) - 1) : Int).toNat 0) x1 (x1.length : Int) 0) else (none)) else (none))
def impl_field_product.l0 : Nat → Int → List Int → List Int → List Int → Int → Int → Option (List Int)
  | 0, _, _, _, _, _, _ => none
  | k + 1, x0, x2, x7, x27, x28, x29 => if x29 < x28 then (if 0 ≤ x29 then (if x29 < (x27.length : Int) then (impl_field_product.l1 k x0 x2 x7 x29 (rd x27 x29) x27 x28 x29 x2 (x2.length : Int) 0) else (none)) else (none)) else ((impl_trimmed.f k x7).bind fun t622 => (some t622))
def impl_field_product.l1 : Nat → Int → List Int → List Int → Int → Int → List Int → Int → Int → List Int → Int → Int → Option (List Int)
  | 0, _, _, _, _, _, _, _, _, _, _, _ => none
  | k + 1, x0, x2, x7, x8, x9, x27, x28, x29, x34, x35, x36 => if x36 < x35 then (if 0 ≤ x36 then (if x36 < (x34.length : Int) then (if 0 ≤ (wrap64 (x8 + x36)) then (if (wrap64 (x8 + x36)) < (x7.length : Int) then ((impl_field_mod.f x0 (wrap64 ((rd x7 (wrap64 (x8 + x36))) + (wrap64 (x9 * (rd x34 x36)))))).bind fun t628 => (impl_field_product.l1 k x0 x2 (x7.set ((wrap64 (x8 + x36)) : Int).toNat t628) x8 x9 x27 x28 x29 x34 x35 (wrap64 (x36 + 1)))) else (none)) else (none)) else (none)) else (none)) else (impl_field_product.l0 k x0 x2 x7 x27 x28 (wrap64 (x29 + 1)))
end
def impl_field_product.f (k : Nat) (a0 : Int) (l1 : List Int) (l2 : List Int) : Option (List Int) := if (l1.length : Int) = 0 then (impl_field_product.j0 k a0 l1 l2 true) else (impl_field_product.j0 k a0 l1 l2 ((l2.length : Int) == 0))
set_option maxHeartbeats 8000000 in
set_option maxRecDepth 100000 in
theorem impl_field_product.calls (k : Nat) (a0 : Int) (A1 : Option Addr) (c1 : Nat) (l1 : List Int) (A2 : Option Addr) (c2 : Nat) (l2 : List Int) (r : List Int) (w : World) (hr1 : Kd.C (Kd.int .i64) w A1 l1.length l1) (hc1 : l1.length ≤ c1) (hr2 : Kd.C (Kd.int .i64) w A2 l2.length l2) (hc2 : l2.length ≤ c2) (h : impl_field_product.f k a0 l1 l2 = some r) :
    Calls Try.prog 71 #[.int .i64 a0, .slice A1 l1.length c1, .slice A2 l2.length c2] w fun e w' => ∃ v0_ : Value, e = .returned (v0_) ∧ Kd.R (Kd.int .i64) 2 w' w.heap.size (fun _ => True) v0_ r ∧ Below w.heap.size w w' := by
  have HR1 := Aside0.mk hr1
  have HC1 := Aside0.mk hc1
  clear hr1 hc1
  have HR2 := Aside0.mk hr2
  have HC2 := Aside0.mk hc2
  clear hr2 hc2
  have HB := Aside0.mk (Below.refl w.heap.size w)
  have H : (if (l1.length : Int) = 0 then (impl_field_product.j0 k a0 l1 l2 true) else (impl_field_product.j0 k a0 l1 l2 ((l2.length : Int) == 0))) = some r := h
  clear h
  have HC4 := Aside0.mk H
  clear H
  go_enter Try.func71, Try.ntmps71
  go_upto_region 1 with (fail)
  go_cut [19] (fun v19 wc => ∃ (kq : Nat) (x19_3 : Bool), v19 = .bool x19_3 ∧ Aside0 (impl_field_product.j0 kq a0 l1 l2 x19_3 = some r) ∧ Aside0 (kq ≤ k) ∧ Aside0 (Below w.heap.size w wc))
  case first =>
    have H := HC4.out
    clear HC4
    by_cases c5 : (l1.length : Int) = 0
    · rw [if_pos c5] at H
      have c5b0 : ((l1.length : Int) == 0) = true := beq_iff_eq.mpr c5
      have c5b1 : ((l1.length : Int) != 0) = false := bne_eq_false_iff_eq.mpr c5
      clear c5
      (first | rw [c5b0] | (simp only [i64_w, i32_w]; rw [c5b0]) | skip)
      have H' := Aside0.mk H
      clear H
      go_wp2
      go_meet
      case rel => exact ⟨_, (true), ea_, H', ⟨by first | omega | exact Nat.le_refl _⟩, ⟨by repeat (first | (with_reducible first | exact HB.out | apply below_alloc | apply pw_below_drewN | apply below_drew1) | exact HB.out)⟩⟩
    · rw [if_neg c5] at H
      have c5b0 : ((l1.length : Int) == 0) = false := beq_eq_false_iff_ne.mpr c5
      have c5b1 : ((l1.length : Int) != 0) = true := bne_iff_ne.mpr c5
      have c5b2 : ¬ (l1 = []) := fun h_ => c5 (by rw [h_]; rfl)
      (first | rw [c5b0] | (simp only [i64_w, i32_w]; rw [c5b0]) | skip)
      have H' := Aside0.mk H
      clear H
      go_wp2
      go_meet
      case rel => exact ⟨_, (((l2.length : Int) == 0)), ea_, H', ⟨by first | omega | exact Nat.le_refl _⟩, ⟨by repeat (first | (with_reducible first | exact HB.out | apply below_alloc | apply pw_below_drewN | apply below_drew1) | exact HB.out)⟩⟩
  case rest =>
    clear HC4
    try clear c1
    try clear c2
    try clear p2
    try clear c5
    try clear c5b0
    try clear c5b1
    try clear c5b2
    obtain ⟨kq, x19_3, rfl, HA, HJ3, HB⟩ := hcut
    cases kq with
    | zero => exact absurd HA.out (by simp [impl_field_product.j0])
    | succ kj3 =>
      have H := HA.out
      clear HA
      simp only [impl_field_product.j0] at H
      by_cases c6 : x19_3 = true
      · subst c6
        have H1 : (some ([] : List Int)) = some r := by rw [if_pos rfl] at H; exact H
        clear H
        have H := H1
        clear H1
        obtain rfl := Option.some.inj H
        go_wp2
        go_ret
        exact ⟨_, by first | rfl | (simp [errW_none, errW_some] <;> rfl) | (simp [*, errW_none, errW_some] <;> rfl), by first | exact Kd.R_nil _ _ _ _ _ | exact Kd.N_nil _ _ _ _ _ | exact Kd.V_nil _ _ _ _ _ | exact Kd.Q_nil _ _ _ _ _ | exact Kd.S_nil _ _ _ _ _, by repeat (first | (with_reducible first | exact HB.out | apply below_alloc | apply pw_below_drewN | apply below_drew1) | exact HB.out)⟩
      · replace c6 := Bool.eq_false_iff.mpr c6
        subst c6
        have H1 : (if 0 ≤ (wrap64 ((wrap64 ((l1.length : Int) + (l2.length : Int))) - 1)) then (if (wrap64 ((wrap64 ((l1.length : Int) + (l2.length : Int))) - 1) : Int).toNat ≤ 35184372088832 then (impl_field_product.l0 kj3 a0 l2 (List.replicate (wrap64 ((wrap64 ((l1.length : Int) + (l2.length : Int))) - 1) : Int).toNat 0) l1 (l1.length : Int) 0) else (none)) else (none)) = some r := by rw [if_neg (show ¬ (false = true) by decide)] at H; exact H
        clear H
        have H := H1
        clear H1
        obtain ⟨ji7, hji7⟩ : ∃ j_ : Int, (wrap64 ((wrap64 ((l1.length : Int) + (l2.length : Int))) - 1)) = j_ := ⟨_, rfl⟩
        replace H : (if 0 ≤ (ji7) then (if (ji7 : Int).toNat ≤ 35184372088832 then (impl_field_product.l0 kj3 a0 l2 (List.replicate (ji7 : Int).toNat 0) l1 (l1.length : Int) 0) else (none)) else (none)) = some r := by first | (rw [hji7] at H; exact H) | (simp only [hji7] at H ⊢; exact H)
        have hji7w : (IntKind.i64.wrap ((wrap64 ((l1.length : Int) + (l2.length : Int))) - 1)) = ji7 := (i64_w _).trans hji7
        by_cases c8 : 0 ≤ (ji7)
        · rw [if_pos c8] at H
          have c8b0 := eq_true c8
          have c8b1 : decide (0 ≤ (ji7)) = true := decide_eq_true c8
          clear c8
          by_cases c9 : (ji7 : Int).toNat ≤ 35184372088832
          · rw [if_pos c9] at H
            have c9b0 := eq_true c9
            have c9b1 : decide ((ji7 : Int).toNat ≤ 35184372088832) = true := decide_eq_true c9
            clear c9
            obtain ⟨y619, hy619⟩ : ∃ y_ : List Int, y_ = (List.replicate (ji7 : Int).toNat 0) := ⟨_, rfl⟩
            replace H : (impl_field_product.l0 kj3 a0 l2 y619 l1 (l1.length : Int) 0) = some r := by first | (rw [hy619]; with_reducible exact H) | (have H2_ := (Option.bind_some _ _).symm.trans H; rw [hy619]; with_reducible exact H2_) | (have H2_ := (Option.bind_some _ _).symm.trans H; with_reducible exact H2_) | with_reducible exact H | (rw [hy619]; exact H) | exact H
            have Ny619 := Aside0.mk hy619
            clear hy619
            have H' := Aside0.mk H
            clear H
            go_wp2_with (first | ((with_reducible refine gate_dst (N := 26) rfl ?_); (try (refine gate_guard (by rfl) ?_; dsimp only)); refine Kd.R_make (Kd.int .i64) _ 2 rfl (N := 26) rfl 22 _ _ rfl ji7 rfl rfl Try.underlying22 (.int .i64 0) 8 info2 rfl (by decide) (by omega) 0 (ok := fun _ => True) (okp := fun _ => True) rfl (fun _ hk => hk) trivial (of_decide_eq_true (by first | (with_reducible assumption) | assumption)) (Nat.le_trans (Nat.mul_le_mul_right _ (of_decide_eq_true (by first | (with_reducible assumption) | assumption) : ji7.toNat ≤ 35184372088832)) (by omega)) (Below.refl _ _) (Nat.le_refl _) ?_; intro v620 w10 ho11 hb hg_ hnew_; clear hg_ hnew_; (first | rw [← Ny619.out] at ho11 | (simp only [Int.reduceToNat] at ho11; rw [← Ny619.out] at ho11)); have n0_ := Aside0.mk (Kd.R_lower ho11 (below_size (bs HB))); have n1_ := Aside0.mk (below_step (bs HB) hb); clear HB; have HO621 := n0_; have HB := n1_; clear n0_ n1_; clear hb ho11))
            go_loopg [29] kj3 (fun kq v29 w' => ∃ (x7_2 : List Int) (x29_2 : Int), v29 = .int .i64 x29_2 ∧ Aside0 (impl_field_product.l0 kq a0 l2 x7_2 l1 (l1.length : Int) x29_2 = some r) ∧ Aside0 (kq ≤ kj3) ∧ Aside0 (Kd.R (Kd.int .i64) 2 w' w.heap.size (fun _ => True) v620 x7_2) ∧ Aside0 (Below w.heap.size w w'))
            case atStart => exact ⟨(y619), (0), ea_, H', ⟨Nat.le_refl _⟩, ⟨by (with_reducible repeat (first | apply Kd.R_alloc | apply Kd.R_drewN | apply Kd.R_drew)); exact HO621.out⟩, ⟨by repeat (first | (with_reducible first | exact HB.out | apply below_alloc | apply pw_below_drewN | apply below_drew1) | exact HB.out)⟩⟩
            case round =>
              clear H'
              try clear c1
              try clear c2
              try clear p2
              try clear c5
              try clear c5b0
              try clear c5b1
              try clear c5b2
              try clear c6
              try clear p6
              try clear c7
              try clear c8
              try clear c8b0
              try clear c8b1
              try clear c9
              try clear c9b0
              try clear c9b1
              try clear p2
              obtain ⟨x7_2, x29_2, rfl, HA, HK2, HO_7, HB⟩ := hrel
              cases gk with
              | zero => exact absurd HA.out (by simp [impl_field_product.l0])
              | succ k2 =>
                have H := HA.out
                clear HA
                simp only [impl_field_product.l0] at H
                by_cases c12 : x29_2 < (l1.length : Int)
                · rw [if_pos c12] at H
                  have c12b0 : decide (x29_2 < (l1.length : Int)) = true := decide_eq_true c12
                  clear c12
                  by_cases c13 : 0 ≤ x29_2
                  · rw [if_pos c13] at H
                    have c13b0 : decide (0 ≤ x29_2) = true := decide_eq_true c13
                    clear c13
                    by_cases c14 : x29_2 < (l1.length : Int)
                    · rw [if_pos c14] at H
                      have c14b0 : decide (x29_2 < (l1.length : Int)) = true := decide_eq_true c14
                      clear c14
                      have H' := Aside0.mk H
                      clear H
                      have p625 : 0 ≤ (x29_2 : Int) := of_decide_eq_true (by first | (with_reducible assumption) | assumption)
                      have q625 : x29_2 < (l1.length : Int) := of_decide_eq_true (by first | (with_reducible assumption) | assumption)
                      obtain ⟨ad625, e625, hx625_0⟩ := Kd.at_int HR1.out x29_2 p625 q625
                      cases e625
                      replace hx625_0 := (HB.out.cell (World.block_lt_of_cell? w _ hx625_0)).trans hx625_0
                      replace p625 := eq_true p625
                      replace q625 := eq_true q625
                      go_wp2
                      go_loopg [36] k2 (fun kq v36 w' => ∃ (x7_3 : List Int) (x36_3 : Int), v36 = .int .i64 x36_3 ∧ Aside0 (impl_field_product.l1 kq a0 l2 x7_3 x29_2 (rd l1 x29_2) l1 (l1.length : Int) x29_2 l2 (l2.length : Int) x36_3 = some r) ∧ Aside0 (kq ≤ k2) ∧ Aside0 (Kd.R (Kd.int .i64) 2 w' w.heap.size (fun _ => True) v620 x7_3) ∧ Aside0 (Below w.heap.size w w'))
                      case atStart => exact ⟨(x7_2), (0), ea_, H', ⟨Nat.le_refl _⟩, ⟨by (with_reducible repeat (first | apply Kd.R_alloc | apply Kd.R_drewN | apply Kd.R_drew)); exact HO_7.out⟩, ⟨by repeat (first | (with_reducible first | exact HB.out | apply below_alloc | apply pw_below_drewN | apply below_drew1) | exact HB.out)⟩⟩
                      case round =>
                        clear H'
                        try clear c1
                        try clear c2
                        try clear p2
                        try clear c5
                        try clear c5b0
                        try clear c5b1
                        try clear c5b2
                        try clear c6
                        try clear p6
                        try clear q6
                        try clear hx6
                        try clear c7
                        try clear c8
                        try clear c8b0
                        try clear c8b1
                        try clear c9
                        try clear c9b0
                        try clear c9b1
                        try clear c12
                        try clear c12b0
                        try clear c13
                        try clear c13b0
                        try clear c14
                        try clear c14b0
                        try clear hx625_0
                        try clear p2
                        try clear p6
                        try clear p625
                        try clear q625
                        obtain ⟨x7_3, x36_3, rfl, HA, HK3, HO_7, HB⟩ := hrel
                        cases gk with
                        | zero => exact absurd HA.out (by simp [impl_field_product.l1])
                        | succ k3 =>
                          have H := HA.out
                          clear HA
                          simp only [impl_field_product.l1] at H
                          by_cases c15 : x36_3 < (l2.length : Int)
                          · rw [if_pos c15] at H
                            have c15b0 : decide (x36_3 < (l2.length : Int)) = true := decide_eq_true c15
                            clear c15
                            by_cases c16 : 0 ≤ x36_3
                            · rw [if_pos c16] at H
                              have c16b0 : decide (0 ≤ x36_3) = true := decide_eq_true c16
                              clear c16
                              by_cases c17 : x36_3 < (l2.length : Int)
                              · rw [if_pos c17] at H
                                have c17b0 : decide (x36_3 < (l2.length : Int)) = true := decide_eq_true c17
                                clear c17
                                obtain ⟨ji18, hji18⟩ : ∃ j_ : Int, (wrap64 (x29_2 + x36_3)) = j_ := ⟨_, rfl⟩
                                replace H : (if 0 ≤ (ji18) then (if (ji18) < (x7_3.length : Int) then ((impl_field_mod.f a0 (wrap64 ((rd x7_3 (ji18)) + (wrap64 ((rd l1 x29_2) * (rd l2 x36_3)))))).bind fun t628 => (impl_field_product.l1 k3 a0 l2 (x7_3.set ((ji18) : Int).toNat t628) x29_2 (rd l1 x29_2) l1 (l1.length : Int) x29_2 l2 (l2.length : Int) (wrap64 (x36_3 + 1)))) else (none)) else (none)) = some r := by first | (rw [hji18] at H; exact H) | (simp only [hji18] at H ⊢; exact H)
                                have hji18w : (IntKind.i64.wrap (x29_2 + x36_3)) = ji18 := (i64_w _).trans hji18
                                by_cases c19 : 0 ≤ (ji18)
                                · rw [if_pos c19] at H
                                  have c19b0 : decide (0 ≤ (ji18)) = true := decide_eq_true c19
                                  clear c19
                                  by_cases c20 : (ji18) < (x7_3.length : Int)
                                  · rw [if_pos c20] at H
                                    have c20b0 : decide ((ji18) < (x7_3.length : Int)) = true := decide_eq_true c20
                                    clear c20
                                    replace H := Option.bind_eq_some_iff.mp H
                                    obtain ⟨t628, A210, H⟩ := H
                                    have A21 := Aside0.mk A210
                                    clear A210
                                    obtain ⟨y629, hy629⟩ : ∃ y_ : List Int, y_ = (x7_3.set ((ji18) : Int).toNat t628) := ⟨_, rfl⟩
                                    replace H : (impl_field_product.l1 k3 a0 l2 y629 x29_2 (rd l1 x29_2) l1 (l1.length : Int) x29_2 l2 (l2.length : Int) (wrap64 (x36_3 + 1))) = some r := by first | (rw [hy629]; with_reducible exact H) | (have H2_ := (Option.bind_some _ _).symm.trans H; rw [hy629]; with_reducible exact H2_) | (have H2_ := (Option.bind_some _ _).symm.trans H; with_reducible exact H2_) | with_reducible exact H | (rw [hy629]; exact H) | exact H
                                    have Ny629 := Aside0.mk hy629
                                    clear hy629
                                    have H' := Aside0.mk H
                                    clear H
                                    have p626 : 0 ≤ (x36_3 : Int) := of_decide_eq_true (by first | (with_reducible assumption) | assumption)
                                    have q626 : x36_3 < (l2.length : Int) := of_decide_eq_true (by first | (with_reducible assumption) | assumption)
                                    obtain ⟨ad626, e626, hx626_0⟩ := Kd.at_int HR2.out x36_3 p626 q626
                                    cases e626
                                    replace hx626_0 := (HB.out.cell (World.block_lt_of_cell? w _ hx626_0)).trans hx626_0
                                    replace p626 := eq_true p626
                                    replace q626 := eq_true q626
                                    obtain ⟨Ao23, co23, eo23⟩ := Kd.R_slice HO_7.out
                                    subst eo23
                                    have p627 : 0 ≤ ((ji18) : Int) := of_decide_eq_true (by first | (with_reducible assumption) | assumption)
                                    have q627 : (ji18) < (x7_3.length : Int) := of_decide_eq_true (by first | (with_reducible assumption) | assumption)
                                    obtain ⟨ad627, e627, hx627_0⟩ := Kd.at_int (Kd.R_reads' HO_7.out).2.2 (ji18) p627 q627
                                    cases e627
                                    replace p627 := eq_true p627
                                    replace q627 := eq_true q627
                                    go_wp2_with (first | ((with_reducible refine gate_callee (f := 108) rfl ?_); refine goesL_ (some 56) rfl rfl Try.func108 (by kernel_rfl) rfl #[.int .i64 a0, .int .i64 (wrap64 ((rd x7_3 (ji18)) + (wrap64 ((rd l1 x29_2) * (rd l2 x36_3)))))] rfl (by (try simp only [List.map_toArray, List.map_cons, List.map_nil]); first | done | (simp only [hji18]; rfl) | rfl | (simp only [List.length_drop, List.length_take]; rfl)) ?_; (with_reducible refine (impl_field_mod.calls a0 (wrap64 ((rd x7_3 (ji18)) + (wrap64 ((rd l1 x29_2) * (rd l2 x36_3))))) t628 _ A21.out).mono ?_); rintro e w' ⟨rfl, ⟨nd, rfl⟩⟩; refine ⟨_, rfl, ?_⟩; (try (rw [drewN_self wr]; generalize hq_ : World.drewN wr _ = wr; have n0_ : Aside0 (Kd.R (Kd.int .i64) 2 wr w.heap.size (fun _ => True) (.slice (some ad627) x7_3.length co23) x7_3) := ⟨by rw [← hq_]; exact (rs HO_7)⟩; have n1_ : Aside0 (Below w.heap.size w wr) := ⟨by rw [← hq_]; exact (bs HB)⟩; clear HO_7 HB hq_; have HO_7 := n0_; have HB := n1_; clear n0_ n1_)); have p22 : 0 ≤ ((ji18) : Int) := of_decide_eq_true (by first | (with_reducible assumption) | assumption); have q22 : ((ji18) : Int) < ((x7_3.length : Int) : Int) := of_decide_eq_true (by first | (with_reducible assumption) | assumption); obtain ⟨go22, co22, eo22, gb22, gl22, cl22, HG22⟩ := Kd.R_form HO_7.out (by omega); (first | cases eo22 | (injection eo22 with ea_ en_ ec_; (first | subst ea_ | (injection ea_ with ea_; subst ea_)); subst ec_; clear en_)); have GB22 := Aside0.mk gb22; have GG22 := Aside0.mk HG22; clear gb22 gl22 HG22; (first | simp only [add_plain] at hx627_0 | skip); obtain ⟨hx22_0, hf22_0⟩ := Kd.R_celln 0 HO_7.out ((ji18) : Int) p22 q22; replace p22 := eq_true p22; replace q22 := eq_true q22; obtain ⟨hy24_, hz24_⟩ := Kd.R_celln 0 HO_7.out ((ji18) : Int) (of_decide_eq_true (by first | (with_reducible assumption) | assumption)) (of_decide_eq_true (by first | (with_reducible assumption) | assumption)); have HP24 := Kd.R_putg HO_7.out ((ji18) : Int) t628) | ((with_reducible refine gate_store (t := 2) (p := 57) rfl ?_); refine store_event (t := 2) (p := 57) (v := ?vo_w25) (w1 := (wr.setCell ⟨go22, ((ji18) : Int).toNat, none⟩ (.int .i64 t628))) ?hg ?ho ?hn ?hr ?_; (case ho => rfl); (case hg => rfl); (case hn => rfl); (case hr => first | (go_simp; done) | (go_simp; rfl)); intro w25 hw; have hg : wr.grownBy w25 (some go22) := (by rw [hw]; exact HP24.2); have hp_ : Kd.R (Kd.int .i64) 2 w25 w.heap.size (fun _ => True) (.slice (some ⟨go22, 0, none⟩) x7_3.length co23) y629 := (by rw [hw, Ny629.out]; exact HP24.1); clear HP24; have n0_ := Aside0.mk (hp_); have n1_ := Aside0.mk ((by rw [hw]; exact below_set (HB.out) GB22.out : Below w.heap.size w w25)); clear HO_7; clear HB; have HO_7 := n0_; have HB := n1_; clear n0_ n1_; clear hg hw hp_))
                                    go_roundg k3
                                    case measure => have := HJ3.out; have := HK2.out; have := HK3.out; omega
                                    case rel => exact ⟨(y629), (wrap64 (x36_3 + 1)), ea_, H', ⟨by have := HJ3.out; have := HK2.out; have := HK3.out; omega⟩, ⟨by (with_reducible repeat (first | apply Kd.R_alloc | apply Kd.R_drewN | apply Kd.R_drew)); exact HO_7.out⟩, ⟨by repeat (first | (with_reducible first | exact HB.out | apply below_alloc | apply pw_below_drewN | apply below_drew1) | exact HB.out)⟩⟩
                                  · rw [if_neg c20] at H
                                    exact absurd H (by simp)
                                · rw [if_neg c19] at H
                                  exact absurd H (by simp)
                              · rw [if_neg c17] at H
                                exact absurd H (by simp)
                            · rw [if_neg c16] at H
                              exact absurd H (by simp)
                          · rw [if_neg c15] at H
                            have c15b0 : decide (x36_3 < (l2.length : Int)) = false := decide_eq_false c15
                            clear c15
                            have H' := Aside0.mk H
                            clear H
                            go_wp2
                            go_roundg k3
                            case measure => have := HJ3.out; have := HK2.out; have := HK3.out; omega
                            case rel => exact ⟨(x7_3), (wrap64 (x29_2 + 1)), ea_, H', ⟨by have := HJ3.out; have := HK2.out; have := HK3.out; omega⟩, ⟨by (with_reducible repeat (first | apply Kd.R_alloc | apply Kd.R_drewN | apply Kd.R_drew)); exact HO_7.out⟩, ⟨by repeat (first | (with_reducible first | exact HB.out | apply below_alloc | apply pw_below_drewN | apply below_drew1) | exact HB.out)⟩⟩
                    · rw [if_neg c14] at H
                      exact absurd H (by simp)
                  · rw [if_neg c13] at H
                    exact absurd H (by simp)
                · rw [if_neg c12] at H
                  have c12b0 : decide (x29_2 < (l1.length : Int)) = false := decide_eq_false c12
                  clear c12
                  replace H := Option.bind_eq_some_iff.mp H
                  obtain ⟨t622, A260, H⟩ := H
                  have A26 := Aside0.mk A260
                  clear A260
                  obtain rfl := Option.some.inj H
                  obtain ⟨Ao27, co27, eo27⟩ := Kd.R_slice HO_7.out
                  subst eo27
                  go_wp2_with (first | ((with_reducible refine gate_callee (f := 115) rfl ?_); refine goesM_ (some 61) rfl rfl Try.func115 #[.slice Ao27 x7_2.length co27] rfl ?_; (with_reducible refine (impl_trimmed.calls k2 (fun k_ => some k_ = (.slice Ao27 x7_2.length co27 : Value).ownBlock) (.slice Ao27 x7_2.length co27) x7_2 t622 w _ ?side1 ?side2 A26.out).mono ?_); (case side1 => exact bs HB); (case side2 => exact Kd.R_tight rfl HO_7.out); rintro e w28 ⟨v623, rfl, ho0, hb, hkp⟩; refine ⟨_, rfl, ?_⟩; have n0_ := Aside0.mk (Kd.R_mono (ok' := fun k_ => True) ho0 (fun k_ hk_ => trivial)); have n1_ := Aside0.mk (hb); clear HB; clear HO_7; have HO624 := n0_; have HB := n1_; clear n0_ n1_; (try clear hb); (try clear hkp); (try clear ho0)))
                  go_ret
                  exact ⟨_, by first | rfl | (simp [errW_none, errW_some] <;> rfl) | (simp only [← hji7]; first | rfl | (simp [errW_none, errW_some] <;> rfl)) | (simp [*, errW_none, errW_some] <;> rfl), by (with_reducible repeat (first | apply Kd.R_alloc | apply Kd.R_drewN | apply Kd.R_drew)); exact HO624.out, by repeat (first | (with_reducible first | exact HB.out | apply below_alloc | apply pw_below_drewN | apply below_drew1) | exact HB.out)⟩
          · rw [if_neg c9] at H
            exact absurd H (by simp)
        · rw [if_neg c8] at H
          exact absurd H (by simp)
end Go.Proofs.Ytiffnigjblbakaa.H
