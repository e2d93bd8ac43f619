/- Joined texts of a claim: the printed functions and what is proved of them. -/
import Derived.Test.YtjbajagjknhpoaaYHx0
namespace Go.Proofs.Ytjbajagjknhpoaa.H
open Go.RowKit Go.Proofs.YtjbajagjknhpoaaW.PrintWords Go.Proofs.YtjbajagjknhpoaaW.PrintLast Go.Proofs.YtjbajagjknhpoaaW.PrintMore
attribute [local go_sem] max2_int min2_int max_two min_two max_three min_three max_four min_four   -- for this text's walks alone
set_option linter.unusedVariables false
set_option linter.unusedSimpArgs false
/-! ### impl_field_has: function 37 -/
def impl_field_has.f (a0 : Int) (a1 : Int) : Option (Bool) := if a1 ≥ 0 then (some (decide (a1 < a0))) else (some false)
set_option maxHeartbeats 8000000 in
set_option maxRecDepth 100000 in
theorem impl_field_has.calls (a0 : Int) (a1 : Int) (r : Bool) (w : World) (h : impl_field_has.f a0 a1 = some r) :
  Calls Try.prog 37 #[.int .i64 a0, .int .i64 a1] w fun e w' => e = .returned (.bool r) ∧ Drawn0 w w' := by
 have H : (if a1 ≥ 0 then (some (decide (a1 < a0))) else (some false)) = some r := h
 clear h
 by_cases c3 : a1 ≥ 0
 ·
  rw [if_pos c3] at H
  have c3b0 : decide (0 ≤ a1) = true := decide_eq_true c3
  clear c3
  obtain rfl := Option.some.inj H
  go_enter Try.func37, Try.ntmps37
  go_wp2
  go_ret
  exact ⟨by first | rfl | (simp; done) | (simp [*]; done), by repeat (first | exact Drawn0.refl _ | apply Drawn0.step)⟩
 ·
  rw [if_neg c3] at H
  have c3b0 : decide (0 ≤ a1) = false := decide_eq_false c3
  clear c3
  obtain rfl := Option.some.inj H
  go_enter Try.func37, Try.ntmps37
  go_wp2
  go_ret
  exact ⟨by first | rfl | (simp; done) | (simp [*]; done), by repeat (first | exact Drawn0.refl _ | apply Drawn0.step)⟩
end Go.Proofs.Ytjbajagjknhpoaa.H
namespace Go.Proofs.Ytjbajagjknhpoaa.H
open Go.RowKit Go.Proofs.YtjbajagjknhpoaaW.PrintWords Go.Proofs.YtjbajagjknhpoaaW.PrintLast Go.Proofs.YtjbajagjknhpoaaW.PrintMore
attribute [local go_sem] max2_int min2_int max_two min_two max_three min_three max_four min_four   -- for this text's walks alone
set_option linter.unusedVariables false
set_option linter.unusedSimpArgs false
/-! ### impl_within: function 54 -/
def impl_within.f (a0 : Int) (a1 : Int) (a2 : Int) : Option (Bool) := if a1 ≤ a0 then (some (decide (a0 ≤ a2))) else (some false)
set_option maxHeartbeats 8000000 in
set_option maxRecDepth 100000 in
theorem impl_within.calls (a0 : Int) (a1 : Int) (a2 : Int) (r : Bool) (w : World) (h : impl_within.f a0 a1 a2 = some r) :
  Calls Try.prog 54 #[.int .i64 a0, .int .i64 a1, .int .i64 a2] w fun e w' => e = .returned (.bool r) ∧ Drawn0 w w' := by
 have H : (if a1 ≤ a0 then (some (decide (a0 ≤ a2))) else (some false)) = some r := h
 clear h
 by_cases c4 : a1 ≤ a0
 ·
  rw [if_pos c4] at H
  have c4b0 : decide (a1 ≤ a0) = true := decide_eq_true c4
  clear c4
  obtain rfl := Option.some.inj H
  go_enter Try.func54, Try.ntmps54
  go_wp2
  go_ret
  exact ⟨by first | rfl | (simp; done) | (simp [*]; done), by repeat (first | exact Drawn0.refl _ | apply Drawn0.step)⟩
 ·
  rw [if_neg c4] at H
  have c4b0 : decide (a1 ≤ a0) = false := decide_eq_false c4
  clear c4
  obtain rfl := Option.some.inj H
  go_enter Try.func54, Try.ntmps54
  go_wp2
  go_ret
  exact ⟨by first | rfl | (simp; done) | (simp [*]; done), by repeat (first | exact Drawn0.refl _ | apply Drawn0.step)⟩
end Go.Proofs.Ytjbajagjknhpoaa.H
namespace Go.Proofs.Ytjbajagjknhpoaa.H
open Go.RowKit Go.Proofs.YtjbajagjknhpoaaW.PrintWords Go.Proofs.YtjbajagjknhpoaaW.PrintLast Go.Proofs.YtjbajagjknhpoaaW.PrintMore
attribute [local go_sem] max2_int min2_int max_two min_two max_three min_three max_four min_four   -- for this text's walks alone
set_option linter.unusedVariables false
set_option linter.unusedSimpArgs false
/-! ### slices_IndexFunc_int64_int64_86: function 86 (by hand) -/
/-- what a function value answers at a value, in every later world -/
def Gives (g : Nat) (lb : Array Value) (v : Value) (r : Bool) (w : World) : Prop :=
  ∀ W : World, Below w.heap.size w W → Calls Try.prog g (#[v] ++ lb) W fun e w' => e = .returned (.bool r) ∧ Below W.heap.size W w'
theorem below_next {w W w' : World} (h : Below w.heap.size w W) (k : Below W.heap.size W w') : Below w.heap.size w w' := h.trans (k.mono h.size)
set_option maxHeartbeats 4000000 in
set_option maxRecDepth 100000 in
theorem indexFunc_any (A : Option Addr) (n c : Nat) (q : Nat → Bool) (g : Nat) (lb : Array Value) (eg : ∀ args w, (callFunc g args).run Try.prog w = .ok (.enter g args) w) (w : World)
  (hn : n ≤ 9223372036854775807) (h : ∀ j, j < n → ∃ ad v, A = some ad ∧ w.cell? (ad.add j) = some v ∧ Gives g lb v (q j) w) :
  Calls Try.prog 86 #[.slice A n c, .func (.func g) #[] lb] w fun e w' => (∃ i : Int, e = .returned (.int .i64 i) ∧ (0 ≤ i ↔ ∃ j, j < n ∧ q j = true)) ∧ Below w.heap.size w w' := by
 have HH := Aside0.mk h
 clear h
 go_enter Try.func86, Try.ntmps86
 go_wp2
 go_loopg [5, 8] n (fun gg _ s8 wr => ∃ kk : Nat, kk ≤ n ∧ n - kk ≤ gg ∧ s8 = .int .i64 kk ∧ Aside0 (∀ j, j < kk → q j = false) ∧ Aside0 (Below w.heap.size w wr))
 case atStart => exact ⟨0, Nat.zero_le _, by omega, rfl, ⟨fun j hj => absurd hj (Nat.not_lt_zero _)⟩, ⟨Below.refl _ _⟩⟩
 case round =>
  obtain ⟨kk, hkk, hg, rfl, HA, HB⟩ := hrel
  by_cases hlt : kk < n
  ·
   have hltz : (kk : Int) < (n : Int) := by omega
   obtain ⟨ad, v, rfl, hc, hcall⟩ := HH.out kk hlt
   have hcall' := hcall wr HB.out
   have hc' := pw_cell_below HB.out hc
   clear hcall hc
   cases hq : q kk with
   | true =>
    rw [hq] at hcall'
    have Hq := Aside0.mk hq
    clear hq HH
    go_wp2_with fail
    refine (hcall').mono ?_
    rintro e w' ⟨rfl, hb⟩
    have HB' := Aside0.mk (below_next HB.out hb)
    clear hcall' eg hb HB
    go_wp2
    go_ret
    exact ⟨⟨kk, rfl, by constructor; (intro _; exact ⟨kk, hlt, Hq.out⟩); (intro _; omega)⟩, HB'.out⟩
   | false =>
    rw [hq] at hcall'
    have Hq := Aside0.mk hq
    clear hq HH
    go_wp2_with fail
    refine (hcall').mono ?_
    rintro e w' ⟨rfl, hb⟩
    have HB' := Aside0.mk (below_next HB.out hb)
    clear hcall' eg hb HB
    go_wp2
    go_roundg (n - (kk + 1))
    case measure => omega
    case rel =>
     refine ⟨kk + 1, by omega, by omega, by go_num, ⟨fun j hj => ?_⟩, HB'⟩
     by_cases e : j = kk
     ·
      subst e; exact Hq.out
     ·
      exact HA.out j (by omega)
  ·
   have hltz : ¬ (kk : Int) < (n : Int) := by omega
   have : kk = n := by omega
   subst this
   go_wp2
   go_ret
   refine ⟨⟨-1, rfl, ?_⟩, HB.out⟩
   constructor
   ·
    intro h; omega
   ·
    rintro ⟨j, hj, hq⟩
    rw [HA.out j hj] at hq
    cases hq
end Go.Proofs.Ytjbajagjknhpoaa.H
namespace Go.Proofs.Ytjbajagjknhpoaa.H
open Go.RowKit Go.Proofs.YtjbajagjknhpoaaW.PrintWords Go.Proofs.YtjbajagjknhpoaaW.PrintLast Go.Proofs.YtjbajagjknhpoaaW.PrintMore
attribute [local go_sem] max2_int min2_int max_two min_two max_three min_three max_four min_four   -- for this text's walks alone
set_option linter.unusedVariables false
set_option linter.unusedSimpArgs false
/-! ### slices_ContainsFunc_int64_int64_76: function 76 (by hand) -/
set_option maxHeartbeats 4000000 in
set_option maxRecDepth 100000 in
theorem containsFunc_any (A : Option Addr) (n c : Nat) (q : Nat → Bool) (r : Bool) (hr : r = true ↔ ∃ j, j < n ∧ q j = true) (g : Nat) (lb : Array Value) (eg : ∀ args w, (callFunc g args).run Try.prog w = .ok (.enter g args) w) (w : World)
    (hn : n ≤ 9223372036854775807) (h : ∀ j, j < n → ∃ ad v, A = some ad ∧ w.cell? (ad.add j) = some v ∧ Gives g lb v (q j) w) :
    Calls Try.prog 76 #[.slice A n c, .func (.func g) #[] lb] w fun e w' => e = .returned (.bool r) ∧ Below w.heap.size w w' := by
  have HC := indexFunc_any A n c q g lb eg w hn h
  clear h eg
  have Hr := Aside0.mk hr
  clear hr
  cases r with
  | true =>
    have HC' : Calls Try.prog 86 #[.slice A n c, .func (.func g) #[] lb] w fun e w' => (∃ i : Int, e = .returned (.int .i64 i) ∧ 0 ≤ i) ∧ Below w.heap.size w w' :=
      HC.mono fun e w' ⟨⟨i, he, hi⟩, hd⟩ => ⟨⟨i, he, hi.2 (Hr.out.1 rfl)⟩, hd⟩
    clear HC
    go_enter Try.func76, Try.ntmps76
    go_wp2_with (go_at_call 86; refine HC'.mono ?_; rintro e w' ⟨⟨i, rfl, hi⟩, hb⟩)
    go_ret
    exact ⟨rfl, hb⟩
  | false =>
    have HC' : Calls Try.prog 86 #[.slice A n c, .func (.func g) #[] lb] w fun e w' => (∃ i : Int, e = .returned (.int .i64 i) ∧ i < 0) ∧ Below w.heap.size w w' :=
      HC.mono fun e w' ⟨⟨i, he, hi⟩, hd⟩ => ⟨⟨i, he, by
        rcases Int.lt_or_le i 0 with h | h
        · exact h
        · exact absurd (Hr.out.2 (hi.1 h)) (by simp)⟩, hd⟩
    clear HC
    go_enter Try.func76, Try.ntmps76
    go_wp2_with (go_at_call 86; refine HC'.mono ?_; rintro e w' ⟨⟨i, rfl, hi⟩, hb⟩)
    go_ret
    exact ⟨by have hn0 : ¬ 0 ≤ i := by omega
              simp [hn0], hb⟩
end Go.Proofs.Ytjbajagjknhpoaa.H
namespace Go.Proofs.Ytjbajagjknhpoaa.H
open Go.RowKit Go.Proofs.YtjbajagjknhpoaaW.PrintWords Go.Proofs.YtjbajagjknhpoaaW.PrintLast Go.Proofs.YtjbajagjknhpoaaW.PrintMore
attribute [local go_sem] max2_int min2_int max_two min_two max_three min_three max_four min_four   -- for this text's walks alone
set_option linter.unusedVariables false
set_option linter.unusedSimpArgs false
/-! ### impl_areAll_int64_36: function 36 (by hand) -/
def withinB (x a b : Int) : Bool := decide (a ≤ x) && decide (x ≤ b)
theorem within_withinB (x a b : Int) (W : World) : Calls Try.prog 54 #[.int .i64 x, .int .i64 a, .int .i64 b] W fun e w' => e = .returned (.bool (withinB x a b)) ∧ Drawn0 W w' :=
 impl_within.calls x a b (withinB x a b) W (by unfold impl_within.f withinB; by_cases h : a ≤ x <;> simp [h])
set_option maxHeartbeats 4000000 in
set_option maxRecDepth 100000 in
theorem notIs_bound (v : Value) (r : Bool) (g : Nat) (f : Value) (B : Nat) (eg : ∀ args w, (callFunc g args).run Try.prog w = .ok (.enter g args) w) (w : World)
  (hB : w.cell? ⟨B, 0, none⟩ = some (.func (.func g) #[f] #[]))
  (h : ∀ W : World, Below w.heap.size w W → Calls Try.prog g #[f, v] W fun e w' => e = .returned (.bool r) ∧ Drawn0 W w') :
  Gives 77 #[.pointer (some ⟨B, 0, none⟩)] v (!r) w := by
 intro W hW
 have hB' := (hW.cell (p := ⟨B, 0, none⟩) (World.block_lt_of_cell? w _ hB)).trans hB
 have h' := h W hW
 clear h hW hB
 show Calls Try.prog 77 #[v, .pointer (some ⟨B, 0, none⟩)] W _
 go_enter Try.func77, Try.ntmps77
 go_wp2_with fail
 refine h'.mono ?_
 rintro e w' ⟨rfl, ⟨q', rfl⟩⟩
 clear h' eg hB'
 go_wp2
 go_ret
 exact ⟨rfl, (show Drawn0 W _ by repeat (first | exact Drawn0.refl _ | apply Drawn0.step)).below⟩
set_option maxHeartbeats 4000000 in
set_option maxRecDepth 100000 in
theorem areAll_bound (A : Option Addr) (c : Nat) (l : List Int) (p : Int → Bool) (g : Nat) (f : Value) (eg : ∀ args w, (callFunc g args).run Try.prog w = .ok (.enter g args) w) (w : World)
  (hr : Kd.C (Kd.int .i64) w A l.length l)
  (h : ∀ (x : Int) (W : World), Below w.heap.size w W → Calls Try.prog g #[f, .int .i64 x] W fun e w' => e = .returned (.bool (p x)) ∧ Drawn0 W w') :
  Calls Try.prog 36 #[.slice A l.length c, .func (.func g) #[f] #[]] w fun e w' => e = .returned (.bool (l.all p)) ∧ Below w.heap.size w w' := by
 have ec : ∀ args w, (callFunc 77 args).run Try.prog w = .ok (.enter 77 args) w := enters_of Try.func77 (by kernel_rfl) rfl
 have hcell : (w.alloc (.cells #[.func (.func g) #[f] #[]] 53)).cell? ⟨w.heap.size, 0, none⟩ = some (.func (.func g) #[f] #[]) := by simp
 have hb : Below w.heap.size w (w.alloc (.cells #[.func (.func g) #[f] #[]] 53)) := (Below.refl _ w).alloc (Nat.le_refl _) _
 have HC := containsFunc_any A l.length c (fun j => !(p (rd l j))) (!(l.all p)) (by
   rw [Bool.not_eq_true', List.all_eq_false]
   constructor
   ·
    rintro ⟨x, hx, hp⟩
    obtain ⟨j, hj, rfl⟩ := List.getElem_of_mem hx
    exact ⟨j, hj, by simpa [rd, List.getD_eq_getElem?_getD, hj] using hp⟩
   ·
    rintro ⟨j, hj, hp⟩
    exact ⟨l[j], List.getElem_mem hj, by simpa [rd, List.getD_eq_getElem?_getD, hj] using hp⟩) 77 #[.pointer (some ⟨w.heap.size, 0, none⟩)] ec (w.alloc (.cells #[.func (.func g) #[f] #[]] 53)) (Kd.C_max hr)
  (fun j hj => by
   obtain ⟨ad, rfl, hc⟩ := Kd.at_int hr j (by omega) (by omega)
   exact ⟨ad, _, rfl, by simpa using pw_cell_below hb hc, notIs_bound _ (p (rd l j)) g f w.heap.size eg _ hcell fun W hW => h _ W (hb.trans (hW.mono (by simp)))⟩)
 clear h eg hcell ec
 generalize l.all p = r at HC ⊢
 go_enter Try.func36, Try.ntmps36
 go_wp2_with (go_at_call 76; refine HC.mono ?_; rintro e w' ⟨rfl, hb'⟩)
 go_ret
 exact ⟨by simp, hb.trans (hb'.mono (by simp))⟩
def hasB (p x : Int) : Bool := decide (0 ≤ x) && decide (x < p)
theorem has_hasB (p x : Int) (W : World) : Calls Try.prog 37 #[.int .i64 p, .int .i64 x] W fun e w' => e = .returned (.bool (hasB p x)) ∧ Drawn0 W w' :=
 impl_field_has.calls p x (hasB p x) W (by unfold impl_field_has.f hasB; by_cases h : x ≥ 0 <;> simp [h])
end Go.Proofs.Ytjbajagjknhpoaa.H
namespace Go.Proofs.Ytjbajagjknhpoaa.H
open Go.RowKit Go.Proofs.YtjbajagjknhpoaaW.PrintWords Go.Proofs.YtjbajagjknhpoaaW.PrintLast Go.Proofs.YtjbajagjknhpoaaW.PrintMore
attribute [local go_sem] max2_int min2_int max_two min_two max_three min_three max_four min_four   -- for this text's walks alone
set_option linter.unusedVariables false
set_option linter.unusedSimpArgs false
/-! ### impl_field_mod: function 69 -/
def impl_field_mod.f (a0 : Int) (a1 : Int) : Option (Int) := if a0 = 0 then (none) else (some (Int.tmod (wrap64 ((Int.tmod a1 a0) + a0)) a0))
set_option maxHeartbeats 8000000 in
set_option maxRecDepth 100000 in
theorem impl_field_mod.calls (a0 : Int) (a1 : Int) (r : Int) (w : World) (h : impl_field_mod.f a0 a1 = some r) :
  Calls Try.prog 69 #[.int .i64 a0, .int .i64 a1] w fun e w' => e = .returned (.int .i64 r) ∧ Drawn0 w w' := by
 have H : (if a0 = 0 then (none) else (some (Int.tmod (wrap64 ((Int.tmod a1 a0) + a0)) a0))) = some r := h
 clear h
 by_cases c3 : a0 = 0
 ·
  rw [if_pos c3] at H
  exact absurd H (by simp)
 ·
  rw [if_neg c3] at H
  have c3b0 : (a0 == 0) = false := beq_eq_false_iff_ne.mpr c3
  have c3b1 : (a0 != 0) = true := bne_iff_ne.mpr c3
  obtain rfl := Option.some.inj H
  go_enter Try.func69, Try.ntmps69
  go_wp2
  go_ret
  exact ⟨by first | rfl | (simp; done) | (simp [*]; done), by repeat (first | exact Drawn0.refl _ | apply Drawn0.step)⟩
end Go.Proofs.Ytjbajagjknhpoaa.H
namespace Go.Proofs.Ytjbajagjknhpoaa.H
open Go.RowKit Go.Proofs.YtjbajagjknhpoaaW.PrintWords Go.Proofs.YtjbajagjknhpoaaW.PrintLast Go.Proofs.YtjbajagjknhpoaaW.PrintMore
attribute [local go_sem] max2_int min2_int max_two min_two max_three min_three max_four min_four   -- for this text's walks alone
set_option linter.unusedVariables false
set_option linter.unusedSimpArgs false
/-! ### impl_trimmed: function 70 -/
def impl_trimmed.l0 : Nat → List Int → Option (List Int)
  | 0, _ => none
  | k + 1, x0 => if (x0.length : Int) > 0 then (if 0 ≤ (wrap64 ((x0.length : Int) - 1)) then (if (wrap64 ((x0.length : Int) - 1)) < (x0.length : Int) then (if (rd x0 (wrap64 ((x0.length : Int) - 1))) = 0 then (if (wrap64 ((x0.length : Int) - 1)) ≤ (x0.length : Int) then (impl_trimmed.l0 k (x0.take ((wrap64 ((x0.length : Int) - 1)) : Int).toNat)) else (none)) else (some x0)) else (none)) else (none)) else (some x0)
def impl_trimmed.f (k : Nat) (l0 : List Int) : Option (List Int) := impl_trimmed.l0 k l0
set_option maxHeartbeats 8000000 in
set_option maxRecDepth 100000 in
theorem impl_trimmed.calls (k : Nat) (P0_ : Nat → Prop) (u9000_ : Value) (l0 : List Int) (r : List Int) (w0 w : World) (hB : Below w0.heap.size w0 w) (ho0 : Kd.R (Kd.int .i64) 2 w w0.heap.size P0_ u9000_ l0) (h : impl_trimmed.f k l0 = some r) :
  Calls Try.prog 70 #[u9000_] w fun e w' => ∃ v0_ : Value, e = .returned (v0_) ∧ Kd.R (Kd.int .i64) 2 w' w0.heap.size (fun k_ => (P0_ k_ ∨ w.heap.size ≤ k_)) v0_ r ∧ Below w0.heap.size w0 w' ∧ Kept w w' (fun k_ => P0_ k_) := by
 have HO0 := Aside0.mk (show Kd.R (Kd.int .i64) 2 w w0.heap.size (fun k_ => (P0_ k_ ∨ w.heap.size ≤ k_)) u9000_ l0 from Kd.R_mono ho0 (fun k_ hk => (.inl hk)))
 have HK := Aside0.mk (Kept.refl w (fun k_ => P0_ k_))
 have HW0 := Aside0.mk hB.size
 have HB := Aside0.mk hB
 clear hB
 have H : (impl_trimmed.l0 k l0) = some r := h
 clear h
 have H' := Aside0.mk H
 clear H
 go_enter Try.func70, Try.ntmps70
 go_wp2
 go_loopg [0] k (fun kq v0 w' => ∃ (x0_1 : List Int), Aside0 (impl_trimmed.l0 kq x0_1 = some r) ∧ Aside0 (kq ≤ k) ∧ Aside0 (Kd.R (Kd.int .i64) 2 w' w0.heap.size (fun k_ => (P0_ k_ ∨ w.heap.size ≤ k_)) v0 x0_1) ∧ Aside0 (Kept w w' (fun k_ => P0_ k_)) ∧ Aside0 (Below w0.heap.size w0 w'))
 case atStart => exact ⟨(l0), H', ⟨Nat.le_refl _⟩, ⟨by (with_reducible repeat (first | apply Kd.R_alloc | apply Kd.R_drewN | apply Kd.R_drew)); exact HO0.out⟩, ⟨by repeat (first | (with_reducible first | exact HK.out | apply Kept.alloc | apply Kept.drewN | apply Kept.drew) | exact HK.out)⟩, ⟨by repeat (first | (with_reducible first | exact HB.out | apply below_alloc | apply pw_below_drewN | apply below_drew1) | exact HB.out)⟩⟩
 case round =>
  clear H'
  obtain ⟨x0_1, HA, HK1, HO_0, HK, HB⟩ := hrel
  cases gk with
  | zero => exact absurd HA.out (by simp [impl_trimmed.l0])
  | succ k1 =>
   have H := HA.out
   clear HA
   simp only [impl_trimmed.l0] at H
   by_cases c2 : (x0_1.length : Int) > 0
   ·
    rw [if_pos c2] at H
    have c2b0 : decide (0 < (x0_1.length : Int)) = true := decide_eq_true c2
    have c2b1 : decide (0 < x0_1.length) = true := decide_eq_true (by omega)
    clear c2
    obtain ⟨ji3, hji3⟩ : ∃ j_ : Int, (wrap64 ((x0_1.length : Int) - 1)) = j_ := ⟨_, rfl⟩
    replace H : (if 0 ≤ (ji3) then (if (ji3) < (x0_1.length : Int) then (if (rd x0_1 (ji3)) = 0 then (if (ji3) ≤ (x0_1.length : Int) then (impl_trimmed.l0 k1 (x0_1.take ((ji3) : Int).toNat)) else (none)) else (some x0_1)) else (none)) else (none)) = some r := by first | (rw [hji3] at H; exact H) | (simp only [hji3] at H ⊢; exact H)
    have hji3w : (IntKind.i64.wrap ((x0_1.length : Int) - 1)) = ji3 := (i64_w _).trans hji3
    by_cases c4 : 0 ≤ (ji3)
    ·
     rw [if_pos c4] at H
     have c4b0 : decide (0 ≤ (ji3)) = true := decide_eq_true c4
     clear c4
     by_cases c5 : (ji3) < (x0_1.length : Int)
     ·
      rw [if_pos c5] at H
      have c5b0 : decide ((ji3) < (x0_1.length : Int)) = true := decide_eq_true c5
      clear c5
      by_cases c6 : (rd x0_1 (ji3)) = 0
      ·
       rw [if_pos c6] at H
       have c6b0 : ((rd x0_1 (ji3)) == 0) = true := beq_iff_eq.mpr c6
       have c6b1 : ((rd x0_1 (ji3)) != 0) = false := bne_eq_false_iff_eq.mpr c6
       clear c6
       by_cases c7 : (ji3) ≤ (x0_1.length : Int)
       ·
        rw [if_pos c7] at H
        have c7b0 := eq_true c7
        have c7b1 : decide ((ji3) ≤ (x0_1.length : Int)) = true := decide_eq_true c7
        clear c7
        obtain ⟨y301, hy301⟩ : ∃ y_ : List Int, y_ = (x0_1.take ((ji3) : Int).toNat) := ⟨_, rfl⟩
        replace H : (impl_trimmed.l0 k1 y301) = some r := by first | (rw [hy301]; with_reducible exact H) | (have H2_ := (Option.bind_some _ _).symm.trans H; rw [hy301]; with_reducible exact H2_) | (have H2_ := (Option.bind_some _ _).symm.trans H; with_reducible exact H2_) | with_reducible exact H | (rw [hy301]; exact H) | exact H
        have Ny301 := Aside0.mk hy301
        clear hy301
        have H' := Aside0.mk H
        clear H
        obtain ⟨Ao8, co8, eo8⟩ := Kd.R_slice HO_0.out
        subst eo8
        have p300 : 0 ≤ ((ji3) : Int) := of_decide_eq_true (by first | (with_reducible assumption) | assumption)
        have q300 : (ji3) < (x0_1.length : Int) := of_decide_eq_true (by first | (with_reducible assumption) | assumption)
        obtain ⟨ad300, e300, hx300_0⟩ := Kd.at_int (Kd.R_reads' HO_0.out).2.2 (ji3) p300 q300
        cases e300
        replace p300 := eq_true p300
        replace q300 := eq_true q300
        have q9 : ((ji3) : Int) ≤ ((x0_1.length : Int) : Int) := of_decide_eq_true (by first | (with_reducible assumption) | assumption)
        obtain ⟨i09, hi09, _, hsz9, _⟩ := info_parts info2
        have hcut9 := cut_to (P := Try.prog) 24 2 .i64 Try.underlying24 hi09 (some ad300) x0_1.length co8 (ji3) (of_decide_eq_true (by first | (with_reducible assumption) | assumption)) q9 (Kd.R_reads' HO_0.out).2.1
        have hr9 := Kd.R_take (m := ((ji3) : Int).toNat) HO_0.out (by omega)
        have hy9 : y301.length = ((ji3) : Int).toNat := (by rw [Ny301.out, List.length_take]; omega)
        rw [← Ny301.out] at hr9
        rw [← hy9] at hr9 hcut9
        clear hy9 hi09 hsz9 HO_0
        have HO303 := Aside0.mk hr9
        clear hr9
        replace q9 := eq_true q9
        go_wp2
        go_roundg k1
        case measure => have := HK1.out; omega
        case rel => exact ⟨(y301), H', ⟨by have := HK1.out; omega⟩, ⟨by (with_reducible repeat (first | apply Kd.R_alloc | apply Kd.R_drewN | apply Kd.R_drew)); exact HO303.out⟩, ⟨by repeat (first | (with_reducible first | exact HK.out | apply Kept.alloc | apply Kept.drewN | apply Kept.drew) | exact HK.out)⟩, ⟨by repeat (first | (with_reducible first | exact HB.out | apply below_alloc | apply pw_below_drewN | apply below_drew1) | exact HB.out)⟩⟩
       ·
        rw [if_neg c7] at H
        exact absurd H (by simp)
      ·
       rw [if_neg c6] at H
       have c6b0 : ((rd x0_1 (ji3)) == 0) = false := beq_eq_false_iff_ne.mpr c6
       have c6b1 : ((rd x0_1 (ji3)) != 0) = true := bne_iff_ne.mpr c6
       obtain rfl := Option.some.inj H
       obtain ⟨Ao10, co10, eo10⟩ := Kd.R_slice HO_0.out
       subst eo10
       have p300 : 0 ≤ ((ji3) : Int) := of_decide_eq_true (by first | (with_reducible assumption) | assumption)
       have q300 : (ji3) < (x0_1.length : Int) := of_decide_eq_true (by first | (with_reducible assumption) | assumption)
       obtain ⟨ad300, e300, hx300_0⟩ := Kd.at_int (Kd.R_reads' HO_0.out).2.2 (ji3) p300 q300
       cases e300
       replace p300 := eq_true p300
       replace q300 := eq_true q300
       go_wp2
       go_ret
       exact ⟨_, by first | rfl | (simp [errW_none, errW_some] <;> rfl) | (simp only [← hji3]; first | rfl | (simp [errW_none, errW_some] <;> rfl)) | (simp [*, errW_none, errW_some] <;> rfl), by (with_reducible repeat (first | apply Kd.R_alloc | apply Kd.R_drewN | apply Kd.R_drew)); exact HO_0.out, by repeat (first | (with_reducible first | exact HB.out | apply below_alloc | apply pw_below_drewN | apply below_drew1) | exact HB.out), by repeat (first | (with_reducible first | exact HK.out | apply Kept.alloc | apply Kept.drewN | apply Kept.drew) | exact HK.out)⟩
     ·
      rw [if_neg c5] at H
      exact absurd H (by simp)
    ·
     rw [if_neg c4] at H
     exact absurd H (by simp)
   ·
    rw [if_neg c2] at H
    have c2b0 : decide (0 < (x0_1.length : Int)) = false := decide_eq_false c2
    have c2b1 : decide (0 < x0_1.length) = false := decide_eq_false (by omega)
    clear c2
    obtain rfl := Option.some.inj H
    obtain ⟨Ao11, co11, eo11⟩ := Kd.R_slice HO_0.out
    subst eo11
    go_wp2
    go_ret
    exact ⟨_, by first | rfl | (simp [errW_none, errW_some] <;> rfl) | (simp [*, errW_none, errW_some] <;> rfl), by (with_reducible repeat (first | apply Kd.R_alloc | apply Kd.R_drewN | apply Kd.R_drew)); exact HO_0.out, by repeat (first | (with_reducible first | exact HB.out | apply below_alloc | apply pw_below_drewN | apply below_drew1) | exact HB.out), by repeat (first | (with_reducible first | exact HK.out | apply Kept.alloc | apply Kept.drewN | apply Kept.drew) | exact HK.out)⟩
end Go.Proofs.Ytjbajagjknhpoaa.H
namespace Go.Proofs.Ytjbajagjknhpoaa.H
open Go.RowKit Go.Proofs.YtjbajagjknhpoaaW.PrintWords Go.Proofs.YtjbajagjknhpoaaW.PrintLast Go.Proofs.YtjbajagjknhpoaaW.PrintMore
attribute [local go_sem] max2_int min2_int max_two min_two max_three min_three max_four min_four   -- for this text's walks alone
set_option linter.unusedVariables false
set_option linter.unusedSimpArgs false
/-! ### impl_field_add: function 42 -/
def impl_field_add.l0 : Nat → Int → Int → List Int → List Int → Int → Int → Option (List Int)
  | 0, _, _, _, _, _, _ => none
  | k + 1, x0, x3, x9, x21, x22, x23 => if x23 < x22 then (if 0 ≤ x23 then (if x23 < (x21.length : Int) then (if x23 < (x9.length : Int) then ((impl_field_mod.f x0 (wrap64 ((rd x9 x23) + (wrap64 (x3 * (rd x21 x23)))))).bind fun t399 => (impl_field_add.l0 k x0 x3 (x9.set (x23 : Int).toNat t399) x21 x22 (wrap64 (x23 + 1)))) else (none)) else (none)) else (none)) else ((impl_trimmed.f k x9).bind fun t401 => (some t401))
def impl_field_add.f (k : Nat) (a0 : Int) (l1 : List Int) (l2 : List Int) (a3 : Int) : Option (List Int) := if (l1.length : Int) < (l2.length : Int) then (if 0 ≤ (l2.length : Int) then (if ((l2.length : Int) : Int).toNat ≤ 35184372088832 then (impl_field_add.l0 k a0 a3 (cpInto (List.replicate ((l2.length : Int) : Int).toNat 0) l1) l2 (l2.length : Int) 0) else (none)) else (none)) else (if 0 ≤ (l1.length : Int) then (if ((l1.length : Int) : Int).toNat ≤ 35184372088832 then (impl_field_add.l0 k a0 a3 (cpInto (List.replicate ((l1.length : Int) : Int).toNat 0) l1) l2 (l2.length : Int) 0) else (none)) else (none))
set_option maxHeartbeats 8000000 in
set_option maxRecDepth 100000 in
theorem impl_field_add.calls (k : Nat) (a0 : Int) (A1 : Option Addr) (c1 : Nat) (l1 : List Int) (A2 : Option Addr) (c2 : Nat) (l2 : List Int) (a3 : Int) (r : List Int) (w : World) (hr1 : Kd.C (Kd.int .i64) w A1 l1.length l1) (hc1 : l1.length ≤ c1) (hr2 : Kd.C (Kd.int .i64) w A2 l2.length l2) (hc2 : l2.length ≤ c2) (h : impl_field_add.f k a0 l1 l2 a3 = some r) :
  Calls Try.prog 42 #[.int .i64 a0, .slice A1 l1.length c1, .slice A2 l2.length c2, .int .i64 a3] w fun e w' => ∃ v0_ : Value, e = .returned (v0_) ∧ Kd.R (Kd.int .i64) 2 w' w.heap.size (fun _ => True) v0_ r ∧ Below w.heap.size w w' := by
 have HR1 := Aside0.mk hr1
 have HC1 := Aside0.mk hc1
 clear hr1 hc1
 have HR2 := Aside0.mk hr2
 have HC2 := Aside0.mk hc2
 clear hr2 hc2
 have HB := Aside0.mk (Below.refl w.heap.size w)
 have H : (if (l1.length : Int) < (l2.length : Int) then (if 0 ≤ (l2.length : Int) then (if ((l2.length : Int) : Int).toNat ≤ 35184372088832 then (impl_field_add.l0 k a0 a3 (cpInto (List.replicate ((l2.length : Int) : Int).toNat 0) l1) l2 (l2.length : Int) 0) else (none)) else (none)) else (if 0 ≤ (l1.length : Int) then (if ((l1.length : Int) : Int).toNat ≤ 35184372088832 then (impl_field_add.l0 k a0 a3 (cpInto (List.replicate ((l1.length : Int) : Int).toNat 0) l1) l2 (l2.length : Int) 0) else (none)) else (none))) = some r := h
 clear h
 by_cases c5 : (l1.length : Int) < (l2.length : Int)
 ·
  rw [if_pos c5] at H
  have c5i := eq_true c5
  have c5b0 : decide ((l1.length : Int) < (l2.length : Int)) = true := decide_eq_true c5
  have c5b1 : decide (l1.length < l2.length) = true := decide_eq_true (Int.ofNat_lt.mp c5)
  clear c5
  by_cases c6 : 0 ≤ (l2.length : Int)
  ·
   rw [if_pos c6] at H
   have c6b0 := eq_true c6
   have c6b1 : decide (0 ≤ (l2.length : Int)) = true := decide_eq_true c6
   clear c6
   by_cases c7 : ((l2.length : Int) : Int).toNat ≤ 35184372088832
   ·
    rw [if_pos c7] at H
    have c7b0 := eq_true c7
    have c7b1 : decide (((l2.length : Int) : Int).toNat ≤ 35184372088832) = true := decide_eq_true c7
    clear c7
    obtain ⟨y394, hy394⟩ : ∃ y_ : List Int, y_ = (cpInto (List.replicate ((l2.length : Int) : Int).toNat 0) l1) := ⟨_, rfl⟩
    replace H : (impl_field_add.l0 k a0 a3 y394 l2 (l2.length : Int) 0) = some r := by first | (rw [hy394]; with_reducible exact H) | (have H2_ := (Option.bind_some _ _).symm.trans H; rw [hy394]; with_reducible exact H2_) | (have H2_ := (Option.bind_some _ _).symm.trans H; with_reducible exact H2_) | with_reducible exact H | (rw [hy394]; exact H) | exact H
    have Ny394 := Aside0.mk hy394
    clear hy394
    have H' := Aside0.mk H
    clear H
    go_enter Try.func42, Try.ntmps42
    go_wp2_with (first | ((with_reducible refine gate_dst (N := 17) rfl ?_); refine Kd.R_make (Kd.int .i64) _ 2 rfl (N := 17) rfl 24 _ _ rfl (l2.length : Int) rfl rfl Try.underlying24 (.int .i64 0) 8 info2 rfl (by decide) (by omega) 0 (ok := fun _ => True) (okp := fun _ => True) rfl (fun _ hk => hk) trivial (of_decide_eq_true (by first | (with_reducible assumption) | assumption)) (Nat.le_trans (Nat.mul_le_mul_right _ (of_decide_eq_true (by first | (with_reducible assumption) | assumption) : (l2.length : Int).toNat ≤ 35184372088832)) (by omega)) (Below.refl _ _) (Nat.le_refl _) ?_; intro v395 w8 ho9 hb hg_ hnew_; clear hg_ hnew_; have n0_ := Aside0.mk (Kd.R_lower ho9 (below_size (bs HB))); have n1_ := Aside0.mk (below_step (bs HB) hb); clear HB; have HPy394 := n0_; have HB := n1_; clear n0_ n1_; clear hb ho9) | ((with_reducible refine gate_builtin (b := .copy) rfl ?_); refine copy_into rfl _ _ _ rfl Try.underlying24 (by kernel_rfl) l1 rfl rfl HPy394.out ?cpR ?cpM HB.out ?_; (case cpR => exact Kd.C_below HR1.out HB.out); (case cpM => (first | (simp; done) | (simp only [List.length_replicate, Int.toNat_natCast]; exact Nat.le_of_lt (of_decide_eq_true (by assumption))))); intro wcp hcp hbb; have HO396 := Aside0.mk hcp; (rw [← Ny394.out] at HO396); clear HB; have HB := Aside0.mk hbb; clear hcp hbb HPy394))
    go_loopg [23] k (fun kq v23 w' => ∃ (x9_1 : List Int) (x23_1 : Int), v23 = .int .i64 x23_1 ∧ Aside0 (impl_field_add.l0 kq a0 a3 x9_1 l2 (l2.length : Int) x23_1 = some r) ∧ Aside0 (kq ≤ k) ∧ Aside0 (Kd.R (Kd.int .i64) 2 w' w.heap.size (fun _ => True) v395 x9_1) ∧ Aside0 (Below w.heap.size w w'))
    case atStart => exact ⟨(y394), (0), ea_, H', ⟨Nat.le_refl _⟩, ⟨by (with_reducible repeat (first | apply Kd.R_alloc | apply Kd.R_drewN | apply Kd.R_drew)); exact HO396.out⟩, ⟨by repeat (first | (with_reducible first | exact HB.out | apply below_alloc | apply pw_below_drewN | apply below_drew1) | exact HB.out)⟩⟩
    case round =>
     clear H'
     try clear c1
     try clear c2
     try clear p2
     try clear c4
     try clear c5
     try clear c5b0
     try clear c5b1
     try clear c6
     try clear c6b0
     try clear c6b1
     try clear c7
     try clear c7b0
     try clear c7b1
     obtain ⟨x9_1, x23_1, rfl, HA, HK1, HO_9, HB⟩ := hrel
     cases gk with
     | zero => exact absurd HA.out (by simp [impl_field_add.l0])
     | succ k1 =>
      have H := HA.out
      clear HA
      simp only [impl_field_add.l0] at H
      by_cases c10 : x23_1 < (l2.length : Int)
      ·
       rw [if_pos c10] at H
       have c10b0 : decide (x23_1 < (l2.length : Int)) = true := decide_eq_true c10
       clear c10
       by_cases c11 : 0 ≤ x23_1
       ·
        rw [if_pos c11] at H
        have c11b0 : decide (0 ≤ x23_1) = true := decide_eq_true c11
        clear c11
        by_cases c12 : x23_1 < (l2.length : Int)
        ·
         rw [if_pos c12] at H
         have c12b0 : decide (x23_1 < (l2.length : Int)) = true := decide_eq_true c12
         clear c12
         by_cases c13 : x23_1 < (x9_1.length : Int)
         ·
          rw [if_pos c13] at H
          have c13b0 : decide (x23_1 < (x9_1.length : Int)) = true := decide_eq_true c13
          clear c13
          replace H := Option.bind_eq_some_iff.mp H
          obtain ⟨t399, A140, H⟩ := H
          have A14 := Aside0.mk A140
          clear A140
          obtain ⟨y400, hy400⟩ : ∃ y_ : List Int, y_ = (x9_1.set (x23_1 : Int).toNat t399) := ⟨_, rfl⟩
          replace H : (impl_field_add.l0 k1 a0 a3 y400 l2 (l2.length : Int) (wrap64 (x23_1 + 1))) = some r := by first | (rw [hy400]; with_reducible exact H) | (have H2_ := (Option.bind_some _ _).symm.trans H; rw [hy400]; with_reducible exact H2_) | (have H2_ := (Option.bind_some _ _).symm.trans H; with_reducible exact H2_) | with_reducible exact H | (rw [hy400]; exact H) | exact H
          have Ny400 := Aside0.mk hy400
          clear hy400
          have H' := Aside0.mk H
          clear H
          have p397 : 0 ≤ (x23_1 : Int) := of_decide_eq_true (by first | (with_reducible assumption) | assumption)
          have q397 : x23_1 < (l2.length : Int) := of_decide_eq_true (by first | (with_reducible assumption) | assumption)
          obtain ⟨ad397, e397, hx397_0⟩ := Kd.at_int HR2.out x23_1 p397 q397
          cases e397
          replace hx397_0 := (HB.out.cell (World.block_lt_of_cell? w _ hx397_0)).trans hx397_0
          replace p397 := eq_true p397
          replace q397 := eq_true q397
          obtain ⟨Ao16, co16, eo16⟩ := Kd.R_slice HO_9.out
          subst eo16
          have p398 : 0 ≤ (x23_1 : Int) := of_decide_eq_true (by first | (with_reducible assumption) | assumption)
          have q398 : x23_1 < (x9_1.length : Int) := of_decide_eq_true (by first | (with_reducible assumption) | assumption)
          obtain ⟨ad398, e398, hx398_0⟩ := Kd.at_int (Kd.R_reads' HO_9.out).2.2 x23_1 p398 q398
          cases e398
          replace p398 := eq_true p398
          replace q398 := eq_true q398
          go_wp2_with (first | ((with_reducible refine gate_callee (f := 69) rfl ?_); refine goesM_ (some 39) rfl rfl Try.func69 #[.int .i64 a0, .int .i64 (wrap64 ((rd x9_1 x23_1) + (wrap64 (a3 * (rd l2 x23_1)))))] rfl ?_; (with_reducible refine (impl_field_mod.calls a0 (wrap64 ((rd x9_1 x23_1) + (wrap64 (a3 * (rd l2 x23_1))))) t399 _ A14.out).mono ?_); rintro e w' ⟨rfl, ⟨nd, rfl⟩⟩; refine ⟨_, rfl, ?_⟩; (try (rw [drewN_self wr]; generalize hq_ : World.drewN wr _ = wr; have n0_ : Aside0 (Kd.R (Kd.int .i64) 2 wr w.heap.size (fun _ => True) (.slice (some ad398) x9_1.length co16) x9_1) := ⟨by rw [← hq_]; exact (rs HO_9)⟩; have n1_ : Aside0 (Below w.heap.size w wr) := ⟨by rw [← hq_]; exact (bs HB)⟩; clear HO_9 HB hq_; have HO_9 := n0_; have HB := n1_; clear n0_ n1_)); have p15 : 0 ≤ (x23_1 : Int) := of_decide_eq_true (by first | (with_reducible assumption) | assumption); have q15 : (x23_1 : Int) < ((x9_1.length : Int) : Int) := of_decide_eq_true (by first | (with_reducible assumption) | assumption); obtain ⟨go15, co15, eo15, gb15, gl15, cl15, HG15⟩ := Kd.R_form HO_9.out (by omega); (first | cases eo15 | (injection eo15 with ea_ en_ ec_; (first | subst ea_ | (injection ea_ with ea_; subst ea_)); subst ec_; clear en_)); have GB15 := Aside0.mk gb15; have GG15 := Aside0.mk HG15; clear gb15 gl15 HG15; (first | simp only [add_plain] at hx398_0 | skip); obtain ⟨hx15_0, hf15_0⟩ := Kd.R_celln 0 HO_9.out (x23_1 : Int) p15 q15; replace p15 := eq_true p15; replace q15 := eq_true q15; obtain ⟨hy17_, hz17_⟩ := Kd.R_celln 0 HO_9.out (x23_1 : Int) (of_decide_eq_true (by first | (with_reducible assumption) | assumption)) (of_decide_eq_true (by first | (with_reducible assumption) | assumption)); have HP17 := Kd.R_putg HO_9.out (x23_1 : Int) t399) | ((with_reducible refine gate_store (t := 2) (p := 40) rfl ?_); refine store_event (t := 2) (p := 40) (v := ?vo_w18) (w1 := (wr.setCell ⟨go15, (x23_1 : Int).toNat, none⟩ (.int .i64 t399))) ?hg ?ho ?hn ?hr ?_; (case ho => rfl); (case hg => rfl); (case hn => rfl); (case hr => first | (go_simp; done) | (go_simp; rfl)); intro w18 hw; have hg : wr.grownBy w18 (some go15) := (by rw [hw]; exact HP17.2); have hp_ : Kd.R (Kd.int .i64) 2 w18 w.heap.size (fun _ => True) (.slice (some ⟨go15, 0, none⟩) x9_1.length co16) y400 := (by rw [hw, Ny400.out]; exact HP17.1); clear HP17; have n0_ := Aside0.mk (hp_); have n1_ := Aside0.mk ((by rw [hw]; exact below_set (HB.out) GB15.out : Below w.heap.size w w18)); clear HO_9; clear HB; have HO_9 := n0_; have HB := n1_; clear n0_ n1_; clear hg hw hp_))
          go_roundg k1
          case measure => have := HK1.out; omega
          case rel => exact ⟨(y400), (wrap64 (x23_1 + 1)), ea_, H', ⟨by have := HK1.out; omega⟩, ⟨by (with_reducible repeat (first | apply Kd.R_alloc | apply Kd.R_drewN | apply Kd.R_drew)); exact HO_9.out⟩, ⟨by repeat (first | (with_reducible first | exact HB.out | apply below_alloc | apply pw_below_drewN | apply below_drew1) | exact HB.out)⟩⟩
         ·
          rw [if_neg c13] at H
          exact absurd H (by simp)
        ·
         rw [if_neg c12] at H
         exact absurd H (by simp)
       ·
        rw [if_neg c11] at H
        exact absurd H (by simp)
      ·
       rw [if_neg c10] at H
       have c10b0 : decide (x23_1 < (l2.length : Int)) = false := decide_eq_false c10
       clear c10
       replace H := Option.bind_eq_some_iff.mp H
       obtain ⟨t401, A190, H⟩ := H
       have A19 := Aside0.mk A190
       clear A190
       obtain rfl := Option.some.inj H
       obtain ⟨Ao20, co20, eo20⟩ := Kd.R_slice HO_9.out
       subst eo20
       go_wp2_with (first | ((with_reducible refine gate_callee (f := 70) rfl ?_); refine goesM_ (some 43) rfl rfl Try.func70 #[.slice Ao20 x9_1.length co20] rfl ?_; (with_reducible refine (impl_trimmed.calls k1 (fun k_ => some k_ = (.slice Ao20 x9_1.length co20 : Value).ownBlock) (.slice Ao20 x9_1.length co20) x9_1 t401 w _ ?side1 ?side2 A19.out).mono ?_); (case side1 => exact bs HB); (case side2 => exact Kd.R_tight rfl HO_9.out); rintro e w21 ⟨v402, rfl, ho0, hb, hkp⟩; refine ⟨_, rfl, ?_⟩; have n0_ := Aside0.mk (Kd.R_mono (ok' := fun k_ => True) ho0 (fun k_ hk_ => trivial)); have n1_ := Aside0.mk (hb); clear HB; clear HO_9; have HO403 := n0_; have HB := n1_; clear n0_ n1_; (try clear hb); (try clear hkp); (try clear ho0)))
       go_ret
       exact ⟨_, by first | rfl | (simp [errW_none, errW_some] <;> rfl) | (simp [*, errW_none, errW_some] <;> rfl), by (with_reducible repeat (first | apply Kd.R_alloc | apply Kd.R_drewN | apply Kd.R_drew)); exact HO403.out, by repeat (first | (with_reducible first | exact HB.out | apply below_alloc | apply pw_below_drewN | apply below_drew1) | exact HB.out)⟩
   ·
    rw [if_neg c7] at H
    exact absurd H (by simp)
  ·
   rw [if_neg c6] at H
   exact absurd H (by simp)
 ·
  rw [if_neg c5] at H
  have c5i := eq_false c5
  have c5b0 : decide ((l1.length : Int) < (l2.length : Int)) = false := decide_eq_false c5
  have c5b1 : decide (l1.length < l2.length) = false := decide_eq_false (fun h => c5 (Int.ofNat_lt.mpr h))
  clear c5
  by_cases c22 : 0 ≤ (l1.length : Int)
  ·
   rw [if_pos c22] at H
   have c22b0 := eq_true c22
   have c22b1 : decide (0 ≤ (l1.length : Int)) = true := decide_eq_true c22
   clear c22
   by_cases c23 : ((l1.length : Int) : Int).toNat ≤ 35184372088832
   ·
    rw [if_pos c23] at H
    have c23b0 := eq_true c23
    have c23b1 : decide (((l1.length : Int) : Int).toNat ≤ 35184372088832) = true := decide_eq_true c23
    clear c23
    obtain ⟨y404, hy404⟩ : ∃ y_ : List Int, y_ = (cpInto (List.replicate ((l1.length : Int) : Int).toNat 0) l1) := ⟨_, rfl⟩
    replace H : (impl_field_add.l0 k a0 a3 y404 l2 (l2.length : Int) 0) = some r := by first | (rw [hy404]; with_reducible exact H) | (have H2_ := (Option.bind_some _ _).symm.trans H; rw [hy404]; with_reducible exact H2_) | (have H2_ := (Option.bind_some _ _).symm.trans H; with_reducible exact H2_) | with_reducible exact H | (rw [hy404]; exact H) | exact H
    have Ny404 := Aside0.mk hy404
    clear hy404
    have H' := Aside0.mk H
    clear H
    go_enter Try.func42, Try.ntmps42
    go_wp2_with (first | ((with_reducible refine gate_dst (N := 17) rfl ?_); refine Kd.R_make (Kd.int .i64) _ 2 rfl (N := 17) rfl 24 _ _ rfl (l1.length : Int) rfl rfl Try.underlying24 (.int .i64 0) 8 info2 rfl (by decide) (by omega) 0 (ok := fun _ => True) (okp := fun _ => True) rfl (fun _ hk => hk) trivial (of_decide_eq_true (by first | (with_reducible assumption) | assumption)) (Nat.le_trans (Nat.mul_le_mul_right _ (of_decide_eq_true (by first | (with_reducible assumption) | assumption) : (l1.length : Int).toNat ≤ 35184372088832)) (by omega)) (Below.refl _ _) (Nat.le_refl _) ?_; intro v405 w24 ho25 hb hg_ hnew_; clear hg_ hnew_; have n0_ := Aside0.mk (Kd.R_lower ho25 (below_size (bs HB))); have n1_ := Aside0.mk (below_step (bs HB) hb); clear HB; have HPy404 := n0_; have HB := n1_; clear n0_ n1_; clear hb ho25) | ((with_reducible refine gate_builtin (b := .copy) rfl ?_); refine copy_into rfl _ _ _ rfl Try.underlying24 (by kernel_rfl) l1 rfl rfl HPy404.out ?cpR ?cpM HB.out ?_; (case cpR => exact Kd.C_below HR1.out HB.out); (case cpM => (first | (simp; done) | (simp only [List.length_replicate, Int.toNat_natCast]; exact Nat.le_of_lt (of_decide_eq_true (by assumption))))); intro wcp hcp hbb; have HO406 := Aside0.mk hcp; (rw [← Ny404.out] at HO406); clear HB; have HB := Aside0.mk hbb; clear hcp hbb HPy404))
    go_loopg [23] k (fun kq v23 w' => ∃ (x9_1 : List Int) (x23_1 : Int), v23 = .int .i64 x23_1 ∧ Aside0 (impl_field_add.l0 kq a0 a3 x9_1 l2 (l2.length : Int) x23_1 = some r) ∧ Aside0 (kq ≤ k) ∧ Aside0 (Kd.R (Kd.int .i64) 2 w' w.heap.size (fun _ => True) v405 x9_1) ∧ Aside0 (Below w.heap.size w w'))
    case atStart => exact ⟨(y404), (0), ea_, H', ⟨Nat.le_refl _⟩, ⟨by (with_reducible repeat (first | apply Kd.R_alloc | apply Kd.R_drewN | apply Kd.R_drew)); exact HO406.out⟩, ⟨by repeat (first | (with_reducible first | exact HB.out | apply below_alloc | apply pw_below_drewN | apply below_drew1) | exact HB.out)⟩⟩
    case round =>
     clear H'
     try clear c1
     try clear p1
     try clear q1
     try clear hx1
     try clear c2
     try clear p2
     try clear p3
     try clear q3
     try clear hx3
     try clear c4
     try clear c5
     try clear c5b0
     try clear c5b1
     try clear c6
     try clear c6b0
     try clear c6b1
     try clear p6
     try clear c7
     try clear c7b0
     try clear c7b1
     try clear c10
     try clear c10b0
     try clear c11
     try clear c11b0
     try clear c12
     try clear c12b0
     try clear c13
     try clear c13b0
     try clear p15
     try clear q15
     try clear hx15
     try clear hf15
     try clear c22
     try clear c22b0
     try clear c22b1
     try clear c23
     try clear c23b0
     try clear c23b1
     try clear hx15_0
     try clear hx397_0
     try clear hx398_0
     try clear p15
     try clear p2
     try clear p397
     try clear p398
     try clear q15
     try clear q397
     try clear q398
     obtain ⟨x9_1, x23_1, rfl, HA, HK1, HO_9, HB⟩ := hrel
     cases gk with
     | zero => exact absurd HA.out (by simp [impl_field_add.l0])
     | succ k1 =>
      have H := HA.out
      clear HA
      simp only [impl_field_add.l0] at H
      by_cases c26 : x23_1 < (l2.length : Int)
      ·
       rw [if_pos c26] at H
       have c26b0 : decide (x23_1 < (l2.length : Int)) = true := decide_eq_true c26
       clear c26
       by_cases c27 : 0 ≤ x23_1
       ·
        rw [if_pos c27] at H
        have c27b0 : decide (0 ≤ x23_1) = true := decide_eq_true c27
        clear c27
        by_cases c28 : x23_1 < (l2.length : Int)
        ·
         rw [if_pos c28] at H
         have c28b0 : decide (x23_1 < (l2.length : Int)) = true := decide_eq_true c28
         clear c28
         by_cases c29 : x23_1 < (x9_1.length : Int)
         ·
          rw [if_pos c29] at H
          have c29b0 : decide (x23_1 < (x9_1.length : Int)) = true := decide_eq_true c29
          clear c29
          replace H := Option.bind_eq_some_iff.mp H
          obtain ⟨t399, A300, H⟩ := H
          have A30 := Aside0.mk A300
          clear A300
          obtain ⟨y400, hy400⟩ : ∃ y_ : List Int, y_ = (x9_1.set (x23_1 : Int).toNat t399) := ⟨_, rfl⟩
          replace H : (impl_field_add.l0 k1 a0 a3 y400 l2 (l2.length : Int) (wrap64 (x23_1 + 1))) = some r := by first | (rw [hy400]; with_reducible exact H) | (have H2_ := (Option.bind_some _ _).symm.trans H; rw [hy400]; with_reducible exact H2_) | (have H2_ := (Option.bind_some _ _).symm.trans H; with_reducible exact H2_) | with_reducible exact H | (rw [hy400]; exact H) | exact H
          have Ny400 := Aside0.mk hy400
          clear hy400
          have H' := Aside0.mk H
          clear H
          have p397 : 0 ≤ (x23_1 : Int) := of_decide_eq_true (by first | (with_reducible assumption) | assumption)
          have q397 : x23_1 < (l2.length : Int) := of_decide_eq_true (by first | (with_reducible assumption) | assumption)
          obtain ⟨ad397, e397, hx397_0⟩ := Kd.at_int HR2.out x23_1 p397 q397
          cases e397
          replace hx397_0 := (HB.out.cell (World.block_lt_of_cell? w _ hx397_0)).trans hx397_0
          replace p397 := eq_true p397
          replace q397 := eq_true q397
          obtain ⟨Ao32, co32, eo32⟩ := Kd.R_slice HO_9.out
          subst eo32
          have p398 : 0 ≤ (x23_1 : Int) := of_decide_eq_true (by first | (with_reducible assumption) | assumption)
          have q398 : x23_1 < (x9_1.length : Int) := of_decide_eq_true (by first | (with_reducible assumption) | assumption)
          obtain ⟨ad398, e398, hx398_0⟩ := Kd.at_int (Kd.R_reads' HO_9.out).2.2 x23_1 p398 q398
          cases e398
          replace p398 := eq_true p398
          replace q398 := eq_true q398
          go_wp2_with (first | ((with_reducible refine gate_callee (f := 69) rfl ?_); refine goesM_ (some 39) rfl rfl Try.func69 #[.int .i64 a0, .int .i64 (wrap64 ((rd x9_1 x23_1) + (wrap64 (a3 * (rd l2 x23_1)))))] rfl ?_; (with_reducible refine (impl_field_mod.calls a0 (wrap64 ((rd x9_1 x23_1) + (wrap64 (a3 * (rd l2 x23_1))))) t399 _ A30.out).mono ?_); rintro e w' ⟨rfl, ⟨nd, rfl⟩⟩; refine ⟨_, rfl, ?_⟩; (try (rw [drewN_self wr]; generalize hq_ : World.drewN wr _ = wr; have n0_ : Aside0 (Kd.R (Kd.int .i64) 2 wr w.heap.size (fun _ => True) (.slice (some ad398) x9_1.length co32) x9_1) := ⟨by rw [← hq_]; exact (rs HO_9)⟩; have n1_ : Aside0 (Below w.heap.size w wr) := ⟨by rw [← hq_]; exact (bs HB)⟩; clear HO_9 HB hq_; have HO_9 := n0_; have HB := n1_; clear n0_ n1_)); have p31 : 0 ≤ (x23_1 : Int) := of_decide_eq_true (by first | (with_reducible assumption) | assumption); have q31 : (x23_1 : Int) < ((x9_1.length : Int) : Int) := of_decide_eq_true (by first | (with_reducible assumption) | assumption); obtain ⟨go31, co31, eo31, gb31, gl31, cl31, HG31⟩ := Kd.R_form HO_9.out (by omega); (first | cases eo31 | (injection eo31 with ea_ en_ ec_; (first | subst ea_ | (injection ea_ with ea_; subst ea_)); subst ec_; clear en_)); have GB31 := Aside0.mk gb31; have GG31 := Aside0.mk HG31; clear gb31 gl31 HG31; (first | simp only [add_plain] at hx398_0 | skip); obtain ⟨hx31_0, hf31_0⟩ := Kd.R_celln 0 HO_9.out (x23_1 : Int) p31 q31; replace p31 := eq_true p31; replace q31 := eq_true q31; obtain ⟨hy33_, hz33_⟩ := Kd.R_celln 0 HO_9.out (x23_1 : Int) (of_decide_eq_true (by first | (with_reducible assumption) | assumption)) (of_decide_eq_true (by first | (with_reducible assumption) | assumption)); have HP33 := Kd.R_putg HO_9.out (x23_1 : Int) t399) | ((with_reducible refine gate_store (t := 2) (p := 40) rfl ?_); refine store_event (t := 2) (p := 40) (v := ?vo_w34) (w1 := (wr.setCell ⟨go31, (x23_1 : Int).toNat, none⟩ (.int .i64 t399))) ?hg ?ho ?hn ?hr ?_; (case ho => rfl); (case hg => rfl); (case hn => rfl); (case hr => first | (go_simp; done) | (go_simp; rfl)); intro w34 hw; have hg : wr.grownBy w34 (some go31) := (by rw [hw]; exact HP33.2); have hp_ : Kd.R (Kd.int .i64) 2 w34 w.heap.size (fun _ => True) (.slice (some ⟨go31, 0, none⟩) x9_1.length co32) y400 := (by rw [hw, Ny400.out]; exact HP33.1); clear HP33; have n0_ := Aside0.mk (hp_); have n1_ := Aside0.mk ((by rw [hw]; exact below_set (HB.out) GB31.out : Below w.heap.size w w34)); clear HO_9; clear HB; have HO_9 := n0_; have HB := n1_; clear n0_ n1_; clear hg hw hp_))
          go_roundg k1
          case measure => have := HK1.out; omega
          case rel => exact ⟨(y400), (wrap64 (x23_1 + 1)), ea_, H', ⟨by have := HK1.out; omega⟩, ⟨by (with_reducible repeat (first | apply Kd.R_alloc | apply Kd.R_drewN | apply Kd.R_drew)); exact HO_9.out⟩, ⟨by repeat (first | (with_reducible first | exact HB.out | apply below_alloc | apply pw_below_drewN | apply below_drew1) | exact HB.out)⟩⟩
         ·
          rw [if_neg c29] at H
          exact absurd H (by simp)
        ·
         rw [if_neg c28] at H
         exact absurd H (by simp)
       ·
        rw [if_neg c27] at H
        exact absurd H (by simp)
      ·
       rw [if_neg c26] at H
       have c26b0 : decide (x23_1 < (l2.length : Int)) = false := decide_eq_false c26
       clear c26
       replace H := Option.bind_eq_some_iff.mp H
       obtain ⟨t401, A350, H⟩ := H
       have A35 := Aside0.mk A350
       clear A350
       obtain rfl := Option.some.inj H
       obtain ⟨Ao36, co36, eo36⟩ := Kd.R_slice HO_9.out
       subst eo36
       go_wp2_with (first | ((with_reducible refine gate_callee (f := 70) rfl ?_); refine goesM_ (some 43) rfl rfl Try.func70 #[.slice Ao36 x9_1.length co36] rfl ?_; (with_reducible refine (impl_trimmed.calls k1 (fun k_ => some k_ = (.slice Ao36 x9_1.length co36 : Value).ownBlock) (.slice Ao36 x9_1.length co36) x9_1 t401 w _ ?side1 ?side2 A35.out).mono ?_); (case side1 => exact bs HB); (case side2 => exact Kd.R_tight rfl HO_9.out); rintro e w37 ⟨v402, rfl, ho0, hb, hkp⟩; refine ⟨_, rfl, ?_⟩; have n0_ := Aside0.mk (Kd.R_mono (ok' := fun k_ => True) ho0 (fun k_ hk_ => trivial)); have n1_ := Aside0.mk (hb); clear HB; clear HO_9; have HO403 := n0_; have HB := n1_; clear n0_ n1_; (try clear hb); (try clear hkp); (try clear ho0)))
       go_ret
       exact ⟨_, by first | rfl | (simp [errW_none, errW_some] <;> rfl) | (simp [*, errW_none, errW_some] <;> rfl), by (with_reducible repeat (first | apply Kd.R_alloc | apply Kd.R_drewN | apply Kd.R_drew)); exact HO403.out, by repeat (first | (with_reducible first | exact HB.out | apply below_alloc | apply pw_below_drewN | apply below_drew1) | exact HB.out)⟩
   ·
    rw [if_neg c23] at H
    exact absurd H (by simp)
  ·
   rw [if_neg c22] at H
   exact absurd H (by simp)
end Go.Proofs.Ytjbajagjknhpoaa.H
namespace Go.Proofs.Ytjbajagjknhpoaa.H
open Go.RowKit Go.Proofs.YtjbajagjknhpoaaW.PrintWords Go.Proofs.YtjbajagjknhpoaaW.PrintLast Go.Proofs.YtjbajagjknhpoaaW.PrintMore
attribute [local go_sem] max2_int min2_int max_two min_two max_three min_three max_four min_four   -- for this text's walks alone
set_option linter.unusedVariables false
set_option linter.unusedSimpArgs false
/-! ### impl_IsPoly: function 9 (by hand) -/
def impl_IsPoly.f (a0 : Int) (l1 : List Int) : Option Bool := some (decide (l1.length ≤ 25) && l1.all (hasB a0) && (decide (l1.length = 0) || decide (rd l1 ((l1.length : Int) - 1) ≠ 0)))
set_option maxHeartbeats 4000000 in
set_option maxRecDepth 100000 in
theorem impl_IsPoly.calls (a0 : Int) (A1 : Option Addr) (c1 : Nat) (l1 : List Int) (r : Bool) (w : World) (hr1 : Kd.C (Kd.int .i64) w A1 l1.length l1) (hc1 : l1.length ≤ c1) (h : impl_IsPoly.f a0 l1 = some r) :
  Calls Try.prog 9 #[.int .i64 a0, .slice A1 l1.length c1] w fun e w' => e = .returned (.bool r) ∧ Below w.heap.size w w' := by
 obtain rfl := Option.some.inj h
 clear h
 have eg : ∀ args w, (callFunc 37 args).run Try.prog w = .ok (.enter 37 args) w := enters_of Try.func37 (by kernel_rfl) rfl
 have HC := fun W (hW : Below w.heap.size w W) => areAll_bound A1 c1 l1 (hasB a0) 37 (.int .i64 a0) eg W (Kd.C_below hr1 hW) (fun x W' _ => has_hasB a0 x W')
 clear eg
 have HB := Aside0.mk (Below.refl w.heap.size w)
 by_cases h1 : l1.length ≤ 25
 ·
  have d1 : decide ((l1.length : Int) ≤ 25) = true := decide_eq_true (by omega)
  generalize ha : l1.all (hasB a0) = b at HC ⊢
  clear ha
  have HC' := HC w (Below.refl _ _)
  clear HC
  cases b with
  | false =>
   go_enter Try.func9, Try.ntmps9
   go_wp2_with (go_at_call 36; refine HC'.mono ?_; rintro e w' ⟨rfl, hb⟩)
   go_ret
   exact ⟨by simp, hb⟩
  | true =>
   by_cases h0 : l1.length = 0
   ·
    have d0 : (((l1.length : Nat) : Int) == 0) = true := by simp [h0]
    have d2 : decide (l1.length = 0) = true := decide_eq_true h0
    have H0 := Aside0.mk h0
    clear h0
    go_enter Try.func9, Try.ntmps9
    go_wp2_with (go_at_call 36; refine HC'.mono ?_; rintro e w' ⟨rfl, hb⟩)
    go_ret
    exact ⟨by simp [h1, H0.out], hb⟩
   ·
    have d0 : (((l1.length : Nat) : Int) == 0) = false := beq_eq_false_iff_ne.mpr (by omega)
    have q0 : 0 ≤ (l1.length : Int) - 1 := by omega
    have q1 : (l1.length : Int) - 1 < (l1.length : Int) := by omega
    obtain ⟨ad, rfl, hcell⟩ := Kd.at_int hr1 ((l1.length : Int) - 1) q0 q1
    rw [show ((l1.length : Int) - 1).toNat = l1.length - 1 by omega] at hcell
    clear hr1
    have H0 := Aside0.mk h0
    clear h0
    go_enter Try.func9, Try.ntmps9
    go_wp2_with (go_at_call 36; refine HC'.mono ?_; rintro e w' ⟨rfl, hb⟩; have hcell' := pw_cell_below hb hcell; clear hcell)
    go_ret
    exact ⟨by simp [h1, H0.out, bne, rd]; rfl, hb⟩
 ·
  have d1 : decide ((l1.length : Int) ≤ 25) = false := decide_eq_false (by omega)
  clear HC
  go_enter Try.func9, Try.ntmps9
  go_wp2
  go_ret
  exact ⟨by simp [h1], HB.out⟩
end Go.Proofs.Ytjbajagjknhpoaa.H
namespace Go.Proofs.Ytjbajagjknhpoaa.H
open Go.RowKit Go.Proofs.YtjbajagjknhpoaaW.PrintWords Go.Proofs.YtjbajagjknhpoaaW.PrintLast Go.Proofs.YtjbajagjknhpoaaW.PrintMore
attribute [local go_sem] max2_int min2_int max_two min_two max_three min_three max_four min_four   -- for this text's walks alone
set_option linter.unusedVariables false
set_option linter.unusedSimpArgs false
/-! ### impl_IsPrime: function 66 -/
def impl_IsPrime.l0 : Nat → Int → Int → Option (Bool)
  | 0, _, _ => none
  | k + 1, x0, x3 => if (wrap64 (x3 * x3)) ≤ x0 then (if x3 = 0 then (none) else (if (Int.tmod x0 x3) = 0 then (some false) else (impl_IsPrime.l0 k x0 (wrap64 (x3 + 1))))) else (some true)
def impl_IsPrime.f (k : Nat) (a0 : Int) : Option (Bool) := (impl_within.f a0 2 10007).bind fun t285 => (if t285 = true then (impl_IsPrime.l0 k a0 2) else (some false))
set_option maxHeartbeats 8000000 in
set_option maxRecDepth 100000 in
theorem impl_IsPrime.calls (k : Nat) (a0 : Int) (r : Bool) (w : World) (h : impl_IsPrime.f k a0 = some r) :
  Calls Try.prog 66 #[.int .i64 a0] w fun e w' => e = .returned (.bool r) ∧ Drawn0 w w' := by
 have H : ((impl_within.f a0 2 10007).bind fun t285 => (if t285 = true then (impl_IsPrime.l0 k a0 2) else (some false))) = some r := h
 clear h
 replace H := Option.bind_eq_some_iff.mp H
 obtain ⟨t285, A20, H⟩ := H
 have A2 := Aside0.mk A20
 clear A20
 by_cases c3 : t285 = true
 ·
  subst c3
  have H1 : (impl_IsPrime.l0 k a0 2) = some r := by rw [if_pos rfl] at H; exact H
  clear H
  have H := H1
  clear H1
  have H' := Aside0.mk H
  clear H
  go_enter Try.func66, Try.ntmps66
  go_wp2_with (first | ((with_reducible refine gate_callee (f := 54) rfl ?_); refine goesM_ (some 5) rfl rfl Try.func54 #[.int .i64 a0, .int .i64 2, .int .i64 10007] rfl ?_; (with_reducible refine (impl_within.calls a0 2 10007 true _ A2.out).mono ?_); rintro e w' ⟨rfl, ⟨nd, rfl⟩⟩; refine ⟨_, rfl, ?_⟩))
  go_loopg [3] k (fun kq v3 w' => ∃ (x3_1 : Int), v3 = .int .i64 x3_1 ∧ Aside0 (impl_IsPrime.l0 kq a0 x3_1 = some r) ∧ Aside0 (kq ≤ k) ∧ Drawn0 w w')
  case atStart => exact ⟨(2), ea_, H', ⟨Nat.le_refl _⟩, by repeat (first | exact Drawn0.refl _ | apply Drawn0.step)⟩
  case round =>
   clear H'
   try clear p2
   try clear c3
   obtain ⟨x3_1, rfl, HA, HK1, ⟨m1, rfl⟩⟩ := hrel
   cases gk with
   | zero => exact absurd HA.out (by simp [impl_IsPrime.l0])
   | succ k1 =>
    have H := HA.out
    clear HA
    simp only [impl_IsPrime.l0] at H
    by_cases c4 : (wrap64 (x3_1 * x3_1)) ≤ a0
    ·
     rw [if_pos c4] at H
     have c4b0 : decide ((wrap64 (x3_1 * x3_1)) ≤ a0) = true := decide_eq_true c4
     clear c4
     by_cases c5 : x3_1 = 0
     ·
      rw [if_pos c5] at H
      exact absurd H (by simp)
     ·
      rw [if_neg c5] at H
      have c5b0 : (x3_1 == 0) = false := beq_eq_false_iff_ne.mpr c5
      have c5b1 : (x3_1 != 0) = true := bne_iff_ne.mpr c5
      by_cases c6 : (Int.tmod a0 x3_1) = 0
      ·
       rw [if_pos c6] at H
       have c6b0 : ((Int.tmod a0 x3_1) == 0) = true := beq_iff_eq.mpr c6
       have c6b1 : ((Int.tmod a0 x3_1) != 0) = false := bne_eq_false_iff_eq.mpr c6
       clear c6
       obtain rfl := Option.some.inj H
       go_wp2
       go_ret
       exact ⟨by first | rfl | (simp; done) | (simp [*]; done), by repeat (first | exact Drawn0.refl _ | apply Drawn0.step)⟩
      ·
       rw [if_neg c6] at H
       have c6b0 : ((Int.tmod a0 x3_1) == 0) = false := beq_eq_false_iff_ne.mpr c6
       have c6b1 : ((Int.tmod a0 x3_1) != 0) = true := bne_iff_ne.mpr c6
       have H' := Aside0.mk H
       clear H
       go_wp2
       go_roundg k1
       case measure => have := HK1.out; omega
       case rel => exact ⟨(wrap64 (x3_1 + 1)), ea_, H', ⟨by have := HK1.out; omega⟩, by repeat (first | exact Drawn0.refl _ | apply Drawn0.step)⟩
    ·
     rw [if_neg c4] at H
     have c4b0 : decide ((wrap64 (x3_1 * x3_1)) ≤ a0) = false := decide_eq_false c4
     clear c4
     obtain rfl := Option.some.inj H
     go_wp2
     go_ret
     exact ⟨by first | rfl | (simp; done) | (simp [*]; done), by repeat (first | exact Drawn0.refl _ | apply Drawn0.step)⟩
 ·
  replace c3 := Bool.eq_false_iff.mpr c3
  subst c3
  have H1 : (some false) = some r := by rw [if_neg (show ¬ (false = true) by decide)] at H; exact H
  clear H
  have H := H1
  clear H1
  obtain rfl := Option.some.inj H
  go_enter Try.func66, Try.ntmps66
  go_wp2_with (first | ((with_reducible refine gate_callee (f := 54) rfl ?_); refine goesM_ (some 5) rfl rfl Try.func54 #[.int .i64 a0, .int .i64 2, .int .i64 10007] rfl ?_; (with_reducible refine (impl_within.calls a0 2 10007 false _ A2.out).mono ?_); rintro e w' ⟨rfl, ⟨nd, rfl⟩⟩; refine ⟨_, rfl, ?_⟩))
  go_ret
  exact ⟨by first | rfl | (simp; done) | (simp [*]; done), by repeat (first | exact Drawn0.refl _ | apply Drawn0.step)⟩
end Go.Proofs.Ytjbajagjknhpoaa.H
namespace Go.Proofs.Ytjbajagjknhpoaa.H
open Go.RowKit Go.Proofs.YtjbajagjknhpoaaW.PrintWords Go.Proofs.YtjbajagjknhpoaaW.PrintLast Go.Proofs.YtjbajagjknhpoaaW.PrintMore
attribute [local go_sem] max2_int min2_int max_two min_two max_three min_three max_four min_four   -- for this text's walks alone
set_option linter.unusedVariables false
set_option linter.unusedSimpArgs false
/-! ### impl_always: function 32 -/
def impl_always.f  : Option (Bool) := some true
set_option maxHeartbeats 8000000 in
set_option maxRecDepth 100000 in
theorem impl_always.calls  (r : Bool) (w : World) (h : impl_always.f  = some r) :
  Calls Try.prog 32 #[] w fun e w' => e = .returned (.bool r) ∧ Drawn0 w w' := by
 have H : (some true) = some r := h
 clear h
 obtain rfl := Option.some.inj H
 go_enter Try.func32, Try.ntmps32
 go_wp2
 go_ret
 exact ⟨by first | rfl | (simp; done) | (simp [*]; done), by repeat (first | exact Drawn0.refl _ | apply Drawn0.step)⟩
end Go.Proofs.Ytjbajagjknhpoaa.H
namespace Go.Proofs.Ytjbajagjknhpoaa.H
open Go.RowKit Go.Proofs.YtjbajagjknhpoaaW.PrintWords Go.Proofs.YtjbajagjknhpoaaW.PrintLast Go.Proofs.YtjbajagjknhpoaaW.PrintMore
attribute [local go_sem] max2_int min2_int max_two min_two max_three min_three max_four min_four   -- for this text's walks alone
set_option linter.unusedVariables false
set_option linter.unusedSimpArgs false
/-! ### slices_IndexFunc_int64_int64_88: function 88 (by hand) -/
set_option maxHeartbeats 4000000 in
set_option maxRecDepth 100000 in
theorem indexFunc2_any (A : Option Addr) (n c : Nat) (q : Nat → Bool) (g : Nat) (lb : Array Value) (eg : ∀ args w, (callFunc g args).run Try.prog w = .ok (.enter g args) w) (w : World)
    (hn : n ≤ 9223372036854775807) (h : ∀ j, j < n → ∃ ad v, A = some ad ∧ w.cell? (ad.add j) = some v ∧ Gives g lb v (q j) w) :
    Calls Try.prog 88 #[.slice A n c, .func (.func g) #[] lb] w fun e w' => (∃ i : Int, e = .returned (.int .i64 i) ∧ (0 ≤ i ↔ ∃ j, j < n ∧ q j = true)) ∧ Below w.heap.size w w' := by
  have HH := Aside0.mk h
  clear h
  go_enter Try.func88, Try.ntmps88
  go_wp2
  go_loopg [5, 8] n (fun gg _ s8 wr => ∃ kk : Nat, kk ≤ n ∧ n - kk ≤ gg ∧ s8 = .int .i64 kk ∧ Aside0 (∀ j, j < kk → q j = false) ∧ Aside0 (Below w.heap.size w wr))
  case atStart => exact ⟨0, Nat.zero_le _, by omega, rfl, ⟨fun j hj => absurd hj (Nat.not_lt_zero _)⟩, ⟨Below.refl _ _⟩⟩
  case round =>
    obtain ⟨kk, hkk, hg, rfl, HA, HB⟩ := hrel
    by_cases hlt : kk < n
    · have hltz : (kk : Int) < (n : Int) := by omega
      obtain ⟨ad, v, rfl, hc, hcall⟩ := HH.out kk hlt
      have hcall' := hcall wr HB.out
      have hc' := pw_cell_below HB.out hc
      clear hcall hc
      cases hq : q kk with
      | true =>
        rw [hq] at hcall'
        have Hq := Aside0.mk hq
        clear hq HH
        go_wp2_with fail
        refine (hcall').mono ?_
        rintro e w' ⟨rfl, hb⟩
        have HB' := Aside0.mk (below_next HB.out hb)
        clear hcall' eg hb HB
        go_wp2
        go_ret
        exact ⟨⟨kk, rfl, by constructor; (intro _; exact ⟨kk, hlt, Hq.out⟩); (intro _; omega)⟩, HB'.out⟩
      | false =>
        rw [hq] at hcall'
        have Hq := Aside0.mk hq
        clear hq HH
        go_wp2_with fail
        refine (hcall').mono ?_
        rintro e w' ⟨rfl, hb⟩
        have HB' := Aside0.mk (below_next HB.out hb)
        clear hcall' eg hb HB
        go_wp2
        go_roundg (n - (kk + 1))
        case measure => omega
        case rel =>
          refine ⟨kk + 1, by omega, by omega, by go_num, ⟨fun j hj => ?_⟩, HB'⟩
          by_cases e : j = kk
          · subst e; exact Hq.out
          · exact HA.out j (by omega)
    · have hltz : ¬ (kk : Int) < (n : Int) := by omega
      have : kk = n := by omega
      subst this
      go_wp2
      go_ret
      refine ⟨⟨-1, rfl, ?_⟩, HB.out⟩
      constructor
      · intro h; omega
      · rintro ⟨j, hj, hq⟩
        rw [HA.out j hj] at hq
        cases hq
end Go.Proofs.Ytjbajagjknhpoaa.H
namespace Go.Proofs.Ytjbajagjknhpoaa.H
open Go.RowKit Go.Proofs.YtjbajagjknhpoaaW.PrintWords Go.Proofs.YtjbajagjknhpoaaW.PrintLast Go.Proofs.YtjbajagjknhpoaaW.PrintMore
attribute [local go_sem] max2_int min2_int max_two min_two max_three min_three max_four min_four   -- for this text's walks alone
set_option linter.unusedVariables false
set_option linter.unusedSimpArgs false
/-! ### slices_ContainsFunc_int64_int64_83: function 83 (by hand) -/
set_option maxHeartbeats 4000000 in
set_option maxRecDepth 100000 in
theorem containsFunc2_any (A : Option Addr) (n c : Nat) (q : Nat → Bool) (r : Bool) (hr : r = true ↔ ∃ j, j < n ∧ q j = true) (g : Nat) (lb : Array Value) (eg : ∀ args w, (callFunc g args).run Try.prog w = .ok (.enter g args) w) (w : World)
    (hn : n ≤ 9223372036854775807) (h : ∀ j, j < n → ∃ ad v, A = some ad ∧ w.cell? (ad.add j) = some v ∧ Gives g lb v (q j) w) :
    Calls Try.prog 83 #[.slice A n c, .func (.func g) #[] lb] w fun e w' => e = .returned (.bool r) ∧ Below w.heap.size w w' := by
  have HC := indexFunc2_any A n c q g lb eg w hn h
  clear h eg
  have Hr := Aside0.mk hr
  clear hr
  cases r with
  | true =>
    have HC' : Calls Try.prog 88 #[.slice A n c, .func (.func g) #[] lb] w fun e w' => (∃ i : Int, e = .returned (.int .i64 i) ∧ 0 ≤ i) ∧ Below w.heap.size w w' :=
      HC.mono fun e w' ⟨⟨i, he, hi⟩, hd⟩ => ⟨⟨i, he, hi.2 (Hr.out.1 rfl)⟩, hd⟩
    clear HC
    go_enter Try.func83, Try.ntmps83
    go_wp2_with (go_at_call 88; refine HC'.mono ?_; rintro e w' ⟨⟨i, rfl, hi⟩, hb⟩)
    go_ret
    exact ⟨rfl, hb⟩
  | false =>
    have HC' : Calls Try.prog 88 #[.slice A n c, .func (.func g) #[] lb] w fun e w' => (∃ i : Int, e = .returned (.int .i64 i) ∧ i < 0) ∧ Below w.heap.size w w' :=
      HC.mono fun e w' ⟨⟨i, he, hi⟩, hd⟩ => ⟨⟨i, he, by
        rcases Int.lt_or_le i 0 with h | h
        · exact h
        · exact absurd (Hr.out.2 (hi.1 h)) (by simp)⟩, hd⟩
    clear HC
    go_enter Try.func83, Try.ntmps83
    go_wp2_with (go_at_call 88; refine HC'.mono ?_; rintro e w' ⟨⟨i, rfl, hi⟩, hb⟩)
    go_ret
    exact ⟨by have hn0 : ¬ 0 ≤ i := by omega
              simp [hn0], hb⟩
end Go.Proofs.Ytjbajagjknhpoaa.H
namespace Go.Proofs.Ytjbajagjknhpoaa.H
open Go.RowKit Go.Proofs.YtjbajagjknhpoaaW.PrintWords Go.Proofs.YtjbajagjknhpoaaW.PrintLast Go.Proofs.YtjbajagjknhpoaaW.PrintMore
attribute [local go_sem] max2_int min2_int max_two min_two max_three min_three max_four min_four   -- for this text's walks alone
set_option linter.unusedVariables false
set_option linter.unusedSimpArgs false
/-! ### impl_areAll_int64_64: function 64 (by hand) -/
set_option maxHeartbeats 4000000 in
set_option maxRecDepth 100000 in
theorem notIs2_clos (v : Value) (r : Bool) (g : Nat) (lb : Array Value) (B : Nat) (eg : ∀ args w, (callFunc g args).run Try.prog w = .ok (.enter g args) w) (w : World)
    (hB : w.cell? ⟨B, 0, none⟩ = some (.func (.func g) #[] lb)) (h : Gives g lb v r w) :
    Gives 84 #[.pointer (some ⟨B, 0, none⟩)] v (!r) w := by
  intro W hW
  have hB' := (hW.cell (p := ⟨B, 0, none⟩) (World.block_lt_of_cell? w _ hB)).trans hB
  have h' := h W hW
  clear h hW hB
  show Calls Try.prog 84 #[v, .pointer (some ⟨B, 0, none⟩)] W _
  go_enter Try.func84, Try.ntmps84
  go_wp2_with fail
  refine h'.mono ?_
  rintro e w' ⟨rfl, hb⟩
  clear h' eg hB'
  go_wp2
  go_ret
  exact ⟨rfl, hb⟩
set_option maxHeartbeats 4000000 in
set_option maxRecDepth 100000 in
theorem areAll2_clos (A : Option Addr) (n c : Nat) (q : Nat → Bool) (r : Bool) (hr : r = true ↔ ∀ j, j < n → q j = true) (g : Nat) (lb : Array Value) (eg : ∀ args w, (callFunc g args).run Try.prog w = .ok (.enter g args) w) (w : World)
  (hn : n ≤ 9223372036854775807) (h : ∀ j, j < n → ∃ ad v, A = some ad ∧ w.cell? (ad.add j) = some v ∧ Gives g lb v (q j) w) :
  Calls Try.prog 64 #[.slice A n c, .func (.func g) #[] lb] w fun e w' => e = .returned (.bool r) ∧ Below w.heap.size w w' := by
 have ec : ∀ args w, (callFunc 84 args).run Try.prog w = .ok (.enter 84 args) w := enters_of Try.func84 (by kernel_rfl) rfl
 have hcell : (w.alloc (.cells #[.func (.func g) #[] lb] 75)).cell? ⟨w.heap.size, 0, none⟩ = some (.func (.func g) #[] lb) := by simp
 have hb : Below w.heap.size w (w.alloc (.cells #[.func (.func g) #[] lb] 75)) := (Below.refl _ w).alloc (Nat.le_refl _) _
 have HC := containsFunc2_any A n c (fun j => !(q j)) (!r) (by
   rw [Bool.not_eq_true']
   constructor
   ·
    intro hf
    refine Classical.byContradiction fun hne => ?_
    have : r = true := hr.2 fun j hj => by
     cases hq : q j with
     | true => rfl
     | false => exact absurd ⟨j, hj, by simp [hq]⟩ hne
    rw [this] at hf; cases hf
   ·
    rintro ⟨j, hj, hq⟩
    cases hr' : r with
    | false => rfl
    | true => have := hr.1 hr' j hj; rw [this] at hq; cases hq) 84 #[.pointer (some ⟨w.heap.size, 0, none⟩)] ec (w.alloc (.cells #[.func (.func g) #[] lb] 75)) hn
  (fun j hj => by
   obtain ⟨ad, v, rfl, hc, hg⟩ := h j hj
   exact ⟨ad, v, rfl, pw_cell_below hb hc, notIs2_clos v (q j) g lb w.heap.size eg _ hcell fun W hW => hg W (hb.trans (hW.mono (by simp)))⟩)
 clear h eg hcell ec hr
 go_enter Try.func64, Try.ntmps64
 go_wp2_with (go_at_call 83; refine HC.mono ?_; rintro e w' ⟨rfl, hb'⟩)
 go_ret
 exact ⟨by simp, hb.trans (hb'.mono (by simp))⟩
end Go.Proofs.Ytjbajagjknhpoaa.H
namespace Go.Proofs.Ytjbajagjknhpoaa.H
open Go.RowKit Go.Proofs.YtjbajagjknhpoaaW.PrintWords Go.Proofs.YtjbajagjknhpoaaW.PrintLast Go.Proofs.YtjbajagjknhpoaaW.PrintMore
attribute [local go_sem] max2_int min2_int max_two min_two max_three min_three max_four min_four   -- for this text's walks alone
set_option linter.unusedVariables false
set_option linter.unusedSimpArgs false
/-! ### impl_polyCode: function 31 (by hand) -/
def polyB (p : Int) (l : List Int) : Bool := decide (l.length ≤ 25) && l.all (hasB p) && (decide (l.length = 0) || decide (rd l ((l.length : Int) - 1) ≠ 0))
/-- 'func(f []int64) bool { return IsPoly(p, f) }' -/
theorem polyClos (p : Int) (A : Option Addr) (c : Nat) (l : List Int) (B : Nat) (w : World) (hB : w.cell? ⟨B, 0, none⟩ = some (.int .i64 p)) (hr : Kd.C (Kd.int .i64) w A l.length l) (hc : l.length ≤ c) :
    Gives 65 #[.pointer (some ⟨B, 0, none⟩)] (.slice A l.length c) (polyB p l) w := by
  intro W hW
  have hB' := (hW.cell (p := ⟨B, 0, none⟩) (World.block_lt_of_cell? w _ hB)).trans hB
  have hP := impl_IsPoly.calls p A c l (polyB p l) W (Kd.C_below hr hW) hc rfl
  clear hW hB hr
  show Calls Try.prog 65 #[.slice A l.length c, .pointer (some ⟨B, 0, none⟩)] W _
  go_enter Try.func65, Try.ntmps65
  go_wp2_with (go_at_call 9; refine hP.mono ?_; rintro e w' ⟨rfl, hb⟩)
  go_ret
  exact ⟨rfl, hb⟩
/-- what a function value without arguments answers, in every later world -/
def Gives0 (g : Nat) (lb : Array Value) (r : Bool) (w : World) : Prop :=
  ∀ W : World, Below w.heap.size w W → Calls Try.prog g lb W fun e w' => e = .returned (.bool r) ∧ Below W.heap.size W w'
theorem always_gives (w : World) : Gives0 32 #[] true w := fun W _ => (impl_always.calls true W rfl).mono fun _ _ ⟨he, hd⟩ => ⟨he, hd.below⟩
set_option maxHeartbeats 4000000 in
set_option maxRecDepth 100000 in
theorem polyCode_any (k : Nat) (p : Int) (g : Nat) (lb : Array Value) (eg : ∀ args w, (callFunc g args).run Try.prog w = .ok (.enter g args) w) (b t : Bool) (P : Addr) (n c : Nat) (hn : n ≤ 9223372036854775807) (ok : Bool) (q : Nat → Bool) (hok : ok = true ↔ ∀ j, j < n → q j = true) (w : World)
  (hg : Gives0 g lb b w) (h : ∀ j, j < n → ∃ (A : Option Addr) (c : Nat) (l : List Int), w.cell? (P.add j) = some (.slice A l.length c) ∧ Kd.C (Kd.int .i64) w A l.length l ∧ l.length ≤ c ∧ q j = polyB p l) (ht : ok = true → impl_IsPrime.f k p = some t) :
  Calls Try.prog 31 #[.int .i64 p, .func (.func g) #[] lb, .slice (some P) n c] w fun e w' => e = .returned (.int .i64 (if ok = true then (if (t && b) = true then 0 else 2) else 1)) ∧ Below w.heap.size w w' := by
 have ec : ∀ args w, (callFunc 65 args).run Try.prog w = .ok (.enter 65 args) w := enters_of Try.func65 (by kernel_rfl) rfl
 have hcell : (w.alloc (.cells #[.int .i64 p] 2)).cell? ⟨w.heap.size, 0, none⟩ = some (.int .i64 p) := by simp
 have hb0 : Below w.heap.size w (w.alloc (.cells #[.int .i64 p] 2)) := (Below.refl _ w).alloc (Nat.le_refl _) _
 have HA := areAll2_clos (some P) n c q ok hok 65 #[.pointer (some ⟨w.heap.size, 0, none⟩)] ec (w.alloc (.cells #[.int .i64 p] 2)) hn (fun j hj => by
  obtain ⟨A, c, l, hc, hr, hlc, hq⟩ := h j hj
  exact ⟨P, _, rfl, pw_cell_below hb0 hc, hq ▸ polyClos p A c l _ _ hcell (Kd.C_below hr hb0) hlc⟩)
 clear h ec hok
 have Hb0 := Aside0.mk hb0
 clear hb0
 cases ok with
 | false =>
  clear hg eg hcell
  go_enter Try.func31, Try.ntmps31
  go_wp2_with (go_at_call 64; refine HA.mono ?_; rintro e w' ⟨rfl, hb⟩)
  go_ret
  exact ⟨rfl, Hb0.out.trans (hb.mono (by simp))⟩
 | true =>
  have HP := fun W => impl_IsPrime.calls k p t W (ht rfl)
  have Hc := Aside0.mk hcell
  clear ht hcell
  cases t with
  | false =>
   clear hg eg
   go_enter Try.func31, Try.ntmps31
   go_wp2_with (first | (go_at_call 64; refine HA.mono ?_; rintro e w' ⟨rfl, hb⟩; have hc' := pw_cell_below hb Hc.out; have Hb := Aside0.mk hb; clear hb HA) | (go_at_call 66; refine (HP _).mono ?_; rintro e w' ⟨rfl, ⟨nd, rfl⟩⟩))
   go_ret
   exact ⟨rfl, pw_below_drewN (Hb0.out.trans (Hb.out.mono (by simp))) _⟩
  | true =>
   have Hg := Aside0.mk hg
   clear hg
   cases b with
   | _ =>
    go_enter Try.func31, Try.ntmps31
    go_wp2_with (first | (go_at_call 64; refine HA.mono ?_; rintro e w' ⟨rfl, hb⟩; have hc' := pw_cell_below hb Hc.out; have Hb := Aside0.mk hb; clear hb HA) | (go_at_call 66; refine (HP _).mono ?_; clear HP; rintro e w' ⟨rfl, ⟨nd, rfl⟩⟩))
    have Hd := Aside0.mk (pw_below_drewN (Hb0.out.trans (Hb.out.mono (by simp))) nd)
    refine (Hg.out _ Hd.out).mono ?_
    rintro e w' ⟨rfl, hb⟩
    have He := Aside0.mk (below_next Hd.out hb)
    clear hb Hd Hb hc' Hc Hg eg
    go_wp2
    go_ret
    exact ⟨rfl, He.out⟩
def impl_polyCode_1.f (k : Nat) (a0 : Int) (a1 : Bool) (l2 : List Int) : Option Int := if polyB a0 l2 = true then (impl_IsPrime.f k a0).bind fun t => some (if (t && a1) = true then 0 else 2) else some 1
def impl_polyCode_2.f (k : Nat) (a0 : Int) (a1 : Bool) (l2 l3 : List Int) : Option Int := if (polyB a0 l2 && polyB a0 l3) = true then (impl_IsPrime.f k a0).bind fun t => some (if (t && a1) = true then 0 else 2) else some 1
theorem impl_polyCode_1.calls (k : Nat) (a0 : Int) (a1 : Bool) (A2 : Option Addr) (c2 : Nat) (l2 : List Int) (r : Int) (w : World) {g : Nat} {lb : Array Value} {P : Nat}
  (hr2 : Kd.C (Kd.int .i64) w A2 l2.length l2) (hc2 : l2.length ≤ c2) (h : impl_polyCode_1.f k a0 a1 l2 = some r) (eg : ∀ args w, (callFunc g args).run Try.prog w = .ok (.enter g args) w) (hg : Gives0 g lb a1 w) (hP : w.cell? ⟨P, 0, none⟩ = some (.slice A2 l2.length c2)) :
  Calls Try.prog 31 #[.int .i64 a0, .func (.func g) #[] lb, .slice (some ⟨P, 0, none⟩) 1 1] w fun e w' => e = .returned (.int .i64 r) ∧ Below w.heap.size w w' := by
 unfold impl_polyCode_1.f at h
 obtain ⟨t, ht, hv⟩ : ∃ t, (polyB a0 l2 = true → impl_IsPrime.f k a0 = some t) ∧ r = (if polyB a0 l2 = true then (if (t && a1) = true then 0 else 2) else 1) := by
  cases hq : polyB a0 l2 with
  | false => rw [hq] at h; simp at h; exact ⟨true, by simp, by simp [h]⟩
  | true =>
   rw [hq] at h; simp only [if_true] at h
   obtain ⟨t, h1, h2⟩ := Option.bind_eq_some_iff.mp h
   exact ⟨t, fun _ => h1, by simpa using (Option.some.inj h2).symm⟩
 rw [hv]
 exact polyCode_any k a0 g lb eg a1 t ⟨P, 0, none⟩ 1 1 (by decide) (polyB a0 l2) (fun _ => polyB a0 l2) ⟨fun h j _ => h, fun h => h 0 (by decide)⟩ w hg (fun j hj => by
  obtain rfl : j = 0 := by omega
  exact ⟨A2, c2, l2, by rw [add_plain]; exact hP, hr2, hc2, rfl⟩) ht
theorem impl_polyCode_2.calls (k : Nat) (a0 : Int) (a1 : Bool) (A2 : Option Addr) (c2 : Nat) (l2 : List Int) (A3 : Option Addr) (c3 : Nat) (l3 : List Int) (r : Int) (w : World) {g : Nat} {lb : Array Value} {P : Nat}
  (hr2 : Kd.C (Kd.int .i64) w A2 l2.length l2) (hc2 : l2.length ≤ c2) (hr3 : Kd.C (Kd.int .i64) w A3 l3.length l3) (hc3 : l3.length ≤ c3) (h : impl_polyCode_2.f k a0 a1 l2 l3 = some r) (eg : ∀ args w, (callFunc g args).run Try.prog w = .ok (.enter g args) w) (hg : Gives0 g lb a1 w) (hP : w.cell? ⟨P, 0, none⟩ = some (.slice A2 l2.length c2)) (hP1 : w.cell? ⟨P, 1, none⟩ = some (.slice A3 l3.length c3)) :
  Calls Try.prog 31 #[.int .i64 a0, .func (.func g) #[] lb, .slice (some ⟨P, 0, none⟩) 2 2] w fun e w' => e = .returned (.int .i64 r) ∧ Below w.heap.size w w' := by
 unfold impl_polyCode_2.f at h
 obtain ⟨t, ht, hv⟩ : ∃ t, ((polyB a0 l2 && polyB a0 l3) = true → impl_IsPrime.f k a0 = some t) ∧ r = (if (polyB a0 l2 && polyB a0 l3) = true then (if (t && a1) = true then 0 else 2) else 1) := by
  cases hq : (polyB a0 l2 && polyB a0 l3) with
  | false => rw [hq] at h; simp at h; exact ⟨true, by simp, by simp [h]⟩
  | true =>
   rw [hq] at h; simp only [if_true] at h
   obtain ⟨t, h1, h2⟩ := Option.bind_eq_some_iff.mp h
   exact ⟨t, fun _ => h1, by simpa using (Option.some.inj h2).symm⟩
 rw [hv]
 exact polyCode_any k a0 g lb eg a1 t ⟨P, 0, none⟩ 2 2 (by decide) (polyB a0 l2 && polyB a0 l3) (fun j => if j = 0 then polyB a0 l2 else polyB a0 l3)
  ⟨fun h j hj => by
   rw [Bool.and_eq_true] at h
   by_cases e : j = 0
   ·
    rw [if_pos e]; exact h.1
   ·
    rw [if_neg e]; exact h.2, fun h => by
   rw [Bool.and_eq_true]
   exact ⟨by simpa using h 0 (by decide), by simpa using h 1 (by decide)⟩⟩ w hg (fun j hj => by
  by_cases e : j = 0
  ·
   subst e; exact ⟨A2, c2, l2, by rw [add_plain]; exact hP, hr2, hc2, by rw [if_pos rfl]⟩
  ·
   obtain rfl : j = 1 := by omega
   exact ⟨A3, c3, l3, by rw [add_plain]; exact hP1, hr3, hc3, rfl⟩) ht
end Go.Proofs.Ytjbajagjknhpoaa.H
namespace Go.Proofs.Ytjbajagjknhpoaa.H
open Go.RowKit Go.Proofs.YtjbajagjknhpoaaW.PrintWords Go.Proofs.YtjbajagjknhpoaaW.PrintLast Go.Proofs.YtjbajagjknhpoaaW.PrintMore
attribute [local go_sem] max2_int min2_int max_two min_two max_three min_three max_four min_four   -- for this text's walks alone
set_option linter.unusedVariables false
set_option linter.unusedSimpArgs false
/-! ### impl_AddPolys: function 12 -/
theorem impl_AddPolys_c1 (B0 B1 : Nat) (x0 x1 : Int) (w : World) (h0 : w.cell? ⟨B0, 0, none⟩ = some (.int .i64 x0)) (h1 : w.cell? ⟨B1, 0, none⟩ = some (.int .i64 x1)) :
    Gives0 41 #[.pointer (some ⟨B0, 0, none⟩), .pointer (some ⟨B1, 0, none⟩)] (hasB x0 x1) w := by
  intro W hW
  have h0' := (hW.cell (p := ⟨B0, 0, none⟩) (World.block_lt_of_cell? w _ h0)).trans h0
  have h1' := (hW.cell (p := ⟨B1, 0, none⟩) (World.block_lt_of_cell? w _ h1)).trans h1
  have hP := has_hasB x0 x1 W
  clear hW h0 h1
  show Calls Try.prog 41 #[.pointer (some ⟨B0, 0, none⟩), .pointer (some ⟨B1, 0, none⟩)] W _
  go_enter Try.func41, Try.ntmps41
  go_wp2_with (go_at_call 37; refine hP.mono ?_; rintro e w' ⟨rfl, ⟨nd, rfl⟩⟩)
  go_ret
  exact ⟨rfl, pw_below_drewN (Below.refl _ _) _⟩
def impl_AddPolys.f (k : Nat) (a0 : Int) (l1 : List Int) (l2 : List Int) (a3 : Int) : Option (List Int × Int) := (impl_polyCode_2.f k a0 (hasB a0 a3) l1 l2).bind fun t409 => (if t409 = 0 then ((impl_field_add.f k a0 l1 l2 a3).bind fun t410 => (some (t410, 0))) else (some (([] : List Int), t409)))
set_option maxHeartbeats 8000000 in
set_option maxRecDepth 100000 in
theorem impl_AddPolys.calls (k : Nat) (a0 : Int) (A1 : Option Addr) (c1 : Nat) (l1 : List Int) (A2 : Option Addr) (c2 : Nat) (l2 : List Int) (a3 : Int) (r1 : List Int) (r2 : Int) (w : World) (hr1 : Kd.C (Kd.int .i64) w A1 l1.length l1) (hc1 : l1.length ≤ c1) (hr2 : Kd.C (Kd.int .i64) w A2 l2.length l2) (hc2 : l2.length ≤ c2) (h : impl_AddPolys.f k a0 l1 l2 a3 = some (r1, r2)) :
  Calls Try.prog 12 #[.int .i64 a0, .slice A1 l1.length c1, .slice A2 l2.length c2, .int .i64 a3] w fun e w' => ∃ v0_ : Value, e = .returned (.tuple #[v0_, .int .i64 r2]) ∧ Kd.R (Kd.int .i64) 2 w' w.heap.size (fun _ => True) v0_ r1 ∧ Below w.heap.size w w' := by
 have HR1 := Aside0.mk hr1
 have HC1 := Aside0.mk hc1
 clear hr1 hc1
 have HR2 := Aside0.mk hr2
 have HC2 := Aside0.mk hc2
 clear hr2 hc2
 have HB := Aside0.mk (Below.refl w.heap.size w)
 have H : ((impl_polyCode_2.f k a0 (hasB a0 a3) l1 l2).bind fun t409 => (if t409 = 0 then ((impl_field_add.f k a0 l1 l2 a3).bind fun t410 => (some (t410, 0))) else (some (([] : List Int), t409)))) = some (r1, r2) := h
 clear h
 replace H := Option.bind_eq_some_iff.mp H
 obtain ⟨t409, A50, H⟩ := H
 have A5 := Aside0.mk A50
 clear A50
 by_cases c6 : t409 = 0
 ·
  rw [if_pos c6] at H
  have c6b0 : (t409 == 0) = true := beq_iff_eq.mpr c6
  have c6b1 : (t409 != 0) = false := bne_eq_false_iff_eq.mpr c6
  clear c6
  replace H := Option.bind_eq_some_iff.mp H
  obtain ⟨t410, A70, H⟩ := H
  have A7 := Aside0.mk A70
  clear A70
  simp only [Option.some.injEq, Prod.mk.injEq] at H
  obtain ⟨rfl, rfl⟩ := H
  go_enter Try.func12, Try.ntmps12
  go_wp2_with (first | ((with_reducible refine gate_dst (N := 4) rfl ?_); refine box_event ?hg (N := 4) ?hd (cs := #[.int .i64 a0]) (t := 2) ?hr ?_; (case hd => rfl); (case hg => rfl); (case hr => first | (go_simp; done) | (go_simp; rfl)); intro gb407 hg w8 hbox hb; have n0_ := Aside0.mk (below_step (bs HB) hb); have n1_ := Aside0.mk (hbox); have n2_ := Aside0.mk ((by rw [hg]; exact (below_size (bs HB)) : w.heap.size ≤ gb407)); have n3_ := Aside0.mk ((by rw [hg]; exact (below_size (bs HB)) : w.heap.size ≤ gb407)); clear HB; have HB := n0_; have BK407 := n1_; have GW407 := n2_; have GE407 := n3_; clear n0_ n1_ n2_ n3_; clear hb hbox hg) | ((with_reducible refine gate_dst (N := 7) rfl ?_); refine box_event ?hg (N := 7) ?hd (cs := #[.int .i64 a3]) (t := 2) ?hr ?_; (case hd => rfl); (case hg => rfl); (case hr => first | (go_simp; done) | (go_simp; rfl)); intro gb408 hg w9 hbox hb; have n0_ := Aside0.mk (blk_below (g := gb407) (o := .cells #[.int .i64 a0] 2 (0, 0)) (by (with_reducible repeat (first | refine blk_drewN ?_ _ | refine blk_drew ?_ | refine blk_alloc ?_ _)); exact BK407.out) hb); have n1_ := Aside0.mk (below_step (by repeat (first | (with_reducible first | exact HB.out | apply below_alloc | apply pw_below_drewN | apply below_drew1 | refine below_set ?_ GE407.out) | exact HB.out)) hb); have n2_ := Aside0.mk (hbox); have n3_ := Aside0.mk ((by rw [hg]; exact (below_size (by repeat (first | (with_reducible first | exact HB.out | apply below_alloc | apply pw_below_drewN | apply below_drew1 | refine below_set ?_ GE407.out) | exact HB.out))) : w.heap.size ≤ gb408)); have n4_ := Aside0.mk ((by rw [hg]; exact (below_size (by repeat (first | (with_reducible first | exact HB.out | apply below_alloc | apply pw_below_drewN | apply below_drew1 | refine below_set ?_ GE407.out) | exact HB.out))) : w.heap.size ≤ gb408)); have n5_ := Aside0.mk ((by rw [hg]; exact Nat.ne_of_lt (blk_lt (g := gb407) (o := .cells #[.int .i64 a0] 2 (0, 0)) (by (with_reducible repeat (first | refine blk_drewN ?_ _ | refine blk_drew ?_ | refine blk_alloc ?_ _)); exact BK407.out)) : gb407 ≠ gb408)); have n6_ := Aside0.mk ((by rw [hg]; exact Nat.ne_of_gt (blk_lt (g := gb407) (o := .cells #[.int .i64 a0] 2 (0, 0)) (by (with_reducible repeat (first | refine blk_drewN ?_ _ | refine blk_drew ?_ | refine blk_alloc ?_ _)); exact BK407.out)) : gb408 ≠ gb407)); clear BK407; clear HB; have BK407 := n0_; have HB := n1_; have BK408 := n2_; have GW408 := n3_; have GE408 := n4_; have NB407_408 := n5_; have NB408_407 := n6_; clear n0_ n1_ n2_ n3_ n4_ n5_ n6_; clear hb hbox hg; have hnb10 := NB407_408.out; have hnc10 := NB408_407.out; have hcz11_0 : w9.cell? ⟨gb407, 0, none⟩ = some (.int .i64 a0) := (blk_cell BK407.out 0).trans rfl; have hfz11_0 := blk_frozen BK407.out 0) | (go_at_call 31; (with_reducible refine (impl_polyCode_2.calls k a0 (hasB a0 a3) A1 c1 l1 A2 c2 l2 t409 _ ?side1 ?side2 ?side3 ?side4 A5.out ?sideE ?sideG ?sideP ?sideQ).mono ?_); (case side1 => exact cs ((Kd.C_below HR1.out HB.out))); (case side2 => exact HC1.out); (case side3 => exact cs ((Kd.C_below HR2.out HB.out))); (case side4 => exact HC2.out); (case sideE => (first | exact enters_of Try.func41 (by kernel_rfl) rfl | exact enters_of Try.func32 (by kernel_rfl) rfl)); (case sideG => (first | exact impl_AddPolys_c1 _ _ _ _ _ (by (first | (simp; done) | exact blk_cell1 (by (with_reducible repeat (first | refine blk_drewN ?_ _ | refine blk_drew ?_ | refine blk_alloc ?_ _)); (first | exact BK407.out | exact BK408.out)) | (simp [*]; done))) (by (first | (simp; done) | exact blk_cell1 (by (with_reducible repeat (first | refine blk_drewN ?_ _ | refine blk_drew ?_ | refine blk_alloc ?_ _)); (first | exact BK407.out | exact BK408.out)) | (simp [*]; done))) | exact always_gives _)); (case sideP => (first | (simp; done) | exact blk_cell1 (by (with_reducible repeat (first | refine blk_drewN ?_ _ | refine blk_drew ?_ | refine blk_alloc ?_ _)); (first | exact BK407.out | exact BK408.out)) | (simp [*]; done))); (case sideQ => (first | (simp; done) | exact blk_cell1 (by (with_reducible repeat (first | refine blk_drewN ?_ _ | refine blk_drew ?_ | refine blk_alloc ?_ _)); (first | exact BK407.out | exact BK408.out)) | (simp [*]; done))); rintro e w12 ⟨rfl, hb⟩; have n0_ := Aside0.mk (blk_below (g := gb407) (o := .cells #[.int .i64 a0] 2 (0, 0)) (by (with_reducible repeat (first | refine blk_drewN ?_ _ | refine blk_drew ?_ | refine blk_alloc ?_ _)); exact BK407.out) hb); have n1_ := Aside0.mk (blk_below (g := gb408) (o := .cells #[.int .i64 a3] 2 (0, 0)) (by (with_reducible repeat (first | refine blk_drewN ?_ _ | refine blk_drew ?_ | refine blk_alloc ?_ _)); exact BK408.out) hb); have n2_ := Aside0.mk (below_step (by repeat (first | (with_reducible first | exact HB.out | apply below_alloc | apply pw_below_drewN | apply below_drew1 | refine below_set ?_ GE407.out | refine below_set ?_ GE408.out) | exact HB.out)) hb); clear BK407; clear BK408; clear HB; have BK407 := n0_; have BK408 := n1_; have HB := n2_; clear n0_ n1_ n2_; (try clear hb); (try clear hb2); (try clear hk); (try clear hi); have hcz13_0 : w12.cell? ⟨gb407, 0, none⟩ = some (.int .i64 a0) := (blk_cell BK407.out 0).trans rfl; have hfz13_0 := blk_frozen BK407.out 0; have hcz14_0 : w12.cell? ⟨gb408, 0, none⟩ = some (.int .i64 a3) := (blk_cell BK408.out 0).trans rfl; have hfz14_0 := blk_frozen BK408.out 0) | ((with_reducible refine gate_callee (f := 42) rfl ?_); refine goesM_ (some 24) rfl rfl Try.func42 #[.int .i64 a0, .slice A1 l1.length c1, .slice A2 l2.length c2, .int .i64 a3] rfl ?_; (with_reducible refine (impl_field_add.calls k a0 _ _ l1 _ _ l2 a3 t410 _ ?side1 ?side2 ?side3 ?side4 A7.out).mono ?_); (case side1 => exact cs ((Kd.C_below HR1.out HB.out))); (case side2 => exact HC1.out); (case side3 => exact cs ((Kd.C_below HR2.out HB.out))); (case side4 => exact HC2.out); rintro e w15 ⟨v411, rfl, ho0, hb⟩; refine ⟨_, rfl, ?_⟩; have n0_ := Aside0.mk (Kd.R_lower (Kd.R_newB (Kd.R_newB ho0 (g := gb407) (o := .cells #[.int .i64 a0] 2 (0, 0)) (by (with_reducible repeat (first | refine blk_drewN ?_ _ | refine blk_drew ?_ | refine blk_alloc ?_ _)); exact BK407.out)) (g := gb408) (o := .cells #[.int .i64 a3] 2 (0, 0)) (by (with_reducible repeat (first | refine blk_drewN ?_ _ | refine blk_drew ?_ | refine blk_alloc ?_ _)); exact BK408.out)) (below_size (by repeat (first | (with_reducible first | exact HB.out | apply below_alloc | apply pw_below_drewN | apply below_drew1 | refine below_set ?_ GE407.out | refine below_set ?_ GE408.out) | exact HB.out)))); have n1_ := Aside0.mk (blk_below (g := gb407) (o := .cells #[.int .i64 a0] 2 (0, 0)) (by (with_reducible repeat (first | refine blk_drewN ?_ _ | refine blk_drew ?_ | refine blk_alloc ?_ _)); exact BK407.out) hb); have n2_ := Aside0.mk (blk_below (g := gb408) (o := .cells #[.int .i64 a3] 2 (0, 0)) (by (with_reducible repeat (first | refine blk_drewN ?_ _ | refine blk_drew ?_ | refine blk_alloc ?_ _)); exact BK408.out) hb); have n3_ := Aside0.mk (below_step (by repeat (first | (with_reducible first | exact HB.out | apply below_alloc | apply pw_below_drewN | apply below_drew1 | refine below_set ?_ GE407.out | refine below_set ?_ GE408.out) | exact HB.out)) hb); clear BK407; clear BK408; clear HB; have HO412 := n0_; have BK407 := n1_; have BK408 := n2_; have HB := n3_; clear n0_ n1_ n2_ n3_; (try clear hb); (try clear hb2); (try clear hk); (try clear hi); (try clear ho0)))
  go_ret2
  exact ⟨_, by first | rfl | (simp [errW_none, errW_some] <;> rfl) | (simp [*, errW_none, errW_some] <;> rfl), by (with_reducible repeat (first | apply Kd.R_alloc | apply Kd.R_drewN | apply Kd.R_drew)); exact Kd.R_mono HO412.out (fun _ hk => trivial), by repeat (first | (with_reducible first | exact HB.out | apply below_alloc | apply pw_below_drewN | apply below_drew1 | refine below_set ?_ GE407.out | refine below_set ?_ GE408.out) | exact HB.out)⟩
 ·
  rw [if_neg c6] at H
  have c6b0 : (t409 == 0) = false := beq_eq_false_iff_ne.mpr c6
  have c6b1 : (t409 != 0) = true := bne_iff_ne.mpr c6
  simp only [Option.some.injEq, Prod.mk.injEq] at H
  obtain ⟨rfl, rfl⟩ := H
  go_enter Try.func12, Try.ntmps12
  go_wp2_with (first | ((with_reducible refine gate_dst (N := 4) rfl ?_); refine box_event ?hg (N := 4) ?hd (cs := #[.int .i64 a0]) (t := 2) ?hr ?_; (case hd => rfl); (case hg => rfl); (case hr => first | (go_simp; done) | (go_simp; rfl)); intro gb407 hg w16 hbox hb; have n0_ := Aside0.mk (below_step (bs HB) hb); have n1_ := Aside0.mk (hbox); have n2_ := Aside0.mk ((by rw [hg]; exact (below_size (bs HB)) : w.heap.size ≤ gb407)); have n3_ := Aside0.mk ((by rw [hg]; exact (below_size (bs HB)) : w.heap.size ≤ gb407)); clear HB; have HB := n0_; have BK407 := n1_; have GW407 := n2_; have GE407 := n3_; clear n0_ n1_ n2_ n3_; clear hb hbox hg) | ((with_reducible refine gate_dst (N := 7) rfl ?_); refine box_event ?hg (N := 7) ?hd (cs := #[.int .i64 a3]) (t := 2) ?hr ?_; (case hd => rfl); (case hg => rfl); (case hr => first | (go_simp; done) | (go_simp; rfl)); intro gb408 hg w17 hbox hb; have n0_ := Aside0.mk (blk_below (g := gb407) (o := .cells #[.int .i64 a0] 2 (0, 0)) (by (with_reducible repeat (first | refine blk_drewN ?_ _ | refine blk_drew ?_ | refine blk_alloc ?_ _)); exact BK407.out) hb); have n1_ := Aside0.mk (below_step (by repeat (first | (with_reducible first | exact HB.out | apply below_alloc | apply pw_below_drewN | apply below_drew1 | refine below_set ?_ GE407.out) | exact HB.out)) hb); have n2_ := Aside0.mk (hbox); have n3_ := Aside0.mk ((by rw [hg]; exact (below_size (by repeat (first | (with_reducible first | exact HB.out | apply below_alloc | apply pw_below_drewN | apply below_drew1 | refine below_set ?_ GE407.out) | exact HB.out))) : w.heap.size ≤ gb408)); have n4_ := Aside0.mk ((by rw [hg]; exact (below_size (by repeat (first | (with_reducible first | exact HB.out | apply below_alloc | apply pw_below_drewN | apply below_drew1 | refine below_set ?_ GE407.out) | exact HB.out))) : w.heap.size ≤ gb408)); have n5_ := Aside0.mk ((by rw [hg]; exact Nat.ne_of_lt (blk_lt (g := gb407) (o := .cells #[.int .i64 a0] 2 (0, 0)) (by (with_reducible repeat (first | refine blk_drewN ?_ _ | refine blk_drew ?_ | refine blk_alloc ?_ _)); exact BK407.out)) : gb407 ≠ gb408)); have n6_ := Aside0.mk ((by rw [hg]; exact Nat.ne_of_gt (blk_lt (g := gb407) (o := .cells #[.int .i64 a0] 2 (0, 0)) (by (with_reducible repeat (first | refine blk_drewN ?_ _ | refine blk_drew ?_ | refine blk_alloc ?_ _)); exact BK407.out)) : gb408 ≠ gb407)); clear BK407; clear HB; have BK407 := n0_; have HB := n1_; have BK408 := n2_; have GW408 := n3_; have GE408 := n4_; have NB407_408 := n5_; have NB408_407 := n6_; clear n0_ n1_ n2_ n3_ n4_ n5_ n6_; clear hb hbox hg; have hnb18 := NB407_408.out; have hnc18 := NB408_407.out; have hcz19_0 : w17.cell? ⟨gb407, 0, none⟩ = some (.int .i64 a0) := (blk_cell BK407.out 0).trans rfl; have hfz19_0 := blk_frozen BK407.out 0) | (go_at_call 31; (with_reducible refine (impl_polyCode_2.calls k a0 (hasB a0 a3) A1 c1 l1 A2 c2 l2 t409 _ ?side1 ?side2 ?side3 ?side4 A5.out ?sideE ?sideG ?sideP ?sideQ).mono ?_); (case side1 => exact cs ((Kd.C_below HR1.out HB.out))); (case side2 => exact HC1.out); (case side3 => exact cs ((Kd.C_below HR2.out HB.out))); (case side4 => exact HC2.out); (case sideE => (first | exact enters_of Try.func41 (by kernel_rfl) rfl | exact enters_of Try.func32 (by kernel_rfl) rfl)); (case sideG => (first | exact impl_AddPolys_c1 _ _ _ _ _ (by (first | (simp; done) | exact blk_cell1 (by (with_reducible repeat (first | refine blk_drewN ?_ _ | refine blk_drew ?_ | refine blk_alloc ?_ _)); (first | exact BK407.out | exact BK408.out)) | (simp [*]; done))) (by (first | (simp; done) | exact blk_cell1 (by (with_reducible repeat (first | refine blk_drewN ?_ _ | refine blk_drew ?_ | refine blk_alloc ?_ _)); (first | exact BK407.out | exact BK408.out)) | (simp [*]; done))) | exact always_gives _)); (case sideP => (first | (simp; done) | exact blk_cell1 (by (with_reducible repeat (first | refine blk_drewN ?_ _ | refine blk_drew ?_ | refine blk_alloc ?_ _)); (first | exact BK407.out | exact BK408.out)) | (simp [*]; done))); (case sideQ => (first | (simp; done) | exact blk_cell1 (by (with_reducible repeat (first | refine blk_drewN ?_ _ | refine blk_drew ?_ | refine blk_alloc ?_ _)); (first | exact BK407.out | exact BK408.out)) | (simp [*]; done))); rintro e w20 ⟨rfl, hb⟩; have n0_ := Aside0.mk (blk_below (g := gb407) (o := .cells #[.int .i64 a0] 2 (0, 0)) (by (with_reducible repeat (first | refine blk_drewN ?_ _ | refine blk_drew ?_ | refine blk_alloc ?_ _)); exact BK407.out) hb); have n1_ := Aside0.mk (blk_below (g := gb408) (o := .cells #[.int .i64 a3] 2 (0, 0)) (by (with_reducible repeat (first | refine blk_drewN ?_ _ | refine blk_drew ?_ | refine blk_alloc ?_ _)); exact BK408.out) hb); have n2_ := Aside0.mk (below_step (by repeat (first | (with_reducible first | exact HB.out | apply below_alloc | apply pw_below_drewN | apply below_drew1 | refine below_set ?_ GE407.out | refine below_set ?_ GE408.out) | exact HB.out)) hb); clear BK407; clear BK408; clear HB; have BK407 := n0_; have BK408 := n1_; have HB := n2_; clear n0_ n1_ n2_; (try clear hb); (try clear hb2); (try clear hk); (try clear hi)))
  go_ret2
  exact ⟨_, by first | rfl | (simp [errW_none, errW_some] <;> rfl) | (simp [*, errW_none, errW_some] <;> rfl), by first | exact Kd.R_nil _ _ _ _ _ | exact Kd.N_nil _ _ _ _ _ | exact Kd.V_nil _ _ _ _ _ | exact Kd.Q_nil _ _ _ _ _ | exact Kd.S_nil _ _ _ _ _, by repeat (first | (with_reducible first | exact HB.out | apply below_alloc | apply pw_below_drewN | apply below_drew1 | refine below_set ?_ GE407.out | refine below_set ?_ GE408.out) | exact HB.out)⟩
end Go.Proofs.Ytjbajagjknhpoaa.H
namespace Go.Proofs.Ytjbajagjknhpoaa.H
open Go.RowKit Go.Proofs.YtjbajagjknhpoaaW.PrintWords Go.Proofs.YtjbajagjknhpoaaW.PrintLast Go.Proofs.YtjbajagjknhpoaaW.PrintMore
attribute [local go_sem] max2_int min2_int max_two min_two max_three min_three max_four min_four   -- for this text's walks alone
set_option linter.unusedVariables false
set_option linter.unusedSimpArgs false
/-! ### impl_field_mul: function 82 -/
def impl_field_mul.f (a0 : Int) (a1 : Int) (a2 : Int) : Option (Int) := (impl_field_mod.f a0 (wrap64 (a1 * a2))).bind fun t292 => (some t292)
set_option maxHeartbeats 8000000 in
set_option maxRecDepth 100000 in
theorem impl_field_mul.calls (a0 : Int) (a1 : Int) (a2 : Int) (r : Int) (w : World) (h : impl_field_mul.f a0 a1 a2 = some r) :
  Calls Try.prog 82 #[.int .i64 a0, .int .i64 a1, .int .i64 a2] w fun e w' => e = .returned (.int .i64 r) ∧ Drawn0 w w' := by
 have H : ((impl_field_mod.f a0 (wrap64 (a1 * a2))).bind fun t292 => (some t292)) = some r := h
 clear h
 replace H := Option.bind_eq_some_iff.mp H
 obtain ⟨t292, A40, H⟩ := H
 have A4 := Aside0.mk A40
 clear A40
 obtain rfl := Option.some.inj H
 go_enter Try.func82, Try.ntmps82
 go_wp2_with (first | ((with_reducible refine gate_callee (f := 69) rfl ?_); refine goesM_ (some 11) rfl rfl Try.func69 #[.int .i64 a0, .int .i64 (wrap64 (a1 * a2))] rfl ?_; (with_reducible refine (impl_field_mod.calls a0 (wrap64 (a1 * a2)) t292 _ A4.out).mono ?_); rintro e w' ⟨rfl, ⟨nd, rfl⟩⟩; refine ⟨_, rfl, ?_⟩))
 go_ret
 exact ⟨by first | rfl | (simp; done) | (simp [*]; done), by repeat (first | exact Drawn0.refl _ | apply Drawn0.step)⟩
end Go.Proofs.Ytjbajagjknhpoaa.H
namespace Go.Proofs.Ytjbajagjknhpoaa.H
open Go.RowKit Go.Proofs.YtjbajagjknhpoaaW.PrintWords Go.Proofs.YtjbajagjknhpoaaW.PrintLast Go.Proofs.YtjbajagjknhpoaaW.PrintMore
attribute [local go_sem] max2_int min2_int max_two min_two max_three min_three max_four min_four   -- for this text's walks alone
set_option linter.unusedVariables false
set_option linter.unusedSimpArgs false
/-! ### impl_field_derivative: function 61 -/
def impl_field_derivative.l0 : Nat → Int → List Int → List Int → Int → Option (List Int)
  | 0, _, _, _, _ => none
  | k + 1, x0, x1, x5, x6 => if x6 < (x1.length : Int) then (if 0 ≤ x6 then ((impl_field_mul.f x0 x6 (rd x1 x6)).bind fun t671 => (if x5.length < 17592186044416 then (impl_field_derivative.l0 k x0 x1 (x5 ++ [t671]) (wrap64 (x6 + 1))) else (none))) else (none)) else ((impl_trimmed.f k x5).bind fun t675 => (some t675))
def impl_field_derivative.f (k : Nat) (a0 : Int) (l1 : List Int) : Option (List Int) := impl_field_derivative.l0 k a0 l1 ([] : List Int) 1
set_option maxHeartbeats 8000000 in
set_option maxRecDepth 100000 in
theorem impl_field_derivative.calls (k : Nat) (a0 : Int) (A1 : Option Addr) (c1 : Nat) (l1 : List Int) (r : List Int) (w : World) (hr1 : Kd.C (Kd.int .i64) w A1 l1.length l1) (hc1 : l1.length ≤ c1) (h : impl_field_derivative.f k a0 l1 = some r) :
  Calls Try.prog 61 #[.int .i64 a0, .slice A1 l1.length c1] w fun e w' => ∃ v0_ : Value, e = .returned (v0_) ∧ Kd.R (Kd.int .i64) 2 w' w.heap.size (fun _ => True) v0_ r ∧ Below w.heap.size w w' := by
 have HR1 := Aside0.mk hr1
 have HC1 := Aside0.mk hc1
 clear hr1 hc1
 have HB := Aside0.mk (Below.refl w.heap.size w)
 have H : (impl_field_derivative.l0 k a0 l1 ([] : List Int) 1) = some r := h
 clear h
 have H' := Aside0.mk H
 clear H
 go_enter Try.func61, Try.ntmps61
 go_wp2
 go_loopg [5, 6] k (fun kq v5 v6 w' => ∃ (x5_1 : List Int) (x6_1 : Int), v6 = .int .i64 x6_1 ∧ Aside0 (impl_field_derivative.l0 kq a0 l1 x5_1 x6_1 = some r) ∧ Aside0 (kq ≤ k) ∧ Aside0 (Kd.R (Kd.int .i64) 2 w' w.heap.size (fun _ => True) v5 x5_1) ∧ Aside0 (Below w.heap.size w w'))
 case atStart => exact ⟨(([] : List Int)), (1), ea_, H', ⟨Nat.le_refl _⟩, ⟨by first | exact Kd.R_nil _ _ _ _ _ | exact Kd.N_nil _ _ _ _ _ | exact Kd.V_nil _ _ _ _ _ | exact Kd.Q_nil _ _ _ _ _ | exact Kd.S_nil _ _ _ _ _⟩, ⟨by repeat (first | (with_reducible first | exact HB.out | apply below_alloc | apply pw_below_drewN | apply below_drew1) | exact HB.out)⟩⟩
 case round =>
  clear H'
  try clear c1
  try clear p2
  obtain ⟨x5_1, x6_1, rfl, HA, HK1, HO_5, HB⟩ := hrel
  cases gk with
  | zero => exact absurd HA.out (by simp [impl_field_derivative.l0])
  | succ k1 =>
   have H := HA.out
   clear HA
   simp only [impl_field_derivative.l0] at H
   by_cases c3 : x6_1 < (l1.length : Int)
   ·
    rw [if_pos c3] at H
    have c3b0 : decide (x6_1 < (l1.length : Int)) = true := decide_eq_true c3
    clear c3
    by_cases c4 : 0 ≤ x6_1
    ·
     rw [if_pos c4] at H
     have c4b0 : decide (0 ≤ x6_1) = true := decide_eq_true c4
     clear c4
     replace H := Option.bind_eq_some_iff.mp H
     obtain ⟨t671, A50, H⟩ := H
     have A5 := Aside0.mk A50
     clear A50
     by_cases c6 : x5_1.length < 17592186044416
     ·
      rw [if_pos c6] at H
      have LMc6 := Aside0.mk c6
      clear c6
      obtain ⟨y672, hy672⟩ : ∃ y_ : List Int, y_ = (x5_1 ++ [t671]) := ⟨_, rfl⟩
      replace H : (impl_field_derivative.l0 k1 a0 l1 y672 (wrap64 (x6_1 + 1))) = some r := by first | (rw [hy672]; with_reducible exact H) | (have H2_ := (Option.bind_some _ _).symm.trans H; rw [hy672]; with_reducible exact H2_) | (have H2_ := (Option.bind_some _ _).symm.trans H; with_reducible exact H2_) | with_reducible exact H | (rw [hy672]; exact H) | exact H
      have Ny672 := Aside0.mk hy672
      clear hy672
      have H' := Aside0.mk H
      clear H
      have p670 : 0 ≤ (x6_1 : Int) := of_decide_eq_true (by first | (with_reducible assumption) | assumption)
      have q670 : x6_1 < (l1.length : Int) := of_decide_eq_true (by first | (with_reducible assumption) | assumption)
      obtain ⟨ad670, e670, hx670_0⟩ := Kd.at_int HR1.out x6_1 p670 q670
      cases e670
      replace hx670_0 := (HB.out.cell (World.block_lt_of_cell? w _ hx670_0)).trans hx670_0
      replace p670 := eq_true p670
      replace q670 := eq_true q670
      go_wp2_with (first | ((with_reducible refine gate_callee (f := 82) rfl ?_); refine goesM_ (some 20) rfl rfl Try.func82 #[.int .i64 a0, .int .i64 x6_1, .int .i64 (rd l1 x6_1)] rfl ?_; (with_reducible refine (impl_field_mul.calls a0 x6_1 (rd l1 x6_1) t671 _ A5.out).mono ?_); rintro e w' ⟨rfl, ⟨nd, rfl⟩⟩; refine ⟨_, rfl, ?_⟩) | ((with_reducible refine gate_builtin (b := .append) (xs := #[.tmp 13, .tmp 21]) rfl ?_); at_builtin; refine Kd.R_append (Kd.int .i64) (w0 := w) w.heap.size rfl (.tmp 13) (.tmp 21) 24 2 (.int .i64 0) 8 rfl Try.underlying24 info2 rfl (by decide) (by omega) u5 x5_1 t671 [.int .i64 t671] (fun _ => True) (fun _ => False) rfl rfl ?aP (fun _ hk => hk.elim) ?aF ?aO ?aB ?aS ?aL ?_; (case aP => exact rfl); (case aB => exact (bs HB)); (case aF => exact (fun _ _ => trivial)); (case aO => exact (rs HO_5)); (case aS => exact (below_size (bs HB))); (case aL => have := LMc6.out; omega); intro v673 w7 ho hb hg hat; rw [← Ny672.out] at ho; have n0_ := Aside0.mk (hb); have n1_ := Aside0.mk (ho); clear HB; clear HO_5; have HB := n0_; have HO674 := n1_; clear n0_ n1_; clear ho hb hg hat))
      go_roundg k1
      case measure => have := HK1.out; omega
      case rel => exact ⟨(y672), (wrap64 (x6_1 + 1)), ea_, H', ⟨by have := HK1.out; omega⟩, ⟨by (with_reducible repeat (first | apply Kd.R_alloc | apply Kd.R_drewN | apply Kd.R_drew)); exact HO674.out⟩, ⟨by repeat (first | (with_reducible first | exact HB.out | apply below_alloc | apply pw_below_drewN | apply below_drew1) | exact HB.out)⟩⟩
     ·
      rw [if_neg c6] at H
      exact absurd H (by simp)
    ·
     rw [if_neg c4] at H
     exact absurd H (by simp)
   ·
    rw [if_neg c3] at H
    have c3b0 : decide (x6_1 < (l1.length : Int)) = false := decide_eq_false c3
    clear c3
    replace H := Option.bind_eq_some_iff.mp H
    obtain ⟨t675, A80, H⟩ := H
    have A8 := Aside0.mk A80
    clear A80
    obtain rfl := Option.some.inj H
    obtain ⟨Ao9, co9, eo9⟩ := Kd.R_slice HO_5.out
    subst eo9
    go_wp2_with (first | ((with_reducible refine gate_callee (f := 70) rfl ?_); refine goesM_ (some 24) rfl rfl Try.func70 #[.slice Ao9 x5_1.length co9] rfl ?_; (with_reducible refine (impl_trimmed.calls k1 (fun k_ => some k_ = (.slice Ao9 x5_1.length co9 : Value).ownBlock) (.slice Ao9 x5_1.length co9) x5_1 t675 w _ ?side1 ?side2 A8.out).mono ?_); (case side1 => exact bs HB); (case side2 => exact Kd.R_tight rfl HO_5.out); rintro e w10 ⟨v676, rfl, ho0, hb, hkp⟩; refine ⟨_, rfl, ?_⟩; have n0_ := Aside0.mk (Kd.R_mono (ok' := fun k_ => True) ho0 (fun k_ hk_ => trivial)); have n1_ := Aside0.mk (hb); clear HB; clear HO_5; have HO677 := n0_; have HB := n1_; clear n0_ n1_; (try clear hb); (try clear hkp); (try clear ho0)))
    go_ret
    exact ⟨_, by first | rfl | (simp [errW_none, errW_some] <;> rfl) | (simp [*, errW_none, errW_some] <;> rfl), by (with_reducible repeat (first | apply Kd.R_alloc | apply Kd.R_drewN | apply Kd.R_drew)); exact HO677.out, by repeat (first | (with_reducible first | exact HB.out | apply below_alloc | apply pw_below_drewN | apply below_drew1) | exact HB.out)⟩
end Go.Proofs.Ytjbajagjknhpoaa.H
namespace Go.Proofs.Ytjbajagjknhpoaa.H
open Go.RowKit Go.Proofs.YtjbajagjknhpoaaW.PrintWords Go.Proofs.YtjbajagjknhpoaaW.PrintLast Go.Proofs.YtjbajagjknhpoaaW.PrintMore
attribute [local go_sem] max2_int min2_int max_two min_two max_three min_three max_four min_four   -- for this text's walks alone
set_option linter.unusedVariables false
set_option linter.unusedSimpArgs false
/-! ### impl_DerivativeOf: function 27 -/
def impl_DerivativeOf.f (k : Nat) (a0 : Int) (l1 : List Int) : Option (List Int × Int) := (impl_polyCode_1.f k a0 true l1).bind fun t678 => (if t678 = 0 then ((impl_field_derivative.f k a0 l1).bind fun t679 => (some (t679, 0))) else (some (([] : List Int), t678)))
set_option maxHeartbeats 8000000 in
set_option maxRecDepth 100000 in
theorem impl_DerivativeOf.calls (k : Nat) (a0 : Int) (A1 : Option Addr) (c1 : Nat) (l1 : List Int) (r1 : List Int) (r2 : Int) (w : World) (hr1 : Kd.C (Kd.int .i64) w A1 l1.length l1) (hc1 : l1.length ≤ c1) (h : impl_DerivativeOf.f k a0 l1 = some (r1, r2)) :
  Calls Try.prog 27 #[.int .i64 a0, .slice A1 l1.length c1] w fun e w' => ∃ v0_ : Value, e = .returned (.tuple #[v0_, .int .i64 r2]) ∧ Kd.R (Kd.int .i64) 2 w' w.heap.size (fun _ => True) v0_ r1 ∧ Below w.heap.size w w' := by
 have HR1 := Aside0.mk hr1
 have HC1 := Aside0.mk hc1
 clear hr1 hc1
 have HB := Aside0.mk (Below.refl w.heap.size w)
 have H : ((impl_polyCode_1.f k a0 true l1).bind fun t678 => (if t678 = 0 then ((impl_field_derivative.f k a0 l1).bind fun t679 => (some (t679, 0))) else (some (([] : List Int), t678)))) = some (r1, r2) := h
 clear h
 replace H := Option.bind_eq_some_iff.mp H
 obtain ⟨t678, A30, H⟩ := H
 have A3 := Aside0.mk A30
 clear A30
 by_cases c4 : t678 = 0
 ·
  rw [if_pos c4] at H
  have c4b0 : (t678 == 0) = true := beq_iff_eq.mpr c4
  have c4b1 : (t678 != 0) = false := bne_eq_false_iff_eq.mpr c4
  clear c4
  replace H := Option.bind_eq_some_iff.mp H
  obtain ⟨t679, A50, H⟩ := H
  have A5 := Aside0.mk A50
  clear A50
  simp only [Option.some.injEq, Prod.mk.injEq] at H
  obtain ⟨rfl, rfl⟩ := H
  go_enter Try.func27, Try.ntmps27
  go_wp2_with (first | (go_at_call 31; (with_reducible refine (impl_polyCode_1.calls k a0 true A1 c1 l1 t678 _ ?side1 ?side2 A3.out ?sideE ?sideG ?sideP).mono ?_); (case side1 => exact cs (HR1.out)); (case side2 => exact HC1.out); (case sideE => (first | exact enters_of Try.func32 (by kernel_rfl) rfl)); (case sideG => (first | exact always_gives _)); (case sideP => (first | (simp; done) | (simp [*]; done))); rintro e w6 ⟨rfl, hb⟩; have n0_ := Aside0.mk (below_step (bs HB) hb); clear HB; have HB := n0_; clear n0_; (try clear hb); (try clear hb2); (try clear hk); (try clear hi)) | ((with_reducible refine gate_callee (f := 61) rfl ?_); refine goesM_ (some 16) rfl rfl Try.func61 #[.int .i64 a0, .slice A1 l1.length c1] rfl ?_; (with_reducible refine (impl_field_derivative.calls k a0 _ _ l1 t679 _ ?side1 ?side2 A5.out).mono ?_); (case side1 => exact cs ((Kd.C_below HR1.out HB.out))); (case side2 => exact HC1.out); rintro e w7 ⟨v680, rfl, ho0, hb⟩; refine ⟨_, rfl, ?_⟩; have n0_ := Aside0.mk (Kd.R_lower ho0 (below_size (bs HB))); have n1_ := Aside0.mk (below_step (bs HB) hb); clear HB; have HO681 := n0_; have HB := n1_; clear n0_ n1_; (try clear hb); (try clear hb2); (try clear hk); (try clear hi); (try clear ho0)))
  go_ret2
  exact ⟨_, by first | rfl | (simp [errW_none, errW_some] <;> rfl) | (simp [*, errW_none, errW_some] <;> rfl), by (with_reducible repeat (first | apply Kd.R_alloc | apply Kd.R_drewN | apply Kd.R_drew)); exact HO681.out, by repeat (first | (with_reducible first | exact HB.out | apply below_alloc | apply pw_below_drewN | apply below_drew1) | exact HB.out)⟩
 ·
  rw [if_neg c4] at H
  have c4b0 : (t678 == 0) = false := beq_eq_false_iff_ne.mpr c4
  have c4b1 : (t678 != 0) = true := bne_iff_ne.mpr c4
  simp only [Option.some.injEq, Prod.mk.injEq] at H
  obtain ⟨rfl, rfl⟩ := H
  go_enter Try.func27, Try.ntmps27
  go_wp2_with (first | (go_at_call 31; (with_reducible refine (impl_polyCode_1.calls k a0 true A1 c1 l1 t678 _ ?side1 ?side2 A3.out ?sideE ?sideG ?sideP).mono ?_); (case side1 => exact cs (HR1.out)); (case side2 => exact HC1.out); (case sideE => (first | exact enters_of Try.func32 (by kernel_rfl) rfl)); (case sideG => (first | exact always_gives _)); (case sideP => (first | (simp; done) | (simp [*]; done))); rintro e w8 ⟨rfl, hb⟩; have n0_ := Aside0.mk (below_step (bs HB) hb); clear HB; have HB := n0_; clear n0_; (try clear hb); (try clear hb2); (try clear hk); (try clear hi)))
  go_ret2
  exact ⟨_, by first | rfl | (simp [errW_none, errW_some] <;> rfl) | (simp [*, errW_none, errW_some] <;> rfl), by first | exact Kd.R_nil _ _ _ _ _ | exact Kd.N_nil _ _ _ _ _ | exact Kd.V_nil _ _ _ _ _ | exact Kd.Q_nil _ _ _ _ _ | exact Kd.S_nil _ _ _ _ _, by repeat (first | (with_reducible first | exact HB.out | apply below_alloc | apply pw_below_drewN | apply below_drew1) | exact HB.out)⟩
end Go.Proofs.Ytjbajagjknhpoaa.H
namespace Go.Proofs.Ytjbajagjknhpoaa.H
open Go.RowKit Go.Proofs.YtjbajagjknhpoaaW.PrintWords Go.Proofs.YtjbajagjknhpoaaW.PrintLast Go.Proofs.YtjbajagjknhpoaaW.PrintMore
attribute [local go_sem] max2_int min2_int max_two min_two max_three min_three max_four min_four   -- for this text's walks alone
set_option linter.unusedVariables false
set_option linter.unusedSimpArgs false
/-! ### impl_field_power: function 87 -/
def impl_field_power.l0 : Nat → Int → Int → Int → Int → Option (Int)
  | 0, _, _, _, _ => none
  | k + 1, x0, x1, x2, x7 => if x2 > 0 then (if (Int.tmod x2 2) = 1 then ((impl_field_mul.f x0 x7 x1).bind fun t294 => ((impl_field_mul.f x0 x1 x1).bind fun t295 => (impl_field_power.l0 k x0 t295 (wrap64 (Int.tdiv x2 2)) t294))) else ((impl_field_mul.f x0 x1 x1).bind fun t296 => (impl_field_power.l0 k x0 t296 (wrap64 (Int.tdiv x2 2)) x7))) else (some x7)
def impl_field_power.f (k : Nat) (a0 : Int) (a1 : Int) (a2 : Int) : Option (Int) := (impl_field_mod.f a0 1).bind fun t293 => (impl_field_power.l0 k a0 a1 a2 t293)
set_option maxHeartbeats 8000000 in
set_option maxRecDepth 100000 in
theorem impl_field_power.calls (k : Nat) (a0 : Int) (a1 : Int) (a2 : Int) (r : Int) (w : World) (h : impl_field_power.f k a0 a1 a2 = some r) :
  Calls Try.prog 87 #[.int .i64 a0, .int .i64 a1, .int .i64 a2] w fun e w' => e = .returned (.int .i64 r) ∧ Drawn0 w w' := by
 have H : ((impl_field_mod.f a0 1).bind fun t293 => (impl_field_power.l0 k a0 a1 a2 t293)) = some r := h
 clear h
 replace H := Option.bind_eq_some_iff.mp H
 obtain ⟨t293, A40, H⟩ := H
 have A4 := Aside0.mk A40
 clear A40
 have H' := Aside0.mk H
 clear H
 go_enter Try.func87, Try.ntmps87
 go_wp2_with (first | ((with_reducible refine gate_callee (f := 69) rfl ?_); refine goesM_ (some 9) rfl rfl Try.func69 #[.int .i64 a0, .int .i64 1] rfl ?_; (with_reducible refine (impl_field_mod.calls a0 1 t293 _ A4.out).mono ?_); rintro e w' ⟨rfl, ⟨nd, rfl⟩⟩; refine ⟨_, rfl, ?_⟩))
 go_loopg [1, 2, 7] k (fun kq v1 v2 v7 w' => ∃ (x1_1 : Int) (x2_1 : Int) (x7_1 : Int), v1 = .int .i64 x1_1 ∧ v2 = .int .i64 x2_1 ∧ v7 = .int .i64 x7_1 ∧ Aside0 (impl_field_power.l0 kq a0 x1_1 x2_1 x7_1 = some r) ∧ Aside0 (kq ≤ k) ∧ Drawn0 w w')
 case atStart => exact ⟨(a1), (a2), (t293), ea_, ea_, ea_, H', ⟨Nat.le_refl _⟩, by repeat (first | exact Drawn0.refl _ | apply Drawn0.step)⟩
 case round =>
  clear H'
  try clear p2
  obtain ⟨x1_1, x2_1, x7_1, rfl, rfl, rfl, HA, HK1, ⟨m1, rfl⟩⟩ := hrel
  cases gk with
  | zero => exact absurd HA.out (by simp [impl_field_power.l0])
  | succ k1 =>
   have H := HA.out
   clear HA
   simp only [impl_field_power.l0] at H
   by_cases c5 : x2_1 > 0
   ·
    rw [if_pos c5] at H
    have c5b0 : decide (0 < x2_1) = true := decide_eq_true c5
    clear c5
    by_cases c6 : (Int.tmod x2_1 2) = 1
    ·
     rw [if_pos c6] at H
     have c6b0 : ((Int.tmod x2_1 2) == 1) = true := beq_iff_eq.mpr c6
     have c6b1 : ((Int.tmod x2_1 2) != 1) = false := bne_eq_false_iff_eq.mpr c6
     clear c6
     replace H := Option.bind_eq_some_iff.mp H
     obtain ⟨t294, A70, H⟩ := H
     have A7 := Aside0.mk A70
     clear A70
     replace H := Option.bind_eq_some_iff.mp H
     obtain ⟨t295, A80, H⟩ := H
     have A8 := Aside0.mk A80
     clear A80
     have H' := Aside0.mk H
     clear H
     go_wp2_with (first | ((with_reducible refine gate_callee (f := 82) rfl ?_); refine goesM_ (some 20) rfl rfl Try.func82 #[.int .i64 a0, .int .i64 x7_1, .int .i64 x1_1] rfl ?_; (with_reducible refine (impl_field_mul.calls a0 x7_1 x1_1 t294 _ A7.out).mono ?_); rintro e w' ⟨rfl, ⟨nd, rfl⟩⟩; refine ⟨_, rfl, ?_⟩) | ((with_reducible refine gate_callee (f := 82) rfl ?_); refine goesM_ (some 24) rfl rfl Try.func82 #[.int .i64 a0, .int .i64 x1_1, .int .i64 x1_1] rfl ?_; (with_reducible refine (impl_field_mul.calls a0 x1_1 x1_1 t295 _ A8.out).mono ?_); rintro e w' ⟨rfl, ⟨nd, rfl⟩⟩; refine ⟨_, rfl, ?_⟩))
     go_roundg k1
     case measure => have := HK1.out; omega
     case rel => exact ⟨(t295), (wrap64 (Int.tdiv x2_1 2)), (t294), ea_, ea_, ea_, H', ⟨by have := HK1.out; omega⟩, by repeat (first | exact Drawn0.refl _ | apply Drawn0.step)⟩
    ·
     rw [if_neg c6] at H
     have c6b0 : ((Int.tmod x2_1 2) == 1) = false := beq_eq_false_iff_ne.mpr c6
     have c6b1 : ((Int.tmod x2_1 2) != 1) = true := bne_iff_ne.mpr c6
     replace H := Option.bind_eq_some_iff.mp H
     obtain ⟨t296, A90, H⟩ := H
     have A9 := Aside0.mk A90
     clear A90
     have H' := Aside0.mk H
     clear H
     go_wp2_with (first | ((with_reducible refine gate_callee (f := 82) rfl ?_); refine goesM_ (some 24) rfl rfl Try.func82 #[.int .i64 a0, .int .i64 x1_1, .int .i64 x1_1] rfl ?_; (with_reducible refine (impl_field_mul.calls a0 x1_1 x1_1 t296 _ A9.out).mono ?_); rintro e w' ⟨rfl, ⟨nd, rfl⟩⟩; refine ⟨_, rfl, ?_⟩))
     go_roundg k1
     case measure => have := HK1.out; omega
     case rel => exact ⟨(t296), (wrap64 (Int.tdiv x2_1 2)), (x7_1), ea_, ea_, ea_, H', ⟨by have := HK1.out; omega⟩, by repeat (first | exact Drawn0.refl _ | apply Drawn0.step)⟩
   ·
    rw [if_neg c5] at H
    have c5b0 : decide (0 < x2_1) = false := decide_eq_false c5
    clear c5
    obtain rfl := Option.some.inj H
    go_wp2
    go_ret
    exact ⟨by first | rfl | (simp; done) | (simp [*]; done), by repeat (first | exact Drawn0.refl _ | apply Drawn0.step)⟩
end Go.Proofs.Ytjbajagjknhpoaa.H
namespace Go.Proofs.Ytjbajagjknhpoaa.H
open Go.RowKit Go.Proofs.YtjbajagjknhpoaaW.PrintWords Go.Proofs.YtjbajagjknhpoaaW.PrintLast Go.Proofs.YtjbajagjknhpoaaW.PrintMore
attribute [local go_sem] max2_int min2_int max_two min_two max_three min_three max_four min_four   -- for this text's walks alone
set_option linter.unusedVariables false
set_option linter.unusedSimpArgs false
/-! ### impl_field_inverse: function 81 -/
def impl_field_inverse.f (k : Nat) (a0 : Int) (a1 : Int) : Option (Int) := (impl_field_power.f k a0 a1 (wrap64 (a0 - 2))).bind fun t297 => (some t297)
set_option maxHeartbeats 8000000 in
set_option maxRecDepth 100000 in
theorem impl_field_inverse.calls (k : Nat) (a0 : Int) (a1 : Int) (r : Int) (w : World) (h : impl_field_inverse.f k a0 a1 = some r) :
  Calls Try.prog 81 #[.int .i64 a0, .int .i64 a1] w fun e w' => e = .returned (.int .i64 r) ∧ Drawn0 w w' := by
 have H : ((impl_field_power.f k a0 a1 (wrap64 (a0 - 2))).bind fun t297 => (some t297)) = some r := h
 clear h
 replace H := Option.bind_eq_some_iff.mp H
 obtain ⟨t297, A30, H⟩ := H
 have A3 := Aside0.mk A30
 clear A30
 obtain rfl := Option.some.inj H
 go_enter Try.func81, Try.ntmps81
 go_wp2_with (first | ((with_reducible refine gate_callee (f := 87) rfl ?_); refine goesM_ (some 9) rfl rfl Try.func87 #[.int .i64 a0, .int .i64 a1, .int .i64 (wrap64 (a0 - 2))] rfl ?_; (with_reducible refine (impl_field_power.calls k a0 a1 (wrap64 (a0 - 2)) t297 _ A3.out).mono ?_); rintro e w' ⟨rfl, ⟨nd, rfl⟩⟩; refine ⟨_, rfl, ?_⟩))
 go_ret
 exact ⟨by first | rfl | (simp; done) | (simp [*]; done), by repeat (first | exact Drawn0.refl _ | apply Drawn0.step)⟩
end Go.Proofs.Ytjbajagjknhpoaa.H
namespace Go.Proofs.Ytjbajagjknhpoaa.H
open Go.RowKit Go.Proofs.YtjbajagjknhpoaaW.PrintWords Go.Proofs.YtjbajagjknhpoaaW.PrintLast Go.Proofs.YtjbajagjknhpoaaW.PrintMore
attribute [local go_sem] max2_int min2_int max_two min_two max_three min_three max_four min_four   -- for this text's walks alone
set_option linter.unusedVariables false
set_option linter.unusedSimpArgs false
/-! ### impl_field_div: function 68 -/
def impl_field_div.f (k : Nat) (a0 : Int) (a1 : Int) (a2 : Int) : Option (Int) := (impl_field_inverse.f k a0 a2).bind fun t298 => ((impl_field_mul.f a0 a1 t298).bind fun t299 => (some t299))
set_option maxHeartbeats 8000000 in
set_option maxRecDepth 100000 in
theorem impl_field_div.calls (k : Nat) (a0 : Int) (a1 : Int) (a2 : Int) (r : Int) (w : World) (h : impl_field_div.f k a0 a1 a2 = some r) :
  Calls Try.prog 68 #[.int .i64 a0, .int .i64 a1, .int .i64 a2] w fun e w' => e = .returned (.int .i64 r) ∧ Drawn0 w w' := by
 have H : ((impl_field_inverse.f k a0 a2).bind fun t298 => ((impl_field_mul.f a0 a1 t298).bind fun t299 => (some t299))) = some r := h
 clear h
 replace H := Option.bind_eq_some_iff.mp H
 obtain ⟨t298, A40, H⟩ := H
 have A4 := Aside0.mk A40
 clear A40
 replace H := Option.bind_eq_some_iff.mp H
 obtain ⟨t299, A50, H⟩ := H
 have A5 := Aside0.mk A50
 clear A50
 obtain rfl := Option.some.inj H
 go_enter Try.func68, Try.ntmps68
 go_wp2_with (first | ((with_reducible refine gate_callee (f := 81) rfl ?_); refine goesM_ (some 11) rfl rfl Try.func81 #[.int .i64 a0, .int .i64 a2] rfl ?_; (with_reducible refine (impl_field_inverse.calls k a0 a2 t298 _ A4.out).mono ?_); rintro e w' ⟨rfl, ⟨nd, rfl⟩⟩; refine ⟨_, rfl, ?_⟩) | ((with_reducible refine gate_callee (f := 82) rfl ?_); refine goesM_ (some 12) rfl rfl Try.func82 #[.int .i64 a0, .int .i64 a1, .int .i64 t298] rfl ?_; (with_reducible refine (impl_field_mul.calls a0 a1 t298 t299 _ A5.out).mono ?_); rintro e w' ⟨rfl, ⟨nd, rfl⟩⟩; refine ⟨_, rfl, ?_⟩))
 go_ret
 exact ⟨by first | rfl | (simp; done) | (simp [*]; done), by repeat (first | exact Drawn0.refl _ | apply Drawn0.step)⟩
end Go.Proofs.Ytjbajagjknhpoaa.H
namespace Go.Proofs.Ytjbajagjknhpoaa.H
open Go.RowKit Go.Proofs.YtjbajagjknhpoaaW.PrintWords Go.Proofs.YtjbajagjknhpoaaW.PrintLast Go.Proofs.YtjbajagjknhpoaaW.PrintMore
attribute [local go_sem] max2_int min2_int max_two min_two max_three min_three max_four min_four   -- for this text's walks alone
set_option linter.unusedVariables false
set_option linter.unusedSimpArgs false
/-! ### slices_Clone_int64_int64: function 67 -/
def slices_Clone_int64_int64.f (l0 : List Int) : Option (List Int) := (some (([] : List Int) : List Int)).bind fun y286 => (if y286.length + l0.length < 17592186044416 then (some (y286 ++ l0)) else (none))
set_option maxHeartbeats 8000000 in
set_option maxRecDepth 100000 in
theorem slices_Clone_int64_int64.calls (A0 : Option Addr) (c0 : Nat) (l0 : List Int) (r : List Int) (w : World) (hr0 : Kd.C (Kd.int .i64) w A0 l0.length l0) (hc0 : l0.length ≤ c0) (h : slices_Clone_int64_int64.f l0 = some r) :
  Calls Try.prog 67 #[.slice A0 l0.length c0] w fun e w' => ∃ v0_ : Value, e = .returned (v0_) ∧ Kd.R (Kd.int .i64) 2 w' w.heap.size (fun _ => True) v0_ r ∧ Below w.heap.size w w' := by
 have HR0 := Aside0.mk hr0
 have HC0 := Aside0.mk hc0
 clear hr0 hc0
 have HB := Aside0.mk (Below.refl w.heap.size w)
 by_cases hA0 : A0 = none
 ·
  subst hA0
  have h0 : l0 = [] := by
   rcases Nat.eq_zero_or_pos l0.length with h0 | h0
   ·
    exact List.eq_nil_of_length_eq_zero h0
   ·
    obtain ⟨_, h1, _⟩ := HR0.out.2.2 h0
    cases h1
  subst h0
  have hr : r = [] := by
   have H := h
   simp [slices_Clone_int64_int64.f] at H
   first | exact H.symm | exact H
  subst hr
  clear h
  have hnl := fun W => Go.Lib.run_eql_slice_nil (P := Try.prog) W 24 2 none 0 c0 0 0 Try.underlying24
  go_enter Try.func67, Try.ntmps67
  go_wp2
  go_ret
  exact ⟨_, rfl, Kd.R_nil _ _ _ _ _, HB.out⟩
 obtain ⟨ad0, rfl⟩ : ∃ ad, A0 = some ad := Option.ne_none_iff_exists'.1 hA0
 clear hA0
 have hnl := fun W => Go.Lib.run_eql_slice_nil (P := Try.prog) W 24 2 (some ad0) l0.length c0 0 0 Try.underlying24
 have H : ((some (([] : List Int) : List Int)).bind fun y286 => (if y286.length + l0.length < 17592186044416 then (some (y286 ++ l0)) else (none))) = some r := h
 clear h
 obtain ⟨y286, hy286⟩ : ∃ y_ : List Int, y_ = (([] : List Int)) := ⟨_, rfl⟩
 replace H : (if y286.length + l0.length < 17592186044416 then (some (y286 ++ l0)) else (none)) = some r := by first | (rw [hy286]; with_reducible exact H) | (have H2_ := (Option.bind_some _ _).symm.trans H; rw [hy286]; with_reducible exact H2_) | (have H2_ := (Option.bind_some _ _).symm.trans H; with_reducible exact H2_) | with_reducible exact H | (rw [hy286]; exact H) | exact H
 have Ny286 := Aside0.mk hy286
 clear hy286
 by_cases c2 : y286.length + l0.length < 17592186044416
 ·
  rw [if_pos c2] at H
  have LMc2 := Aside0.mk c2
  clear c2
  obtain ⟨y289, hy289⟩ : ∃ y_ : List Int, y_ = (y286 ++ l0) := ⟨_, rfl⟩
  replace H : (some y289) = some r := by first | (rw [hy289]; with_reducible exact H) | (have H2_ := (Option.bind_some _ _).symm.trans H; rw [hy289]; with_reducible exact H2_) | (have H2_ := (Option.bind_some _ _).symm.trans H; with_reducible exact H2_) | with_reducible exact H | (rw [hy289]; exact H) | exact H
  have Ny289 := Aside0.mk hy289
  clear hy289
  obtain rfl := Option.some.inj H
  go_enter Try.func67, Try.ntmps67
  go_wp2_with (first | ((with_reducible refine gate_dst (N := 5) rfl ?_); refine Kd.R_lit (Kd.int .i64) _ 2 ?hg (N := 5) ?hd (xs := ([] : List Int)) (inner := []) (ok := fun _ => True) (okp := fun _ => True) ?hr ?hp (fun _ hk => hk) trivial (Below.refl _ _) (Nat.le_refl _) (by simp) ?_; (case hd => rfl); (case hg => rfl); (case hr => first | (go_simp; done) | (go_simp; rfl)); (case hp => exact (Reps.none _ _)); intro v287 w3 ho4 hb hg_ hnew_; clear hg_ hnew_; (first | rw [← Ny286.out] at ho4 | (simp only [Int.reduceToNat] at ho4; rw [← Ny286.out] at ho4)); have n0_ := Aside0.mk (Kd.R_lower ho4 (below_size (bs HB))); have n1_ := Aside0.mk (below_step (bs HB) hb); clear HB; have HO288 := n0_; have HB := n1_; clear n0_ n1_; clear hb ho4) | ((with_reducible refine gate_builtin (b := .append) (xs := #[.tmp 5, .tmp 6]) rfl ?_); at_builtin; refine Kd.R_append_rows (Kd.int .i64) (w0 := w) w.heap.size rfl (.tmp 5) (.tmp 6) 24 2 (.int .i64 0) 8 rfl Try.underlying24 info2 rfl (by decide) (by omega) v287 y286 l0 _ _ _ (fun _ => True) (fun _ => False) rfl rfl ?aO ?aR (fun _ _ h => h) (fun _ h => h.elim) ?aF ?aB ?aS ?aL ?_; (case aR => exact cs ((Kd.C_below HR0.out HB.out))); (case aB => exact (bs HB)); (case aF => exact (fun _ _ => trivial)); (case aO => exact (rs HO288)); (case aS => exact (below_size (bs HB))); (case aL => have := LMc2.out; omega); intro v290 w5 ho hb hg hat; rw [← Ny289.out] at ho; have n0_ := Aside0.mk (hb); have n1_ := Aside0.mk (ho); clear HB; clear HO288; have HB := n0_; have HO291 := n1_; clear n0_ n1_; clear ho hb hg hat))
  go_ret
  exact ⟨_, by first | rfl | (simp [errW_none, errW_some] <;> rfl) | (simp [*, errW_none, errW_some] <;> rfl), by (with_reducible repeat (first | apply Kd.R_alloc | apply Kd.R_drewN | apply Kd.R_drew)); exact HO291.out, by repeat (first | (with_reducible first | exact HB.out | apply below_alloc | apply pw_below_drewN | apply below_drew1) | exact HB.out)⟩
 ·
  rw [if_neg c2] at H
  exact absurd H (by simp)
end Go.Proofs.Ytjbajagjknhpoaa.H
