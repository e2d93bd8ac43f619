/- Joined texts of a claim: the printed functions and what is proved of them. -/
import Derived.Test.YtmadpicanmjhhaaDoorYHx0
import Derived.Test.YtmadpicanmjhhaaDoorMa4
import Derived.Test.YtmadpicanmjhhaaDoorMa2
import Derived.Test.YtmadpicanmjhhaaDoorMa1
import Derived.Test.YtmadpicanmjhhaaDoorShelf
import Derived.Test.YtmadpicanmjhhaaDoorMa3
namespace Go.Proofs.YtmadpicanmjhhaaDoor.H
open Go.RowKit Go.Proofs.YtmadpicanmjhhaaDoorW.PrintWords Go.Proofs.YtmadpicanmjhhaaDoorW.PrintLast Go.Proofs.YtmadpicanmjhhaaDoorW.PrintMore
attribute [local go_sem] max2_int min2_int max_two min_two max_three min_three max_four min_four   -- for this text's walks alone
set_option linter.unusedVariables false
set_option linter.unusedSimpArgs false
def impl_IsPoly.f (a0 : Int) (l1 : List Int) : Option Bool := some (decide (l1.length ≤ 25) && l1.all (hasB a0) && (decide (l1.length = 0) || decide (rd l1 ((l1.length : Int) - 1) ≠ 0)))
set_option maxHeartbeats 4000000 in
set_option maxRecDepth 100000 in
theorem impl_IsPoly.calls (a0 : Int) (A1 : Option Addr) (c1 : Nat) (l1 : List Int) (r : Bool) (w : World) (hr1 : Kd.C (Kd.int .i64) w A1 l1.length l1) (hc1 : l1.length ≤ c1) (h : impl_IsPoly.f a0 l1 = some r) :
  Calls Tryd.prog 24 #[.int .i64 a0, .slice A1 l1.length c1] w fun e w' => e = .returned (.bool r) ∧ Below w.heap.size w w' := by
 obtain rfl := Option.some.inj h
 clear h
 have eg : ∀ args w, (callFunc 40 args).run Tryd.prog w = .ok (.enter 40 args) w := enters_of Tryd.func40 (by kernel_rfl) rfl
 have HC := fun W (hW : Below w.heap.size w W) => areAll_bound A1 c1 l1 (hasB a0) 40 (.int .i64 a0) eg W (Kd.C_below hr1 hW) (fun x W' _ => has_hasB a0 x W')
 clear eg
 have HB := as0 (Below.refl w.heap.size w)
 by_cases h1 : l1.length ≤ 25
 ·
  have d1 : decide ((l1.length : Int) ≤ 25) = true := decide_eq_true (by omega)
  generalize ha : l1.all (hasB a0) = b at HC ⊢
  clear ha
  have HC' := HC w (Below.refl _ _)
  clear HC
  cases b with
  | false =>
   go_enter Tryd.func24, Tryd.ntmps24
   go_wp2_with (go_at_call 39; refine HC'.mono ?_; rintro e w' ⟨rfl, hb⟩)
   go_ret
   exact ⟨by simp, hb⟩
  | true =>
   by_cases h0 : l1.length = 0
   ·
    have d0 : (((l1.length : Nat) : Int) == 0) = true := by simp [h0]
    have d2 : decide (l1.length = 0) = true := decide_eq_true h0
    have H0 := as0 h0
    clear h0
    go_enter Tryd.func24, Tryd.ntmps24
    go_wp2_with (go_at_call 39; refine HC'.mono ?_; rintro e w' ⟨rfl, hb⟩)
    go_ret
    exact ⟨by simp [h1, H0.out], hb⟩
   ·
    have d0 : (((l1.length : Nat) : Int) == 0) = false := beq_eq_false_iff_ne.mpr (by omega)
    have q0 : 0 ≤ (l1.length : Int) - 1 := by omega
    have q1 : (l1.length : Int) - 1 < (l1.length : Int) := by omega
    obtain ⟨ad, rfl, hcell⟩ := Kd.at_int hr1 ((l1.length : Int) - 1) q0 q1
    rw [show ((l1.length : Int) - 1).toNat = l1.length - 1 by omega] at hcell
    clear hr1
    have H0 := as0 h0
    clear h0
    go_enter Tryd.func24, Tryd.ntmps24
    go_wp2_with (go_at_call 39; refine HC'.mono ?_; rintro e w' ⟨rfl, hb⟩; have hcell' := pw_cell_below hb hcell; clear hcell)
    go_ret
    exact ⟨by simp [h1, H0.out, bne, rd]; rfl, hb⟩
 ·
  have d1 : decide ((l1.length : Int) ≤ 25) = false := decide_eq_false (by omega)
  clear HC
  go_enter Tryd.func24, Tryd.ntmps24
  go_wp2
  go_ret
  exact ⟨by simp [h1], HB.out⟩
def impl_always.f  : Option (Bool) := some true
set_option maxHeartbeats 8000000 in
set_option maxRecDepth 100000 in
theorem impl_always.calls  (r : Bool) (w : World) (h : impl_always.f  = some r) :
  Calls Tryd.prog 16 #[] w fun e w' => e = .returned (.bool r) ∧ Drawn0 w w' := by
 have H : (some true) = some r := h
 clear h
 obtain rfl := Option.some.inj H
 go_enter Tryd.func16, Tryd.ntmps16
 go_wp2
 go_ret
 exact ⟨ea_, dr_⟩
end Go.Proofs.YtmadpicanmjhhaaDoor.H
namespace Go.Proofs.YtmadpicanmjhhaaDoor.H
open Go.RowKit Go.Proofs.YtmadpicanmjhhaaDoorW.PrintWords Go.Proofs.YtmadpicanmjhhaaDoorW.PrintLast Go.Proofs.YtmadpicanmjhhaaDoorW.PrintMore
attribute [local go_sem] max2_int min2_int max_two min_two max_three min_three max_four min_four   -- for this text's walks alone
set_option linter.unusedVariables false
set_option linter.unusedSimpArgs false
set_option maxHeartbeats 4000000 in
set_option maxRecDepth 100000 in
theorem indexFunc2_any (A : Option Addr) (n c : Nat) (q : Nat → Bool) (g : Nat) (lb : Array Value) (eg : ∀ args w, (callFunc g args).run Tryd.prog w = .ok (.enter g args) w) (w : World)
  (hn : n ≤ 9223372036854775807) (h : ∀ j, j < n → ∃ ad v, A = some ad ∧ w.cell? (ad.add j) = some v ∧ Gives g lb v (q j) w) :
  Calls Tryd.prog 58 #[.slice A n c, .func (.func g) #[] lb] w fun e w' => (∃ i : Int, e = .returned (.int .i64 i) ∧ (0 ≤ i ↔ ∃ j, j < n ∧ q j = true)) ∧ Below w.heap.size w w' := by
 have HH := as0 h
 clear h
 go_enter Tryd.func58, Tryd.ntmps58
 go_wp2
 go_loopg [5, 8] n (fun gg _ s8 wr => ∃ kk : Nat, kk ≤ n ∧ n - kk ≤ gg ∧ s8 = .int .i64 kk ∧ Aside0 (∀ j, j < kk → q j = false) ∧ Aside0 (Below w.heap.size w wr))
 case atStart => exact ⟨0, Nat.zero_le _, by omega, rfl, ⟨fun j hj => absurd hj (Nat.not_lt_zero _)⟩, ⟨Below.refl _ _⟩⟩
 case round =>
  obtain ⟨kk, hkk, hg, rfl, HA, HB⟩ := hrel
  by_cases hlt : kk < n
  ·
   have hltz : (kk : Int) < (n : Int) := by omega
   obtain ⟨ad, v, rfl, hc, hcall⟩ := HH.out kk hlt
   have hcall' := hcall wr HB.out
   have hc' := pw_cell_below HB.out hc
   clear hcall hc
   cases hq : q kk with
   | true =>
    rw [hq] at hcall'
    have Hq := as0 hq
    clear hq HH
    go_wp2_with fail
    refine (hcall').mono ?_
    rintro e w' ⟨rfl, hb⟩
    have HB' := as0 (below_next HB.out hb)
    clear hcall' eg hb HB
    go_wp2
    go_ret
    exact ⟨⟨kk, rfl, by constructor; (intro _; exact ⟨kk, hlt, Hq.out⟩); (intro _; omega)⟩, HB'.out⟩
   | false =>
    rw [hq] at hcall'
    have Hq := as0 hq
    clear hq HH
    go_wp2_with fail
    refine (hcall').mono ?_
    rintro e w' ⟨rfl, hb⟩
    have HB' := as0 (below_next HB.out hb)
    clear hcall' eg hb HB
    go_wp2
    go_roundg (n - (kk + 1))
    case measure => omega
    case rel =>
     refine ⟨kk + 1, by omega, by omega, by go_num, ⟨fun j hj => ?_⟩, HB'⟩
     by_cases e : j = kk
     ·
      subst e; exact Hq.out
     ·
      exact HA.out j (by omega)
  ·
   have hltz : ¬ (kk : Int) < (n : Int) := by omega
   have : kk = n := by omega
   subst this
   go_wp2
   go_ret
   refine ⟨⟨-1, rfl, ?_⟩, HB.out⟩
   constructor
   ·
    intro h; omega
   ·
    rintro ⟨j, hj, hq⟩
    rw [HA.out j hj] at hq
    cases hq
end Go.Proofs.YtmadpicanmjhhaaDoor.H
namespace Go.Proofs.YtmadpicanmjhhaaDoor.H
open Go.RowKit Go.Proofs.YtmadpicanmjhhaaDoorW.PrintWords Go.Proofs.YtmadpicanmjhhaaDoorW.PrintLast Go.Proofs.YtmadpicanmjhhaaDoorW.PrintMore
attribute [local go_sem] max2_int min2_int max_two min_two max_three min_three max_four min_four   -- for this text's walks alone
set_option linter.unusedVariables false
set_option linter.unusedSimpArgs false
set_option maxHeartbeats 4000000 in
set_option maxRecDepth 100000 in
theorem containsFunc2_any (A : Option Addr) (n c : Nat) (q : Nat → Bool) (r : Bool) (hr : r = true ↔ ∃ j, j < n ∧ q j = true) (g : Nat) (lb : Array Value) (eg : ∀ args w, (callFunc g args).run Tryd.prog w = .ok (.enter g args) w) (w : World)
    (hn : n ≤ 9223372036854775807) (h : ∀ j, j < n → ∃ ad v, A = some ad ∧ w.cell? (ad.add j) = some v ∧ Gives g lb v (q j) w) :
    Calls Tryd.prog 41 #[.slice A n c, .func (.func g) #[] lb] w fun e w' => e = .returned (.bool r) ∧ Below w.heap.size w w' := by
  have HC := indexFunc2_any A n c q g lb eg w hn h
  clear h eg
  have Hr := as0 hr
  clear hr
  cases r with
  | true =>
    have HC' : Calls Tryd.prog 58 #[.slice A n c, .func (.func g) #[] lb] w fun e w' => (∃ i : Int, e = .returned (.int .i64 i) ∧ 0 ≤ i) ∧ Below w.heap.size w w' :=
      HC.mono fun e w' ⟨⟨i, he, hi⟩, hd⟩ => ⟨⟨i, he, hi.2 (Hr.out.1 rfl)⟩, hd⟩
    clear HC
    go_enter Tryd.func41, Tryd.ntmps41
    go_wp2_with (go_at_call 58; refine HC'.mono ?_; rintro e w' ⟨⟨i, rfl, hi⟩, hb⟩)
    go_ret
    exact ⟨rfl, hb⟩
  | false =>
    have HC' : Calls Tryd.prog 58 #[.slice A n c, .func (.func g) #[] lb] w fun e w' => (∃ i : Int, e = .returned (.int .i64 i) ∧ i < 0) ∧ Below w.heap.size w w' :=
      HC.mono fun e w' ⟨⟨i, he, hi⟩, hd⟩ => ⟨⟨i, he, by
        rcases Int.lt_or_le i 0 with h | h
        · exact h
        · exact absurd (Hr.out.2 (hi.1 h)) (by simp)⟩, hd⟩
    clear HC
    go_enter Tryd.func41, Tryd.ntmps41
    go_wp2_with (go_at_call 58; refine HC'.mono ?_; rintro e w' ⟨⟨i, rfl, hi⟩, hb⟩)
    go_ret
    exact ⟨by have hn0 : ¬ 0 ≤ i := by omega
              simp [hn0], hb⟩
end Go.Proofs.YtmadpicanmjhhaaDoor.H
namespace Go.Proofs.YtmadpicanmjhhaaDoor.H
open Go.RowKit Go.Proofs.YtmadpicanmjhhaaDoorW.PrintWords Go.Proofs.YtmadpicanmjhhaaDoorW.PrintLast Go.Proofs.YtmadpicanmjhhaaDoorW.PrintMore
attribute [local go_sem] max2_int min2_int max_two min_two max_three min_three max_four min_four   -- for this text's walks alone
set_option linter.unusedVariables false
set_option linter.unusedSimpArgs false
set_option maxHeartbeats 4000000 in
set_option maxRecDepth 100000 in
theorem notIs2_clos (v : Value) (r : Bool) (g : Nat) (lb : Array Value) (B : Nat) (eg : ∀ args w, (callFunc g args).run Tryd.prog w = .ok (.enter g args) w) (w : World)
  (hB : w.cell? ⟨B, 0, none⟩ = some (.func (.func g) #[] lb)) (h : Gives g lb v r w) :
  Gives 42 #[.pointer (some ⟨B, 0, none⟩)] v (!r) w := by
 intro W hW
 have hB' := (hW.cell (p := ⟨B, 0, none⟩) (World.block_lt_of_cell? w _ hB)).trans hB
 have h' := h W hW
 clear h hW hB
 show Calls Tryd.prog 42 #[v, .pointer (some ⟨B, 0, none⟩)] W _
 go_enter Tryd.func42, Tryd.ntmps42
 go_wp2_with fail
 refine h'.mono ?_
 rintro e w' ⟨rfl, hb⟩
 clear h' eg hB'
 go_wp2
 go_ret
 exact ⟨rfl, hb⟩
set_option maxHeartbeats 4000000 in
set_option maxRecDepth 100000 in
theorem areAll2_clos (A : Option Addr) (n c : Nat) (q : Nat → Bool) (r : Bool) (hr : r = true ↔ ∀ j, j < n → q j = true) (g : Nat) (lb : Array Value) (eg : ∀ args w, (callFunc g args).run Tryd.prog w = .ok (.enter g args) w) (w : World)
  (hn : n ≤ 9223372036854775807) (h : ∀ j, j < n → ∃ ad v, A = some ad ∧ w.cell? (ad.add j) = some v ∧ Gives g lb v (q j) w) :
  Calls Tryd.prog 27 #[.slice A n c, .func (.func g) #[] lb] w fun e w' => e = .returned (.bool r) ∧ Below w.heap.size w w' := by
 have ec : ∀ args w, (callFunc 42 args).run Tryd.prog w = .ok (.enter 42 args) w := enters_of Tryd.func42 (by kernel_rfl) rfl
 have hcell : (w.alloc (.cells #[.func (.func g) #[] lb] 49)).cell? ⟨w.heap.size, 0, none⟩ = some (.func (.func g) #[] lb) := by simp
 have hb : Below w.heap.size w (w.alloc (.cells #[.func (.func g) #[] lb] 49)) := (Below.refl _ w).alloc (Nat.le_refl _) _
 have HC := containsFunc2_any A n c (fun j => !(q j)) (!r) (by
   rw [Bool.not_eq_true']
   constructor
   ·
    intro hf
    refine Classical.byContradiction fun hne => ?_
    have : r = true := hr.2 fun j hj => by
     cases hq : q j with
     | true => rfl
     | false => exact absurd ⟨j, hj, by simp [hq]⟩ hne
    rw [this] at hf; cases hf
   ·
    rintro ⟨j, hj, hq⟩
    cases hr' : r with
    | false => rfl
    | true => have := hr.1 hr' j hj; rw [this] at hq; cases hq) 42 #[.pointer (some ⟨w.heap.size, 0, none⟩)] ec (w.alloc (.cells #[.func (.func g) #[] lb] 49)) hn
  (fun j hj => by
   obtain ⟨ad, v, rfl, hc, hg⟩ := h j hj
   exact ⟨ad, v, rfl, pw_cell_below hb hc, notIs2_clos v (q j) g lb w.heap.size eg _ hcell fun W hW => hg W (hb.trans (hW.mono (by simp)))⟩)
 clear h eg hcell ec hr
 go_enter Tryd.func27, Tryd.ntmps27
 go_wp2_with (go_at_call 41; refine HC.mono ?_; rintro e w' ⟨rfl, hb'⟩)
 go_ret
 exact ⟨by simp, hb.trans (hb'.mono (by simp))⟩
end Go.Proofs.YtmadpicanmjhhaaDoor.H
namespace Go.Proofs.YtmadpicanmjhhaaDoor.H
open Go.RowKit Go.Proofs.YtmadpicanmjhhaaDoorW.PrintWords Go.Proofs.YtmadpicanmjhhaaDoorW.PrintLast Go.Proofs.YtmadpicanmjhhaaDoorW.PrintMore
attribute [local go_sem] max2_int min2_int max_two min_two max_three min_three max_four min_four   -- for this text's walks alone
set_option linter.unusedVariables false
set_option linter.unusedSimpArgs false
def polyB (p : Int) (l : List Int) : Bool := decide (l.length ≤ 25) && l.all (hasB p) && (decide (l.length = 0) || decide (rd l ((l.length : Int) - 1) ≠ 0))
theorem polyClos (p : Int) (A : Option Addr) (c : Nat) (l : List Int) (B : Nat) (w : World) (hB : w.cell? ⟨B, 0, none⟩ = some (.int .i64 p)) (hr : Kd.C (Kd.int .i64) w A l.length l) (hc : l.length ≤ c) :
  Gives 28 #[.pointer (some ⟨B, 0, none⟩)] (.slice A l.length c) (polyB p l) w := by
 intro W hW
 have hB' := (hW.cell (p := ⟨B, 0, none⟩) (World.block_lt_of_cell? w _ hB)).trans hB
 have hP := impl_IsPoly.calls p A c l (polyB p l) W (Kd.C_below hr hW) hc rfl
 clear hW hB hr
 show Calls Tryd.prog 28 #[.slice A l.length c, .pointer (some ⟨B, 0, none⟩)] W _
 go_enter Tryd.func28, Tryd.ntmps28
 go_wp2_with (go_at_call 24; refine hP.mono ?_; rintro e w' ⟨rfl, hb⟩)
 go_ret
 exact ⟨rfl, hb⟩
def Gives0 (g : Nat) (lb : Array Value) (r : Bool) (w : World) : Prop :=
 ∀ W : World, Below w.heap.size w W → Calls Tryd.prog g lb W fun e w' => e = .returned (.bool r) ∧ Below W.heap.size W w'
theorem Gives0.later {g : Nat} {lb : Array Value} {r : Bool} {w W : World} (h : Gives0 g lb r w) (hb : Below w.heap.size w W) : Gives0 g lb r W := fun W' hW => h W' (below_next hb hW)
theorem always_gives (w : World) : Gives0 16 #[] true w := fun W _ => (impl_always.calls true W rfl).mono fun _ _ ⟨he, hd⟩ => ⟨he, hd.below⟩
set_option maxHeartbeats 4000000 in
set_option maxRecDepth 100000 in
theorem polyCode_any (k : Nat) (p : Int) (g : Nat) (lb : Array Value) (eg : ∀ args w, (callFunc g args).run Tryd.prog w = .ok (.enter g args) w) (b t : Bool) (P : Addr) (n c : Nat) (hn : n ≤ 9223372036854775807) (ok : Bool) (q : Nat → Bool) (hok : ok = true ↔ ∀ j, j < n → q j = true) (w : World)
  (hg : Gives0 g lb b w) (h : ∀ j, j < n → ∃ (A : Option Addr) (c : Nat) (l : List Int), w.cell? (P.add j) = some (.slice A l.length c) ∧ Kd.C (Kd.int .i64) w A l.length l ∧ l.length ≤ c ∧ q j = polyB p l) (ht : ok = true → impl_IsPrime.f k p = some t) :
  Calls Tryd.prog 15 #[.int .i64 p, .func (.func g) #[] lb, .slice (some P) n c] w fun e w' => e = .returned (.int .i64 (if ok = true then (if (t && b) = true then 0 else 2) else 1)) ∧ Below w.heap.size w w' := by
 have ec : ∀ args w, (callFunc 28 args).run Tryd.prog w = .ok (.enter 28 args) w := enters_of Tryd.func28 (by kernel_rfl) rfl
 have hcell : (w.alloc (.cells #[.int .i64 p] 2)).cell? ⟨w.heap.size, 0, none⟩ = some (.int .i64 p) := by simp
 have hb0 : Below w.heap.size w (w.alloc (.cells #[.int .i64 p] 2)) := (Below.refl _ w).alloc (Nat.le_refl _) _
 have HA := areAll2_clos (some P) n c q ok hok 28 #[.pointer (some ⟨w.heap.size, 0, none⟩)] ec (w.alloc (.cells #[.int .i64 p] 2)) hn (fun j hj => by
  obtain ⟨A, c, l, hc, hr, hlc, hq⟩ := h j hj
  exact ⟨P, _, rfl, pw_cell_below hb0 hc, hq ▸ polyClos p A c l _ _ hcell (Kd.C_below hr hb0) hlc⟩)
 clear h ec hok
 have Hb0 := as0 hb0
 clear hb0
 cases ok with
 | false =>
  clear hg eg hcell
  go_enter Tryd.func15, Tryd.ntmps15
  go_wp2_with (go_at_call 27; refine HA.mono ?_; rintro e w' ⟨rfl, hb⟩)
  go_ret
  exact ⟨rfl, Hb0.out.trans (hb.mono (by simp))⟩
 | true =>
  have HP := fun W => impl_IsPrime.calls k p t W (ht rfl)
  have Hc := as0 hcell
  clear ht hcell
  cases t with
  | false =>
   clear hg eg
   go_enter Tryd.func15, Tryd.ntmps15
   go_wp2_with (first | (go_at_call 27; refine HA.mono ?_; rintro e w' ⟨rfl, hb⟩; have hc' := pw_cell_below hb Hc.out; have Hb := as0 hb; clear hb HA) | (go_at_call 20; refine (HP _).mono ?_; rintro e w' ⟨rfl, ⟨nd, rfl⟩⟩))
   go_ret
   exact ⟨rfl, pw_below_drewN (Hb0.out.trans (Hb.out.mono (by simp))) _⟩
  | true =>
   have Hg := as0 hg
   clear hg
   cases b with
   | _ =>
    go_enter Tryd.func15, Tryd.ntmps15
    go_wp2_with (first | (go_at_call 27; refine HA.mono ?_; rintro e w' ⟨rfl, hb⟩; have hc' := pw_cell_below hb Hc.out; have Hb := as0 hb; clear hb HA) | (go_at_call 20; refine (HP _).mono ?_; clear HP; rintro e w' ⟨rfl, ⟨nd, rfl⟩⟩))
    have Hd := as0 (pw_below_drewN (Hb0.out.trans (Hb.out.mono (by simp))) nd)
    refine (Hg.out _ Hd.out).mono ?_
    rintro e w' ⟨rfl, hb⟩
    have He := as0 (below_next Hd.out hb)
    clear hb Hd Hb hc' Hc Hg eg
    go_wp2
    go_ret
    exact ⟨rfl, He.out⟩
def impl_polyCode_1.f (k : Nat) (a0 : Int) (a1 : Bool) (l2 : List Int) : Option Int := if polyB a0 l2 = true then (impl_IsPrime.f k a0).bind fun t => some (if (t && a1) = true then 0 else 2) else some 1
theorem impl_polyCode_1.calls (k : Nat) (a0 : Int) (a1 : Bool) (A2 : Option Addr) (c2 : Nat) (l2 : List Int) (r : Int) (w : World) {g : Nat} {lb : Array Value} {P : Nat}
  (hr2 : Kd.C (Kd.int .i64) w A2 l2.length l2) (hc2 : l2.length ≤ c2) (h : impl_polyCode_1.f k a0 a1 l2 = some r) (eg : ∀ args w, (callFunc g args).run Tryd.prog w = .ok (.enter g args) w) (hg : Gives0 g lb a1 w) (hP : w.cell? ⟨P, 0, none⟩ = some (.slice A2 l2.length c2)) :
  Calls Tryd.prog 15 #[.int .i64 a0, .func (.func g) #[] lb, .slice (some ⟨P, 0, none⟩) 1 1] w fun e w' => e = .returned (.int .i64 r) ∧ Below w.heap.size w w' := by
 unfold impl_polyCode_1.f at h
 obtain ⟨t, ht, hv⟩ : ∃ t, (polyB a0 l2 = true → impl_IsPrime.f k a0 = some t) ∧ r = (if polyB a0 l2 = true then (if (t && a1) = true then 0 else 2) else 1) := by
  cases hq : polyB a0 l2 with
  | false => rw [hq] at h; simp at h; exact ⟨true, by simp, by simp [h]⟩
  | true =>
   rw [hq] at h; simp only [if_true] at h
   obtain ⟨t, h1, h2⟩ := Option.bind_eq_some_iff.mp h
   exact ⟨t, fun _ => h1, by simpa using (Option.some.inj h2).symm⟩
 rw [hv]
 exact polyCode_any k a0 g lb eg a1 t ⟨P, 0, none⟩ 1 1 (by decide) (polyB a0 l2) (fun _ => polyB a0 l2) ⟨fun h j _ => h, fun h => h 0 (by decide)⟩ w hg (fun j hj => by
  obtain rfl : j = 0 := by omega
  exact ⟨A2, c2, l2, by rw [add_plain]; exact hP, hr2, hc2, rfl⟩) ht
end Go.Proofs.YtmadpicanmjhhaaDoor.H
set_option linter.unusedVariables false
set_option linter.unusedSimpArgs false
namespace Go.Proofs.YtmadpicanmjhhaaDoor.H
open Go.RowKit Go.Proofs.YtmadpicanmjhhaaDoorW.PrintWords Go.Proofs.YtmadpicanmjhhaaDoorW.PrintLast Go.Proofs.YtmadpicanmjhhaaDoor.Num
theorem spec_prime (p : Int) : Ev (fun k => spec_l01Prime.f k p) (primeB p) := by
 refine ⟨200, fun k hk => ?_⟩
 unfold spec_l01Prime.f spec_l01In.f
 by_cases h1 : p ≥ 2
 ·
  by_cases h2 : p ≤ 10007
  ·
   obtain ⟨b, hb, hiff⟩ := prime_loop spec_l01Prime.l0 p h1 h2 (fun k i => rfl) 102 k 2 (by omega) (by omega) (by omega) (by omega)
   simp only [if_pos h1, Option.bind_some, decide_eq_true h2, if_true, hb, primeB_loop h1 h2 hiff]
  ·
   simp [if_pos h1, decide_eq_false h2, primeB_hi h2]
 ·
  simp [if_neg h1, primeB_lo h1]
theorem impl_prime (p : Int) : Ev (fun k => impl_IsPrime.f k p) (primeB p) := by
 refine ⟨200, fun k hk => ?_⟩
 unfold impl_IsPrime.f impl_within.f
 by_cases h1 : 2 ≤ p
 ·
  by_cases h2 : p ≤ 10007
  ·
   obtain ⟨b, hb, hiff⟩ := prime_loop impl_IsPrime.l0 p h1 h2 (fun k i => rfl) 102 k 2 (by omega) (by omega) (by omega) (by omega)
   simp only [if_pos h1, Option.bind_some, decide_eq_true h2, if_true, hb, primeB_loop h1 h2 hiff]
  ·
   simp [if_pos h1, decide_eq_false h2, primeB_hi h2]
 ·
  simp [if_neg h1, primeB_lo h1]
theorem hasB_iff {p x : Int} : hasB p x = true ↔ 0 ≤ x ∧ x < p := by unfold hasB; simp
theorem poly_loop (p : Int) (l : List Int) (hl : l.length ≤ 1000000000) (d : Nat) : ∀ (k i : Nat), i + d = l.length → d < k → spec_l01Poly.l0 k p l (i : Int) = some ((l.drop i).all (hasB p) && (decide (l.length ≤ 25) && (decide (l.length = 0) || decide (rd l ((l.length : Int) - 1) ≠ 0)))) := by
 induction d with
 | zero =>
  intro k i h1 hk
  obtain ⟨k, rfl⟩ : ∃ m, k = m + 1 := ⟨k - 1, by omega⟩
  simp only [spec_l01Poly.l0]
  rw [if_neg (by omega), List.drop_of_length_le (by omega)]
  by_cases h25 : l.length ≤ 25
  ·
   rw [if_pos (by omega)]
   by_cases h0 : l.length = 0
   ·
    rw [if_pos (by omega)]; simp [h0]
   ·
    have hw : wrap64 ((l.length : Int) - 1) = (l.length : Int) - 1 := w64 (by omega) (by omega)
    rw [if_neg (by omega), hw, if_pos (by omega), if_pos (by omega)]
    simp [h25, h0, bne]
    rfl
  ·
   rw [if_neg (by omega)]; simp [h25]
 | succ d ih =>
  intro k i h1 hk
  obtain ⟨k, rfl⟩ : ∃ m, k = m + 1 := ⟨k - 1, by omega⟩
  simp only [spec_l01Poly.l0]
  rw [if_pos (by omega), if_pos (by omega), rd_lt l i (by omega), wn (by omega), ih k (i + 1) (by omega) (by omega), List.drop_eq_getElem_cons (show i < l.length by omega), List.all_cons]
  by_cases h0 : l[i] < 0
  ·
   rw [if_pos h0]; simp [hasB]; omega
  ·
   rw [if_neg h0]
   by_cases hp : l[i] ≥ p
   ·
    rw [if_pos hp]; simp [hasB]; omega
   ·
    rw [if_neg hp]
    have : hasB p l[i] = true := hasB_iff.2 (by omega)
    rw [this, Bool.true_and]
theorem spec_poly (p : Int) (l : List Int) (hl : l.length ≤ 1000000000) : Ev (fun k => spec_l01Poly.f k p l) (polyB p l) := by
 refine ⟨l.length + 2, fun k hk => ?_⟩
 unfold spec_l01Poly.f
 have h := poly_loop p l hl l.length k 0 (by omega) (by omega)
 simp only [Int.natCast_zero, List.drop_zero] at h
 show spec_l01Poly.l0 k p l 0 = _
 rw [h]
 unfold polyB
 cases decide (l.length ≤ 25) <;> simp [Bool.and_comm]
structure Po (p : Int) (l : List Int) : Prop where
 len : l.length ≤ 25
 el : ∀ x ∈ l, 0 ≤ x ∧ x < p
 last : l.length = 0 ∨ rd l ((l.length : Int) - 1) ≠ 0
theorem polyB_iff {p : Int} {l : List Int} : polyB p l = true ↔ Po p l := by
 unfold polyB
 simp only [Bool.and_eq_true, Bool.or_eq_true, decide_eq_true_eq, List.all_eq_true, hasB_iff]
 exact ⟨fun ⟨⟨a, b⟩, c⟩ => ⟨a, b, c⟩, fun h => ⟨⟨h.len, h.el⟩, h.last⟩⟩
noncomputable def codeL (p : Int) (b : Bool) (ls : List (List Int)) : Int := if ls.all (polyB p) = true then (if (primeB p && b) = true then 0 else 2) else 1
theorem code_loop (p : Int) (ls : List (List Int)) (hl : ls.length ≤ 1000000000) (hls : ∀ l ∈ ls, l.length ≤ 1000000000) (K : Nat) (hK : ∀ l ∈ ls, ∀ k, K ≤ k → spec_l01Poly.f k p l = some (polyB p l)) (hP : ∀ k, K ≤ k → spec_l01Prime.f k p = some (primeB p)) (d : Nat) :
  ∀ (k i : Nat), i + d = ls.length → K + d < k → spec_l01Code.l0 k p ls (i : Int) = some (codeL p true (ls.drop i)) := by
 induction d with
 | zero =>
  intro k i h1 hk
  obtain ⟨k, rfl⟩ : ∃ m, k = m + 1 := ⟨k - 1, by omega⟩
  simp only [spec_l01Code.l0]
  rw [if_neg (by omega), List.drop_of_length_le (by omega), hP k (by omega)]
  simp [codeL]
  cases primeB p <;> simp
 | succ d ih =>
  intro k i h1 hk
  obtain ⟨k, rfl⟩ : ∃ m, k = m + 1 := ⟨k - 1, by omega⟩
  simp only [spec_l01Code.l0]
  have hrd : rd_L1 ls (i : Int) = ls[i]'(by omega) := by
   simp [rd_L1, List.getD_eq_getElem?_getD, show i < ls.length by omega]
  rw [if_pos (by omega), if_pos (by omega), hrd, hK _ (List.getElem_mem _) k (by omega), Option.bind_some, wn (by omega), ih k (i + 1) (by omega) (by omega), List.drop_eq_getElem_cons (show i < ls.length by omega)]
  cases hq : polyB p (ls[i]'(by omega)) with
  | true => simp only [codeL, List.all_cons, hq, Bool.true_and, if_true]
  | false => simp [codeL, List.all_cons, hq, -List.getElem_cons_drop]
theorem spec_code (p : Int) (ls : List (List Int)) (hl : ls.length ≤ 1000000) (hls : ∀ l ∈ ls, l.length ≤ 1000000000) : Ev (fun k => spec_l01Code.f k p ls) (codeL p true ls) := by
 obtain ⟨K1, h1⟩ : ∃ K, ∀ l ∈ ls, ∀ k, K ≤ k → spec_l01Poly.f k p l = some (polyB p l) := by
  clear hl
  induction ls with
  | nil => exact ⟨0, fun l hl => by simp at hl⟩
  | cons a ls ih =>
   obtain ⟨K, h⟩ := ih (fun l hl => hls l (by simp [hl]))
   obtain ⟨K', h'⟩ := spec_poly p a (hls a (by simp))
   refine ⟨K + K', fun l hl k hk => ?_⟩
   rcases List.mem_cons.1 hl with rfl | hl
   ·
    exact h' k (by omega)
   ·
    exact h l hl k (by omega)
 obtain ⟨K2, h2⟩ := spec_prime p
 refine ⟨K1 + K2 + ls.length + 2, fun k hk => ?_⟩
 unfold spec_l01Code.f
 exact code_loop p ls (by omega) hls (K1 + K2) (fun l hl k hk => h1 l hl k (by omega)) (fun k hk => h2 k (by omega)) ls.length k 0 (by omega) (by omega)
theorem impl_code1 (p : Int) (b : Bool) (l : List Int) : Ev (fun k => impl_polyCode_1.f k p b l) (codeL p b [l]) := by
 obtain ⟨K, h⟩ := impl_prime p
 refine ⟨K, fun k hk => ?_⟩
 have e := h k hk
 simp only at e
 simp only [impl_polyCode_1.f, codeL, e, Option.bind_some, List.all_cons, List.all_nil, Bool.and_true]
 split <;> rfl
theorem codeL_0 {p : Int} {b : Bool} {ls : List (List Int)} (h : codeL p b ls = 0) : IsP p ∧ b = true ∧ ∀ l ∈ ls, Po p l := by
 unfold codeL at h
 split at h
 ·
  split at h
  ·
   rename_i h1 h2
   simp only [Bool.and_eq_true] at h2
   exact ⟨primeB_iff.1 h2.1, h2.2, fun l hl => polyB_iff.1 (List.all_eq_true.1 h1 l hl)⟩
  ·
   cases h
 ·
  cases h
end Go.Proofs.YtmadpicanmjhhaaDoor.H
namespace Go.Proofs.YtmadpicanmjhhaaDoor.H
open Go.RowKit Go.Proofs.YtmadpicanmjhhaaDoorW.PrintWords Go.Proofs.YtmadpicanmjhhaaDoorW.PrintLast Go.Proofs.YtmadpicanmjhhaaDoorW.PrintMore
attribute [local go_sem] max2_int min2_int max_two min_two max_three min_three max_four min_four   -- for this text's walks alone
set_option linter.unusedVariables false
set_option linter.unusedSimpArgs false
theorem tab_below {P : Program} {w W : World} {name : String} {k : IntKind} {zs : List Int} (h : Lib.TabIs P w name k zs) (hb : Below w.heap.size w W) : Lib.TabIs P W name k zs := by
 unfold Lib.TabIs World.var? at *
 cases hg : P.globalNamed name with
 | none => simp [hg] at h
 | some g =>
  simp only [hg, Option.bind_some] at h ⊢
  have hlt : g < w.heap.size := by
   rcases Nat.lt_or_ge g w.heap.size with h' | h'
   ·
    exact h'
   ·
    rw [Array.getElem?_eq_none h'] at h; simp at h
  rw [hb.block g hlt]
  exact h
theorem impl_decimal.calls (n : Int) (h0 : -9223372036854775808 ≤ n) (h1 : n ≤ 9223372036854775807) (w : World) (htab : Lib.TabIs Tryd.prog w "internal/strconv.uint64pow10" .u64 Lib.pow10Tab) :
  Calls Tryd.prog 30 #[.int .i64 n] w fun e w' => e = .returned (.string ⟨(Lib.itoa n).toArray⟩) ∧ Below w.heap.size w w' := by
 have HF : Calls Tryd.prog 44 #[.int .i64 n, .int .i64 10] w fun e w' => e = .returned (.string ⟨(Lib.itoa n).toArray⟩) ∧ Below w.heap.size w w' :=
  (Tryd.strconv_FormatInt_10 n h0 h1 w htab).mono fun e w' ⟨he, k, os, hw⟩ => ⟨he, by rw [hw]; exact Lib.below_grow _ _ (Nat.le_refl _) _ _⟩
 clear htab h0 h1
 generalize Lib.itoa n = s at HF ⊢
 go_enter Tryd.func30, Tryd.ntmps30
 go_wp2_with fail
 go_at_call 44
 refine HF.mono ?_
 rintro e w' ⟨rfl, hb⟩
 go_wp2_with fail
 go_ret
 exact ⟨rfl, hb⟩
end Go.Proofs.YtmadpicanmjhhaaDoor.H
