/- Joined texts of a claim: the printed functions and what is proved of them. -/
import Derived.Test.YtlmolloallhclaaYHx0
import Derived.Test.YtlmolloallhclaaMa1
import Derived.RowKit
import Derived.Test.YtlmolloallhclaaYWLast
namespace Go.Proofs.Ytlmolloallhclaa.H
open Go.RowKit Go.Proofs.YtlmolloallhclaaW.PrintWords Go.Proofs.YtlmolloallhclaaW.PrintLast Go.Proofs.YtlmolloallhclaaW.PrintMore
attribute [local go_sem] max2_int min2_int max_two min_two max_three min_three max_four min_four   -- for this text's walks alone
set_option linter.unusedVariables false
set_option linter.unusedSimpArgs false
set_option maxHeartbeats 4000000 in
set_option maxRecDepth 100000 in
theorem notIs_bound (v : Value) (r : Bool) (g : Nat) (f : Value) (B : Nat) (eg : ∀ args w, (callFunc g args).run Try.prog w = .ok (.enter g args) w) (w : World)
  (hB : w.cell? ⟨B, 0, none⟩ = some (.func (.func g) #[f] #[]))
  (h : ∀ W : World, Below w.heap.size w W → Calls Try.prog g #[f, v] W fun e w' => e = .returned (.bool r) ∧ Drawn0 W w') :
  Gives 119 #[.pointer (some ⟨B, 0, none⟩)] v (!r) w := by
 intro W hW
 have hB' := (hW.cell (p := ⟨B, 0, none⟩) (World.block_lt_of_cell? w _ hB)).trans hB
 have h' := h W hW
 clear h hW hB
 show Calls Try.prog 119 #[v, .pointer (some ⟨B, 0, none⟩)] W _
 go_enter Try.func119, Try.ntmps119
 go_wp2_with fail
 refine h'.mono ?_
 rintro e w' ⟨rfl, ⟨q', rfl⟩⟩
 clear h' eg hB'
 go_wp2
 go_ret
 exact ⟨rfl, (show Drawn0 W _ by repeat (first | exact Drawn0.refl _ | apply Drawn0.step)).below⟩
set_option maxHeartbeats 4000000 in
set_option maxRecDepth 100000 in
theorem areAll_bound (A : Option Addr) (c : Nat) (l : List Int) (p : Int → Bool) (g : Nat) (f : Value) (eg : ∀ args w, (callFunc g args).run Try.prog w = .ok (.enter g args) w) (w : World)
  (hr : Kd.C (Kd.int .i64) w A l.length l)
  (h : ∀ (x : Int) (W : World), Below w.heap.size w W → Calls Try.prog g #[f, .int .i64 x] W fun e w' => e = .returned (.bool (p x)) ∧ Drawn0 W w') :
  Calls Try.prog 101 #[.slice A l.length c, .func (.func g) #[f] #[]] w fun e w' => e = .returned (.bool (l.all p)) ∧ Below w.heap.size w w' := by
 have ec : ∀ args w, (callFunc 119 args).run Try.prog w = .ok (.enter 119 args) w := enters_of Try.func119 (by kernel_rfl) rfl
 have hcell : (w.alloc (.cells #[.func (.func g) #[f] #[]] 71)).cell? ⟨w.heap.size, 0, none⟩ = some (.func (.func g) #[f] #[]) := by simp
 have hb : Below w.heap.size w (w.alloc (.cells #[.func (.func g) #[f] #[]] 71)) := (Below.refl _ w).alloc (Nat.le_refl _) _
 have HC := containsFunc_any A l.length c (fun j => !(p (rd l j))) (!(l.all p)) (by
   rw [Bool.not_eq_true', List.all_eq_false]
   constructor
   ·
    rintro ⟨x, hx, hp⟩
    obtain ⟨j, hj, rfl⟩ := List.getElem_of_mem hx
    exact ⟨j, hj, by simpa [rd, List.getD_eq_getElem?_getD, hj] using hp⟩
   ·
    rintro ⟨j, hj, hp⟩
    exact ⟨l[j], List.getElem_mem hj, by simpa [rd, List.getD_eq_getElem?_getD, hj] using hp⟩) 119 #[.pointer (some ⟨w.heap.size, 0, none⟩)] ec (w.alloc (.cells #[.func (.func g) #[f] #[]] 71)) (Kd.C_max hr)
  (fun j hj => by
   obtain ⟨ad, rfl, hc⟩ := Kd.at_int hr j (by omega) (by omega)
   exact ⟨ad, _, rfl, by simpa using pw_cell_below hb hc, notIs_bound _ (p (rd l j)) g f w.heap.size eg _ hcell fun W hW => h _ W (hb.trans (hW.mono (by simp)))⟩)
 clear h eg hcell ec
 generalize l.all p = r at HC ⊢
 go_enter Try.func101, Try.ntmps101
 go_wp2_with (go_at_call 118; refine HC.mono ?_; rintro e w' ⟨rfl, hb'⟩)
 go_ret
 exact ⟨by simp, hb.trans (hb'.mono (by simp))⟩
def hasB (p x : Int) : Bool := decide (0 ≤ x) && decide (x < p)
theorem has_hasB (p x : Int) (W : World) : Calls Try.prog 78 #[.int .i64 p, .int .i64 x] W fun e w' => e = .returned (.bool (hasB p x)) ∧ Drawn0 W w' :=
 impl_field_has.calls p x (hasB p x) W (by unfold impl_field_has.f hasB; by_cases h : x ≥ 0 <;> simp [h])
end Go.Proofs.Ytlmolloallhclaa.H
namespace Go.Proofs.Ytlmolloallhclaa.H
open Go.RowKit Go.Proofs.YtlmolloallhclaaW.PrintWords Go.Proofs.YtlmolloallhclaaW.PrintLast Go.Proofs.YtlmolloallhclaaW.PrintMore
attribute [local go_sem] max2_int min2_int max_two min_two max_three min_three max_four min_four   -- for this text's walks alone
set_option linter.unusedVariables false
set_option linter.unusedSimpArgs false
def impl_IsPoly.f (a0 : Int) (l1 : List Int) : Option Bool := some (decide (l1.length ≤ 25) && l1.all (hasB a0) && (decide (l1.length = 0) || decide (rd l1 ((l1.length : Int) - 1) ≠ 0)))
set_option maxHeartbeats 4000000 in
set_option maxRecDepth 100000 in
theorem impl_IsPoly.calls (a0 : Int) (A1 : Option Addr) (c1 : Nat) (l1 : List Int) (r : Bool) (w : World) (hr1 : Kd.C (Kd.int .i64) w A1 l1.length l1) (hc1 : l1.length ≤ c1) (h : impl_IsPoly.f a0 l1 = some r) :
  Calls Try.prog 85 #[.int .i64 a0, .slice A1 l1.length c1] w fun e w' => e = .returned (.bool r) ∧ Below w.heap.size w w' := by
 obtain rfl := Option.some.inj h
 clear h
 have eg : ∀ args w, (callFunc 78 args).run Try.prog w = .ok (.enter 78 args) w := enters_of Try.func78 (by kernel_rfl) rfl
 have HC := fun W (hW : Below w.heap.size w W) => areAll_bound A1 c1 l1 (hasB a0) 78 (.int .i64 a0) eg W (Kd.C_below hr1 hW) (fun x W' _ => has_hasB a0 x W')
 clear eg
 have HB := as0 (Below.refl w.heap.size w)
 by_cases h1 : l1.length ≤ 25
 ·
  have d1 : decide ((l1.length : Int) ≤ 25) = true := decide_eq_true (by omega)
  generalize ha : l1.all (hasB a0) = b at HC ⊢
  clear ha
  have HC' := HC w (Below.refl _ _)
  clear HC
  cases b with
  | false =>
   go_enter Try.func85, Try.ntmps85
   go_wp2_with (go_at_call 101; refine HC'.mono ?_; rintro e w' ⟨rfl, hb⟩)
   go_ret
   exact ⟨by simp, hb⟩
  | true =>
   by_cases h0 : l1.length = 0
   ·
    have d0 : (((l1.length : Nat) : Int) == 0) = true := by simp [h0]
    have d2 : decide (l1.length = 0) = true := decide_eq_true h0
    have H0 := as0 h0
    clear h0
    go_enter Try.func85, Try.ntmps85
    go_wp2_with (go_at_call 101; refine HC'.mono ?_; rintro e w' ⟨rfl, hb⟩)
    go_ret
    exact ⟨by simp [h1, H0.out], hb⟩
   ·
    have d0 : (((l1.length : Nat) : Int) == 0) = false := beq_eq_false_iff_ne.mpr (by omega)
    have q0 : 0 ≤ (l1.length : Int) - 1 := by omega
    have q1 : (l1.length : Int) - 1 < (l1.length : Int) := by omega
    obtain ⟨ad, rfl, hcell⟩ := Kd.at_int hr1 ((l1.length : Int) - 1) q0 q1
    rw [show ((l1.length : Int) - 1).toNat = l1.length - 1 by omega] at hcell
    clear hr1
    have H0 := as0 h0
    clear h0
    go_enter Try.func85, Try.ntmps85
    go_wp2_with (go_at_call 101; refine HC'.mono ?_; rintro e w' ⟨rfl, hb⟩; have hcell' := pw_cell_below hb hcell; clear hcell)
    go_ret
    exact ⟨by simp [h1, H0.out, bne, rd]; rfl, hb⟩
 ·
  have d1 : decide ((l1.length : Int) ≤ 25) = false := decide_eq_false (by omega)
  clear HC
  go_enter Try.func85, Try.ntmps85
  go_wp2
  go_ret
  exact ⟨by simp [h1], HB.out⟩
def impl_IsPrime.l0 : Nat → Int → Int → Option (Bool)
 | 0, _, _ => none
 | k + 1, x0, x3 => if (wrap64 (x3 * x3)) ≤ x0 then (if x3 = 0 then (none) else (if (Int.tmod x0 x3) = 0 then (some false) else (impl_IsPrime.l0 k x0 (wrap64 (x3 + 1))))) else (some true)
def impl_IsPrime.f (k : Nat) (a0 : Int) : Option (Bool) := (impl_within.f a0 2 10007).bind fun t169 => (if t169 = true then (impl_IsPrime.l0 k a0 2) else (some false))
set_option maxHeartbeats 8000000 in
set_option maxRecDepth 100000 in
theorem impl_IsPrime.calls (k : Nat) (a0 : Int) (r : Bool) (w : World) (h : impl_IsPrime.f k a0 = some r) :
  Calls Try.prog 86 #[.int .i64 a0] w fun e w' => e = .returned (.bool r) ∧ Drawn0 w w' := by
 have H : ((impl_within.f a0 2 10007).bind fun t169 => (if t169 = true then (impl_IsPrime.l0 k a0 2) else (some false))) = some r := h
 clear h
 replace H := Option.bind_eq_some_iff.mp H
 obtain ⟨t169, A20, H⟩ := H
 have A2 := as0 A20
 clear A20
 by_cases c3 : t169 = true
 ·
  subst c3
  have H1 : (impl_IsPrime.l0 k a0 2) = some r := by rw [if_pos rfl] at H; exact H
  clear H
  have H := H1
  clear H1
  have H' := as0 H
  clear H
  go_enter Try.func86, Try.ntmps86
  go_wp2_with (first | ((with_reducible refine gate_callee (f := 114) rfl ?_); refine goesM_ (some 5) rfl rfl Try.func114 #[.int .i64 a0, .int .i64 2, .int .i64 10007] rfl ?_; (with_reducible refine (impl_within.calls a0 2 10007 true _ A2.out).mono ?_); rintro e w' ⟨rfl, ⟨nd, rfl⟩⟩; refine ⟨_, rfl, ?_⟩))
  go_loopg [3] k (fun kq v3 w' => ∃ (x3_1 : Int), v3 = .int .i64 x3_1 ∧ Aside0 (impl_IsPrime.l0 kq a0 x3_1 = some r) ∧ Aside0 (kq ≤ k) ∧ Drawn0 w w')
  case atStart => exact ⟨(2), ea_, H', ⟨Nat.le_refl _⟩, dr_⟩
  case round =>
   clear H'
   try clear c1
   try clear p2
   try clear c3
   obtain ⟨x3_1, rfl, HA, HK1, ⟨m1, rfl⟩⟩ := hrel
   cases gk with
   | zero => exact absurd HA.out (by simp [impl_IsPrime.l0])
   | succ k1 =>
    have H := HA.out
    clear HA
    simp only [impl_IsPrime.l0] at H
    by_cases c4 : (wrap64 (x3_1 * x3_1)) ≤ a0
    ·
     rw [if_pos c4] at H
     have c4b0 : decide ((wrap64 (x3_1 * x3_1)) ≤ a0) = true := decide_eq_true c4
     clear c4
     by_cases c5 : x3_1 = 0
     ·
      rw [if_pos c5] at H
      exact absurd H (by simp)
     ·
      rw [if_neg c5] at H
      have c5b0 : (x3_1 == 0) = false := beq_eq_false_iff_ne.mpr c5
      have c5b1 : (x3_1 != 0) = true := bne_iff_ne.mpr c5
      by_cases c6 : (Int.tmod a0 x3_1) = 0
      ·
       rw [if_pos c6] at H
       have c6b0 : ((Int.tmod a0 x3_1) == 0) = true := beq_iff_eq.mpr c6
       have c6b1 : ((Int.tmod a0 x3_1) != 0) = false := bne_eq_false_iff_eq.mpr c6
       clear c6
       obtain rfl := Option.some.inj H
       go_wp2
       go_ret
       exact ⟨ea_, dr_⟩
      ·
       rw [if_neg c6] at H
       have c6b0 : ((Int.tmod a0 x3_1) == 0) = false := beq_eq_false_iff_ne.mpr c6
       have c6b1 : ((Int.tmod a0 x3_1) != 0) = true := bne_iff_ne.mpr c6
       have H' := as0 H
       clear H
       go_wp2
       go_roundg k1
       case measure => have := HK1.out; omega
       case rel => exact ⟨(wrap64 (x3_1 + 1)), ea_, H', ⟨by have := HK1.out; omega⟩, dr_⟩
    ·
     rw [if_neg c4] at H
     have c4b0 : decide ((wrap64 (x3_1 * x3_1)) ≤ a0) = false := decide_eq_false c4
     clear c4
     obtain rfl := Option.some.inj H
     go_wp2
     go_ret
     exact ⟨ea_, dr_⟩
 ·
  replace c3 := Bool.eq_false_iff.mpr c3
  subst c3
  have H1 : (some false) = some r := by rw [if_neg (show ¬ (false = true) by decide)] at H; exact H
  clear H
  have H := H1
  clear H1
  obtain rfl := Option.some.inj H
  go_enter Try.func86, Try.ntmps86
  go_wp2_with (first | ((with_reducible refine gate_callee (f := 114) rfl ?_); refine goesM_ (some 5) rfl rfl Try.func114 #[.int .i64 a0, .int .i64 2, .int .i64 10007] rfl ?_; (with_reducible refine (impl_within.calls a0 2 10007 false _ A2.out).mono ?_); rintro e w' ⟨rfl, ⟨nd, rfl⟩⟩; refine ⟨_, rfl, ?_⟩))
  go_ret
  exact ⟨ea_, dr_⟩
def impl_always.f  : Option (Bool) := some true
set_option maxHeartbeats 8000000 in
set_option maxRecDepth 100000 in
theorem impl_always.calls  (r : Bool) (w : World) (h : impl_always.f  = some r) :
  Calls Try.prog 44 #[] w fun e w' => e = .returned (.bool r) ∧ Drawn0 w w' := by
 have H : (some true) = some r := h
 clear h
 obtain rfl := Option.some.inj H
 go_enter Try.func44, Try.ntmps44
 go_wp2
 go_ret
 exact ⟨ea_, dr_⟩
def polyB (p : Int) (l : List Int) : Bool := decide (l.length ≤ 25) && l.all (hasB p) && (decide (l.length = 0) || decide (rd l ((l.length : Int) - 1) ≠ 0))
theorem polyClos (p : Int) (A : Option Addr) (c : Nat) (l : List Int) (B : Nat) (w : World) (hB : w.cell? ⟨B, 0, none⟩ = some (.int .i64 p)) (hr : Kd.C (Kd.int .i64) w A l.length l) (hc : l.length ≤ c) :
  Gives 84 #[.pointer (some ⟨B, 0, none⟩)] (.slice A l.length c) (polyB p l) w := by
 intro W hW
 have hB' := (hW.cell (p := ⟨B, 0, none⟩) (World.block_lt_of_cell? w _ hB)).trans hB
 have hP := impl_IsPoly.calls p A c l (polyB p l) W (Kd.C_below hr hW) hc rfl
 clear hW hB hr
 show Calls Try.prog 84 #[.slice A l.length c, .pointer (some ⟨B, 0, none⟩)] W _
 go_enter Try.func84, Try.ntmps84
 go_wp2_with (go_at_call 85; refine hP.mono ?_; rintro e w' ⟨rfl, hb⟩)
 go_ret
 exact ⟨rfl, hb⟩
def Gives0 (g : Nat) (lb : Array Value) (r : Bool) (w : World) : Prop :=
 ∀ W : World, Below w.heap.size w W → Calls Try.prog g lb W fun e w' => e = .returned (.bool r) ∧ Below W.heap.size W w'
theorem always_gives (w : World) : Gives0 44 #[] true w := fun W _ => (impl_always.calls true W rfl).mono fun _ _ ⟨he, hd⟩ => ⟨he, hd.below⟩
set_option maxHeartbeats 4000000 in
set_option maxRecDepth 100000 in
theorem polyCode_any (k : Nat) (p : Int) (g : Nat) (lb : Array Value) (eg : ∀ args w, (callFunc g args).run Try.prog w = .ok (.enter g args) w) (b t : Bool) (P : Addr) (n c : Nat) (hn : n ≤ 9223372036854775807) (ok : Bool) (q : Nat → Bool) (hok : ok = true ↔ ∀ j, j < n → q j = true) (w : World)
  (hg : Gives0 g lb b w) (h : ∀ j, j < n → ∃ (A : Option Addr) (c : Nat) (l : List Int), w.cell? (P.add j) = some (.slice A l.length c) ∧ Kd.C (Kd.int .i64) w A l.length l ∧ l.length ≤ c ∧ q j = polyB p l) (ht : ok = true → impl_IsPrime.f k p = some t) :
  Calls Try.prog 43 #[.int .i64 p, .func (.func g) #[] lb, .slice (some P) n c] w fun e w' => e = .returned (.int .i64 (if ok = true then (if (t && b) = true then 0 else 2) else 1)) ∧ Below w.heap.size w w' := by
 have ec : ∀ args w, (callFunc 84 args).run Try.prog w = .ok (.enter 84 args) w := enters_of Try.func84 (by kernel_rfl) rfl
 have hcell : (w.alloc (.cells #[.int .i64 p] 2)).cell? ⟨w.heap.size, 0, none⟩ = some (.int .i64 p) := by simp
 have hb0 : Below w.heap.size w (w.alloc (.cells #[.int .i64 p] 2)) := (Below.refl _ w).alloc (Nat.le_refl _) _
 have HA := areAll2_clos (some P) n c q ok hok 84 #[.pointer (some ⟨w.heap.size, 0, none⟩)] ec (w.alloc (.cells #[.int .i64 p] 2)) hn (fun j hj => by
  obtain ⟨A, c, l, hc, hr, hlc, hq⟩ := h j hj
  exact ⟨P, _, rfl, pw_cell_below hb0 hc, hq ▸ polyClos p A c l _ _ hcell (Kd.C_below hr hb0) hlc⟩)
 clear h ec hok
 have Hb0 := as0 hb0
 clear hb0
 cases ok with
 | false =>
  clear hg eg hcell
  go_enter Try.func43, Try.ntmps43
  go_wp2_with (go_at_call 83; refine HA.mono ?_; rintro e w' ⟨rfl, hb⟩)
  go_ret
  exact ⟨rfl, Hb0.out.trans (hb.mono (by simp))⟩
 | true =>
  have HP := fun W => impl_IsPrime.calls k p t W (ht rfl)
  have Hc := as0 hcell
  clear ht hcell
  cases t with
  | false =>
   clear hg eg
   go_enter Try.func43, Try.ntmps43
   go_wp2_with (first | (go_at_call 83; refine HA.mono ?_; rintro e w' ⟨rfl, hb⟩; have hc' := pw_cell_below hb Hc.out; have Hb := as0 hb; clear hb HA) | (go_at_call 86; refine (HP _).mono ?_; rintro e w' ⟨rfl, ⟨nd, rfl⟩⟩))
   go_ret
   exact ⟨rfl, pw_below_drewN (Hb0.out.trans (Hb.out.mono (by simp))) _⟩
  | true =>
   have Hg := as0 hg
   clear hg
   cases b with
   | _ =>
    go_enter Try.func43, Try.ntmps43
    go_wp2_with (first | (go_at_call 83; refine HA.mono ?_; rintro e w' ⟨rfl, hb⟩; have hc' := pw_cell_below hb Hc.out; have Hb := as0 hb; clear hb HA) | (go_at_call 86; refine (HP _).mono ?_; clear HP; rintro e w' ⟨rfl, ⟨nd, rfl⟩⟩))
    have Hd := as0 (pw_below_drewN (Hb0.out.trans (Hb.out.mono (by simp))) nd)
    refine (Hg.out _ Hd.out).mono ?_
    rintro e w' ⟨rfl, hb⟩
    have He := as0 (below_next Hd.out hb)
    clear hb Hd Hb hc' Hc Hg eg
    go_wp2
    go_ret
    exact ⟨rfl, He.out⟩
def impl_polyCode_1.f (k : Nat) (a0 : Int) (a1 : Bool) (l2 : List Int) : Option Int := if polyB a0 l2 = true then (impl_IsPrime.f k a0).bind fun t => some (if (t && a1) = true then 0 else 2) else some 1
def impl_polyCode_2.f (k : Nat) (a0 : Int) (a1 : Bool) (l2 l3 : List Int) : Option Int := if (polyB a0 l2 && polyB a0 l3) = true then (impl_IsPrime.f k a0).bind fun t => some (if (t && a1) = true then 0 else 2) else some 1
theorem impl_polyCode_1.calls (k : Nat) (a0 : Int) (a1 : Bool) (A2 : Option Addr) (c2 : Nat) (l2 : List Int) (r : Int) (w : World) {g : Nat} {lb : Array Value} {P : Nat}
  (hr2 : Kd.C (Kd.int .i64) w A2 l2.length l2) (hc2 : l2.length ≤ c2) (h : impl_polyCode_1.f k a0 a1 l2 = some r) (eg : ∀ args w, (callFunc g args).run Try.prog w = .ok (.enter g args) w) (hg : Gives0 g lb a1 w) (hP : w.cell? ⟨P, 0, none⟩ = some (.slice A2 l2.length c2)) :
  Calls Try.prog 43 #[.int .i64 a0, .func (.func g) #[] lb, .slice (some ⟨P, 0, none⟩) 1 1] w fun e w' => e = .returned (.int .i64 r) ∧ Below w.heap.size w w' := by
 unfold impl_polyCode_1.f at h
 obtain ⟨t, ht, hv⟩ : ∃ t, (polyB a0 l2 = true → impl_IsPrime.f k a0 = some t) ∧ r = (if polyB a0 l2 = true then (if (t && a1) = true then 0 else 2) else 1) := by
  cases hq : polyB a0 l2 with
  | false => rw [hq] at h; simp at h; exact ⟨true, by simp, by simp [h]⟩
  | true =>
   rw [hq] at h; simp only [if_true] at h
   obtain ⟨t, h1, h2⟩ := Option.bind_eq_some_iff.mp h
   exact ⟨t, fun _ => h1, by simpa using (Option.some.inj h2).symm⟩
 rw [hv]
 exact polyCode_any k a0 g lb eg a1 t ⟨P, 0, none⟩ 1 1 (by decide) (polyB a0 l2) (fun _ => polyB a0 l2) ⟨fun h j _ => h, fun h => h 0 (by decide)⟩ w hg (fun j hj => by
  obtain rfl : j = 0 := by omega
  exact ⟨A2, c2, l2, by rw [add_plain]; exact hP, hr2, hc2, rfl⟩) ht
theorem impl_polyCode_2.calls (k : Nat) (a0 : Int) (a1 : Bool) (A2 : Option Addr) (c2 : Nat) (l2 : List Int) (A3 : Option Addr) (c3 : Nat) (l3 : List Int) (r : Int) (w : World) {g : Nat} {lb : Array Value} {P : Nat}
  (hr2 : Kd.C (Kd.int .i64) w A2 l2.length l2) (hc2 : l2.length ≤ c2) (hr3 : Kd.C (Kd.int .i64) w A3 l3.length l3) (hc3 : l3.length ≤ c3) (h : impl_polyCode_2.f k a0 a1 l2 l3 = some r) (eg : ∀ args w, (callFunc g args).run Try.prog w = .ok (.enter g args) w) (hg : Gives0 g lb a1 w) (hP : w.cell? ⟨P, 0, none⟩ = some (.slice A2 l2.length c2)) (hP1 : w.cell? ⟨P, 1, none⟩ = some (.slice A3 l3.length c3)) :
  Calls Try.prog 43 #[.int .i64 a0, .func (.func g) #[] lb, .slice (some ⟨P, 0, none⟩) 2 2] w fun e w' => e = .returned (.int .i64 r) ∧ Below w.heap.size w w' := by
 unfold impl_polyCode_2.f at h
 obtain ⟨t, ht, hv⟩ : ∃ t, ((polyB a0 l2 && polyB a0 l3) = true → impl_IsPrime.f k a0 = some t) ∧ r = (if (polyB a0 l2 && polyB a0 l3) = true then (if (t && a1) = true then 0 else 2) else 1) := by
  cases hq : (polyB a0 l2 && polyB a0 l3) with
  | false => rw [hq] at h; simp at h; exact ⟨true, by simp, by simp [h]⟩
  | true =>
   rw [hq] at h; simp only [if_true] at h
   obtain ⟨t, h1, h2⟩ := Option.bind_eq_some_iff.mp h
   exact ⟨t, fun _ => h1, by simpa using (Option.some.inj h2).symm⟩
 rw [hv]
 exact polyCode_any k a0 g lb eg a1 t ⟨P, 0, none⟩ 2 2 (by decide) (polyB a0 l2 && polyB a0 l3) (fun j => if j = 0 then polyB a0 l2 else polyB a0 l3)
  ⟨fun h j hj => by
   rw [Bool.and_eq_true] at h
   by_cases e : j = 0
   ·
    rw [if_pos e]; exact h.1
   ·
    rw [if_neg e]; exact h.2, fun h => by
   rw [Bool.and_eq_true]
   exact ⟨by simpa using h 0 (by decide), by simpa using h 1 (by decide)⟩⟩ w hg (fun j hj => by
  by_cases e : j = 0
  ·
   subst e; exact ⟨A2, c2, l2, by rw [add_plain]; exact hP, hr2, hc2, by rw [if_pos rfl]⟩
  ·
   obtain rfl : j = 1 := by omega
   exact ⟨A3, c3, l3, by rw [add_plain]; exact hP1, hr3, hc3, rfl⟩) ht
theorem filledClos (A : Option Addr) (c : Nat) (l : List Int) (w : World) : Gives 91 #[] (.slice A l.length c) (decide (0 < l.length)) w := by
 intro W hW
 have HB := as0 (Below.refl W.heap.size W)
 clear hW
 show Calls Try.prog 91 #[.slice A l.length c] W _
 by_cases h0 : 0 < l.length
 ·
  have d0 : decide (0 < (l.length : Int)) = true := decide_eq_true (by omega)
  have d1 : decide (0 < l.length) = true := decide_eq_true h0
  rw [d1]
  clear h0 d1
  go_enter Try.func91, Try.ntmps91
  go_wp2
  go_ret
  exact ⟨by have h := of_decide_eq_true d0; simp; omega, HB.out⟩
 ·
  have d0 : decide (0 < (l.length : Int)) = false := decide_eq_false (by omega)
  have d1 : decide (0 < l.length) = false := decide_eq_false h0
  rw [d1]
  clear h0 d1
  go_enter Try.func91, Try.ntmps91
  go_wp2
  go_ret
  exact ⟨by have h := of_decide_eq_false d0; have h2 : l = [] := List.eq_nil_of_length_eq_zero (by omega); subst h2; rfl, HB.out⟩
set_option maxHeartbeats 4000000 in
set_option maxRecDepth 100000 in
theorem filledCode_any (p C : Int) (g : Nat) (lb : Array Value) (P : Addr) (n c : Nat) (hn : n ≤ 9223372036854775807) (fl : Bool) (q : Nat → Bool) (hok : fl = true ↔ ∀ j, j < n → q j = true) (w : World)
  (h : ∀ j, j < n → ∃ (A : Option Addr) (c : Nat) (l : List Int), w.cell? (P.add j) = some (.slice A l.length c) ∧ q j = decide (0 < l.length))
  (HP : Calls Try.prog 43 #[.int .i64 p, .func (.func g) #[] lb, .slice (some P) n c] w fun e w' => e = .returned (.int .i64 C) ∧ Below w.heap.size w w') :
  Calls Try.prog 56 #[.int .i64 p, .func (.func g) #[] lb, .slice (some P) n c] w fun e w' => e = .returned (.int .i64 (if C = 0 then (if fl = true then 0 else 5) else C)) ∧ Below w.heap.size w w' := by
 have ec : ∀ args w, (callFunc 91 args).run Try.prog w = .ok (.enter 91 args) w := enters_of Try.func91 (by kernel_rfl) rfl
 have HA := fun W (hW : Below w.heap.size w W) => areAll2_clos (some P) n c q fl hok 91 #[] ec W hn (fun j hj => by
  obtain ⟨A, c, l, hc, hq⟩ := h j hj
  exact ⟨P, _, rfl, pw_cell_below hW hc, hq ▸ filledClos A c l W⟩)
 clear h ec hok
 by_cases hC : C = 0
 ·
  subst hC
  rw [if_pos rfl]
  cases fl with
  | _ =>
   go_enter Try.func56, Try.ntmps56
   go_wp2_with (first | (go_at_call 43; refine HP.mono ?_; clear HP; rintro e w' ⟨rfl, hb⟩; have HA' := HA _ hb; have Hb := as0 hb; clear hb HA) | (go_at_call 83; refine HA'.mono ?_; clear HA'; rintro e w'' ⟨rfl, hb'⟩; have Hb' := as0 hb'; clear hb'))
   go_ret
   exact ⟨rfl, below_next Hb.out Hb'.out⟩
 ·
  rw [if_neg hC]
  have d0 : (C == 0) = false := beq_eq_false_iff_ne.mpr hC
  have d1 : (C != 0) = true := bne_iff_ne.mpr hC
  clear HA
  go_enter Try.func56, Try.ntmps56
  go_wp2_with (go_at_call 43; refine HP.mono ?_; clear HP; rintro e w' ⟨rfl, hb⟩; have Hb := as0 hb; clear hb)
  go_ret
  exact ⟨rfl, Hb.out⟩
def impl_filledCode_1.f (k : Nat) (a0 : Int) (a1 : Bool) (l2 : List Int) : Option Int := (impl_polyCode_1.f k a0 a1 l2).bind fun c => some (if c = 0 then (if decide (0 < l2.length) = true then 0 else 5) else c)
def impl_filledCode_2.f (k : Nat) (a0 : Int) (a1 : Bool) (l2 l3 : List Int) : Option Int := (impl_polyCode_2.f k a0 a1 l2 l3).bind fun c => some (if c = 0 then (if (decide (0 < l2.length) && decide (0 < l3.length)) = true then 0 else 5) else c)
theorem impl_filledCode_1.calls (k : Nat) (a0 : Int) (a1 : Bool) (A2 : Option Addr) (c2 : Nat) (l2 : List Int) (r : Int) (w : World) {g : Nat} {lb : Array Value} {P : Nat}
  (hr2 : Kd.C (Kd.int .i64) w A2 l2.length l2) (hc2 : l2.length ≤ c2) (h : impl_filledCode_1.f k a0 a1 l2 = some r) (eg : ∀ args w, (callFunc g args).run Try.prog w = .ok (.enter g args) w) (hg : Gives0 g lb a1 w) (hP : w.cell? ⟨P, 0, none⟩ = some (.slice A2 l2.length c2)) :
  Calls Try.prog 56 #[.int .i64 a0, .func (.func g) #[] lb, .slice (some ⟨P, 0, none⟩) 1 1] w fun e w' => e = .returned (.int .i64 r) ∧ Below w.heap.size w w' := by
 unfold impl_filledCode_1.f at h
 obtain ⟨C, h1, h2⟩ := Option.bind_eq_some_iff.mp h
 obtain rfl := Option.some.inj h2
 exact filledCode_any a0 C g lb ⟨P, 0, none⟩ 1 1 (by decide) (decide (0 < l2.length)) (fun _ => decide (0 < l2.length)) ⟨fun h j _ => h, fun h => h 0 (by decide)⟩ w (fun j hj => by
  obtain rfl : j = 0 := by omega
  exact ⟨A2, c2, l2, by rw [add_plain]; exact hP, rfl⟩) (impl_polyCode_1.calls k a0 a1 A2 c2 l2 C w hr2 hc2 h1 eg hg hP)
theorem impl_filledCode_2.calls (k : Nat) (a0 : Int) (a1 : Bool) (A2 : Option Addr) (c2 : Nat) (l2 : List Int) (A3 : Option Addr) (c3 : Nat) (l3 : List Int) (r : Int) (w : World) {g : Nat} {lb : Array Value} {P : Nat}
  (hr2 : Kd.C (Kd.int .i64) w A2 l2.length l2) (hc2 : l2.length ≤ c2) (hr3 : Kd.C (Kd.int .i64) w A3 l3.length l3) (hc3 : l3.length ≤ c3) (h : impl_filledCode_2.f k a0 a1 l2 l3 = some r) (eg : ∀ args w, (callFunc g args).run Try.prog w = .ok (.enter g args) w) (hg : Gives0 g lb a1 w) (hP : w.cell? ⟨P, 0, none⟩ = some (.slice A2 l2.length c2)) (hP1 : w.cell? ⟨P, 1, none⟩ = some (.slice A3 l3.length c3)) :
  Calls Try.prog 56 #[.int .i64 a0, .func (.func g) #[] lb, .slice (some ⟨P, 0, none⟩) 2 2] w fun e w' => e = .returned (.int .i64 r) ∧ Below w.heap.size w w' := by
 unfold impl_filledCode_2.f at h
 obtain ⟨C, h1, h2⟩ := Option.bind_eq_some_iff.mp h
 obtain rfl := Option.some.inj h2
 exact filledCode_any a0 C g lb ⟨P, 0, none⟩ 2 2 (by decide) (decide (0 < l2.length) && decide (0 < l3.length)) (fun j => if j = 0 then decide (0 < l2.length) else decide (0 < l3.length))
  ⟨fun h j hj => by
   rw [Bool.and_eq_true] at h
   by_cases e : j = 0
   ·
    rw [if_pos e]; exact h.1
   ·
    rw [if_neg e]; exact h.2, fun h => by
   rw [Bool.and_eq_true]
   exact ⟨by simpa using h 0 (by decide), by simpa using h 1 (by decide)⟩⟩ w (fun j hj => by
  by_cases e : j = 0
  ·
   subst e; exact ⟨A2, c2, l2, by rw [add_plain]; exact hP, by rw [if_pos rfl]⟩
  ·
   obtain rfl : j = 1 := by omega
   exact ⟨A3, c3, l3, by rw [add_plain]; exact hP1, by rw [if_neg e]⟩) (impl_polyCode_2.calls k a0 a1 A2 c2 l2 A3 c3 l3 C w hr2 hc2 hr3 hc3 h1 eg hg hP hP1)
def impl_CommonRoots.f (k : Nat) (a0 : Int) (l1 : List Int) (l2 : List Int) : Option (List Int × Int) := (impl_filledCode_2.f k a0 true l1 l2).bind fun t783 => (if t783 = 0 then ((impl_field_gcd.f k a0 l1 l2).bind fun t784 => ((impl_field_roots.f k a0 t784).bind fun t787 => (some (t787, 0)))) else (some (([] : List Int), t783)))
set_option maxHeartbeats 8000000 in
set_option maxRecDepth 100000 in
theorem impl_CommonRoots.calls (k : Nat) (a0 : Int) (A1 : Option Addr) (c1 : Nat) (l1 : List Int) (A2 : Option Addr) (c2 : Nat) (l2 : List Int) (r1 : List Int) (r2 : Int) (w : World) (hr1 : Kd.C (Kd.int .i64) w A1 l1.length l1) (hc1 : l1.length ≤ c1) (hr2 : Kd.C (Kd.int .i64) w A2 l2.length l2) (hc2 : l2.length ≤ c2) (h : impl_CommonRoots.f k a0 l1 l2 = some (r1, r2)) :
  Calls Try.prog 37 #[.int .i64 a0, .slice A1 l1.length c1, .slice A2 l2.length c2] w fun e w' => ∃ v0_ : Value, e = .returned (.tuple #[v0_, .int .i64 r2]) ∧ Kd.R (Kd.int .i64) 2 w' w.heap.size (fun _ => True) v0_ r1 ∧ Below w.heap.size w w' := by
 have HR1 := as0 hr1
 have HC1 := as0 hc1
 clear hr1 hc1
 have HR2 := as0 hr2
 have HC2 := as0 hc2
 clear hr2 hc2
 have HB := as0 (Below.refl w.heap.size w)
 have H : ((impl_filledCode_2.f k a0 true l1 l2).bind fun t783 => (if t783 = 0 then ((impl_field_gcd.f k a0 l1 l2).bind fun t784 => ((impl_field_roots.f k a0 t784).bind fun t787 => (some (t787, 0)))) else (some (([] : List Int), t783)))) = some (r1, r2) := h
 clear h
 replace H := Option.bind_eq_some_iff.mp H
 obtain ⟨t783, A40, H⟩ := H
 have A4 := as0 A40
 clear A40
 by_cases c5 : t783 = 0
 ·
  rw [if_pos c5] at H
  have c5b0 : (t783 == 0) = true := beq_iff_eq.mpr c5
  have c5b1 : (t783 != 0) = false := bne_eq_false_iff_eq.mpr c5
  clear c5
  replace H := Option.bind_eq_some_iff.mp H
  obtain ⟨t784, A60, H⟩ := H
  have A6 := as0 A60
  clear A60
  replace H := Option.bind_eq_some_iff.mp H
  obtain ⟨t787, A70, H⟩ := H
  have A7 := as0 A70
  clear A70
  simp only [Option.some.injEq, Prod.mk.injEq] at H
  obtain ⟨rfl, rfl⟩ := H
  go_enter Try.func37, Try.ntmps37
  go_wp2_with (first | (go_at_call 56; (with_reducible refine (impl_filledCode_2.calls k a0 true A1 c1 l1 A2 c2 l2 t783 _ ?side1 ?side2 ?side3 ?side4 A4.out ?sideE ?sideG ?sideP ?sideQ).mono ?_); (case side1 => exact cs (HR1.out)); (case side2 => exact HC1.out); (case side3 => exact cs (HR2.out)); (case side4 => exact HC2.out); (case sideE => (first | exact enters_of Try.func44 (by kernel_rfl) rfl)); (case sideG => (first | exact always_gives _)); (case sideP => (first | (simp; done) | (simp [*]; done))); (case sideQ => (first | (simp; done) | (simp [*]; done))); rintro e w8 ⟨rfl, hb⟩; have n0_ := as0 (below_step (bs HB) hb); clear HB; have HB := n0_; clear n0_; (try clear hb); (try clear hb2); (try clear hk); (try clear hi)) | ((with_reducible refine gate_callee (f := 74) rfl ?_); refine goesM_ (some 21) rfl rfl Try.func74 #[.int .i64 a0, .slice A1 l1.length c1, .slice A2 l2.length c2] rfl ?_; (with_reducible refine (impl_field_gcd.calls k a0 (fun k_ => k_ < w.heap.size) _ _ l1 (fun k_ => k_ < w.heap.size) _ _ l2 t784 _ ?side1 ?side2 A6.out).mono ?_); (case side1 => exact Kd.V_mk HC1.out (Kd.F_below (Kd.C_F (Kd.heap_int .i64) HR1.out) (bs HB))); (case side2 => exact Kd.V_mk HC2.out (Kd.F_below (Kd.C_F (Kd.heap_int .i64) HR2.out) (bs HB))); rintro e w9 ⟨v785, rfl, ho0, hb⟩; refine ⟨_, rfl, ?_⟩; have n0_ := as0 (Kd.R_lower (Kd.R_mono (ok' := fun k_ => True) ho0 (fun _ hk_ => trivial)) (below_size (bs HB))); have n1_ := as0 (below_step (bs HB) hb); clear HB; have HO786 := n0_; have HB := n1_; clear n0_ n1_; (try clear hb); (try clear hb2); (try clear hk); (try clear hi); (try clear ho0); obtain ⟨Ao10, co10, eo10⟩ := Kd.R_slice HO786.out; subst eo10) | ((with_reducible refine gate_callee (f := 75) rfl ?_); refine goesM_ (some 22) rfl rfl Try.func75 #[.int .i64 a0, .slice Ao10 t784.length co10] rfl ?_; (with_reducible refine (impl_field_roots.calls k a0 _ _ t784 t787 _ ?side1 ?side2 A7.out).mono ?_); (case side1 => exact cs ((Kd.R_reads' HO786.out).2.2)); (case side2 => exact (Kd.R_reads' HO786.out).2.1); rintro e w11 ⟨v788, rfl, ho0, hb⟩; refine ⟨_, rfl, ?_⟩; have n0_ := as0 (Kd.R_elder' (rs HO786) (Kd.R_base ho0) hb); have n1_ := as0 (Kd.R_lower (Kd.R_new' ho0 (Kd.R_lt (rs HO786))) (below_size (bs HB))); have n2_ := as0 (below_step (bs HB) hb); clear HO786; clear HB; have HO786 := n0_; have HO789 := n1_; have HB := n2_; clear n0_ n1_ n2_; (try clear hb); (try clear hb2); (try clear hk); (try clear hi); (try clear ho0)))
  go_ret2
  exact ⟨_, er_, by (with_reducible repeat (first | apply Kd.R_alloc | apply Kd.R_drewN | apply Kd.R_drew)); exact Kd.R_mono HO789.out (fun _ hk => trivial), bs HB⟩
 ·
  rw [if_neg c5] at H
  have c5b0 : (t783 == 0) = false := beq_eq_false_iff_ne.mpr c5
  have c5b1 : (t783 != 0) = true := bne_iff_ne.mpr c5
  simp only [Option.some.injEq, Prod.mk.injEq] at H
  obtain ⟨rfl, rfl⟩ := H
  go_enter Try.func37, Try.ntmps37
  go_wp2_with (first | (go_at_call 56; (with_reducible refine (impl_filledCode_2.calls k a0 true A1 c1 l1 A2 c2 l2 t783 _ ?side1 ?side2 ?side3 ?side4 A4.out ?sideE ?sideG ?sideP ?sideQ).mono ?_); (case side1 => exact cs (HR1.out)); (case side2 => exact HC1.out); (case side3 => exact cs (HR2.out)); (case side4 => exact HC2.out); (case sideE => (first | exact enters_of Try.func44 (by kernel_rfl) rfl)); (case sideG => (first | exact always_gives _)); (case sideP => (first | (simp; done) | (simp [*]; done))); (case sideQ => (first | (simp; done) | (simp [*]; done))); rintro e w12 ⟨rfl, hb⟩; have n0_ := as0 (below_step (bs HB) hb); clear HB; have HB := n0_; clear n0_; (try clear hb); (try clear hb2); (try clear hk); (try clear hi)))
  go_ret2
  exact ⟨_, er_, by first | exact Kd.R_nil _ _ _ _ _ | exact Kd.N_nil _ _ _ _ _ | exact Kd.V_nil _ _ _ _ _ | exact Kd.Q_nil _ _ _ _ _ | exact Kd.S_nil _ _ _ _ _, bs HB⟩
def impl_length_int64.f (l0 : List Int) : Option (Int) := some (l0.length : Int)
set_option maxHeartbeats 8000000 in
set_option maxRecDepth 100000 in
theorem impl_length_int64.calls (A0 : Option Addr) (c0 : Nat) (l0 : List Int) (r : Int) (w : World) (hr0 : Kd.C (Kd.int .i64) w A0 l0.length l0) (hc0 : l0.length ≤ c0) (h : impl_length_int64.f l0 = some r) :
  Calls Try.prog 89 #[.slice A0 l0.length c0] w fun e w' => e = .returned (.int .i64 r) ∧ Drawn0 w w' := by
 have HR0 := as0 hr0
 have HC0 := as0 hc0
 clear hr0 hc0
 have H : (some (l0.length : Int)) = some r := h
 clear h
 obtain rfl := Option.some.inj H
 go_enter Try.func89, Try.ntmps89
 go_wp2
 go_ret
 exact ⟨ea_, dr_⟩
def impl_degree.f (l0 : List Int) : Option (Int) := (impl_length_int64.f l0).bind fun t287 => (some (wrap64 (t287 - 1)))
set_option maxHeartbeats 8000000 in
set_option maxRecDepth 100000 in
theorem impl_degree.calls (A0 : Option Addr) (c0 : Nat) (l0 : List Int) (r : Int) (w : World) (hr0 : Kd.C (Kd.int .i64) w A0 l0.length l0) (hc0 : l0.length ≤ c0) (h : impl_degree.f l0 = some r) :
  Calls Try.prog 52 #[.slice A0 l0.length c0] w fun e w' => e = .returned (.int .i64 r) ∧ Drawn0 w w' := by
 have HR0 := as0 hr0
 have HC0 := as0 hc0
 clear hr0 hc0
 have H : ((impl_length_int64.f l0).bind fun t287 => (some (wrap64 (t287 - 1)))) = some r := h
 clear h
 replace H := Option.bind_eq_some_iff.mp H
 obtain ⟨t287, A20, H⟩ := H
 have A2 := as0 A20
 clear A20
 obtain rfl := Option.some.inj H
 go_enter Try.func52, Try.ntmps52
 go_wp2_with (first | ((with_reducible refine gate_callee (f := 89) rfl ?_); refine goesM_ (some 4) rfl rfl Try.func89 #[.slice A0 l0.length c0] rfl ?_; (with_reducible refine (impl_length_int64.calls _ _ l0 t287 _ ?side1 ?side2 A2.out).mono ?_); (case side1 => exact cs (HR0.out)); (case side2 => exact HC0.out); rintro e w' ⟨rfl, ⟨nd, rfl⟩⟩; refine ⟨_, rfl, ?_⟩))
 go_ret
 exact ⟨ea_, dr_⟩
def impl_field_derivative.l0 : Nat → Int → List Int → List Int → Int → Option (List Int)
 | 0, _, _, _, _ => none
 | k + 1, x0, x1, x5, x6 => if x6 < (x1.length : Int) then (if 0 ≤ x6 then ((impl_field_mul.f x0 x6 (rd x1 x6)).bind fun t394 => (if x5.length < 17592186044416 then (impl_field_derivative.l0 k x0 x1 (x5 ++ [t394]) (wrap64 (x6 + 1))) else (none))) else (none)) else ((impl_trimmed.f k x5).bind fun t398 => (some t398))
def impl_field_derivative.f (k : Nat) (a0 : Int) (l1 : List Int) : Option (List Int) := impl_field_derivative.l0 k a0 l1 ([] : List Int) 1
set_option maxHeartbeats 8000000 in
set_option maxRecDepth 100000 in
theorem impl_field_derivative.calls (k : Nat) (a0 : Int) (A1 : Option Addr) (c1 : Nat) (l1 : List Int) (r : List Int) (w : World) (hr1 : Kd.C (Kd.int .i64) w A1 l1.length l1) (hc1 : l1.length ≤ c1) (h : impl_field_derivative.f k a0 l1 = some r) :
  Calls Try.prog 62 #[.int .i64 a0, .slice A1 l1.length c1] w fun e w' => ∃ v0_ : Value, e = .returned (v0_) ∧ Kd.R (Kd.int .i64) 2 w' w.heap.size (fun _ => True) v0_ r ∧ Below w.heap.size w w' := by
 have HR1 := as0 hr1
 have HC1 := as0 hc1
 clear hr1 hc1
 have HB := as0 (Below.refl w.heap.size w)
 have H : (impl_field_derivative.l0 k a0 l1 ([] : List Int) 1) = some r := h
 clear h
 have H' := as0 H
 clear H
 go_enter Try.func62, Try.ntmps62
 go_wp2
 go_loopg [5, 6] k (fun kq v5 v6 w' => ∃ (x5_1 : List Int) (x6_1 : Int), v6 = .int .i64 x6_1 ∧ Aside0 (impl_field_derivative.l0 kq a0 l1 x5_1 x6_1 = some r) ∧ Aside0 (kq ≤ k) ∧ Aside0 (Kd.R (Kd.int .i64) 2 w' w.heap.size (fun _ => True) v5 x5_1) ∧ Aside0 (Below w.heap.size w w'))
 case atStart => exact ⟨(([] : List Int)), (1), ea_, H', ⟨Nat.le_refl _⟩, ⟨by first | exact Kd.R_nil _ _ _ _ _ | exact Kd.N_nil _ _ _ _ _ | exact Kd.V_nil _ _ _ _ _ | exact Kd.Q_nil _ _ _ _ _ | exact Kd.S_nil _ _ _ _ _⟩, ⟨bs HB⟩⟩
 case round =>
  clear H'
  try clear c1
  try clear p2
  obtain ⟨x5_1, x6_1, rfl, HA, HK1, HO_5, HB⟩ := hrel
  cases gk with
  | zero => exact absurd HA.out (by simp [impl_field_derivative.l0])
  | succ k1 =>
   have H := HA.out
   clear HA
   simp only [impl_field_derivative.l0] at H
   by_cases c3 : x6_1 < (l1.length : Int)
   ·
    rw [if_pos c3] at H
    have c3b0 : decide (x6_1 < (l1.length : Int)) = true := decide_eq_true c3
    clear c3
    by_cases c4 : 0 ≤ x6_1
    ·
     rw [if_pos c4] at H
     have c4b0 : decide (0 ≤ x6_1) = true := decide_eq_true c4
     clear c4
     replace H := Option.bind_eq_some_iff.mp H
     obtain ⟨t394, A50, H⟩ := H
     have A5 := as0 A50
     clear A50
     by_cases c6 : x5_1.length < 17592186044416
     ·
      rw [if_pos c6] at H
      have LMc6 := as0 c6
      clear c6
      obtain ⟨y395, hy395⟩ : ∃ y_ : List Int, y_ = (x5_1 ++ [t394]) := ⟨_, rfl⟩
      replace H : (impl_field_derivative.l0 k1 a0 l1 y395 (wrap64 (x6_1 + 1))) = some r := by first | (rw [hy395]; with_reducible exact H) | (have H2_ := (Option.bind_some _ _).symm.trans H; rw [hy395]; with_reducible exact H2_) | (have H2_ := (Option.bind_some _ _).symm.trans H; with_reducible exact H2_) | with_reducible exact H | (rw [hy395]; exact H) | exact H
      have Ny395 := as0 hy395
      clear hy395
      have H' := as0 H
      clear H
      have p393 : 0 ≤ (x6_1 : Int) := oa_
      have q393 : x6_1 < (l1.length : Int) := oa_
      obtain ⟨ad393, e393, hx393_0⟩ := Kd.at_int HR1.out x6_1 p393 q393
      cases e393
      replace hx393_0 := (HB.out.cell (World.block_lt_of_cell? w _ hx393_0)).trans hx393_0
      replace p393 := eq_true p393
      replace q393 := eq_true q393
      go_wp2_with (first | ((with_reducible refine gate_callee (f := 96) rfl ?_); refine goesM_ (some 20) rfl rfl Try.func96 #[.int .i64 a0, .int .i64 x6_1, .int .i64 (rd l1 x6_1)] rfl ?_; (with_reducible refine (impl_field_mul.calls a0 x6_1 (rd l1 x6_1) t394 _ A5.out).mono ?_); rintro e w' ⟨rfl, ⟨nd, rfl⟩⟩; refine ⟨_, rfl, ?_⟩) | ((with_reducible refine gate_builtin (b := .append) (xs := #[.tmp 13, .tmp 21]) rfl ?_); at_builtin; refine Kd.R_append (Kd.int .i64) (w0 := w) w.heap.size rfl (.tmp 13) (.tmp 21) 22 2 (.int .i64 0) 8 rfl Try.underlying22 info2 rfl (by decide) (by omega) u5 x5_1 t394 [.int .i64 t394] (fun _ => True) (fun _ => False) rfl rfl ?aP (fun _ hk => hk.elim) ?aF ?aO ?aB ?aS ?aL ?_; (case aP => exact rfl); (case aB => exact (bs HB)); (case aF => exact (fun _ _ => trivial)); (case aO => exact (rs HO_5)); (case aS => exact (below_size (bs HB))); (case aL => have := LMc6.out; omega); intro v396 w7 ho hb hg hat; rw [← Ny395.out] at ho; have n0_ := as0 (hb); have n1_ := as0 (ho); clear HB; clear HO_5; have HB := n0_; have HO397 := n1_; clear n0_ n1_; clear ho hb hg hat))
      go_roundg k1
      case measure => have := HK1.out; omega
      case rel => exact ⟨(y395), (wrap64 (x6_1 + 1)), ea_, H', ⟨by have := HK1.out; omega⟩, ⟨rs HO397⟩, ⟨bs HB⟩⟩
     ·
      rw [if_neg c6] at H
      exact absurd H (by simp)
    ·
     rw [if_neg c4] at H
     exact absurd H (by simp)
   ·
    rw [if_neg c3] at H
    have c3b0 : decide (x6_1 < (l1.length : Int)) = false := decide_eq_false c3
    clear c3
    replace H := Option.bind_eq_some_iff.mp H
    obtain ⟨t398, A80, H⟩ := H
    have A8 := as0 A80
    clear A80
    obtain rfl := Option.some.inj H
    obtain ⟨Ao9, co9, eo9⟩ := Kd.R_slice HO_5.out
    subst eo9
    go_wp2_with (first | ((with_reducible refine gate_callee (f := 88) rfl ?_); refine goesM_ (some 24) rfl rfl Try.func88 #[.slice Ao9 x5_1.length co9] rfl ?_; (with_reducible refine (impl_trimmed.calls k1 (fun k_ => some k_ = (.slice Ao9 x5_1.length co9 : Value).ownBlock) (.slice Ao9 x5_1.length co9) x5_1 t398 w _ ?side1 ?side2 A8.out).mono ?_); (case side1 => exact bs HB); (case side2 => exact Kd.R_tight rfl HO_5.out); rintro e w10 ⟨v399, rfl, ho0, hb, hkp⟩; refine ⟨_, rfl, ?_⟩; have n0_ := as0 (Kd.R_mono (ok' := fun k_ => True) ho0 (fun k_ hk_ => trivial)); have n1_ := as0 (hb); clear HB; clear HO_5; have HO400 := n0_; have HB := n1_; clear n0_ n1_; (try clear hb); (try clear hkp); (try clear ho0)))
    go_ret
    exact ⟨_, er_, rs HO400, bs HB⟩
end Go.Proofs.Ytlmolloallhclaa.H
set_option linter.unusedVariables false
set_option linter.unusedSimpArgs false
namespace Go.Proofs.Ytlmolloallhclaa.Num
open Go.RowKit
theorem w64 {x : Int} (h1 : -9223372036854775808 ≤ x) (h2 : x ≤ 9223372036854775807) : wrap64 x = x := by
 unfold wrap64; omega
theorem tmod_nn {a b : Int} (h : 0 ≤ a) : Int.tmod a b = a % b := Int.tmod_eq_emod_of_nonneg h
theorem tmod_lt' {x p : Int} (hp : 0 < p) : Int.tmod x p < p ∧ -p < Int.tmod x p := by
 constructor
 ·
  exact Int.tmod_lt_of_pos x hp
 ·
  have h := Int.tmod_lt_of_pos (-x) hp
  rw [Int.neg_tmod] at h
  omega
theorem md {x p : Int} (hp : 0 < p) (hp2 : p ≤ 1000000000) : Int.tmod (wrap64 (Int.tmod x p + p)) p = x % p := by
 obtain ⟨h1, h2⟩ := tmod_lt' (x := x) hp
 rw [w64 (by omega) (by omega), tmod_nn (by omega), Int.tmod_def]
 have : x - p * x.tdiv p + p = x + p * (1 - x.tdiv p) := by
  rw [Int.mul_sub]; omega
 rw [this, Int.add_mul_emod_self_left]
theorem emod_bd {x p : Int} (hp : 0 < p) : 0 ≤ x % p ∧ x % p < p := ⟨Int.emod_nonneg _ (by omega), Int.emod_lt_of_pos _ hp⟩
theorem mul_bd {x y a b : Int} (hx0 : 0 ≤ x) (hx : x ≤ a) (hy0 : 0 ≤ y) (hy : y ≤ b) : 0 ≤ x * y ∧ x * y ≤ a * b :=
 ⟨Int.mul_nonneg hx0 hy0, Int.mul_le_mul hx hy hy0 (by omega)⟩
theorem em_l (a b p : Int) : a % p * b % p = a * b % p := by rw [Int.mul_emod, Int.emod_emod, ← Int.mul_emod]
theorem ea_l (a b p : Int) : (a % p + b) % p = (a + b) % p := Int.emod_add_emod _ _ _
theorem ea_r (a b p : Int) : (a + b % p) % p = (a + b) % p := Int.add_emod_emod _ _ _
theorem en_ (b p : Int) : (-(b % p)) % p = (-b) % p := by
 have h : -(b % p) = -b + p * (b / p) := by have := Int.mul_ediv_add_emod b p; omega
 rw [h, Int.add_mul_emod_self_left]
theorem es_r (a b p : Int) : (a - b % p) % p = (a - b) % p := by
 rw [Int.sub_eq_add_neg, ← ea_r, en_, ea_r, ← Int.sub_eq_add_neg]
def Pr (p : Nat) : Prop := 2 ≤ p ∧ ∀ d, d ∣ p → d = 1 ∨ d = p
theorem Pr.of_trial {p : Nat} (h2 : 2 ≤ p) (h : ∀ d, 2 ≤ d → d * d ≤ p → p % d ≠ 0) : Pr p := by
 refine ⟨h2, fun d hd => ?_⟩
 obtain ⟨e, he⟩ := hd
 have hd0 : 0 < d := by rcases Nat.eq_zero_or_pos d with h0 | h0; (subst h0; simp at he; omega); exact h0
 have he0 : 0 < e := by rcases Nat.eq_zero_or_pos e with h0 | h0; (subst h0; simp at he; omega); exact h0
 rcases Nat.lt_or_ge d 2 with h1 | h1
 ·
  left; omega
 rcases Nat.lt_or_ge e 2 with h3 | h3
 ·
  right
  have : e = 1 := by omega
  subst this; simpa using he.symm
 ·
  exfalso
  rcases Nat.le_total d e with hle | hle
  ·
   refine h d h1 ?_ ?_
   ·
    rw [he]; exact Nat.mul_le_mul_left d hle
   ·
    rw [he]; exact Nat.mul_mod_right d e
  ·
   refine h e h3 ?_ ?_
   ·
    rw [he]; exact Nat.mul_le_mul_right e hle
   ·
    rw [he]; exact Nat.mul_mod_left d e
theorem Pr.cop {p a : Nat} (hp : Pr p) (ha : ¬ p ∣ a) : Nat.Coprime p a := by
 rcases hp.2 _ (Nat.gcd_dvd_left p a) with h | h
 ·
  exact h
 ·
  exact absurd (h ▸ Nat.gcd_dvd_right p a) ha
theorem Pr.euclid {p a b : Nat} (hp : Pr p) (h : p ∣ a * b) : p ∣ a ∨ p ∣ b := by
 by_cases ha : p ∣ a
 ·
  exact .inl ha
 ·
  exact .inr ((hp.cop ha).dvd_of_dvd_mul_left h)
theorem Pr.pow {p a : Nat} (hp : Pr p) (ha : ¬ p ∣ a) : ∀ n, ¬ p ∣ a ^ n
 | 0 => fun h => by
  have h1 := Nat.le_of_dvd (by simp) h
  have := hp.1
  simp only [Nat.pow_zero] at h1
  omega
 | n + 1 => fun h => by
  rw [Nat.pow_succ] at h
  rcases hp.euclid h with h | h
  ·
   exact Pr.pow hp ha n h
  ·
   exact ha h
def ch : Nat → Nat → Nat
 | _, 0 => 1
 | 0, _ + 1 => 0
 | n + 1, k + 1 => ch n k + ch n (k + 1)
theorem ch_gt : ∀ n k, n < k → ch n k = 0
 | 0, k + 1, _ => by simp [ch]
 | n + 1, k + 1, h => by simp [ch, ch_gt n k (by omega), ch_gt n (k + 1) (by omega)]
theorem ch_self : ∀ n, ch n n = 1
 | 0 => by simp [ch]
 | n + 1 => by simp [ch, ch_self n, ch_gt n (n + 1) (by omega)]
theorem ch_mul : ∀ n k, (k + 1) * ch (n + 1) (k + 1) = (n + 1) * ch n k
 | 0, 0 => by simp [ch]
 | 0, k + 1 => by simp [ch]
 | n + 1, 0 => by
  have h := ch_mul n 0
  have h0 : ch n 0 = 1 := by cases n <;> simp [ch]
  have h00 : ch (n+1) 0 = 1 := by simp [ch]
  have e : ch (n + 1 + 1) (0 + 1) = ch (n + 1) 0 + ch (n + 1) (0 + 1) := by simp [ch]
  rw [e, h00]
  rw [h0] at h
  omega
 | n + 1, k + 1 => by
  have h1 := ch_mul n k
  have h2 := ch_mul n (k + 1)
  have e1 : ch (n + 1 + 1) (k + 1 + 1) = ch (n + 1) (k + 1) + ch (n + 1) (k + 1 + 1) := by simp [ch]
  have e2 : ch (n + 1) (k + 1) = ch n k + ch n (k + 1) := by simp [ch]
  rw [e1, Nat.mul_add]
  rw [h2]
  have : (k + 1 + 1) * ch (n + 1) (k + 1) = ch (n + 1) (k + 1) + (k + 1) * ch (n + 1) (k + 1) := by
   rw [Nat.add_mul (k+1) 1, Nat.one_mul]; omega
  rw [this, h1]
  have e3 : (n + 1 + 1) * ch (n + 1) (k + 1) = (n + 1) * ch (n + 1) (k + 1) + ch (n + 1) (k + 1) := by rw [Nat.add_mul, Nat.one_mul]
  rw [e3, e2, Nat.mul_add]
  omega
def sm (f : Nat → Nat) : Nat → Nat
 | 0 => 0
 | n + 1 => sm f n + f n
theorem sm_head (f : Nat → Nat) : ∀ n, sm f (n + 1) = f 0 + sm (fun k => f (k + 1)) n
 | 0 => by simp [sm]
 | n + 1 => by
  have h := sm_head f n
  rw [show sm f (n + 1 + 1) = sm f (n + 1) + f (n + 1) from rfl, h]
  simp only [sm]; omega
theorem sm_add (f g : Nat → Nat) : ∀ n, sm (fun k => f k + g k) n = sm f n + sm g n
 | 0 => rfl
 | n + 1 => by simp only [sm, sm_add f g n]; omega
theorem sm_mul (a : Nat) (f : Nat → Nat) : ∀ n, sm (fun k => a * f k) n = a * sm f n
 | 0 => rfl
 | n + 1 => by simp only [sm, sm_mul a f n]; rw [Nat.mul_add]
theorem sm_congr {f g : Nat → Nat} (h : ∀ k, f k = g k) (n : Nat) : sm f n = sm g n := by
 have : f = g := funext h
 rw [this]
theorem binom (a : Nat) : ∀ n, (a + 1) ^ n = sm (fun k => ch n k * a ^ k) (n + 1)
 | 0 => by simp [sm, ch]
 | n + 1 => by
  rw [Nat.pow_succ, binom a n, sm_head (fun k => ch (n + 1) k * a ^ k) (n + 1)]
  have e : sm (fun k => ch (n + 1) (k + 1) * a ^ (k + 1)) (n + 1) = sm (fun k => a * (ch n k * a ^ k)) (n + 1) + sm (fun k => ch n (k + 1) * a ^ (k + 1)) (n + 1) := by
   rw [← sm_add]
   refine sm_congr (fun k => ?_) _
   simp only [ch]
   rw [Nat.add_mul, Nat.pow_succ]
   have : ch n k * (a ^ k * a) = a * (ch n k * a ^ k) := by
    rw [← Nat.mul_assoc, Nat.mul_comm]
   rw [this]
  rw [e, sm_mul]
  have e2 : sm (fun k => ch n (k + 1) * a ^ (k + 1)) (n + 1) = sm (fun k => ch n (k + 1) * a ^ (k + 1)) n := by
   simp only [sm]; rw [ch_gt n (n + 1) (by omega)]; simp
  rw [e2]
  have e3 := sm_head (fun k => ch n k * a ^ k) n
  have h0 : ch n 0 = 1 := by cases n <;> simp [ch]
  have h00 : ch (n+1) 0 = 1 := by simp [ch]
  rw [h0] at e3
  rw [h00]
  simp only [Nat.pow_zero, Nat.mul_one] at e3 ⊢
  rw [Nat.mul_add, Nat.mul_one, Nat.mul_comm a]
  omega
theorem sm_dvd {p : Nat} (f : Nat → Nat) : ∀ n, (∀ k, k < n → p ∣ f k) → p ∣ sm f n
 | 0, _ => ⟨0, rfl⟩
 | n + 1, h => Nat.dvd_add (sm_dvd f n fun k hk => h k (by omega)) (h n (by omega))
theorem Pr.ch_dvd {p k : Nat} (hp : Pr p) (h0 : 0 < k) (h1 : k < p) : p ∣ ch p k := by
 obtain ⟨q, rfl⟩ : ∃ q, p = q + 1 := ⟨p - 1, by omega⟩
 obtain ⟨j, rfl⟩ : ∃ j, k = j + 1 := ⟨k - 1, by omega⟩
 have h := ch_mul q j
 have hd : (q + 1) ∣ (j + 1) * ch (q + 1) (j + 1) := ⟨ch q j, h⟩
 rcases hp.euclid hd with h' | h'
 ·
  have := Nat.le_of_dvd (by omega) h'; omega
 ·
  exact h'
theorem Pr.fermat {p : Nat} (hp : Pr p) : ∀ a, a ^ p % p = a % p
 | 0 => by rw [Nat.zero_pow (by have := hp.1; omega)]
 | a + 1 => by
  have ih := Pr.fermat hp a
  rw [binom a p, sm_head]
  obtain ⟨q, hq⟩ : ∃ q, p = q + 1 := ⟨p - 1, by have := hp.1; omega⟩
  have h0 : ch p 0 * a ^ 0 = 1 := by rw [hq]; simp [ch]
  have e : sm (fun k => ch p (k + 1) * a ^ (k + 1)) p = sm (fun k => ch p (k + 1) * a ^ (k + 1)) q + a ^ p := by
   rw [hq]; simp only [sm]; rw [ch_self, Nat.one_mul]
  rw [h0, e]
  have hd : p ∣ sm (fun k => ch p (k + 1) * a ^ (k + 1)) q :=
   sm_dvd _ q fun k hk => Nat.dvd_trans (hp.ch_dvd (by omega) (by omega)) (Nat.dvd_mul_right _ _)
  obtain ⟨c, hc⟩ := hd
  rw [hc]
  rw [show 1 + (p * c + a ^ p) = (1 + a ^ p) + p * c by omega, Nat.add_mul_mod_self_left, Nat.add_mod, ih, ← Nat.add_mod, Nat.add_comm]
theorem dvd_sub_of_mod {p a b : Nat} (hle : a ≤ b) (h : a % p = b % p) : p ∣ b - a := by
 refine ⟨b / p - a / p, ?_⟩
 have h1 := Nat.div_add_mod a p
 have h2 := Nat.div_add_mod b p
 rw [Nat.mul_sub]
 omega
theorem Pr.fermat1 {p a : Nat} (hp : Pr p) (ha : ¬ p ∣ a) : a ^ (p - 1) % p = 1 := by
 have h := hp.fermat a
 obtain ⟨q, hq⟩ : ∃ q, p = q + 1 := ⟨p - 1, by have := hp.1; omega⟩
 have ha0 : 1 ≤ a ^ q := Nat.one_le_iff_ne_zero.mpr (by
  intro h0
  have : a = 0 := by
   rcases Nat.eq_zero_or_pos a with h1 | h1
   ·
    exact h1
   ·
    have := Nat.pow_pos (n := q) h1; omega
  exact ha (this ▸ ⟨0, rfl⟩))
 have hd : p ∣ a * (a ^ q - 1) := by
  have e : a * (a ^ q - 1) = a ^ p - a := by rw [hq, Nat.pow_succ, Nat.mul_sub, Nat.mul_one, Nat.mul_comm]
  rw [e]
  have hle : a ≤ a ^ p := by rw [hq, Nat.pow_succ]; exact Nat.le_mul_of_pos_left a ha0
  exact dvd_sub_of_mod hle h.symm
 rcases hp.euclid hd with h' | h'
 ·
  exact absurd h' ha
 ·
  rw [show p - 1 = q by omega]
  obtain ⟨c, hc⟩ := h'
  have h1 : (1 : Nat) % p = 1 := Nat.mod_eq_of_lt (by have := hp.1; omega)
  have e : a ^ q = 1 + p * c := by omega
  rw [e, Nat.add_mul_mod_self_left, h1]
theorem pow_emod (p x : Int) (n : Nat) : (x % p) ^ n % p = x ^ n % p := by
 induction n with
 | zero => simp
 | succ n ih => rw [Int.pow_succ, Int.pow_succ, Int.mul_emod, ih, Int.emod_emod_of_dvd _ (Int.dvd_refl p), ← Int.mul_emod]
theorem pw_step {p : Int} (out x : Int) (n : Nat) : out * (x * x % p) ^ n % p = out * x ^ (2 * n) % p := by
 rw [Int.mul_emod, pow_emod, ← Int.mul_emod, Int.pow_mul, show x ^ 2 = x * x by rw [Int.pow_succ, Int.pow_succ, Int.pow_zero, Int.one_mul]]
theorem pow_loop (l : Nat → Int → Int → Int → Int → Option Int) (fin : Int → Int → Option Int) (m : Int → Int) (p : Int) (hp : 2 ≤ p) (hp2 : p ≤ 1000000) (hm : ∀ y, 0 ≤ y → m y = y % p)
  (hl : ∀ k e out x, l (k + 1) p e out x = if e > 0 then (if Int.tmod e 2 = 1 then l k p (wrap64 (Int.tdiv e 2)) (m (wrap64 (out * x))) (m (wrap64 (x * x))) else l k p (wrap64 (Int.tdiv e 2)) out (m (wrap64 (x * x)))) else fin p out)
  (d : Nat) : ∀ (k : Nat) (e out x : Int), e < d → d < k → 0 ≤ e → e ≤ 1000000000 → 0 ≤ out → out < p → 0 ≤ x → x < p → l k p e out x = fin p (out * x ^ e.toNat % p) := by
 induction d with
 | zero => intro k e out x h; omega
 | succ d ih =>
  intro k e out x he hk h0 h9 o0 o1 x0 x1
  obtain ⟨k, rfl⟩ : ∃ m, k = m + 1 := ⟨k - 1, by omega⟩
  rw [hl]
  by_cases h : e > 0
  ·
   rw [if_pos h]
   have hb1 := mul_bd (a := 1000000) (b := 1000000) o0 (by omega) x0 (by omega)
   have hb2 := mul_bd (a := 1000000) (b := 1000000) x0 (by omega) x0 (by omega)
   have e1 : Int.tdiv e 2 = e / 2 := Int.tdiv_eq_ediv_of_nonneg h0
   have e2 : Int.tmod e 2 = e % 2 := tmod_nn h0
   have ew : wrap64 (e / 2) = e / 2 := w64 (by omega) (by omega)
   rw [e1, e2, ew, w64 (x := out * x) (by omega) (by omega), w64 (x := x * x) (by omega) (by omega), hm _ hb1.1, hm _ hb2.1]
   have b2 := emod_bd (x := x * x) (p := p) (by omega)
   have b1 := emod_bd (x := out * x) (p := p) (by omega)
   by_cases h1 : e % 2 = 1
   ·
    rw [if_pos h1, ih k (e / 2) (out * x % p) (x * x % p) (by omega) (by omega) (by omega) (by omega) b1.1 b1.2 b2.1 b2.2, pw_step]
    have hn : e.toNat = 2 * (e / 2).toNat + 1 := by omega
    rw [hn, Int.pow_succ, em_l]
    have : out * x * x ^ (2 * (e / 2).toNat) = out * (x ^ (2 * (e / 2).toNat) * x) := by
     rw [Int.mul_assoc, Int.mul_comm x]
    rw [this]
   ·
    rw [if_neg h1, ih k (e / 2) out (x * x % p) (by omega) (by omega) (by omega) (by omega) o0 o1 b2.1 b2.2, pw_step]
    have hn : e.toNat = 2 * (e / 2).toNat := by omega
    rw [hn]
  ·
   rw [if_neg h]
   have hz : e.toNat = 0 := by omega
   rw [hz, Int.pow_zero, Int.mul_one, Int.emod_eq_of_lt o0 o1]
def IsP (p : Int) : Prop := 2 ≤ p ∧ p ≤ 10007 ∧ Pr p.toNat
open Classical in
noncomputable def primeB (p : Int) : Bool := decide (IsP p)
theorem primeB_iff {p : Int} : primeB p = true ↔ IsP p := by
 unfold primeB; exact @decide_eq_true_iff _ (Classical.propDecidable _)
theorem prime_loop (l : Nat → Int → Int → Option Bool) (p : Int) (hp : 2 ≤ p) (hp2 : p ≤ 10007)
  (hl : ∀ k i, l (k + 1) p i = if wrap64 (i * i) ≤ p then (if i = 0 then none else (if Int.tmod p i = 0 then some false else l k p (wrap64 (i + 1)))) else some true)
  (d : Nat) : ∀ (k : Nat) (i : Int), 2 ≤ i → i ≤ 101 → 101 - i < d → d < k →
   ∃ b, l k p i = some b ∧ (b = true ↔ ∀ j : Int, i ≤ j → j * j ≤ p → p % j ≠ 0) := by
 induction d with
 | zero => intro k i h1 h2 h3; omega
 | succ d ih =>
  intro k i h1 h2 h3 hk
  obtain ⟨k, rfl⟩ : ∃ m, k = m + 1 := ⟨k - 1, by omega⟩
  rw [hl]
  have hb := mul_bd (a := 101) (b := 101) (x := i) (y := i) (by omega) h2 (by omega) h2
  rw [w64 (by omega) (by omega), w64 (x := i + 1) (by omega) (by omega)]
  by_cases hle : i * i ≤ p
  ·
   have hi : i ≤ 100 := by
    rcases Int.lt_or_le 100 i with h | h
    ·
     have := Int.mul_le_mul (a := 101) (b := 101) (c := i) (d := i) (by omega) (by omega) (by omega) (by omega); omega
    ·
     exact h
   rw [if_pos hle, if_neg (by omega), tmod_nn (by omega)]
   by_cases hd : p % i = 0
   ·
    rw [if_pos hd]
    exact ⟨false, rfl, by simp; exact ⟨i, Int.le_refl _, hle, hd⟩⟩
   ·
    rw [if_neg hd]
    obtain ⟨b, hb1, hb2⟩ := ih k (i + 1) (by omega) (by omega) (by omega) (by omega)
    refine ⟨b, hb1, hb2.trans ⟨fun h j hj hjj => ?_, fun h j hj hjj => h j (by omega) hjj⟩⟩
    by_cases e : j = i
    ·
     subst e; exact hd
    ·
     exact h j (by omega) hjj
  ·
   rw [if_neg hle]
   refine ⟨true, rfl, by simp; intro j hj hjj; exfalso; apply hle; exact Int.le_trans (Int.mul_le_mul hj hj (by omega) (by omega)) hjj⟩
theorem trial_iff {p : Int} (hp : 2 ≤ p) : (∀ j : Int, 2 ≤ j → j * j ≤ p → p % j ≠ 0) ↔ Pr p.toNat := by
 constructor
 ·
  intro h
  refine Pr.of_trial (by omega) fun d hd hdd h0 => ?_
  refine h d (by omega) ?_ ?_
  ·
   have : ((d * d : Nat) : Int) ≤ p := by omega
   simpa using this
  ·
   have : ((p.toNat % d : Nat) : Int) = 0 := by rw [h0]; rfl
   rw [Int.natCast_emod, Int.toNat_of_nonneg (by omega)] at this
   exact this
 ·
  intro h j hj hjj h0
  obtain ⟨d, rfl⟩ : ∃ d : Nat, j = d := ⟨j.toNat, by omega⟩
  obtain ⟨n, rfl⟩ : ∃ n : Nat, p = n := ⟨p.toNat, by omega⟩
  simp only [Int.toNat_natCast] at h
  have hdv : d ∣ n := by
   apply Nat.dvd_of_mod_eq_zero
   have : ((n % d : Nat) : Int) = 0 := by rw [Int.natCast_emod]; exact h0
   omega
  have hn : d * d ≤ n := by
   have : ((d * d : Nat) : Int) ≤ n := by simpa using hjj
   omega
  rcases h.2 d hdv with e | e
  ·
   omega
  ·
   subst e
   have : d * 2 ≤ d * d := Nat.mul_le_mul_left d (by omega)
   omega
theorem primeB_loop {p : Int} {b : Bool} (h1 : 2 ≤ p) (h2 : p ≤ 10007) (h : b = true ↔ ∀ j : Int, 2 ≤ j → j * j ≤ p → p % j ≠ 0) : b = primeB p := by
 rw [Bool.eq_iff_iff, primeB_iff, h, trial_iff h1]
 exact ⟨fun h => ⟨h1, h2, h⟩, fun h => h.2.2⟩
theorem primeB_lo {p : Int} (h : ¬ 2 ≤ p) : primeB p = false := by
 rw [Bool.eq_false_iff]; intro e; exact h (primeB_iff.1 e).1
theorem primeB_hi {p : Int} (h : ¬ p ≤ 10007) : primeB p = false := by
 rw [Bool.eq_false_iff]; intro e; exact h (primeB_iff.1 e).2.1
end Go.Proofs.Ytlmolloallhclaa.Num
set_option linter.unusedVariables false
set_option linter.unusedSimpArgs false
namespace Go.Proofs.Ytlmolloallhclaa.Num
def su (f : Nat → Int) : Nat → Int
 | 0 => 0
 | n + 1 => su f n + f n
theorem su_congr {f g : Nat → Int} : ∀ {n : Nat}, (∀ i, i < n → f i = g i) → su f n = su g n
 | 0, _ => rfl
 | n + 1, h => by rw [su, su, su_congr (n := n) (fun i hi => h i (by omega)), h n (by omega)]
theorem su_zero {f : Nat → Int} : ∀ {n : Nat}, (∀ i, i < n → f i = 0) → su f n = 0
 | 0, _ => rfl
 | n + 1, h => by rw [su, su_zero (n := n) (fun i hi => h i (by omega)), h n (by omega)]; rfl
theorem su_add (f g : Nat → Int) : ∀ n, su (fun i => f i + g i) n = su f n + su g n
 | 0 => rfl
 | n + 1 => by simp only [su, su_add f g n]; omega
theorem su_sub (f g : Nat → Int) : ∀ n, su (fun i => f i - g i) n = su f n - su g n
 | 0 => rfl
 | n + 1 => by simp only [su, su_sub f g n]; omega
theorem su_mul (c : Int) (f : Nat → Int) : ∀ n, su (fun i => c * f i) n = c * su f n
 | 0 => by simp [su]
 | n + 1 => by simp only [su, su_mul c f n, Int.mul_add]
theorem su_mulr (c : Int) (f : Nat → Int) (n : Nat) : su (fun i => f i * c) n = su f n * c := by
 rw [Int.mul_comm, ← su_mul]; exact su_congr fun i _ => Int.mul_comm _ _
theorem su_split (f : Nat → Int) (m : Nat) : ∀ n, su f (m + n) = su f m + su (fun i => f (m + i)) n
 | 0 => by simp [su]
 | n + 1 => by rw [← Nat.add_assoc, su, su_split f m n, su]; omega
theorem su_head (f : Nat → Int) (n : Nat) : su f (n + 1) = f 0 + su (fun i => f (i + 1)) n := by
 rw [Nat.add_comm n 1, su_split f 1 n]
 simp only [su]
 rw [Int.zero_add, su_congr (g := fun i => f (i + 1)) (fun i _ => by rw [Nat.add_comm])]
theorem su_ext {f : Nat → Int} {m n : Nat} (h : m ≤ n) (hz : ∀ i, m ≤ i → i < n → f i = 0) : su f n = su f m := by
 obtain ⟨d, rfl⟩ : ∃ d, n = m + d := ⟨n - m, by omega⟩
 rw [su_split, su_zero (n := d) (fun i hi => hz _ (by omega) (by omega))]; omega
theorem su_rev (f : Nat → Int) : ∀ n, su (fun i => f (n - 1 - i)) n = su f n
 | 0 => rfl
 | n + 1 => by
  rw [su_head, su, Int.add_comm]
  congr 1
  rw [← su_rev f n]
  exact su_congr fun i hi => by congr 1; omega
theorem su_swap (f : Nat → Nat → Int) : ∀ m n, su (fun i => su (fun j => f i j) n) m = su (fun j => su (fun i => f i j) m) n
 | 0, n => by rw [su]; exact (su_zero fun _ _ => rfl).symm
 | m + 1, n => by
  rw [su, su_swap f m n, ← su_add]
  exact su_congr fun j _ => by rw [su]
theorem su_tri (f : Nat → Nat → Int) : ∀ n, su (fun i => su (fun j => f i j) (i + 1)) n = su (fun j => su (fun i => f (j + i) j) (n - j)) n
 | 0 => rfl
 | n + 1 => by
  rw [su, su_tri f n]
  have h : ∀ j, j < n → su (fun i => f (j + i) j) (n + 1 - j) = su (fun i => f (j + i) j) (n - j) + f n j := fun j hj => by
   rw [show n + 1 - j = (n - j) + 1 by omega, su, show j + (n - j) = n by omega]
  have h3 : su (fun j => su (fun i => f (j + i) j) (n + 1 - j)) n = su (fun j => su (fun i => f (j + i) j) (n - j)) n + su (fun j => f n j) n := by rw [su_congr (n := n) h, su_add]
  have h2 : su (fun i => f (n + i) n) (n + 1 - n) = f n n := by rw [show n + 1 - n = 1 by omega]; simp [su]
  rw [su, su, h2, h3]
  omega
def cv (F G : Nat → Int) (n : Nat) : Int := su (fun i => F i * G (n - i)) (n + 1)
theorem cv_comm (F G : Nat → Int) (n : Nat) : cv F G n = cv G F n := by
 unfold cv
 rw [← su_rev]
 exact su_congr fun i hi => by
  rw [show n + 1 - 1 - i = n - i by omega, show n - (n - i) = i by omega, Int.mul_comm]
theorem cv_addl (F G H : Nat → Int) (n : Nat) : cv (fun i => F i + G i) H n = cv F H n + cv G H n := by
 unfold cv; rw [← su_add]; exact su_congr fun i _ => Int.add_mul _ _ _
theorem cv_addr (F G H : Nat → Int) (n : Nat) : cv F (fun i => G i + H i) n = cv F G n + cv F H n := by
 rw [cv_comm, cv_addl, cv_comm G, cv_comm H]
theorem cv_mull (c : Int) (F G : Nat → Int) (n : Nat) : cv (fun i => c * F i) G n = c * cv F G n := by
 unfold cv; rw [← su_mul]; exact su_congr fun i _ => Int.mul_assoc _ _ _
theorem cv_assoc (F G H : Nat → Int) (n : Nat) : cv (cv F G) H n = cv F (cv G H) n := by
 unfold cv
 have h1 : su (fun i => su (fun j => F j * G (i - j)) (i + 1) * H (n - i)) (n + 1) = su (fun i => su (fun j => F j * G (i - j) * H (n - i)) (i + 1)) (n + 1) :=
  su_congr fun i _ => (su_mulr _ _ _).symm
 rw [h1, su_tri (fun i j => F j * G (i - j) * H (n - i))]
 refine su_congr fun j hj => ?_
 rw [← su_mul, show n + 1 - j = n - j + 1 by omega]
 exact su_congr fun i _ => by rw [show j + i - j = i by omega, show n - (j + i) = n - j - i by omega, Int.mul_assoc]
theorem cv_one (F : Nat → Int) (c : Int) (n : Nat) : cv (fun i => if i = 0 then c else 0) F n = c * F n := by
 unfold cv
 rw [su_head, su_zero fun i _ => by simp]
 simp
theorem cv_zero (F : Nat → Int) (n : Nat) : cv (fun _ => 0) F n = 0 := su_zero fun i _ => Int.zero_mul _
def cg (p a b : Int) : Prop := p ∣ a - b
theorem cg.refl {p : Int} (a : Int) : cg p a a := ⟨0, by omega⟩
theorem cg.of_eq {p a b : Int} (h : a = b) : cg p a b := h ▸ cg.refl a
theorem cg.symm {p a b : Int} : cg p a b → cg p b a := fun ⟨k, h⟩ => ⟨-k, by rw [Int.mul_neg, ← h]; omega⟩
theorem cg.trans {p a b c : Int} : cg p a b → cg p b c → cg p a c := fun ⟨k, h⟩ ⟨m, h'⟩ => ⟨k + m, by rw [Int.mul_add, ← h, ← h']; omega⟩
theorem cg.add {p a b c d : Int} : cg p a b → cg p c d → cg p (a + c) (b + d) := fun ⟨k, h⟩ ⟨m, h'⟩ => ⟨k + m, by rw [Int.mul_add, ← h, ← h']; omega⟩
theorem cg.neg {p a b : Int} : cg p a b → cg p (-a) (-b) := fun ⟨k, h⟩ => ⟨-k, by rw [Int.mul_neg, ← h]; omega⟩
theorem cg.sub {p a b c d : Int} (h : cg p a b) (h' : cg p c d) : cg p (a - c) (b - d) := by
 rw [Int.sub_eq_add_neg, Int.sub_eq_add_neg]; exact h.add h'.neg
theorem cg.mul {p a b c d : Int} : cg p a b → cg p c d → cg p (a * c) (b * d) := fun ⟨k, h⟩ ⟨m, h'⟩ => ⟨k * c + b * m, by
 have e1 : a = b + p * k := by omega
 have e2 : c = d + p * m := by omega
 rw [e1, e2]; grind⟩
theorem cg.mod (p a : Int) : cg p (a % p) a := ⟨-(a / p), by have := Int.mul_ediv_add_emod a p; rw [Int.mul_neg]; omega⟩
theorem cg.emod {p a b : Int} (h : cg p a b) : a % p = b % p := by
 obtain ⟨k, h⟩ := h
 rw [show a = b + p * k by omega, Int.add_mul_emod_self_left]
theorem cg.of_emod {p a b : Int} (h : a % p = b % p) : cg p a b := (cg.mod p a).symm.trans (h ▸ cg.mod p b)
theorem cg.eq {p a b : Int} (h : cg p a b) (ha : 0 ≤ a ∧ a < p) (hb : 0 ≤ b ∧ b < p) : a = b := by
 have := h.emod; rwa [Int.emod_eq_of_lt ha.1 ha.2, Int.emod_eq_of_lt hb.1 hb.2] at this
theorem cg.zero {p a : Int} : cg p a 0 ↔ a % p = 0 := ⟨fun h => by have := h.emod; simpa using this, fun h => cg.of_emod (by simpa using h)⟩
theorem cg.su {p : Int} {f g : Nat → Int} : ∀ {n : Nat}, (∀ i, i < n → cg p (f i) (g i)) → cg p (su f n) (su g n)
 | 0, _ => cg.refl _
 | n + 1, h => (cg.su (n := n) fun i hi => h i (by omega)).add (h n (by omega))
theorem cg.cv {p : Int} {F F' G G' : Nat → Int} (hF : ∀ i, cg p (F i) (F' i)) (hG : ∀ i, cg p (G i) (G' i)) (n : Nat) : cg p (cv F G n) (cv F' G' n) := cg.su fun i _ => (hF i).mul (hG _)
theorem cg.pow {p a b : Int} (h : cg p a b) : ∀ n : Nat, cg p (a ^ n) (b ^ n)
 | 0 => by rw [Int.pow_zero, Int.pow_zero]; exact cg.refl 1
 | n + 1 => by rw [Int.pow_succ, Int.pow_succ]; exact (cg.pow h n).mul h
theorem inv_cg {p x : Int} (hp : IsP p) (hx : x % p ≠ 0) : cg p (x * (x ^ (p - 2).toNat % p)) 1 := by
 have h2 := hp.1
 obtain ⟨n, hn⟩ : ∃ n : Nat, p = n := ⟨p.toNat, by omega⟩
 subst hn
 have hpr : Pr n := by simpa using hp.2.2
 obtain ⟨a, ha⟩ : ∃ a : Nat, x % (n : Int) = a := ⟨(x % (n : Int)).toNat, by have := emod_bd (x := x) (p := n) (by omega); omega⟩
 have hb := emod_bd (x := x) (p := (n : Int)) (by omega)
 have hnd : ¬ n ∣ a := fun h => by have := Nat.le_of_dvd (by omega) h; omega
 have hf := hpr.fermat1 hnd
 have h1 : cg n ((a : Int) ^ (n - 1)) 1 := by
  refine cg.of_emod ?_
  have : ((a ^ (n - 1) % n : Nat) : Int) = 1 := by rw [hf]; rfl
  rw [Int.natCast_emod, Int.natCast_pow] at this
  rw [this, Int.emod_eq_of_lt (by omega) (by omega)]
 have hxa : cg n x a := ha ▸ (cg.mod n x).symm
 refine ((cg.refl x).mul (cg.mod _ _)).trans ?_
 have e : x * x ^ ((n : Int) - 2).toNat = x ^ (n - 1) := by
  rw [Int.mul_comm, ← Int.pow_succ]; congr 1; omega
 rw [e]
 exact (hxa.pow _).trans h1
theorem cg_mul0 {p a b : Int} (hp : IsP p) (h : cg p (a * b) 0) : cg p a 0 ∨ cg p b 0 := by
 by_cases ha : a % p = 0
 ·
  exact .inl (cg.zero.2 ha)
 ·
  right
  have h1 := inv_cg hp ha
  have h2 : cg p (a ^ (p - 2).toNat % p * (a * b)) (a ^ (p - 2).toNat % p * 0) := (cg.refl _).mul h
  have h3 : a ^ (p - 2).toNat % p * (a * b) = a * (a ^ (p - 2).toNat % p) * b := by grind
  rw [h3, Int.mul_zero] at h2
  have h4 := h1.mul (cg.refl b)
  rw [Int.one_mul] at h4
  exact h4.symm.trans h2
end Go.Proofs.Ytlmolloallhclaa.Num
set_option linter.unusedVariables false
set_option linter.unusedSimpArgs false
namespace Go.Proofs.Ytlmolloallhclaa.H
open Go.RowKit Go.Proofs.Ytlmolloallhclaa.Num
structure Rin (α : Type) where
 ad : α → α → α
 ml : α → α → α
 ng : α → α
 z : α
 o : α
 ad_c : ∀ a b, ad a b = ad b a
 ad_a : ∀ a b c, ad (ad a b) c = ad a (ad b c)
 ad_z : ∀ a, ad a z = a
 ad_n : ∀ a, ad a (ng a) = z
 ml_c : ∀ a b, ml a b = ml b a
 ml_a : ∀ a b c, ml (ml a b) c = ml a (ml b c)
 ml_o : ∀ a, ml a o = a
 ml_d : ∀ a b c, ml a (ad b c) = ad (ml a b) (ml a c)
theorem Rin.z_ad {α : Type} (R : Rin α) (a : α) : R.ad R.z a = a := by rw [R.ad_c, R.ad_z]
theorem Rin.n_ad {α : Type} (R : Rin α) (a : α) : R.ad (R.ng a) a = R.z := by rw [R.ad_c, R.ad_n]
theorem Rin.cancel {α : Type} (R : Rin α) {a b c : α} (h : R.ad a b = R.ad a c) : b = c := by
 have := congrArg (R.ad (R.ng a)) h
 rwa [← R.ad_a, ← R.ad_a, R.n_ad, R.z_ad, R.z_ad] at this
theorem Rin.ng_of {α : Type} (R : Rin α) {a b : α} (h : R.ad a b = R.z) : b = R.ng a := R.cancel (h.trans (R.ad_n a).symm)
theorem Rin.ml_z {α : Type} (R : Rin α) (a : α) : R.ml a R.z = R.z := by
 have h : R.ad (R.ml a R.z) (R.ml a R.z) = R.ad (R.ml a R.z) R.z := by rw [← R.ml_d, R.ad_z, R.ad_z]
 exact R.cancel h
theorem Rin.z_ml {α : Type} (R : Rin α) (a : α) : R.ml R.z a = R.z := by rw [R.ml_c, R.ml_z]
theorem Rin.ng_z {α : Type} (R : Rin α) : R.ng R.z = R.z := (R.ng_of (R.ad_z R.z)).symm
theorem Rin.ng_ng {α : Type} (R : Rin α) (a : α) : R.ng (R.ng a) = a := (R.ng_of (R.n_ad a)).symm
theorem Rin.ml_ng {α : Type} (R : Rin α) (a b : α) : R.ml a (R.ng b) = R.ng (R.ml a b) := R.ng_of (by rw [← R.ml_d, R.ad_n, R.ml_z])
theorem Rin.ad4 {α : Type} (R : Rin α) (a b c d : α) : R.ad (R.ad a b) (R.ad c d) = R.ad (R.ad a c) (R.ad b d) := by
 rw [R.ad_a, R.ad_a, ← R.ad_a b c d, R.ad_c b c, R.ad_a c b d]
theorem Rin.ng_ad {α : Type} (R : Rin α) (a b : α) : R.ng (R.ad a b) = R.ad (R.ng a) (R.ng b) := (R.ng_of (by rw [R.ad4, R.ad_n, R.ad_n, R.ad_z])).symm
theorem Rin.d_ml {α : Type} (R : Rin α) (a b c : α) : R.ml (R.ad a b) c = R.ad (R.ml a c) (R.ml b c) := by rw [R.ml_c, R.ml_d, R.ml_c c a, R.ml_c c b]
def Rin.sg {α : Type} (R : Rin α) : Nat → α → α
 | 0, a => a
 | n + 1, a => R.ng (R.sg n a)
theorem Rin.sg_z {α : Type} (R : Rin α) : ∀ n, R.sg n R.z = R.z
 | 0 => rfl
 | n + 1 => by rw [sg, R.sg_z n, R.ng_z]
theorem Rin.sg_ad {α : Type} (R : Rin α) : ∀ n a b, R.sg n (R.ad a b) = R.ad (R.sg n a) (R.sg n b)
 | 0, _, _ => rfl
 | n + 1, a, b => by rw [sg, R.sg_ad n, R.ng_ad]; rfl
theorem Rin.sg_ml {α : Type} (R : Rin α) : ∀ n a b, R.sg n (R.ml a b) = R.ml a (R.sg n b)
 | 0, _, _ => rfl
 | n + 1, a, b => by rw [sg, R.sg_ml n, ← R.ml_ng]; rfl
theorem Rin.sg_sg {α : Type} (R : Rin α) (a : α) : ∀ n m, R.sg n (R.sg m a) = R.sg (n + m) a
 | 0, m => by rw [Nat.zero_add]; rfl
 | n + 1, m => by rw [sg, R.sg_sg a n m, show n + 1 + m = (n + m) + 1 by omega]; rfl
def Rin.sm {α : Type} (R : Rin α) (f : Nat → α) : Nat → α
 | 0 => R.z
 | n + 1 => R.ad (R.sm f n) (f n)
theorem Rin.sm_congr {α : Type} (R : Rin α) {f g : Nat → α} : ∀ {n : Nat}, (∀ i, i < n → f i = g i) → R.sm f n = R.sm g n
 | 0, _ => rfl
 | n + 1, h => by rw [sm, sm, R.sm_congr fun i hi => h i (by omega), h n (by omega)]
theorem Rin.sm_zero {α : Type} (R : Rin α) {f : Nat → α} : ∀ {n : Nat}, (∀ i, i < n → f i = R.z) → R.sm f n = R.z
 | 0, _ => rfl
 | n + 1, h => by rw [sm, R.sm_zero fun i hi => h i (by omega), h n (by omega), R.ad_z]
theorem Rin.sm_add {α : Type} (R : Rin α) (f g : Nat → α) : ∀ n, R.sm (fun i => R.ad (f i) (g i)) n = R.ad (R.sm f n) (R.sm g n)
 | 0 => by rw [sm, sm, sm, R.ad_z]
 | n + 1 => by rw [sm, sm, sm, R.sm_add f g n, R.ad4]
theorem Rin.sm_ml {α : Type} (R : Rin α) (c : α) (f : Nat → α) : ∀ n, R.sm (fun i => R.ml c (f i)) n = R.ml c (R.sm f n)
 | 0 => by rw [sm, sm, R.ml_z]
 | n + 1 => by rw [sm, sm, R.sm_ml c f n, R.ml_d]
theorem Rin.sm_head {α : Type} (R : Rin α) (f : Nat → α) : ∀ n, R.sm f (n + 1) = R.ad (f 0) (R.sm (fun i => f (i + 1)) n)
 | 0 => by rw [sm, sm, sm, R.ad_c]
 | n + 1 => by rw [sm, R.sm_head f n, sm, R.ad_a]
theorem Rin.sm_one {α : Type} (R : Rin α) {f : Nat → α} {r : Nat} : ∀ {n : Nat}, r < n → (∀ i, i < n → i ≠ r → f i = R.z) → R.sm f n = f r
 | 0, h, _ => by omega
 | n + 1, h, hz => by
  rw [sm]
  by_cases e : n = r
  ·
   subst e
   rw [sm_zero R fun i hi => hz i (by omega) (by omega), R.z_ad]
  ·
   rw [R.sm_one (by omega) fun i hi hne => hz i (by omega) hne, hz n (by omega) e, R.ad_z]
theorem Rin.sm_two {α : Type} (R : Rin α) {f : Nat → α} {r : Nat} : ∀ {n : Nat}, r + 1 < n → (∀ i, i < n → i ≠ r → i ≠ r + 1 → f i = R.z) → R.sm f n = R.ad (f r) (f (r + 1))
 | 0, h, _ => by omega
 | n + 1, h, hz => by
  rw [sm]
  by_cases e : n = r + 1
  ·
   subst e
   rw [sm_one R (r := r) (by omega) fun i hi hne => hz i (by omega) hne (by omega)]
  ·
   rw [R.sm_two (by omega) fun i hi h1 h2 => hz i (by omega) h1 h2, hz n (by omega) (by omega) e, R.ad_z]
def Rin.sk (i a : Nat) : Nat := if a < i then a else a + 1
theorem Rin.sk_lt {i a n : Nat} (h : a < n) : sk i a < n + 1 := by unfold sk; split <;> omega
theorem Rin.sk_ne (i a : Nat) : sk i a ≠ i := by unfold sk; split <;> omega
def Rin.dt {α : Type} (R : Rin α) : Nat → (Nat → Nat → α) → α
 | 0, _ => R.o
 | n + 1, M => R.sm (fun i => R.sg i (R.ml (M i 0) (R.dt n fun a b => M (sk i a) (b + 1)))) (n + 1)
theorem Rin.dt_congr {α : Type} (R : Rin α) : ∀ {n : Nat} {M M' : Nat → Nat → α}, (∀ i j, i < n → j < n → M i j = M' i j) → R.dt n M = R.dt n M'
 | 0, _, _, _ => rfl
 | n + 1, M, M', h => by
  rw [dt, dt]
  refine R.sm_congr fun i hi => ?_
  rw [h i 0 hi (by omega), R.dt_congr (n := n) fun a b ha hb => h _ _ (sk_lt ha) (by omega)]
def Rin.up {α : Type} (M : Nat → Nat → α) (r : Nat) (v : Nat → α) : Nat → Nat → α := fun i j => if i = r then v j else M i j
theorem Rin.up_self {α : Type} (M : Nat → Nat → α) (r : Nat) : up M r (M r) = M := by
 funext i j; unfold up; split
 ·
  subst_vars; rfl
 ·
  rfl
theorem Rin.up_comm {α : Type} (M : Nat → Nat → α) {r s : Nat} (h : r ≠ s) (u v : Nat → α) : up (up M r u) s v = up (up M s v) r u := by
 funext i j; unfold up
 by_cases h1 : i = r
 ·
  subst h1; rw [if_neg h, if_pos rfl, if_pos rfl]
 ·
  rw [if_neg h1, if_neg h1]
theorem Rin.minor_up {α : Type} (M : Nat → Nat → α) {r i : Nat} (h : i ≠ r) (v : Nat → α) : (fun a b => up M r v (sk i a) (b + 1)) = up (fun a b => M (sk i a) (b + 1)) (if r < i then r else r - 1) fun b => v (b + 1) := by
 funext a b
 unfold up sk
 by_cases h1 : a < i
 ·
  rw [if_pos h1]
  by_cases h2 : a = r
  ·
   subst h2; rw [if_pos rfl, if_pos h1, if_pos rfl]
  ·
   rw [if_neg h2, if_neg (by split <;> omega)]; show _ = M (if a < i then a else a + 1) (b + 1); rw [if_pos h1]
 ·
  rw [if_neg h1]
  by_cases h2 : a + 1 = r
  ·
   rw [if_pos h2, if_pos]; rw [if_neg (by omega)]; omega
  ·
   rw [if_neg h2, if_neg (by split <;> omega)]; show _ = M (if a < i then a else a + 1) (b + 1); rw [if_neg h1]
theorem Rin.minor_same {α : Type} (M : Nat → Nat → α) (r : Nat) (v : Nat → α) : (fun a b => up M r v (sk r a) (b + 1)) = fun a b => M (sk r a) (b + 1) := by
 funext a b; unfold up; rw [if_neg (sk_ne r a)]
theorem Rin.dt_row {α : Type} (R : Rin α) : ∀ (n r : Nat) (M : Nat → Nat → α) (u v : Nat → α), R.dt n (up M r fun j => R.ad (u j) (v j)) = R.ad (R.dt n (up M r u)) (R.dt n (up M r v)) ∨ n ≤ r
 | 0, r, _, _, _ => .inr (Nat.zero_le _)
 | n + 1, r, M, u, v => by
  by_cases hr : r < n + 1
  ·
   left
   rw [dt, dt, dt, ← R.sm_add]
   refine R.sm_congr fun i hi => ?_
   rw [← R.sg_ad]
   congr 1
   by_cases h : i = r
   ·
    subst h
    rw [minor_same, minor_same, minor_same, show up M i (fun j => R.ad (u j) (v j)) i 0 = R.ad (u 0) (v 0) from if_pos rfl, show up M i u i 0 = u 0 from if_pos rfl, show up M i v i 0 = v 0 from if_pos rfl, R.d_ml]
   ·
    rw [minor_up M h, minor_up M h, minor_up M h, show up M r (fun j => R.ad (u j) (v j)) i 0 = M i 0 from if_neg h, show up M r u i 0 = M i 0 from if_neg h, show up M r v i 0 = M i 0 from if_neg h, ← R.ml_d]
    rcases R.dt_row n (if r < i then r else r - 1) (fun a b => M (sk i a) (b + 1)) (fun b => u (b + 1)) (fun b => v (b + 1)) with h1 | h1
    ·
     rw [h1]
    ·
     exfalso; revert h1; split <;> omega
  ·
   right; omega
theorem Rin.dt_scale {α : Type} (R : Rin α) : ∀ (n r : Nat) (M : Nat → Nat → α) (c : α) (u : Nat → α), R.dt n (up M r fun j => R.ml c (u j)) = R.ml c (R.dt n (up M r u)) ∨ n ≤ r
 | 0, r, _, _, _ => .inr (Nat.zero_le _)
 | n + 1, r, M, c, u => by
  by_cases hr : r < n + 1
  ·
   left
   rw [dt, dt, ← R.sm_ml]
   refine R.sm_congr fun i hi => ?_
   rw [← R.sg_ml]
   congr 1
   by_cases h : i = r
   ·
    subst h
    rw [minor_same, minor_same, show up M i (fun j => R.ml c (u j)) i 0 = R.ml c (u 0) from if_pos rfl, show up M i u i 0 = u 0 from if_pos rfl, R.ml_a]
   ·
    rw [minor_up M h, minor_up M h, show up M r (fun j => R.ml c (u j)) i 0 = M i 0 from if_neg h, show up M r u i 0 = M i 0 from if_neg h]
    rcases R.dt_scale n (if r < i then r else r - 1) (fun a b => M (sk i a) (b + 1)) c (fun b => u (b + 1)) with h1 | h1
    ·
     rw [h1, ← R.ml_a, ← R.ml_a, R.ml_c (M i 0) c]
    ·
     exfalso; revert h1; split <;> omega
  ·
   right; omega
theorem Rin.dt_ad {α : Type} (R : Rin α) {n r : Nat} (hr : r < n) (M : Nat → Nat → α) (u v : Nat → α) : R.dt n (up M r fun j => R.ad (u j) (v j)) = R.ad (R.dt n (up M r u)) (R.dt n (up M r v)) := by
 rcases R.dt_row n r M u v with h | h
 ·
  exact h
 ·
  omega
theorem Rin.dt_ml {α : Type} (R : Rin α) {n r : Nat} (hr : r < n) (M : Nat → Nat → α) (c : α) (u : Nat → α) : R.dt n (up M r fun j => R.ml c (u j)) = R.ml c (R.dt n (up M r u)) := by
 rcases R.dt_scale n r M c u with h | h
 ·
  exact h
 ·
  omega
theorem Rin.dt_zrow {α : Type} (R : Rin α) {n r : Nat} (hr : r < n) (M : Nat → Nat → α) : R.dt n (up M r fun _ => R.z) = R.z := by
 have := R.dt_ml hr M R.z fun _ => R.z
 rw [R.z_ml] at this
 rwa [R.z_ml] at this
theorem Rin.dt_adj {α : Type} (R : Rin α) : ∀ {n r : Nat} {M : Nat → Nat → α}, r + 1 < n → (∀ j, j < n → M r j = M (r + 1) j) → R.dt n M = R.z
 | 0, r, _, h, _ => by omega
 | n + 1, r, M, hr, he => by
  rw [dt, R.sm_two (r := r) hr fun i hi h1 h2 => ?_]
  ·
   have e : R.dt n (fun a b => M (sk (r + 1) a) (b + 1)) = R.dt n fun a b => M (sk r a) (b + 1) := R.dt_congr fun a b ha hb => by
    unfold sk
    by_cases h : a < r
    ·
     rw [if_pos h, if_pos (by omega)]
    ·
     by_cases h2 : a = r
     ·
      subst h2; rw [if_pos (by omega), if_neg (by omega)]; exact he _ (by omega)
     ·
      rw [if_neg h, if_neg (by omega)]
   rw [e, ← he 0 (by omega), sg, R.ad_n]
  ·
   rw [R.dt_adj (n := n) (r := if i < r then r - 1 else r) (M := fun a b => M (sk i a) (b + 1)) (by split <;> omega) fun j hj => ?_, R.ml_z, R.sg_z]
   show M (sk i (if i < r then r - 1 else r)) (j + 1) = M (sk i ((if i < r then r - 1 else r) + 1)) (j + 1)
   by_cases h : i < r
   ·
    rw [if_pos h, show sk i (r - 1) = r by unfold sk; rw [if_neg (by omega)]; omega, show sk i (r - 1 + 1) = r + 1 by unfold sk; rw [if_neg (by omega)]; omega]
    exact he _ (by omega)
   ·
    rw [if_neg h, show sk i r = r by unfold sk; rw [if_pos (by omega)], show sk i (r + 1) = r + 1 by unfold sk; rw [if_pos (by omega)]]
    exact he _ (by omega)
theorem Rin.dt_xchg {α : Type} (R : Rin α) {n r s : Nat} (hr : r < n) (hs : s < n) (hne : r ≠ s) (hz : ∀ (M : Nat → Nat → α) (u : Nat → α), R.dt n (up (up M r u) s u) = R.z) (M : Nat → Nat → α) (u v : Nat → α) :
  R.dt n (up (up M r v) s u) = R.ng (R.dt n (up (up M r u) s v)) := by
 have h := hz M fun j => R.ad (u j) (v j)
 rw [R.dt_ad hs, up_comm M hne, up_comm M hne, R.dt_ad hr, R.dt_ad hr, ← up_comm M hne, ← up_comm M hne, ← up_comm M hne, ← up_comm M hne, hz, hz, R.z_ad, R.ad_z] at h
 exact R.ng_of ((R.ad_c _ _).trans h)
theorem Rin.up_two {α : Type} (M : Nat → Nat → α) {r s : Nat} (hne : r ≠ s) : up (up M r (M r)) s (M s) = M := by rw [up_self, up_self]
def Rin.xc {α : Type} (M : Nat → Nat → α) (r s : Nat) : Nat → Nat → α := up (up M r (M s)) s (M r)
theorem Rin.dt_adjswap {α : Type} (R : Rin α) {n r : Nat} (hr : r + 1 < n) (M : Nat → Nat → α) : R.dt n (xc M r (r + 1)) = R.ng (R.dt n M) := by
 have := R.dt_xchg (r := r) (s := r + 1) (n := n) (by omega) hr (by omega) (fun M u => R.dt_adj (r := r) hr fun j _ => by
  unfold up; rw [if_neg (by omega), if_pos rfl, if_pos rfl]) M (M r) (M (r + 1))
 rw [up_two M (by omega)] at this
 exact this
theorem Rin.dt_eq {α : Type} (R : Rin α) : ∀ (d : Nat) {n r : Nat} {M : Nat → Nat → α}, r + d + 1 < n → (∀ j, j < n → M r j = M (r + d + 1) j) → R.dt n M = R.z
 | 0, n, r, M, h, he => R.dt_adj (r := r) h he
 | d + 1, n, r, M, h, he => by
  have h1 := R.dt_adjswap (n := n) (r := r + d + 1) (by omega) M
  have h2 := R.dt_eq d (n := n) (r := r) (M := xc M (r + d + 1) (r + d + 1 + 1)) (by omega) fun j hj => by
   unfold xc up
   rw [if_neg (by omega), if_neg (by omega), if_neg (by omega), if_pos rfl]
   exact he j hj
  rw [h2] at h1
  have := congrArg R.ng h1
  rw [R.ng_z, R.ng_ng] at this
  exact this.symm
theorem Rin.dt_same {α : Type} (R : Rin α) {n r s : Nat} (hr : r < n) (hs : s < n) (hne : r ≠ s) {M : Nat → Nat → α} (he : ∀ j, j < n → M r j = M s j) : R.dt n M = R.z := by
 rcases Nat.lt_or_gt_of_ne hne with h | h
 ·
  refine R.dt_eq (s - r - 1) (r := r) (by omega) fun j hj => ?_
  rw [show r + (s - r - 1) + 1 = s by omega]; exact he j hj
 ·
  refine R.dt_eq (r - s - 1) (r := s) (by omega) fun j hj => ?_
  rw [show s + (r - s - 1) + 1 = r by omega]; exact (he j hj).symm
theorem Rin.dt_swap {α : Type} (R : Rin α) {n r s : Nat} (hr : r < n) (hs : s < n) (hne : r ≠ s) (M : Nat → Nat → α) : R.dt n (xc M r s) = R.ng (R.dt n M) := by
 have := R.dt_xchg hr hs hne (fun M u => R.dt_same hr hs hne fun j _ => by unfold up; rw [if_neg hne, if_pos rfl, if_pos rfl]) M (M r) (M s)
 rw [up_two M hne] at this
 exact this
theorem Rin.dt_addrow {α : Type} (R : Rin α) {n r s : Nat} (hr : r < n) (hs : s < n) (hne : r ≠ s) (M : Nat → Nat → α) (c : α) : R.dt n (up M r fun j => R.ad (M r j) (R.ml c (M s j))) = R.dt n M := by
 rw [R.dt_ad hr M (M r) (fun j => R.ml c (M s j)), R.dt_ml hr, up_self, R.dt_same hr hs hne (M := up M r (M s)) fun j _ => by unfold up; rw [if_pos rfl, if_neg (fun h => hne h.symm)], R.ml_z, R.ad_z]
theorem Rin.dt_rows {α : Type} (R : Rin α) {n : Nat} (M : Nat → Nat → α) (c : Nat → α) : ∀ k, k ≤ n → R.dt (n + 1) (fun i j => if 1 ≤ i ∧ i ≤ k then R.ad (M i j) (R.ml (c i) (M 0 j)) else M i j) = R.dt (n + 1) M
 | 0, _ => R.dt_congr fun i j _ _ => if_neg (by omega)
 | k + 1, h => by
  rw [← R.dt_rows M c k (by omega), ← R.dt_addrow (n := n + 1) (r := k + 1) (s := 0) (by omega) (by omega) (by omega) (fun i j => if 1 ≤ i ∧ i ≤ k then R.ad (M i j) (R.ml (c i) (M 0 j)) else M i j) (c (k + 1))]
  refine R.dt_congr fun i j _ _ => ?_
  unfold up
  by_cases e : i = k + 1
  ·
   subst e
   rw [if_pos (by omega), if_pos rfl]
   show _ = R.ad (if 1 ≤ k + 1 ∧ k + 1 ≤ k then _ else _) (R.ml _ (if 1 ≤ 0 ∧ 0 ≤ k then _ else _))
   rw [if_neg (by omega), if_neg (by omega)]
  ·
   rw [if_neg e]
   show _ = if 1 ≤ i ∧ i ≤ k then _ else _
   by_cases e2 : 1 ≤ i ∧ i ≤ k
   ·
    rw [if_pos (by omega), if_pos e2]
   ·
    rw [if_neg (by omega), if_neg e2]
theorem Rin.dt_first {α : Type} (R : Rin α) {n : Nat} {M : Nat → Nat → α} (h : ∀ i, 1 ≤ i → i ≤ n → M i 0 = R.z) : R.dt (n + 1) M = R.ml (M 0 0) (R.dt n fun a b => M (a + 1) (b + 1)) := by
 rw [dt, R.sm_one (r := 0) (by omega) fun i hi hne => by rw [h i (by omega) (by omega), R.z_ml, R.sg_z]]
 rfl
theorem Rin.dt_zcol {α : Type} (R : Rin α) {n : Nat} {M : Nat → Nat → α} (h : ∀ i, i ≤ n → M i 0 = R.z) : R.dt (n + 1) M = R.z := by
 rw [dt]
 exact R.sm_zero fun i hi => by rw [h i (by omega), R.z_ml, R.sg_z]
def Rin.cy {α : Type} (M : Nat → Nat → α) (s k : Nat) : Nat → Nat → α := fun i j => if i < s then M i j else if i < s + k then M (i + 1) j else if i = s + k then M s j else M i j
theorem Rin.dt_cy {α : Type} (R : Rin α) {n : Nat} (M : Nat → Nat → α) (s : Nat) : ∀ k, s + k < n → R.dt n (cy M s k) = R.sg k (R.dt n M)
 | 0, h => R.dt_congr fun i j _ _ => by
  unfold cy
  by_cases h1 : i < s
  ·
   rw [if_pos h1]
  ·
   rw [if_neg h1, if_neg (by omega)]
   by_cases h2 : i = s + 0
   ·
    rw [if_pos h2, h2]; rfl
   ·
    rw [if_neg h2]
 | k + 1, h => by
  rw [sg, ← R.dt_cy M s k (by omega), ← R.dt_adjswap (n := n) (r := s + k) (by omega)]
  refine R.dt_congr fun i j _ _ => ?_
  unfold xc up cy
  by_cases h1 : i = s + k + 1
  ·
   subst h1
   rw [if_pos rfl, if_neg (by omega), if_neg (by omega), if_pos (by omega), if_neg (by omega), if_neg (by omega), if_pos rfl]
  ·
   rw [if_neg h1]
   by_cases h2 : i = s + k
   ·
    subst h2
    rw [if_pos rfl, if_neg (by omega), if_pos (by omega), if_neg (by omega), if_neg (by omega), if_neg (by omega)]
   ·
    rw [if_neg h2]
    by_cases h3 : i < s
    ·
     rw [if_pos h3, if_pos h3]
    ·
     rw [if_neg h3, if_neg h3]
     by_cases h4 : i < s + k
     ·
      rw [if_pos (by omega), if_pos h4]
     ·
      rw [if_neg (by omega), if_neg (by omega), if_neg h4, if_neg h2]
def Rin.bk {α : Type} (M : Nat → Nat → α) (m n : Nat) : Nat → Nat → α := fun i j => if i < n then M (m + i) j else if i < n + m then M (i - n) j else M i j
theorem Rin.dt_bk {α : Type} (R : Rin α) {N n : Nat} : ∀ (m : Nat) (M : Nat → Nat → α), m + n ≤ N → R.dt N (bk M m n) = R.sg (m * n) (R.dt N M)
 | 0, M, h => by
  rw [Nat.zero_mul]
  refine R.dt_congr fun i j _ _ => ?_
  unfold bk
  by_cases h1 : i < n
  ·
   rw [if_pos h1, Nat.zero_add]
  ·
   rw [if_neg h1, if_neg (by omega)]
 | m + 1, M, h => by
  have h1 := R.dt_cy (n := N) M m n (by omega)
  have h2 := R.dt_bk (N := N) (n := n) m (cy M m n) (by omega)
  rw [h1, R.sg_sg, show m * n + n = (m + 1) * n by rw [Nat.succ_mul]] at h2
  rw [← h2]
  refine R.dt_congr fun i j _ _ => ?_
  unfold bk cy
  by_cases a1 : i < n
  ·
   rw [if_pos a1, if_pos a1, if_neg (by omega), if_pos (by omega), show m + 1 + i = m + i + 1 by omega]
  ·
   rw [if_neg a1, if_neg a1]
   by_cases a2 : i < n + m
   ·
    rw [if_pos a2, if_pos (by omega), if_pos (by omega)]
   ·
    rw [if_neg a2]
    by_cases a3 : i = n + m
    ·
     subst a3
     rw [if_pos (by omega), if_neg (by omega), if_neg (by omega), if_pos (by omega), show n + m - n = m by omega]
    ·
     rw [if_neg (by omega), if_neg (by omega), if_neg (by omega), if_neg (by omega)]
end Go.Proofs.Ytlmolloallhclaa.H
set_option linter.unusedVariables false
set_option linter.unusedSimpArgs false
namespace Go.Proofs.Ytlmolloallhclaa.H
open Go.RowKit Go.Proofs.Ytlmolloallhclaa.Num
def ZR : Rin Int where
 ad := fun a b => a + b
 ml := fun a b => a * b
 ng := fun a => -a
 z := 0
 o := 1
 ad_c := Int.add_comm
 ad_a := Int.add_assoc
 ad_z := Int.add_zero
 ad_n := Int.add_right_neg
 ml_c := Int.mul_comm
 ml_a := Int.mul_assoc
 ml_o := Int.mul_one
 ml_d := Int.mul_add
theorem zr_sm (f : Nat → Int) : ∀ n, ZR.sm f n = su f n
 | 0 => rfl
 | n + 1 => by rw [Rin.sm, su, zr_sm f n]; rfl
def zdt (n : Nat) (M : Nat → Nat → Int) : Int := ZR.dt n M
theorem zsg_cg {p a b : Int} (h : cg p a b) : ∀ n, cg p (ZR.sg n a) (ZR.sg n b)
 | 0 => h
 | n + 1 => (zsg_cg h n).neg
theorem zdt_succ (n : Nat) (M : Nat → Nat → Int) : zdt (n + 1) M = su (fun i => ZR.sg i (M i 0 * zdt n fun a b => M (Rin.sk i a) (b + 1))) (n + 1) := by
 unfold zdt
 rw [Rin.dt, zr_sm]; rfl
theorem zdt_cg {p : Int} : ∀ {n : Nat} {M M' : Nat → Nat → Int}, (∀ i j, i < n → j < n → cg p (M i j) (M' i j)) → cg p (zdt n M) (zdt n M')
 | 0, _, _, _ => cg.refl _
 | n + 1, M, M', h => by
  rw [zdt_succ, zdt_succ]
  refine cg.su fun i hi => zsg_cg ((h i 0 hi (by omega)).mul (zdt_cg fun a b ha hb => h _ _ (Rin.sk_lt ha) (by omega))) i
theorem zdt_congr {n : Nat} {M M' : Nat → Nat → Int} (h : ∀ i j, i < n → j < n → M i j = M' i j) : zdt n M = zdt n M' := ZR.dt_congr h
theorem zdt_zcol {p : Int} {n : Nat} {M : Nat → Nat → Int} (h : ∀ i, i ≤ n → cg p (M i 0) 0) : cg p (zdt (n + 1) M) 0 := by
 have h1 : cg p (zdt (n + 1) M) (zdt (n + 1) fun i j => if j = 0 then 0 else M i j) := zdt_cg fun i j hi _ => by
  show cg p (M i j) (if j = 0 then 0 else M i j)
  by_cases e : j = 0
  ·
   rw [if_pos e, e]; exact h i (by omega)
  ·
   rw [if_neg e]; exact cg.refl _
 exact h1.trans (cg.of_eq (ZR.dt_zcol fun i _ => rfl))
theorem zdt_swap {n r s : Nat} (hr : r < n) (hs : s < n) (hne : r ≠ s) (M : Nat → Nat → Int) : zdt n (Rin.xc M r s) = - zdt n M := ZR.dt_swap hr hs hne M
theorem zdt_elim {p : Int} {n : Nat} (M : Nat → Nat → Int) (c : Nat → Int) (hz : ∀ i, 1 ≤ i → i ≤ n → cg p (M i 0 + c i * M 0 0) 0) :
  cg p (zdt (n + 1) M) (M 0 0 * zdt n fun i j => M (i + 1) (j + 1) + c (i + 1) * M 0 (j + 1)) := by
 have h1 : zdt (n + 1) (fun i j => if 1 ≤ i ∧ i ≤ n then M i j + c i * M 0 j else M i j) = zdt (n + 1) M := ZR.dt_rows M c n (Nat.le_refl _)
 rw [← h1]
 have h2 : cg p (zdt (n + 1) (fun i j => if 1 ≤ i ∧ i ≤ n then M i j + c i * M 0 j else M i j)) (zdt (n + 1) fun i j => if 1 ≤ i then (if j = 0 then 0 else M i j + c i * M 0 j) else M i j) := zdt_cg fun i j hi _ => by
  show cg p (if 1 ≤ i ∧ i ≤ n then M i j + c i * M 0 j else M i j) (if 1 ≤ i then (if j = 0 then 0 else M i j + c i * M 0 j) else M i j)
  by_cases e : 1 ≤ i
  ·
   rw [if_pos ⟨e, by omega⟩, if_pos e]
   by_cases e2 : j = 0
   ·
    rw [if_pos e2, e2]; exact hz i e (by omega)
   ·
    rw [if_neg e2]; exact cg.refl _
  ·
   rw [if_neg (fun h => e h.1), if_neg e]; exact cg.refl _
 refine h2.trans (cg.of_eq ?_)
 have h3 := ZR.dt_first (n := n) (M := fun i j => if 1 ≤ i then (if j = 0 then 0 else M i j + c i * M 0 j) else M i j) fun i hi _ => by
  show (if 1 ≤ i then (if 0 = 0 then (0 : Int) else _) else _) = 0
  rw [if_pos hi, if_pos rfl]
 refine h3.trans ?_
 show (if 1 ≤ 0 then _ else M 0 0) * ZR.dt n _ = M 0 0 * ZR.dt n _
 rw [if_neg (by omega)]
 congr 1
def cns (a : Int) (y : Nat → Int) : Nat → Int
 | 0 => a
 | j + 1 => y j
theorem unit_of {p a : Int} (hp : IsP p) (h : ¬ cg p a 0) : ∃ v, cg p (a * v) 1 := ⟨_, inv_cg hp fun e => h (cg.zero.2 e)⟩
theorem kern {p : Int} (hp : IsP p) : ∀ (n : Nat) (M : Nat → Nat → Int), cg p (zdt n M) 0 → ∃ x : Nat → Int, (∃ j, j < n ∧ ¬ cg p (x j) 0) ∧ ∀ i, i < n → cg p (su (fun j => M i j * x j) n) 0 := by
 have one_ne : ¬ cg p 1 0 := fun h => by
  have := cg.zero.1 h
  rw [Int.emod_eq_of_lt (by omega) (by have := hp.1; omega)] at this
  omega
 intro n
 induction n with
 | zero => intro M h; exact absurd h one_ne
 | succ n ih =>
  intro M h
  by_cases hz : ∀ i, i ≤ n → cg p (M i 0) 0
  ·
   refine ⟨cns 1 fun _ => 0, ⟨0, by omega, one_ne⟩, fun i hi => ?_⟩
   rw [su_head]
   show cg p (M i 0 * 1 + su (fun j => M i (j + 1) * 0) n) 0
   rw [su_zero (n := n) fun j _ => Int.mul_zero _, Int.mul_one, Int.add_zero]
   exact hz i (by omega)
  ·
   obtain ⟨r, hr, hr0⟩ : ∃ r, r ≤ n ∧ ¬ cg p (M r 0) 0 := by
    refine Classical.byContradiction fun hne => hz fun i hi => Classical.byContradiction fun h0 => hne ⟨i, hi, h0⟩
   -- the row with a number other than 0 to the head
   obtain ⟨M1, h1, hu, hrows⟩ : ∃ M1 : Nat → Nat → Int, cg p (zdt (n + 1) M1) 0 ∧ ¬ cg p (M1 0 0) 0 ∧ ∀ i, i ≤ n → ∃ k, k ≤ n ∧ M i = M1 k := by
    by_cases e : r = 0
    ·
     subst e; exact ⟨M, h, hr0, fun i hi => ⟨i, hi, rfl⟩⟩
    ·
     refine ⟨Rin.xc M 0 r, ?_, ?_, fun i hi => ?_⟩
     ·
      rw [zdt_swap (by omega) (by omega) (by omega)]
      have := h.neg
      rwa [Int.neg_zero] at this
     ·
      show ¬ cg p (Rin.up (Rin.up M 0 (M r)) r (M 0) 0 0) 0
      unfold Rin.up
      rw [if_neg (by omega), if_pos rfl]; exact hr0
     ·
      unfold Rin.xc Rin.up
      by_cases e2 : i = r
      ·
       exact ⟨0, by omega, by funext j; rw [if_neg (by omega), if_pos rfl, e2]⟩
      ·
       by_cases e3 : i = 0
       ·
        exact ⟨r, hr, by funext j; rw [if_pos rfl, e3]⟩
       ·
        exact ⟨i, hi, by funext j; rw [if_neg e2, if_neg e3]⟩
   obtain ⟨v, hv⟩ := unit_of hp hu
   have hel := zdt_elim (p := p) (n := n) M1 (fun i => -(M1 i 0 * v)) fun i _ _ => by
    have e : M1 i 0 + -(M1 i 0 * v) * M1 0 0 = M1 i 0 - M1 i 0 * (M1 0 0 * v) := by grind
    rw [e]
    have := (cg.refl (M1 i 0)).sub ((cg.refl (M1 i 0)).mul hv)
    rwa [Int.mul_one, Int.sub_self] at this
   rcases cg_mul0 hp (hel.symm.trans h1) with h2 | h2
   ·
    exact absurd h2 hu
   obtain ⟨y, ⟨j0, hj0, hy⟩, hk⟩ := ih _ h2
   have head : cg p (su (fun j => M1 0 j * cns (-(v * su (fun j => M1 0 (j + 1) * y j) n)) y j) (n + 1)) 0 := by
    rw [su_head]
    show cg p (M1 0 0 * -(v * su (fun j => M1 0 (j + 1) * y j) n) + su (fun j => M1 0 (j + 1) * y j) n) 0
    have e : M1 0 0 * -(v * su (fun j => M1 0 (j + 1) * y j) n) = -(M1 0 0 * v * su (fun j => M1 0 (j + 1) * y j) n) := by grind
    rw [e]
    have := ((hv.mul (cg.refl (su (fun j => M1 0 (j + 1) * y j) n))).neg).add (cg.refl (su (fun j => M1 0 (j + 1) * y j) n))
    rwa [Int.one_mul, Int.add_left_neg] at this
   refine ⟨cns (-(v * su (fun j => M1 0 (j + 1) * y j) n)) y, ⟨j0 + 1, by omega, hy⟩, fun i hi => ?_⟩
   obtain ⟨k, hk1, hk2⟩ := hrows i (by omega)
   rw [hk2]
   by_cases e : k = 0
   ·
    rw [e]; exact head
   ·
    obtain ⟨m, rfl⟩ : ∃ m, k = m + 1 := ⟨k - 1, by omega⟩
    have h3 := hk m (by omega)
    -- row m + 1 less its multiple of the head
    have e2 : su (fun j => (M1 (m + 1) (j + 1) + -(M1 (m + 1) 0 * v) * M1 0 (j + 1)) * y j) n = su (fun j => M1 (m + 1) (j + 1) * y j) n - M1 (m + 1) 0 * v * su (fun j => M1 0 (j + 1) * y j) n := by
     rw [← su_mul, ← su_sub]
     exact su_congr fun j _ => by grind
    rw [e2] at h3
    rw [su_head]
    show cg p (M1 (m + 1) 0 * -(v * su (fun j => M1 0 (j + 1) * y j) n) + su (fun j => M1 (m + 1) (j + 1) * y j) n) 0
    refine cg.trans (cg.of_eq ?_) h3
    grind
theorem depend {p : Int} {n k : Nat} (hk : k < n) (M : Nat → Nat → Int) (c : Nat → Int) (h : ∀ j, j < n → cg p (su (fun i => c i * M i j) n) 0) : cg p (c k * zdt n M) 0 := by
 have step : ∀ m, m ≤ n → zdt n (Rin.up M k fun j => c k * M k j + su (fun i => if i = k then 0 else c i * M i j) m) = c k * zdt n M := by
  intro m
  induction m with
  | zero =>
   intro _
   have e : (fun j => c k * M k j + su (fun i => if i = k then 0 else c i * M i j) 0) = fun j => ZR.ml (c k) (M k j) := by
    funext j; show c k * M k j + 0 = c k * M k j; omega
   rw [e]
   show ZR.dt n _ = _
   rw [ZR.dt_ml hk, Rin.up_self]; rfl
  | succ m ih =>
   intro hm
   rw [← ih (by omega)]
   by_cases e : m = k
   ·
    subst e
    congr 2; funext j; rw [su, if_pos rfl, Int.add_zero]
   ·
    have e2 : (fun j => c k * M k j + su (fun i => if i = k then 0 else c i * M i j) (m + 1)) = fun j => ZR.ad (c k * M k j + su (fun i => if i = k then 0 else c i * M i j) m) (ZR.ml (c m) (M m j)) := by
     funext j; rw [su, if_neg e, ← Int.add_assoc]; rfl
    rw [e2]
    show ZR.dt n _ = ZR.dt n _
    rw [ZR.dt_ad hk M (fun j => c k * M k j + su (fun i => if i = k then 0 else c i * M i j) m) (fun j => ZR.ml (c m) (M m j)), ZR.dt_ml hk, ZR.dt_same hk (s := m) (by omega) (fun h => e h.symm) (M := Rin.up M k (M m)) fun j _ => by unfold Rin.up; rw [if_pos rfl, if_neg e], ZR.ml_z, ZR.ad_z]
 rw [← step n (Nat.le_refl _)]
 have hz : zdt n (Rin.up M k fun _ => 0) = 0 := ZR.dt_zrow hk M
 refine cg.trans (zdt_cg (M' := Rin.up M k fun _ => 0) fun i j _ hj => ?_) (cg.of_eq hz)
 unfold Rin.up
 by_cases e : i = k
 ·
  rw [if_pos e, if_pos e]
  refine cg.trans (cg.of_eq ?_) (h j hj)
  have e3 : ∀ m, su (fun i => c i * M i j) m = (if k < m then c k * M k j else 0) + su (fun i => if i = k then 0 else c i * M i j) m := by
   intro m
   induction m with
   | zero => rfl
   | succ m ih =>
    rw [su, su, ih]
    by_cases e4 : m = k
    ·
     subst e4; rw [if_neg (by omega), if_pos (by omega), if_pos rfl]; omega
    ·
     rw [if_neg e4]
     by_cases e5 : k < m
     ·
      rw [if_pos e5, if_pos (by omega)]; omega
     ·
      rw [if_neg e5, if_neg (by omega)]; omega
  show c k * M k j + su (fun i => if i = k then 0 else c i * M i j) n = su (fun i => c i * M i j) n
  rw [e3, if_pos hk]
 ·
  rw [if_neg e, if_neg e]; exact cg.refl _
end Go.Proofs.Ytlmolloallhclaa.H
namespace Go.Proofs.Ytlmolloallhclaa.H
open Go.RowKit Go.Proofs.YtlmolloallhclaaW.PrintWords Go.Proofs.YtlmolloallhclaaW.PrintLast Go.Proofs.YtlmolloallhclaaW.PrintMore
attribute [local go_sem] max2_int min2_int max_two min_two max_three min_three max_four min_four   -- for this text's walks alone
set_option linter.unusedVariables false
set_option linter.unusedSimpArgs false
end Go.Proofs.Ytlmolloallhclaa.H
set_option linter.unusedVariables false
set_option linter.unusedSimpArgs false
namespace Go.Proofs.Ytlmolloallhclaa.H
open Go.RowKit Go.Proofs.YtlmolloallhclaaW.PrintWords Go.Proofs.YtlmolloallhclaaW.PrintLast Go.Proofs.Ytlmolloallhclaa.Num
theorem rd_nat (l : List Int) (i : Nat) : rd l (i : Int) = l.getD i 0 := by simp [rd]
theorem rd_lt (l : List Int) (i : Nat) (h : i < l.length) : rd l (i : Int) = l[i] := by simp [rd, h]
theorem wn {i : Nat} (h : i ≤ 1000000000000) : wrap64 ((i : Int) + 1) = ((i + 1 : Nat) : Int) := by rw [w64 (by omega) (by omega)]; omega
def up (n : Int) : Nat → List Int
 | 0 => []
 | d + 1 => n :: up (n + 1) d
end Go.Proofs.Ytlmolloallhclaa.H
namespace Go.Proofs.Ytlmolloallhclaa.H
open Go.RowKit Go.Proofs.YtlmolloallhclaaW.PrintWords Go.Proofs.YtlmolloallhclaaW.PrintLast Go.Proofs.YtlmolloallhclaaW.PrintMore
attribute [local go_sem] max2_int min2_int max_two min_two max_three min_three max_four min_four   -- for this text's walks alone
set_option linter.unusedVariables false
set_option linter.unusedSimpArgs false
def spec_l01Poly.l0 : Nat → Int → List Int → Int → Option (Bool)
 | 0, _, _, _ => none
 | k + 1, x0, x1, x5 => if x5 < (x1.length : Int) then (if 0 ≤ x5 then (if (rd x1 x5) < 0 then (some false) else (if (rd x1 x5) ≥ x0 then (some false) else (spec_l01Poly.l0 k x0 x1 (wrap64 (x5 + 1))))) else (none)) else (if (x1.length : Int) ≤ 25 then (if (x1.length : Int) = 0 then (some true) else (if 0 ≤ (wrap64 ((x1.length : Int) - 1)) then (if (wrap64 ((x1.length : Int) - 1)) < (x1.length : Int) then (some ((rd x1 (wrap64 ((x1.length : Int) - 1))) != 0)) else (none)) else (none))) else (some false))
def spec_l01Poly.f (k : Nat) (a0 : Int) (l1 : List Int) : Option (Bool) := spec_l01Poly.l0 k a0 l1 0
set_option maxHeartbeats 8000000 in
set_option maxRecDepth 100000 in
theorem spec_l01Poly.calls (k : Nat) (a0 : Int) (A1 : Option Addr) (c1 : Nat) (l1 : List Int) (r : Bool) (w : World) (hr1 : Kd.C (Kd.int .i64) w A1 l1.length l1) (hc1 : l1.length ≤ c1) (h : spec_l01Poly.f k a0 l1 = some r) :
  Calls Try.prog 80 #[.int .i64 a0, .slice A1 l1.length c1] w fun e w' => e = .returned (.bool r) ∧ Drawn0 w w' := by
 have HR1 := as0 hr1
 have HC1 := as0 hc1
 clear hr1 hc1
 have H : (spec_l01Poly.l0 k a0 l1 0) = some r := h
 clear h
 have H' := as0 H
 clear H
 go_enter Try.func80, Try.ntmps80
 go_wp2
 go_loopg [5] k (fun kq v5 w' => ∃ (x5_1 : Int), v5 = .int .i64 x5_1 ∧ Aside0 (spec_l01Poly.l0 kq a0 l1 x5_1 = some r) ∧ Aside0 (kq ≤ k) ∧ Drawn0 w w')
 case atStart => exact ⟨(0), ea_, H', ⟨Nat.le_refl _⟩, dr_⟩
 case round =>
  clear H'
  try clear c1
  try clear p2
  obtain ⟨x5_1, rfl, HA, HK1, ⟨m1, rfl⟩⟩ := hrel
  cases gk with
  | zero => exact absurd HA.out (by simp [spec_l01Poly.l0])
  | succ k1 =>
   have H := HA.out
   clear HA
   simp only [spec_l01Poly.l0] at H
   by_cases c3 : x5_1 < (l1.length : Int)
   ·
    rw [if_pos c3] at H
    have c3b0 : decide (x5_1 < (l1.length : Int)) = true := decide_eq_true c3
    clear c3
    by_cases c4 : 0 ≤ x5_1
    ·
     rw [if_pos c4] at H
     have c4b0 : decide (0 ≤ x5_1) = true := decide_eq_true c4
     clear c4
     by_cases c5 : (rd l1 x5_1) < 0
     ·
      rw [if_pos c5] at H
      have c5b0 : decide ((rd l1 x5_1) < 0) = true := decide_eq_true c5
      clear c5
      obtain rfl := Option.some.inj H
      have p102 : 0 ≤ (x5_1 : Int) := oa_
      have q102 : x5_1 < (l1.length : Int) := oa_
      obtain ⟨ad102, e102, hx102_0⟩ := Kd.at_int HR1.out x5_1 p102 q102
      cases e102
      replace p102 := eq_true p102
      replace q102 := eq_true q102
      go_wp2
      go_ret
      exact ⟨ea_, dr_⟩
     ·
      rw [if_neg c5] at H
      have c5b0 : decide ((rd l1 x5_1) < 0) = false := decide_eq_false c5
      clear c5
      by_cases c6 : (rd l1 x5_1) ≥ a0
      ·
       rw [if_pos c6] at H
       have c6b0 : decide (a0 ≤ (rd l1 x5_1)) = true := decide_eq_true c6
       clear c6
       obtain rfl := Option.some.inj H
       have p102 : 0 ≤ (x5_1 : Int) := oa_
       have q102 : x5_1 < (l1.length : Int) := oa_
       obtain ⟨ad102, e102, hx102_0⟩ := Kd.at_int HR1.out x5_1 p102 q102
       cases e102
       replace p102 := eq_true p102
       replace q102 := eq_true q102
       have p103 : 0 ≤ (x5_1 : Int) := oa_
       have q103 : x5_1 < (l1.length : Int) := oa_
       obtain ⟨ad103, e103, hx103_0⟩ := Kd.at_int HR1.out x5_1 p103 q103
       obtain rfl : ad102 = ad103 := (by injection e103)
       replace p103 := eq_true p103
       replace q103 := eq_true q103
       go_wp2
       go_ret
       exact ⟨ea_, dr_⟩
      ·
       rw [if_neg c6] at H
       have c6b0 : decide (a0 ≤ (rd l1 x5_1)) = false := decide_eq_false c6
       clear c6
       have H' := as0 H
       clear H
       have p102 : 0 ≤ (x5_1 : Int) := oa_
       have q102 : x5_1 < (l1.length : Int) := oa_
       obtain ⟨ad102, e102, hx102_0⟩ := Kd.at_int HR1.out x5_1 p102 q102
       cases e102
       replace p102 := eq_true p102
       replace q102 := eq_true q102
       have p103 : 0 ≤ (x5_1 : Int) := oa_
       have q103 : x5_1 < (l1.length : Int) := oa_
       obtain ⟨ad103, e103, hx103_0⟩ := Kd.at_int HR1.out x5_1 p103 q103
       obtain rfl : ad102 = ad103 := (by injection e103)
       replace p103 := eq_true p103
       replace q103 := eq_true q103
       go_wp2
       go_roundg k1
       case measure => have := HK1.out; omega
       case rel => exact ⟨(wrap64 (x5_1 + 1)), ea_, H', ⟨by have := HK1.out; omega⟩, dr_⟩
    ·
     rw [if_neg c4] at H
     exact absurd H (by simp)
   ·
    rw [if_neg c3] at H
    have c3b0 : decide (x5_1 < (l1.length : Int)) = false := decide_eq_false c3
    clear c3
    by_cases c7 : (l1.length : Int) ≤ 25
    ·
     rw [if_pos c7] at H
     have c7b0 : decide ((l1.length : Int) ≤ 25) = true := decide_eq_true c7
     have c7b1 : decide (l1.length ≤ 25) = true := decide_eq_true (by omega)
     clear c7
     by_cases c8 : (l1.length : Int) = 0
     ·
      rw [if_pos c8] at H
      have c8b0 : ((l1.length : Int) == 0) = true := beq_iff_eq.mpr c8
      have c8b1 : ((l1.length : Int) != 0) = false := bne_eq_false_iff_eq.mpr c8
      clear c8
      obtain rfl := Option.some.inj H
      go_wp2
      go_ret
      exact ⟨ea_, dr_⟩
     ·
      rw [if_neg c8] at H
      have c8b0 : ((l1.length : Int) == 0) = false := beq_eq_false_iff_ne.mpr c8
      have c8b1 : ((l1.length : Int) != 0) = true := bne_iff_ne.mpr c8
      have c8b2 : ¬ (l1 = []) := fun h_ => c8 (by rw [h_]; rfl)
      obtain ⟨ji9, hji9⟩ : ∃ j_ : Int, (wrap64 ((l1.length : Int) - 1)) = j_ := ⟨_, rfl⟩
      replace H : (if 0 ≤ (ji9) then (if (ji9) < (l1.length : Int) then (some ((rd l1 (ji9)) != 0)) else (none)) else (none)) = some r := by first | (rw [hji9] at H; exact H) | (simp only [hji9] at H ⊢; exact H)
      have hji9w : (IntKind.i64.wrap ((l1.length : Int) - 1)) = ji9 := (i64_w _).trans hji9
      by_cases c10 : 0 ≤ (ji9)
      ·
       rw [if_pos c10] at H
       have c10b0 : decide (0 ≤ (ji9)) = true := decide_eq_true c10
       clear c10
       by_cases c11 : (ji9) < (l1.length : Int)
       ·
        rw [if_pos c11] at H
        have c11b0 : decide ((ji9) < (l1.length : Int)) = true := decide_eq_true c11
        clear c11
        obtain rfl := Option.some.inj H
        have p104 : 0 ≤ ((ji9) : Int) := oa_
        have q104 : (ji9) < (l1.length : Int) := oa_
        obtain ⟨ad104, e104, hx104_0⟩ := Kd.at_int HR1.out (ji9) p104 q104
        cases e104
        replace p104 := eq_true p104
        replace q104 := eq_true q104
        go_wp2
        go_ret
        exact ⟨by first | rfl | (simp; done) | (simp only [← hji9] <;> (first | rfl | simp)) | (simp [*]; done), dr_⟩
       ·
        rw [if_neg c11] at H
        exact absurd H (by simp)
      ·
       rw [if_neg c10] at H
       exact absurd H (by simp)
    ·
     rw [if_neg c7] at H
     have c7b0 : decide ((l1.length : Int) ≤ 25) = false := decide_eq_false c7
     have c7b1 : decide (l1.length ≤ 25) = false := decide_eq_false (by omega)
     clear c7
     obtain rfl := Option.some.inj H
     go_wp2
     go_ret
     exact ⟨ea_, dr_⟩
def spec_l01In.f (a0 : Int) (a1 : Int) (a2 : Int) : Option (Bool) := if a0 ≥ a1 then (some (decide (a0 ≤ a2))) else (some false)
set_option maxHeartbeats 8000000 in
set_option maxRecDepth 100000 in
theorem spec_l01In.calls (a0 : Int) (a1 : Int) (a2 : Int) (r : Bool) (w : World) (h : spec_l01In.f a0 a1 a2 = some r) :
  Calls Try.prog 98 #[.int .i64 a0, .int .i64 a1, .int .i64 a2] w fun e w' => e = .returned (.bool r) ∧ Drawn0 w w' := by
 have H : (if a0 ≥ a1 then (some (decide (a0 ≤ a2))) else (some false)) = some r := h
 clear h
 by_cases c4 : a0 ≥ a1
 ·
  rw [if_pos c4] at H
  have c4b0 : decide (a1 ≤ a0) = true := decide_eq_true c4
  clear c4
  obtain rfl := Option.some.inj H
  go_enter Try.func98, Try.ntmps98
  go_wp2
  go_ret
  exact ⟨ea_, dr_⟩
 ·
  rw [if_neg c4] at H
  have c4b0 : decide (a1 ≤ a0) = false := decide_eq_false c4
  clear c4
  obtain rfl := Option.some.inj H
  go_enter Try.func98, Try.ntmps98
  go_wp2
  go_ret
  exact ⟨ea_, dr_⟩
def spec_l01Prime.l0 : Nat → Int → Int → Option (Bool)
 | 0, _, _ => none
 | k + 1, x0, x3 => if (wrap64 (x3 * x3)) ≤ x0 then (if x3 = 0 then (none) else (if (Int.tmod x0 x3) = 0 then (some false) else (spec_l01Prime.l0 k x0 (wrap64 (x3 + 1))))) else (some true)
def spec_l01Prime.f (k : Nat) (a0 : Int) : Option (Bool) := (spec_l01In.f a0 2 10007).bind fun t101 => (if t101 = true then (spec_l01Prime.l0 k a0 2) else (some false))
set_option maxHeartbeats 8000000 in
set_option maxRecDepth 100000 in
theorem spec_l01Prime.calls (k : Nat) (a0 : Int) (r : Bool) (w : World) (h : spec_l01Prime.f k a0 = some r) :
  Calls Try.prog 65 #[.int .i64 a0] w fun e w' => e = .returned (.bool r) ∧ Drawn0 w w' := by
 have H : ((spec_l01In.f a0 2 10007).bind fun t101 => (if t101 = true then (spec_l01Prime.l0 k a0 2) else (some false))) = some r := h
 clear h
 replace H := Option.bind_eq_some_iff.mp H
 obtain ⟨t101, A20, H⟩ := H
 have A2 := as0 A20
 clear A20
 by_cases c3 : t101 = true
 ·
  subst c3
  have H1 : (spec_l01Prime.l0 k a0 2) = some r := by rw [if_pos rfl] at H; exact H
  clear H
  have H := H1
  clear H1
  have H' := as0 H
  clear H
  go_enter Try.func65, Try.ntmps65
  go_wp2_with (first | ((with_reducible refine gate_callee (f := 98) rfl ?_); refine goesM_ (some 5) rfl rfl Try.func98 #[.int .i64 a0, .int .i64 2, .int .i64 10007] rfl ?_; (with_reducible refine (spec_l01In.calls a0 2 10007 true _ A2.out).mono ?_); rintro e w' ⟨rfl, ⟨nd, rfl⟩⟩; refine ⟨_, rfl, ?_⟩))
  go_loopg [3] k (fun kq v3 w' => ∃ (x3_1 : Int), v3 = .int .i64 x3_1 ∧ Aside0 (spec_l01Prime.l0 kq a0 x3_1 = some r) ∧ Aside0 (kq ≤ k) ∧ Drawn0 w w')
  case atStart => exact ⟨(2), ea_, H', ⟨Nat.le_refl _⟩, dr_⟩
  case round =>
   clear H'
   try clear p2
   try clear c3
   obtain ⟨x3_1, rfl, HA, HK1, ⟨m1, rfl⟩⟩ := hrel
   cases gk with
   | zero => exact absurd HA.out (by simp [spec_l01Prime.l0])
   | succ k1 =>
    have H := HA.out
    clear HA
    simp only [spec_l01Prime.l0] at H
    by_cases c4 : (wrap64 (x3_1 * x3_1)) ≤ a0
    ·
     rw [if_pos c4] at H
     have c4b0 : decide ((wrap64 (x3_1 * x3_1)) ≤ a0) = true := decide_eq_true c4
     clear c4
     by_cases c5 : x3_1 = 0
     ·
      rw [if_pos c5] at H
      exact absurd H (by simp)
     ·
      rw [if_neg c5] at H
      have c5b0 : (x3_1 == 0) = false := beq_eq_false_iff_ne.mpr c5
      have c5b1 : (x3_1 != 0) = true := bne_iff_ne.mpr c5
      by_cases c6 : (Int.tmod a0 x3_1) = 0
      ·
       rw [if_pos c6] at H
       have c6b0 : ((Int.tmod a0 x3_1) == 0) = true := beq_iff_eq.mpr c6
       have c6b1 : ((Int.tmod a0 x3_1) != 0) = false := bne_eq_false_iff_eq.mpr c6
       clear c6
       obtain rfl := Option.some.inj H
       go_wp2
       go_ret
       exact ⟨ea_, dr_⟩
      ·
       rw [if_neg c6] at H
       have c6b0 : ((Int.tmod a0 x3_1) == 0) = false := beq_eq_false_iff_ne.mpr c6
       have c6b1 : ((Int.tmod a0 x3_1) != 0) = true := bne_iff_ne.mpr c6
       have H' := as0 H
       clear H
       go_wp2
       go_roundg k1
       case measure => have := HK1.out; omega
       case rel => exact ⟨(wrap64 (x3_1 + 1)), ea_, H', ⟨by have := HK1.out; omega⟩, dr_⟩
    ·
     rw [if_neg c4] at H
     have c4b0 : decide ((wrap64 (x3_1 * x3_1)) ≤ a0) = false := decide_eq_false c4
     clear c4
     obtain rfl := Option.some.inj H
     go_wp2
     go_ret
     exact ⟨ea_, dr_⟩
 ·
  replace c3 := Bool.eq_false_iff.mpr c3
  subst c3
  have H1 : (some false) = some r := by rw [if_neg (show ¬ (false = true) by decide)] at H; exact H
  clear H
  have H := H1
  clear H1
  obtain rfl := Option.some.inj H
  go_enter Try.func65, Try.ntmps65
  go_wp2_with (first | ((with_reducible refine gate_callee (f := 98) rfl ?_); refine goesM_ (some 5) rfl rfl Try.func98 #[.int .i64 a0, .int .i64 2, .int .i64 10007] rfl ?_; (with_reducible refine (spec_l01In.calls a0 2 10007 false _ A2.out).mono ?_); rintro e w' ⟨rfl, ⟨nd, rfl⟩⟩; refine ⟨_, rfl, ?_⟩))
  go_ret
  exact ⟨ea_, dr_⟩
def spec_l01Code.l0 : Nat → Int → List (List Int) → Int → Option (Int)
 | 0, _, _, _ => none
 | k + 1, x0, x1, x5 => if x5 < (x1.length : Int) then (if 0 ≤ x5 then ((spec_l01Poly.f k x0 (rd_L1 x1 x5)).bind fun t106 => (if t106 = true then (spec_l01Code.l0 k x0 x1 (wrap64 (x5 + 1))) else (some 1))) else (none)) else ((spec_l01Prime.f k x0).bind fun t107 => (if t107 = true then (some 0) else (some 2)))
def spec_l01Code.f (k : Nat) (a0 : Int) (l1 : List (List Int)) : Option (Int) := spec_l01Code.l0 k a0 l1 0
set_option maxHeartbeats 8000000 in
set_option maxRecDepth 100000 in
theorem spec_l01Code.calls (k : Nat) (a0 : Int) (A1 : Option Addr) (c1 : Nat) (l1 : List (List Int)) (r : Int) (w : World) (hr1 : Kd.C (Kd.slice 2 (Kd.int .i64)) w A1 l1.length l1) (hc1 : l1.length ≤ c1) (h : spec_l01Code.f k a0 l1 = some r) :
  Calls Try.prog 41 #[.int .i64 a0, .slice A1 l1.length c1] w fun e w' => e = .returned (.int .i64 r) ∧ Drawn0 w w' := by
 have HR1 := as0 hr1
 have HC1 := as0 hc1
 clear hr1 hc1
 have H : (spec_l01Code.l0 k a0 l1 0) = some r := h
 clear h
 have H' := as0 H
 clear H
 go_enter Try.func41, Try.ntmps41
 go_wp2
 go_loopg [5] k (fun kq v5 w' => ∃ (x5_1 : Int), v5 = .int .i64 x5_1 ∧ Aside0 (spec_l01Code.l0 kq a0 l1 x5_1 = some r) ∧ Aside0 (kq ≤ k) ∧ Drawn0 w w')
 case atStart => exact ⟨(0), ea_, H', ⟨Nat.le_refl _⟩, dr_⟩
 case round =>
  clear H'
  try clear c1
  try clear p2
  obtain ⟨x5_1, rfl, HA, HK1, ⟨m1, rfl⟩⟩ := hrel
  cases gk with
  | zero => exact absurd HA.out (by simp [spec_l01Code.l0])
  | succ k1 =>
   have H := HA.out
   clear HA
   simp only [spec_l01Code.l0] at H
   by_cases c3 : x5_1 < (l1.length : Int)
   ·
    rw [if_pos c3] at H
    have c3b0 : decide (x5_1 < (l1.length : Int)) = true := decide_eq_true c3
    clear c3
    by_cases c4 : 0 ≤ x5_1
    ·
     rw [if_pos c4] at H
     have c4b0 : decide (0 ≤ x5_1) = true := decide_eq_true c4
     clear c4
     replace H := Option.bind_eq_some_iff.mp H
     obtain ⟨t106, A50, H⟩ := H
     have A5 := as0 A50
     clear A50
     by_cases c6 : t106 = true
     ·
      subst c6
      have H1 : (spec_l01Code.l0 k1 a0 l1 (wrap64 (x5_1 + 1))) = some r := by rw [if_pos rfl] at H; exact H
      clear H
      have H := H1
      clear H1
      have H' := as0 H
      clear H
      have p105 : 0 ≤ (x5_1 : Int) := oa_
      have q105 : x5_1 < (l1.length : Int) := oa_
      obtain ⟨ad105, A105_0, c105_0, e105, hx105_0, hl105_0, hi105_0⟩ := at_L1 HR1.out x5_1 p105 q105
      cases e105
      have HR105_0 := as0 hi105_0
      have HC105_0 := as0 hl105_0
      clear hi105_0 hl105_0
      replace p105 := eq_true p105
      replace q105 := eq_true q105
      go_wp2_with (first | ((with_reducible refine gate_callee (f := 80) rfl ?_); refine goesM_ (some 17) rfl rfl Try.func80 #[.int .i64 a0, .slice A105_0 (rd_L1 l1 x5_1).length c105_0] rfl ?_; (with_reducible refine (spec_l01Poly.calls k1 a0 _ _ (rd_L1 l1 x5_1) true _ ?side1 ?side2 A5.out).mono ?_); (case side1 => exact cs (HR105_0.out)); (case side2 => exact HC105_0.out); rintro e w' ⟨rfl, ⟨nd, rfl⟩⟩; refine ⟨_, rfl, ?_⟩))
      go_roundg k1
      case measure => have := HK1.out; omega
      case rel => exact ⟨(wrap64 (x5_1 + 1)), ea_, H', ⟨by have := HK1.out; omega⟩, dr_⟩
     ·
      replace c6 := Bool.eq_false_iff.mpr c6
      subst c6
      have H1 : (some 1) = some r := by rw [if_neg (show ¬ (false = true) by decide)] at H; exact H
      clear H
      have H := H1
      clear H1
      obtain rfl := Option.some.inj H
      have p105 : 0 ≤ (x5_1 : Int) := oa_
      have q105 : x5_1 < (l1.length : Int) := oa_
      obtain ⟨ad105, A105_0, c105_0, e105, hx105_0, hl105_0, hi105_0⟩ := at_L1 HR1.out x5_1 p105 q105
      cases e105
      have HR105_0 := as0 hi105_0
      have HC105_0 := as0 hl105_0
      clear hi105_0 hl105_0
      replace p105 := eq_true p105
      replace q105 := eq_true q105
      go_wp2_with (first | ((with_reducible refine gate_callee (f := 80) rfl ?_); refine goesM_ (some 17) rfl rfl Try.func80 #[.int .i64 a0, .slice A105_0 (rd_L1 l1 x5_1).length c105_0] rfl ?_; (with_reducible refine (spec_l01Poly.calls k1 a0 _ _ (rd_L1 l1 x5_1) false _ ?side1 ?side2 A5.out).mono ?_); (case side1 => exact cs (HR105_0.out)); (case side2 => exact HC105_0.out); rintro e w' ⟨rfl, ⟨nd, rfl⟩⟩; refine ⟨_, rfl, ?_⟩))
      go_ret
      exact ⟨ea_, dr_⟩
    ·
     rw [if_neg c4] at H
     exact absurd H (by simp)
   ·
    rw [if_neg c3] at H
    have c3b0 : decide (x5_1 < (l1.length : Int)) = false := decide_eq_false c3
    clear c3
    replace H := Option.bind_eq_some_iff.mp H
    obtain ⟨t107, A70, H⟩ := H
    have A7 := as0 A70
    clear A70
    by_cases c8 : t107 = true
    ·
     subst c8
     have H1 : (some 0) = some r := by rw [if_pos rfl] at H; exact H
     clear H
     have H := H1
     clear H1
     obtain rfl := Option.some.inj H
     go_wp2_with (first | ((with_reducible refine gate_callee (f := 65) rfl ?_); refine goesM_ (some 20) rfl rfl Try.func65 #[.int .i64 a0] rfl ?_; (with_reducible refine (spec_l01Prime.calls k1 a0 true _ A7.out).mono ?_); rintro e w' ⟨rfl, ⟨nd, rfl⟩⟩; refine ⟨_, rfl, ?_⟩))
     go_ret
     exact ⟨ea_, dr_⟩
    ·
     replace c8 := Bool.eq_false_iff.mpr c8
     subst c8
     have H1 : (some 2) = some r := by rw [if_neg (show ¬ (false = true) by decide)] at H; exact H
     clear H
     have H := H1
     clear H1
     obtain rfl := Option.some.inj H
     go_wp2_with (first | ((with_reducible refine gate_callee (f := 65) rfl ?_); refine goesM_ (some 20) rfl rfl Try.func65 #[.int .i64 a0] rfl ?_; (with_reducible refine (spec_l01Prime.calls k1 a0 false _ A7.out).mono ?_); rintro e w' ⟨rfl, ⟨nd, rfl⟩⟩; refine ⟨_, rfl, ?_⟩))
     go_ret
     exact ⟨ea_, dr_⟩
def spec_l01Mod.f (a0 : Int) (a1 : Int) : Option (Int) := if a0 = 0 then (none) else (some (Int.tmod (wrap64 ((Int.tmod a1 a0) + a0)) a0))
set_option maxHeartbeats 8000000 in
set_option maxRecDepth 100000 in
theorem spec_l01Mod.calls (a0 : Int) (a1 : Int) (r : Int) (w : World) (h : spec_l01Mod.f a0 a1 = some r) :
  Calls Try.prog 61 #[.int .i64 a0, .int .i64 a1] w fun e w' => e = .returned (.int .i64 r) ∧ Drawn0 w w' := by
 have H : (if a0 = 0 then (none) else (some (Int.tmod (wrap64 ((Int.tmod a1 a0) + a0)) a0))) = some r := h
 clear h
 by_cases c3 : a0 = 0
 ·
  rw [if_pos c3] at H
  exact absurd H (by simp)
 ·
  rw [if_neg c3] at H
  have c3b0 : (a0 == 0) = false := beq_eq_false_iff_ne.mpr c3
  have c3b1 : (a0 != 0) = true := bne_iff_ne.mpr c3
  obtain rfl := Option.some.inj H
  go_enter Try.func61, Try.ntmps61
  go_wp2
  go_ret
  exact ⟨ea_, dr_⟩
def spec_l01Power.l0 : Nat → Int → Int → Int → Int → Option (Int)
 | 0, _, _, _, _ => none
 | k + 1, x0, x2, x7, x8 => if x2 > 0 then (if (Int.tmod x2 2) = 1 then (if x0 = 0 then (none) else (spec_l01Power.l0 k x0 (wrap64 (Int.tdiv x2 2)) (Int.tmod (wrap64 (x7 * x8)) x0) (Int.tmod (wrap64 (x8 * x8)) x0))) else (if x0 = 0 then (none) else (spec_l01Power.l0 k x0 (wrap64 (Int.tdiv x2 2)) x7 (Int.tmod (wrap64 (x8 * x8)) x0)))) else (if x0 = 0 then (none) else (some (Int.tmod x7 x0)))
def spec_l01Power.f (k : Nat) (a0 : Int) (a1 : Int) (a2 : Int) : Option (Int) := (spec_l01Mod.f a0 a1).bind fun t108 => (spec_l01Power.l0 k a0 a2 1 t108)
set_option maxHeartbeats 8000000 in
set_option maxRecDepth 100000 in
theorem spec_l01Power.calls (k : Nat) (a0 : Int) (a1 : Int) (a2 : Int) (r : Int) (w : World) (h : spec_l01Power.f k a0 a1 a2 = some r) :
  Calls Try.prog 95 #[.int .i64 a0, .int .i64 a1, .int .i64 a2] w fun e w' => e = .returned (.int .i64 r) ∧ Drawn0 w w' := by
 have H : ((spec_l01Mod.f a0 a1).bind fun t108 => (spec_l01Power.l0 k a0 a2 1 t108)) = some r := h
 clear h
 replace H := Option.bind_eq_some_iff.mp H
 obtain ⟨t108, A40, H⟩ := H
 have A4 := as0 A40
 clear A40
 have H' := as0 H
 clear H
 go_enter Try.func95, Try.ntmps95
 go_wp2_with (first | ((with_reducible refine gate_callee (f := 61) rfl ?_); refine goesM_ (some 11) rfl rfl Try.func61 #[.int .i64 a0, .int .i64 a1] rfl ?_; (with_reducible refine (spec_l01Mod.calls a0 a1 t108 _ A4.out).mono ?_); rintro e w' ⟨rfl, ⟨nd, rfl⟩⟩; refine ⟨_, rfl, ?_⟩))
 go_loopg [2, 7, 8] k (fun kq v2 v7 v8 w' => ∃ (x2_1 : Int) (x7_1 : Int) (x8_1 : Int), v2 = .int .i64 x2_1 ∧ v7 = .int .i64 x7_1 ∧ v8 = .int .i64 x8_1 ∧ Aside0 (spec_l01Power.l0 kq a0 x2_1 x7_1 x8_1 = some r) ∧ Aside0 (kq ≤ k) ∧ Drawn0 w w')
 case atStart => exact ⟨(a2), (1), (t108), ea_, ea_, ea_, H', ⟨Nat.le_refl _⟩, dr_⟩
 case round =>
  clear H'
  try clear p2
  obtain ⟨x2_1, x7_1, x8_1, rfl, rfl, rfl, HA, HK1, ⟨m1, rfl⟩⟩ := hrel
  cases gk with
  | zero => exact absurd HA.out (by simp [spec_l01Power.l0])
  | succ k1 =>
   have H := HA.out
   clear HA
   simp only [spec_l01Power.l0] at H
   by_cases c5 : x2_1 > 0
   ·
    rw [if_pos c5] at H
    have c5b0 : decide (0 < x2_1) = true := decide_eq_true c5
    clear c5
    by_cases c6 : (Int.tmod x2_1 2) = 1
    ·
     rw [if_pos c6] at H
     have c6b0 : ((Int.tmod x2_1 2) == 1) = true := beq_iff_eq.mpr c6
     have c6b1 : ((Int.tmod x2_1 2) != 1) = false := bne_eq_false_iff_eq.mpr c6
     clear c6
     by_cases c7 : a0 = 0
     ·
      rw [if_pos c7] at H
      exact absurd H (by simp)
     ·
      rw [if_neg c7] at H
      have c7b0 : (a0 == 0) = false := beq_eq_false_iff_ne.mpr c7
      have c7b1 : (a0 != 0) = true := bne_iff_ne.mpr c7
      have H' := as0 H
      clear H
      go_wp2
      go_roundg k1
      case measure => have := HK1.out; omega
      case rel => exact ⟨(wrap64 (Int.tdiv x2_1 2)), (Int.tmod (wrap64 (x7_1 * x8_1)) a0), (Int.tmod (wrap64 (x8_1 * x8_1)) a0), ea_, ea_, ea_, H', ⟨by have := HK1.out; omega⟩, dr_⟩
    ·
     rw [if_neg c6] at H
     have c6b0 : ((Int.tmod x2_1 2) == 1) = false := beq_eq_false_iff_ne.mpr c6
     have c6b1 : ((Int.tmod x2_1 2) != 1) = true := bne_iff_ne.mpr c6
     by_cases c8 : a0 = 0
     ·
      rw [if_pos c8] at H
      exact absurd H (by simp)
     ·
      rw [if_neg c8] at H
      have c8b0 : (a0 == 0) = false := beq_eq_false_iff_ne.mpr c8
      have c8b1 : (a0 != 0) = true := bne_iff_ne.mpr c8
      have H' := as0 H
      clear H
      go_wp2
      go_roundg k1
      case measure => have := HK1.out; omega
      case rel => exact ⟨(wrap64 (Int.tdiv x2_1 2)), (x7_1), (Int.tmod (wrap64 (x8_1 * x8_1)) a0), ea_, ea_, ea_, H', ⟨by have := HK1.out; omega⟩, dr_⟩
   ·
    rw [if_neg c5] at H
    have c5b0 : decide (0 < x2_1) = false := decide_eq_false c5
    clear c5
    by_cases c9 : a0 = 0
    ·
     rw [if_pos c9] at H
     exact absurd H (by simp)
    ·
     rw [if_neg c9] at H
     have c9b0 : (a0 == 0) = false := beq_eq_false_iff_ne.mpr c9
     have c9b1 : (a0 != 0) = true := bne_iff_ne.mpr c9
     obtain rfl := Option.some.inj H
     go_wp2
     go_ret
     exact ⟨ea_, dr_⟩
def spec_l01Inverse.f (k : Nat) (a0 : Int) (a1 : Int) : Option (Int) := (spec_l01Power.f k a0 a1 (wrap64 (a0 - 2))).bind fun t109 => (some t109)
set_option maxHeartbeats 8000000 in
set_option maxRecDepth 100000 in
theorem spec_l01Inverse.calls (k : Nat) (a0 : Int) (a1 : Int) (r : Int) (w : World) (h : spec_l01Inverse.f k a0 a1 = some r) :
  Calls Try.prog 60 #[.int .i64 a0, .int .i64 a1] w fun e w' => e = .returned (.int .i64 r) ∧ Drawn0 w w' := by
 have H : ((spec_l01Power.f k a0 a1 (wrap64 (a0 - 2))).bind fun t109 => (some t109)) = some r := h
 clear h
 replace H := Option.bind_eq_some_iff.mp H
 obtain ⟨t109, A30, H⟩ := H
 have A3 := as0 A30
 clear A30
 obtain rfl := Option.some.inj H
 go_enter Try.func60, Try.ntmps60
 go_wp2_with (first | ((with_reducible refine gate_callee (f := 95) rfl ?_); refine goesM_ (some 9) rfl rfl Try.func95 #[.int .i64 a0, .int .i64 a1, .int .i64 (wrap64 (a0 - 2))] rfl ?_; (with_reducible refine (spec_l01Power.calls k a0 a1 (wrap64 (a0 - 2)) t109 _ A3.out).mono ?_); rintro e w' ⟨rfl, ⟨nd, rfl⟩⟩; refine ⟨_, rfl, ?_⟩))
 go_ret
 exact ⟨ea_, dr_⟩
def spec_l01Own.f (l0 : List Int) : Option (List Int) := (some (([] : List Int) : List Int)).bind fun y110 => (if y110.length + l0.length < 17592186044416 then (some (y110 ++ l0)) else (none))
set_option maxHeartbeats 8000000 in
set_option maxRecDepth 100000 in
theorem spec_l01Own.calls (A0 : Option Addr) (c0 : Nat) (l0 : List Int) (r : List Int) (w : World) (hr0 : Kd.C (Kd.int .i64) w A0 l0.length l0) (hc0 : l0.length ≤ c0) (h : spec_l01Own.f l0 = some r) :
  Calls Try.prog 81 #[.slice A0 l0.length c0] w fun e w' => ∃ v0_ : Value, e = .returned (v0_) ∧ Kd.R (Kd.int .i64) 2 w' w.heap.size (fun _ => True) v0_ r ∧ Below w.heap.size w w' := by
 have HR0 := as0 hr0
 have HC0 := as0 hc0
 clear hr0 hc0
 have HB := as0 (Below.refl w.heap.size w)
 have H : ((some (([] : List Int) : List Int)).bind fun y110 => (if y110.length + l0.length < 17592186044416 then (some (y110 ++ l0)) else (none))) = some r := h
 clear h
 obtain ⟨y110, hy110⟩ : ∃ y_ : List Int, y_ = (([] : List Int)) := ⟨_, rfl⟩
 replace H : (if y110.length + l0.length < 17592186044416 then (some (y110 ++ l0)) else (none)) = some r := by first | (rw [hy110]; with_reducible exact H) | (have H2_ := (Option.bind_some _ _).symm.trans H; rw [hy110]; with_reducible exact H2_) | (have H2_ := (Option.bind_some _ _).symm.trans H; with_reducible exact H2_) | with_reducible exact H | (rw [hy110]; exact H) | exact H
 have Ny110 := as0 hy110
 clear hy110
 by_cases c2 : y110.length + l0.length < 17592186044416
 ·
  rw [if_pos c2] at H
  have LMc2 := as0 c2
  clear c2
  obtain ⟨y113, hy113⟩ : ∃ y_ : List Int, y_ = (y110 ++ l0) := ⟨_, rfl⟩
  replace H : (some y113) = some r := by first | (rw [hy113]; with_reducible exact H) | (have H2_ := (Option.bind_some _ _).symm.trans H; rw [hy113]; with_reducible exact H2_) | (have H2_ := (Option.bind_some _ _).symm.trans H; with_reducible exact H2_) | with_reducible exact H | (rw [hy113]; exact H) | exact H
  have Ny113 := as0 hy113
  clear hy113
  obtain rfl := Option.some.inj H
  go_enter Try.func81, Try.ntmps81
  go_wp2_with (first | ((with_reducible refine gate_dst (N := 3) rfl ?_); refine Kd.R_lit (Kd.int .i64) _ 2 ?hg (N := 3) ?hd (xs := ([] : List Int)) (inner := []) (ok := fun _ => True) (okp := fun _ => True) ?hr ?hp (fun _ hk => hk) trivial (Below.refl _ _) (Nat.le_refl _) (by simp) ?_; (case hd => rfl); (case hg => rfl); (case hr => first | (go_simp; done) | (go_simp; rfl)); (case hp => exact (Reps.none _ _)); intro v111 w3 ho4 hb hg_ hnew_; clear hg_ hnew_; (first | rw [← Ny110.out] at ho4 | (simp only [Int.reduceToNat] at ho4; rw [← Ny110.out] at ho4)); have n0_ := as0 (Kd.R_lower ho4 (below_size (bs HB))); have n1_ := as0 (below_step (bs HB) hb); clear HB; have HO112 := n0_; have HB := n1_; clear n0_ n1_; clear hb ho4) | ((with_reducible refine gate_builtin (b := .append) (xs := #[.tmp 3, .tmp 4]) rfl ?_); at_builtin; refine Kd.R_append_rows (Kd.int .i64) (w0 := w) w.heap.size rfl (.tmp 3) (.tmp 4) 22 2 (.int .i64 0) 8 rfl Try.underlying22 info2 rfl (by decide) (by omega) v111 y110 l0 _ _ _ (fun _ => True) (fun _ => False) rfl rfl ?aO ?aR (fun _ _ h => h) (fun _ h => h.elim) ?aF ?aB ?aS ?aL ?_; (case aR => exact cs ((Kd.C_below HR0.out HB.out))); (case aB => exact (bs HB)); (case aF => exact (fun _ _ => trivial)); (case aO => exact (rs HO112)); (case aS => exact (below_size (bs HB))); (case aL => have := LMc2.out; omega); intro v114 w5 ho hb hg hat; rw [← Ny113.out] at ho; have n0_ := as0 (hb); have n1_ := as0 (ho); clear HB; clear HO112; have HB := n0_; have HO115 := n1_; clear n0_ n1_; clear ho hb hg hat))
  go_ret
  exact ⟨_, er_, rs HO115, bs HB⟩
 ·
  rw [if_neg c2] at H
  exact absurd H (by simp)
end Go.Proofs.Ytlmolloallhclaa.H
