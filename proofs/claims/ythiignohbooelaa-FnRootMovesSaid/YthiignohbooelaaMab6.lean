/- Joined texts of a claim: the printed functions and what is proved of them. -/
import Derived.Test.YthiignohbooelaaYHx0
import Derived.Test.YthiignohbooelaaMab1
import Derived.Test.YthiignohbooelaaMab5
namespace Go.Proofs.Ythiignohbooelaa.H
open Go.RowKit Go.Proofs.YthiignohbooelaaW.PrintWords Go.Proofs.YthiignohbooelaaW.PrintLast Go.Proofs.YthiignohbooelaaW.PrintMore
attribute [local go_sem] max2_int min2_int max_two min_two max_three min_three max_four min_four   -- for this text's walks alone
set_option linter.unusedVariables false
set_option linter.unusedSimpArgs false
/-! ### impl_filledCode: function 55 (by hand) -/
/-- 'func(f []int64) bool { return len(f) > 0 }' -/
theorem filledClos (A : Option Addr) (c : Nat) (l : List Int) (w : World) : Gives 93 #[] (.slice A l.length c) (decide (0 < l.length)) w := by
  intro W hW
  have HB := Aside0.mk (Below.refl W.heap.size W)
  clear hW
  show Calls Try.prog 93 #[.slice A l.length c] W _
  by_cases h0 : 0 < l.length
  · have d0 : decide (0 < (l.length : Int)) = true := decide_eq_true (by omega)
    have d1 : decide (0 < l.length) = true := decide_eq_true h0
    rw [d1]
    clear h0 d1
    go_enter Try.func93, Try.ntmps93
    go_wp2
    go_ret
    exact ⟨by have h := of_decide_eq_true d0; simp; omega, HB.out⟩
  · have d0 : decide (0 < (l.length : Int)) = false := decide_eq_false (by omega)
    have d1 : decide (0 < l.length) = false := decide_eq_false h0
    rw [d1]
    clear h0 d1
    go_enter Try.func93, Try.ntmps93
    go_wp2
    go_ret
    exact ⟨by have h := of_decide_eq_false d0; have h2 : l = [] := List.eq_nil_of_length_eq_zero (by omega); subst h2; rfl, HB.out⟩
set_option maxHeartbeats 4000000 in
set_option maxRecDepth 100000 in
theorem filledCode_any (p C : Int) (g : Nat) (lb : Array Value) (P : Addr) (n c : Nat) (hn : n ≤ 9223372036854775807) (fl : Bool) (q : Nat → Bool) (hok : fl = true ↔ ∀ j, j < n → q j = true) (w : World)
    (h : ∀ j, j < n → ∃ (A : Option Addr) (c : Nat) (l : List Int), w.cell? (P.add j) = some (.slice A l.length c) ∧ q j = decide (0 < l.length))
    (HP : Calls Try.prog 40 #[.int .i64 p, .func (.func g) #[] lb, .slice (some P) n c] w fun e w' => e = .returned (.int .i64 C) ∧ Below w.heap.size w w') :
    Calls Try.prog 55 #[.int .i64 p, .func (.func g) #[] lb, .slice (some P) n c] w fun e w' => e = .returned (.int .i64 (if C = 0 then (if fl = true then 0 else 5) else C)) ∧ Below w.heap.size w w' := by
  have ec : ∀ args w, (callFunc 93 args).run Try.prog w = .ok (.enter 93 args) w := enters_of Try.func93 (by kernel_rfl) rfl
  have HA := fun W (hW : Below w.heap.size w W) => areAll2_clos (some P) n c q fl hok 93 #[] ec W hn (fun j hj => by
    obtain ⟨A, c, l, hc, hq⟩ := h j hj
    exact ⟨P, _, rfl, pw_cell_below hW hc, hq ▸ filledClos A c l W⟩)
  clear h ec hok
  by_cases hC : C = 0
  · subst hC
    rw [if_pos rfl]
    cases fl with
    | _ =>
      go_enter Try.func55, Try.ntmps55
      go_wp2_with (first | (go_at_call 40; refine HP.mono ?_; clear HP; rintro e w' ⟨rfl, hb⟩; have HA' := HA _ hb; have Hb := Aside0.mk hb; clear hb HA) | (go_at_call 84; refine HA'.mono ?_; clear HA'; rintro e w'' ⟨rfl, hb'⟩; have Hb' := Aside0.mk hb'; clear hb'))
      go_ret
      exact ⟨rfl, below_next Hb.out Hb'.out⟩
  · rw [if_neg hC]
    have d0 : (C == 0) = false := beq_eq_false_iff_ne.mpr hC
    have d1 : (C != 0) = true := bne_iff_ne.mpr hC
    clear HA
    go_enter Try.func55, Try.ntmps55
    go_wp2_with (go_at_call 40; refine HP.mono ?_; clear HP; rintro e w' ⟨rfl, hb⟩; have Hb := Aside0.mk hb; clear hb)
    go_ret
    exact ⟨rfl, Hb.out⟩
def impl_filledCode_1.f (k : Nat) (a0 : Int) (a1 : Bool) (l2 : List Int) : Option Int := (impl_polyCode_1.f k a0 a1 l2).bind fun c => some (if c = 0 then (if decide (0 < l2.length) = true then 0 else 5) else c)
theorem impl_filledCode_1.calls (k : Nat) (a0 : Int) (a1 : Bool) (A2 : Option Addr) (c2 : Nat) (l2 : List Int) (r : Int) (w : World) {g : Nat} {lb : Array Value} {P : Nat}
    (hr2 : Kd.C (Kd.int .i64) w A2 l2.length l2) (hc2 : l2.length ≤ c2) (h : impl_filledCode_1.f k a0 a1 l2 = some r) (eg : ∀ args w, (callFunc g args).run Try.prog w = .ok (.enter g args) w) (hg : Gives0 g lb a1 w) (hP : w.cell? ⟨P, 0, none⟩ = some (.slice A2 l2.length c2)) :
    Calls Try.prog 55 #[.int .i64 a0, .func (.func g) #[] lb, .slice (some ⟨P, 0, none⟩) 1 1] w fun e w' => e = .returned (.int .i64 r) ∧ Below w.heap.size w w' := by
  unfold impl_filledCode_1.f at h
  obtain ⟨C, h1, h2⟩ := Option.bind_eq_some_iff.mp h
  obtain rfl := Option.some.inj h2
  exact filledCode_any a0 C g lb ⟨P, 0, none⟩ 1 1 (by decide) (decide (0 < l2.length)) (fun _ => decide (0 < l2.length)) ⟨fun h j _ => h, fun h => h 0 (by decide)⟩ w (fun j hj => by
    obtain rfl : j = 0 := by omega
    exact ⟨A2, c2, l2, by rw [add_plain]; exact hP, rfl⟩) (impl_polyCode_1.calls k a0 a1 A2 c2 l2 C w hr2 hc2 h1 eg hg hP)
end Go.Proofs.Ythiignohbooelaa.H
namespace Go.Proofs.Ythiignohbooelaa.H
open Go.RowKit Go.Proofs.YthiignohbooelaaW.PrintWords Go.Proofs.YthiignohbooelaaW.PrintLast Go.Proofs.YthiignohbooelaaW.PrintMore
attribute [local go_sem] max2_int min2_int max_two min_two max_three min_three max_four min_four   -- for this text's walks alone
set_option linter.unusedVariables false
set_option linter.unusedSimpArgs false
/-! ### slices_Clone_int64_int64: function 94 -/
def slices_Clone_int64_int64.f (l0 : List Int) : Option (List Int) := (some (([] : List Int) : List Int)).bind fun y410 => (if y410.length + l0.length < 17592186044416 then (some (y410 ++ l0)) else (none))
set_option maxHeartbeats 8000000 in
set_option maxRecDepth 100000 in
theorem slices_Clone_int64_int64.calls (A0 : Option Addr) (c0 : Nat) (l0 : List Int) (r : List Int) (w : World) (hr0 : Kd.C (Kd.int .i64) w A0 l0.length l0) (hc0 : l0.length ≤ c0) (h : slices_Clone_int64_int64.f l0 = some r) :
    Calls Try.prog 94 #[.slice A0 l0.length c0] w fun e w' => ∃ v0_ : Value, e = .returned (v0_) ∧ Kd.R (Kd.int .i64) 2 w' w.heap.size (fun _ => True) v0_ r ∧ Below w.heap.size w w' := by
  have HR0 := Aside0.mk hr0
  have HC0 := Aside0.mk hc0
  clear hr0 hc0
  have HB := Aside0.mk (Below.refl w.heap.size w)
  by_cases hA0 : A0 = none
  · subst hA0
    have h0 : l0 = [] := by
      rcases Nat.eq_zero_or_pos l0.length with h0 | h0
      · exact List.eq_nil_of_length_eq_zero h0
      · obtain ⟨_, h1, _⟩ := HR0.out.2.2 h0
        cases h1
    subst h0
    have hr : r = [] := by
      have H := h
      simp [slices_Clone_int64_int64.f] at H
      first | exact H.symm | exact H
    subst hr
    clear h
    have hnl := fun W => Go.Lib.run_eql_slice_nil (P := Try.prog) W 24 2 none 0 c0 0 0 Try.underlying24
    go_enter Try.func94, Try.ntmps94
    go_wp2
    go_ret
    exact ⟨_, rfl, Kd.R_nil _ _ _ _ _, HB.out⟩
  obtain ⟨ad0, rfl⟩ : ∃ ad, A0 = some ad := Option.ne_none_iff_exists'.1 hA0
  clear hA0
  have hnl := fun W => Go.Lib.run_eql_slice_nil (P := Try.prog) W 24 2 (some ad0) l0.length c0 0 0 Try.underlying24
  have H : ((some (([] : List Int) : List Int)).bind fun y410 => (if y410.length + l0.length < 17592186044416 then (some (y410 ++ l0)) else (none))) = some r := h
  clear h
  obtain ⟨y410, hy410⟩ : ∃ y_ : List Int, y_ = (([] : List Int)) := ⟨_, rfl⟩
  replace H : (if y410.length + l0.length < 17592186044416 then (some (y410 ++ l0)) else (none)) = some r := by first | (rw [hy410]; with_reducible exact H) | (have H2_ := (Option.bind_some _ _).symm.trans H; rw [hy410]; with_reducible exact H2_) | (have H2_ := (Option.bind_some _ _).symm.trans H; with_reducible exact H2_) | with_reducible exact H | (rw [hy410]; exact H) | exact H
  have Ny410 := Aside0.mk hy410
  clear hy410
  by_cases c2 : y410.length + l0.length < 17592186044416
  · rw [if_pos c2] at H
    have LMc2 := Aside0.mk c2
    clear c2
    obtain ⟨y413, hy413⟩ : ∃ y_ : List Int, y_ = (y410 ++ l0) := ⟨_, rfl⟩
    replace H : (some y413) = some r := by first | (rw [hy413]; with_reducible exact H) | (have H2_ := (Option.bind_some _ _).symm.trans H; rw [hy413]; with_reducible exact H2_) | (have H2_ := (Option.bind_some _ _).symm.trans H; with_reducible exact H2_) | with_reducible exact H | (rw [hy413]; exact H) | exact H
    have Ny413 := Aside0.mk hy413
    clear hy413
    obtain rfl := Option.some.inj H
    go_enter Try.func94, Try.ntmps94
    go_wp2_with (first | ((with_reducible refine gate_dst (N := 5) rfl ?_); refine Kd.R_lit (Kd.int .i64) _ 2 ?hg (N := 5) ?hd (xs := ([] : List Int)) (inner := []) (ok := fun _ => True) (okp := fun _ => True) ?hr ?hp (fun _ hk => hk) trivial (Below.refl _ _) (Nat.le_refl _) (by simp) ?_; (case hd => rfl); (case hg => rfl); (case hr => first | (go_simp; done) | (go_simp; rfl)); (case hp => exact (Reps.none _ _)); intro v411 w3 ho4 hb hg_ hnew_; clear hg_ hnew_; (first | rw [← Ny410.out] at ho4 | (simp only [Int.reduceToNat] at ho4; rw [← Ny410.out] at ho4)); have n0_ := Aside0.mk (Kd.R_lower ho4 (below_size (bs HB))); have n1_ := Aside0.mk (below_step (bs HB) hb); clear HB; have HO412 := n0_; have HB := n1_; clear n0_ n1_; clear hb ho4) | ((with_reducible refine gate_builtin (b := .append) (xs := #[.tmp 5, .tmp 6]) rfl ?_); at_builtin; refine Kd.R_append_rows (Kd.int .i64) (w0 := w) w.heap.size rfl (.tmp 5) (.tmp 6) 24 2 (.int .i64 0) 8 rfl Try.underlying24 info2 rfl (by decide) (by omega) v411 y410 l0 _ _ _ (fun _ => True) (fun _ => False) rfl rfl ?aO ?aR (fun _ _ h => h) (fun _ h => h.elim) ?aF ?aB ?aS ?aL ?_; (case aR => exact cs ((Kd.C_below HR0.out HB.out))); (case aB => exact (bs HB)); (case aF => exact (fun _ _ => trivial)); (case aO => exact (rs HO412)); (case aS => exact (below_size (bs HB))); (case aL => have := LMc2.out; omega); intro v414 w5 ho hb hg hat; rw [← Ny413.out] at ho; have n0_ := Aside0.mk (hb); have n1_ := Aside0.mk (ho); clear HB; clear HO412; have HB := n0_; have HO415 := n1_; clear n0_ n1_; clear ho hb hg hat))
    go_ret
    exact ⟨_, by first | rfl | (simp [errW_none, errW_some] <;> rfl) | (simp [*, errW_none, errW_some] <;> rfl), by (with_reducible repeat (first | apply Kd.R_alloc | apply Kd.R_drewN | apply Kd.R_drew)); exact HO415.out, by repeat (first | (with_reducible first | exact HB.out | apply below_alloc | apply pw_below_drewN | apply below_drew1) | exact HB.out)⟩
  · rw [if_neg c2] at H
    exact absurd H (by simp)
end Go.Proofs.Ythiignohbooelaa.H
namespace Go.Proofs.Ythiignohbooelaa.H
open Go.RowKit Go.Proofs.YthiignohbooelaaW.PrintWords Go.Proofs.YthiignohbooelaaW.PrintLast Go.Proofs.YthiignohbooelaaW.PrintMore
attribute [local go_sem] max2_int min2_int max_two min_two max_three min_three max_four min_four   -- for this text's walks alone
set_option linter.unusedVariables false
set_option linter.unusedSimpArgs false
/-! ### impl_field_value: function 62 (by hand) -/
attribute [local go_sem] Oper.semAt_some
open Go.Shelf
/-- one step of Horner's rule, in the program's spelling -/
def stepv (p x o c : Int) : Int := (impl_field_mod.f p (wrap64 ((wrap64 (o * x)) + c))).getD 0
def impl_field_value.f (a0 : Int) (l1 : List Int) (a2 : Int) : Option Int := if a0 = 0 then none else some (l1.foldr (fun c o => stepv a0 a2 o c) 0)
def horW (p x : Int) (l : List (Int × Int)) : Int := l.foldl (fun o c => stepv p x o c.2) 0
theorem horW_snoc (p x : Int) (l : List (Int × Int)) (c : Int × Int) : horW p x (l ++ [c]) = stepv p x (horW p x l) c.2 := by simp [horW]
theorem horW_all (p x : Int) (l : List Int) : horW p x (bwUpto (fun j => rd l (j : Nat)) l.length l.length) = l.foldr (fun c o => stepv p x o c) 0 := by
  have h : ∀ k, k ≤ l.length → horW p x (bwUpto (fun j => rd l (j : Nat)) l.length k) = (l.drop (l.length - k)).foldr (fun c o => stepv p x o c) 0 := by
    intro k
    induction k with
    | zero => intro _; simp [bwUpto, horW]
    | succ k ih =>
      intro hk
      rw [bwUpto_succ, horW_snoc, ih (by omega), List.drop_eq_getElem_cons (show l.length - (k + 1) < l.length by omega), List.foldr_cons, show l.length - (k + 1) + 1 = l.length - k by omega]
      congr 1
      simp only [rd, Int.toNat_natCast, show l.length - 1 - k = l.length - (k + 1) by omega]
      rw [List.getD_eq_getElem?_getD, List.getElem?_eq_getElem (by omega)]
      rfl
  have := h l.length (Nat.le_refl _)
  rwa [Nat.sub_self, List.drop_zero] at this
theorem mod_some {p : Int} (hp : ¬ p = 0) (y : Int) : impl_field_mod.f p y = some ((impl_field_mod.f p y).getD 0) := by
  unfold impl_field_mod.f; rw [if_neg hp]; rfl
set_option maxRecDepth 100000 in
set_option maxHeartbeats 8000000 in
theorem impl_field_value.calls (a0 : Int) (A1 : Option Addr) (c1 : Nat) (l1 : List Int) (a2 : Int) (r : Int) (w : World) (hr1 : Kd.C (Kd.int .i64) w A1 l1.length l1) (hc1 : l1.length ≤ c1) (h : impl_field_value.f a0 l1 a2 = some r) :
    Calls Try.prog 62 #[.int .i64 a0, .slice A1 l1.length c1, .int .i64 a2] w fun e w' => e = .returned (.int .i64 r) ∧ Below w.heap.size w w' := by
  have hlen := Kd.C_max hr1
  unfold impl_field_value.f at h
  by_cases hp : a0 = 0
  · rw [if_pos hp] at h; cases h
  rw [if_neg hp] at h
  obtain rfl := Option.some.inj h
  clear h
  refine (callsIn_wide (n := 3)).1 ?_
  refine callsIn_of_wp_marks Try.func62 rfl trivial ?_ rfl
  simp only [Try.ntmps62, List.size_toArray, List.length_cons, List.length_nil, Nat.reduceAdd, Nat.reduceSub, Array.replicate_succ, Array.replicate_zero, List.push_toArray, List.append_toArray, List.nil_append, List.cons_append]
  gi_wp2_with (refine ⟨trivial, ?_⟩; gi_at_call 88; refine (backward_in _ _ trivial rfl _ _ _ _).mono ?_; rintro e w' ⟨rfl, rfl⟩)
  have bP : Boxed ((((w.alloc (.cells #[.int .i64 a0] 46)).alloc (.cells #[.int .i64 a2] 2)).alloc (.cells #[.int .i64 0] 2)).alloc (.cells #[.slice A1 l1.length c1] 24)) w.heap.size 46 (.int .i64 a0) := (((Boxed.new w _ _).alloc _).alloc _).alloc _
  have bX := ((Boxed.new (w.alloc (.cells #[.int .i64 a0] 46)) 2 (.int .i64 a2)).alloc (.cells #[.int .i64 0] 2)).alloc (.cells #[.slice A1 l1.length c1] 24)
  have bO := (Boxed.new ((w.alloc (.cells #[.int .i64 a0] 46)).alloc (.cells #[.int .i64 a2] 2)) 2 (.int .i64 0)).alloc (.cells #[.slice A1 l1.length c1] 24)
  have bS := Boxed.new (((w.alloc (.cells #[.int .i64 a0] 46)).alloc (.cells #[.int .i64 a2] 2)).alloc (.cells #[.int .i64 0] 2)) 24 (.slice A1 l1.length c1)
  simp only [World.size_alloc] at bX bO bS
  have hB0 : Below w.heap.size w ((((w.alloc (.cells #[.int .i64 a0] 46)).alloc (.cells #[.int .i64 a2] 2)).alloc (.cells #[.int .i64 0] 2)).alloc (.cells #[.slice A1 l1.length c1] 24)) := by
    repeat (first | exact Below.refl _ _ | apply below_alloc)
  have hsz : ((((w.alloc (.cells #[.int .i64 a0] 46)).alloc (.cells #[.int .i64 a2] 2)).alloc (.cells #[.int .i64 0] 2)).alloc (.cells #[.slice A1 l1.length c1] 24)).heap.size = w.heap.size + 4 := by simp
  obtain ⟨W0, hW0⟩ : ∃ W0, ((((w.alloc (.cells #[.int .i64 a0] 46)).alloc (.cells #[.int .i64 a2] 2)).alloc (.cells #[.int .i64 0] 2)).alloc (.cells #[.slice A1 l1.length c1] 24)) = W0 := ⟨_, rfl⟩
  rw [hW0] at bP bX bO bS hB0 hsz ⊢
  clear hW0
  have hC : ∀ W', Below w.heap.size W0 W' → ∀ j, j < l1.length → ∃ ad, A1 = some ad ∧ W'.cell? (ad.add j) = some (.int .i64 (id (rd l1 (j : Nat)))) := fun W' hW' j hj => by
    obtain ⟨ad, e, h⟩ := Kd.at_int (Kd.C_below hr1 (hB0.trans hW')) (j : Int) (by omega) (by omega)
    exact ⟨ad, e, by simpa using h⟩
  refine wpIn_rangeFunc_ownG rfl (by omega) (gf := 106) (lb := #[.pointer (some ⟨w.heap.size + 1 + 1 + 1, 0, none⟩)]) rfl trivial (enters_of Try.func106 (by kernel_rfl) rfl)
    (backward_stops (α := Int) id (fun j => rd l1 (j : Nat)) Fence.wide 2 trivial rfl (by omega) (w.heap.size + 1 + 1 + 1) w.heap.size l1.length c1 A1 hlen W0 (by omega) (by omega) bS hC) KpB.trans (KpB.put (by omega) (by omega)) (Below.refl _ _) (fun _ => rfl)
    (fun pre W => (Boxed W w.heap.size 46 (.int .i64 a0) ∧ Boxed W (w.heap.size + 1) 2 (.int .i64 a2) ∧ Boxed W (w.heap.size + 1 + 1) 2 (.int .i64 (horW a0 a2 pre))) ∧ Below w.heap.size w W)
    (fun _ _ _ => False)
    (OwnFrom.and (Own.from (fun s A B row hs hg hr => ⟨boxed_own _ _ (fun _ => _) s A B row hs.1 hg hr, boxed_own _ _ (fun _ => _) s A B row hs.2.1 hg hr, boxed_own _ _ (fun s => .int .i64 (horW a0 a2 s)) s A B row hs.2.2 hg hr⟩) _) (ownFrom_below (Nat.le_refl _) (by omega)))
    (fun _ _ _ _ _ hs _ _ => hs)
    ⟨⟨bP, bX, bO⟩, hB0⟩
    (fun x => { tmps := #[.int .i64 a0, .slice A1 l1.length c1, .int .i64 a2, .pointer (some ⟨w.heap.size, 0, none⟩), undef, .pointer (some ⟨w.heap.size + 1, 0, none⟩), .int .i64 0, .pointer (some ⟨w.heap.size + 1 + 1, 0, none⟩), undef, .int .i64 x.2, .slice A1 l1.length c1, .func (.func 106) #[] #[.pointer (some ⟨w.heap.size + 1 + 1 + 1, 0, none⟩)], .int .i64 x.1, .int .i64 x.2, undef, undef, undef, undef, undef, undef, undef, undef], defers := [] }) ?assign ?body ?done ?stop
  case assign =>
    intro l x W K hK
    gi_wp2
    exact hK
  case body =>
    rintro l pre x W ⟨⟨hP, hX, hO⟩, hB⟩ _
    have cP := hP.cell
    have cX := hX.cell
    have cO := hO.cell
    have fO := hO.frozen
    have hM := fun (y : Int) (W : World) => impl_field_mod.calls a0 y _ W (mod_some hp y)
    gi_wp2_with (refine ⟨trivial, ?_⟩; gi_at_call 44; refine (CallsIn.inRound l (callsIn_wide.2 (hM _ _))).mono ?_; rintro e w' ⟨rfl, ⟨nd, rfl⟩⟩)
    have hP' : Boxed (W.drewN nd) w.heap.size 46 (.int .i64 a0) := hP
    have hX' : Boxed (W.drewN nd) (w.heap.size + 1) 2 (.int .i64 a2) := hX
    have hO' : Boxed (W.drewN nd) (w.heap.size + 1 + 1) 2 (.int .i64 (horW a0 a2 pre)) := hO
    refine ⟨((keepsOthers_below (pw_below_drewN (Below.refl _ _) nd)).trans (KeepsOthers.setCell _ _ _)).from _, ⟨(pw_below_drewN (Below.refl _ _) nd).setCell (p := ⟨w.heap.size + 1 + 1, 0, none⟩) (Nat.le_add_right _ 2) _, Below.heap_setCell _ _ _ _ (by simp)⟩, ⟨Boxed.other hP' (by omega) _, Boxed.other hX' (by omega) _, ?_⟩, (pw_below_drewN hB nd).setCell (p := ⟨w.heap.size + 1 + 1, 0, none⟩) (Nat.le_add_right _ 2) _⟩
    rw [horW_snoc]
    exact Boxed.set _ hO'
  case done =>
    rintro D ys W hD rfl ⟨⟨hP, hX, hO⟩, hB⟩ hK
    rw [horW_all] at hO
    have cO := hO.cell
    gi_wp2
    refine ⟨by simp, .inl ⟨_, _, rfl, run_takeDeferred hK, ?_⟩⟩
    exact ⟨_, results_tmp rfl _ _ _, by rfl, hB.trans (belowK_b (w := w) (Nat.le_refl _) W D _ _ (by omega) hK rfl rfl)⟩
  case stop =>
    rintro D c pre W _ _ h _
    exact h.elim
end Go.Proofs.Ythiignohbooelaa.H
namespace Go.Proofs.Ythiignohbooelaa.H
open Go.RowKit Go.Proofs.YthiignohbooelaaW.PrintWords Go.Proofs.YthiignohbooelaaW.PrintLast Go.Proofs.YthiignohbooelaaW.PrintMore
attribute [local go_sem] max2_int min2_int max_two min_two max_three min_three max_four min_four   -- for this text's walks alone
set_option linter.unusedVariables false
set_option linter.unusedSimpArgs false
/-! ### impl_field_roots: function 60 -/
def impl_field_roots.l0 : Nat → Int → List Int → List Int → Int → Int → Option (List Int)
  | 0, _, _, _, _, _ => none
  | k + 1, x0, x1, x5, x7, x8 => if x8 < x7 then ((impl_field_value.f x0 x1 x8).bind fun t446 => (if t446 = 0 then (if x5.length < 17592186044416 then (impl_field_roots.l0 k x0 x1 (x5 ++ [x8]) x7 (wrap64 (x8 + 1))) else (none)) else (impl_field_roots.l0 k x0 x1 x5 x7 (wrap64 (x8 + 1))))) else (some x5)
def impl_field_roots.f (k : Nat) (a0 : Int) (l1 : List Int) : Option (List Int) := impl_field_roots.l0 k a0 l1 ([] : List Int) a0 0
set_option maxHeartbeats 8000000 in
set_option maxRecDepth 100000 in
theorem impl_field_roots.calls (k : Nat) (a0 : Int) (A1 : Option Addr) (c1 : Nat) (l1 : List Int) (r : List Int) (w : World) (hr1 : Kd.C (Kd.int .i64) w A1 l1.length l1) (hc1 : l1.length ≤ c1) (h : impl_field_roots.f k a0 l1 = some r) :
    Calls Try.prog 60 #[.int .i64 a0, .slice A1 l1.length c1] w fun e w' => ∃ v0_ : Value, e = .returned (v0_) ∧ Kd.R (Kd.int .i64) 2 w' w.heap.size (fun _ => True) v0_ r ∧ Below w.heap.size w w' := by
  have HR1 := Aside0.mk hr1
  have HC1 := Aside0.mk hc1
  clear hr1 hc1
  have HB := Aside0.mk (Below.refl w.heap.size w)
  have H : (impl_field_roots.l0 k a0 l1 ([] : List Int) a0 0) = some r := h
  clear h
  have H' := Aside0.mk H
  clear H
  go_enter Try.func60, Try.ntmps60
  go_wp2
  go_loopg [5, 8] k (fun kq v5 v8 w' => ∃ (x5_1 : List Int) (x8_1 : Int), v8 = .int .i64 x8_1 ∧ Aside0 (impl_field_roots.l0 kq a0 l1 x5_1 a0 x8_1 = some r) ∧ Aside0 (kq ≤ k) ∧ Aside0 (Kd.R (Kd.int .i64) 2 w' w.heap.size (fun _ => True) v5 x5_1) ∧ Aside0 (Below w.heap.size w w'))
  case atStart => exact ⟨(([] : List Int)), (0), ea_, H', ⟨Nat.le_refl _⟩, ⟨by first | exact Kd.R_nil _ _ _ _ _ | exact Kd.N_nil _ _ _ _ _ | exact Kd.V_nil _ _ _ _ _ | exact Kd.Q_nil _ _ _ _ _ | exact Kd.S_nil _ _ _ _ _⟩, ⟨by repeat (first | (with_reducible first | exact HB.out | apply below_alloc | apply pw_below_drewN | apply below_drew1) | exact HB.out)⟩⟩
  case round =>
    clear H'
    try clear c1
    try clear p2
    obtain ⟨x5_1, x8_1, rfl, HA, HK1, HO_5, HB⟩ := hrel
    cases gk with
    | zero => exact absurd HA.out (by simp [impl_field_roots.l0])
    | succ k1 =>
      have H := HA.out
      clear HA
      simp only [impl_field_roots.l0] at H
      by_cases c3 : x8_1 < a0
      · rw [if_pos c3] at H
        have c3b0 : decide (x8_1 < a0) = true := decide_eq_true c3
        clear c3
        replace H := Option.bind_eq_some_iff.mp H
        obtain ⟨t446, A40, H⟩ := H
        have A4 := Aside0.mk A40
        clear A40
        by_cases c5 : t446 = 0
        · rw [if_pos c5] at H
          have c5b0 : (t446 == 0) = true := beq_iff_eq.mpr c5
          have c5b1 : (t446 != 0) = false := bne_eq_false_iff_eq.mpr c5
          clear c5
          by_cases c6 : x5_1.length < 17592186044416
          · rw [if_pos c6] at H
            have LMc6 := Aside0.mk c6
            clear c6
            obtain ⟨y447, hy447⟩ : ∃ y_ : List Int, y_ = (x5_1 ++ [x8_1]) := ⟨_, rfl⟩
            replace H : (impl_field_roots.l0 k1 a0 l1 y447 a0 (wrap64 (x8_1 + 1))) = some r := by first | (rw [hy447]; with_reducible exact H) | (have H2_ := (Option.bind_some _ _).symm.trans H; rw [hy447]; with_reducible exact H2_) | (have H2_ := (Option.bind_some _ _).symm.trans H; with_reducible exact H2_) | with_reducible exact H | (rw [hy447]; exact H) | exact H
            have Ny447 := Aside0.mk hy447
            clear hy447
            have H' := Aside0.mk H
            clear H
            go_wp2_with (first | ((with_reducible refine gate_callee (f := 62) rfl ?_); refine goesM_ (some 14) rfl rfl Try.func62 #[.int .i64 a0, .slice A1 l1.length c1, .int .i64 x8_1] rfl ?_; (with_reducible refine (impl_field_value.calls a0 _ _ l1 x8_1 t446 _ ?side1 ?side2 A4.out).mono ?_); (case side1 => exact cs ((Kd.C_below HR1.out HB.out))); (case side2 => exact HC1.out); rintro e w7 ⟨rfl, hb⟩; refine ⟨_, rfl, ?_⟩; have n0_ := Aside0.mk (Kd.R_below (rs HO_5) hb); have n1_ := Aside0.mk (below_step (bs HB) hb); clear HO_5; clear HB; have HO_5 := n0_; have HB := n1_; clear n0_ n1_; (try clear hb); (try clear hb2); (try clear hk); (try clear hi)) | ((with_reducible refine gate_builtin (b := .append) (xs := #[.tmp 16, .tmp 18]) rfl ?_); at_builtin; refine Kd.R_append (Kd.int .i64) (w0 := w) w.heap.size rfl (.tmp 16) (.tmp 18) 24 2 (.int .i64 0) 8 rfl Try.underlying24 info2 rfl (by decide) (by omega) u5 x5_1 x8_1 [.int .i64 x8_1] (fun _ => True) (fun _ => False) rfl rfl ?aP (fun _ hk => hk.elim) ?aF ?aO ?aB ?aS ?aL ?_; (case aP => exact rfl); (case aB => exact (bs HB)); (case aF => exact (fun _ _ => trivial)); (case aO => exact (rs HO_5)); (case aS => exact (below_size (bs HB))); (case aL => have := LMc6.out; omega); intro v448 w8 ho hb hg hat; rw [← Ny447.out] at ho; have n0_ := Aside0.mk (hb); have n1_ := Aside0.mk (ho); clear HB; clear HO_5; have HB := n0_; have HO449 := n1_; clear n0_ n1_; clear ho hb hg hat))
            go_roundg k1
            case measure => have := HK1.out; omega
            case rel => exact ⟨(y447), (wrap64 (x8_1 + 1)), ea_, H', ⟨by have := HK1.out; omega⟩, ⟨by (with_reducible repeat (first | apply Kd.R_alloc | apply Kd.R_drewN | apply Kd.R_drew)); exact HO449.out⟩, ⟨by repeat (first | (with_reducible first | exact HB.out | apply below_alloc | apply pw_below_drewN | apply below_drew1) | exact HB.out)⟩⟩
          · rw [if_neg c6] at H
            exact absurd H (by simp)
        · rw [if_neg c5] at H
          have c5b0 : (t446 == 0) = false := beq_eq_false_iff_ne.mpr c5
          have c5b1 : (t446 != 0) = true := bne_iff_ne.mpr c5
          have H' := Aside0.mk H
          clear H
          go_wp2_with (first | ((with_reducible refine gate_callee (f := 62) rfl ?_); refine goesM_ (some 14) rfl rfl Try.func62 #[.int .i64 a0, .slice A1 l1.length c1, .int .i64 x8_1] rfl ?_; (with_reducible refine (impl_field_value.calls a0 _ _ l1 x8_1 t446 _ ?side1 ?side2 A4.out).mono ?_); (case side1 => exact cs ((Kd.C_below HR1.out HB.out))); (case side2 => exact HC1.out); rintro e w9 ⟨rfl, hb⟩; refine ⟨_, rfl, ?_⟩; have n0_ := Aside0.mk (Kd.R_below (rs HO_5) hb); have n1_ := Aside0.mk (below_step (bs HB) hb); clear HO_5; clear HB; have HO_5 := n0_; have HB := n1_; clear n0_ n1_; (try clear hb); (try clear hb2); (try clear hk); (try clear hi)))
          go_roundg k1
          case measure => have := HK1.out; omega
          case rel => exact ⟨(x5_1), (wrap64 (x8_1 + 1)), ea_, H', ⟨by have := HK1.out; omega⟩, ⟨by (with_reducible repeat (first | apply Kd.R_alloc | apply Kd.R_drewN | apply Kd.R_drew)); exact HO_5.out⟩, ⟨by repeat (first | (with_reducible first | exact HB.out | apply below_alloc | apply pw_below_drewN | apply below_drew1) | exact HB.out)⟩⟩
      · rw [if_neg c3] at H
        have c3b0 : decide (x8_1 < a0) = false := decide_eq_false c3
        clear c3
        obtain rfl := Option.some.inj H
        go_wp2
        go_ret
        exact ⟨_, by first | rfl | (simp [errW_none, errW_some] <;> rfl) | (simp [*, errW_none, errW_some] <;> rfl), by (with_reducible repeat (first | apply Kd.R_alloc | apply Kd.R_drewN | apply Kd.R_drew)); exact HO_5.out, by repeat (first | (with_reducible first | exact HB.out | apply below_alloc | apply pw_below_drewN | apply below_drew1) | exact HB.out)⟩
end Go.Proofs.Ythiignohbooelaa.H
namespace Go.Proofs.Ythiignohbooelaa.H
open Go.RowKit Go.Proofs.YthiignohbooelaaW.PrintWords Go.Proofs.YthiignohbooelaaW.PrintLast Go.Proofs.YthiignohbooelaaW.PrintMore
attribute [local go_sem] max2_int min2_int max_two min_two max_three min_three max_four min_four   -- for this text's walks alone
set_option linter.unusedVariables false
set_option linter.unusedSimpArgs false
/-! ### impl_RootsIn: function 17 -/
def impl_RootsIn.f (k : Nat) (a0 : Int) (l1 : List Int) : Option (List Int × Int) := (impl_filledCode_1.f k a0 true l1).bind fun t450 => (if t450 = 0 then ((impl_field_roots.f k a0 l1).bind fun t451 => (some (t451, 0))) else (some (([] : List Int), t450)))
set_option maxHeartbeats 8000000 in
set_option maxRecDepth 100000 in
theorem impl_RootsIn.calls (k : Nat) (a0 : Int) (A1 : Option Addr) (c1 : Nat) (l1 : List Int) (r1 : List Int) (r2 : Int) (w : World) (hr1 : Kd.C (Kd.int .i64) w A1 l1.length l1) (hc1 : l1.length ≤ c1) (h : impl_RootsIn.f k a0 l1 = some (r1, r2)) :
    Calls Try.prog 17 #[.int .i64 a0, .slice A1 l1.length c1] w fun e w' => ∃ v0_ : Value, e = .returned (.tuple #[v0_, .int .i64 r2]) ∧ Kd.R (Kd.int .i64) 2 w' w.heap.size (fun _ => True) v0_ r1 ∧ Below w.heap.size w w' := by
  have HR1 := Aside0.mk hr1
  have HC1 := Aside0.mk hc1
  clear hr1 hc1
  have HB := Aside0.mk (Below.refl w.heap.size w)
  have H : ((impl_filledCode_1.f k a0 true l1).bind fun t450 => (if t450 = 0 then ((impl_field_roots.f k a0 l1).bind fun t451 => (some (t451, 0))) else (some (([] : List Int), t450)))) = some (r1, r2) := h
  clear h
  replace H := Option.bind_eq_some_iff.mp H
  obtain ⟨t450, A30, H⟩ := H
  have A3 := Aside0.mk A30
  clear A30
  by_cases c4 : t450 = 0
  · rw [if_pos c4] at H
    have c4b0 : (t450 == 0) = true := beq_iff_eq.mpr c4
    have c4b1 : (t450 != 0) = false := bne_eq_false_iff_eq.mpr c4
    clear c4
    replace H := Option.bind_eq_some_iff.mp H
    obtain ⟨t451, A50, H⟩ := H
    have A5 := Aside0.mk A50
    clear A50
    simp only [Option.some.injEq, Prod.mk.injEq] at H
    obtain ⟨rfl, rfl⟩ := H
    go_enter Try.func17, Try.ntmps17
    go_wp2_with (first | (go_at_call 55; (with_reducible refine (impl_filledCode_1.calls k a0 true A1 c1 l1 t450 _ ?side1 ?side2 A3.out ?sideE ?sideG ?sideP).mono ?_); (case side1 => exact cs (HR1.out)); (case side2 => exact HC1.out); (case sideE => (first | exact enters_of Try.func56 (by kernel_rfl) rfl)); (case sideG => (first | exact always_gives _)); (case sideP => (first | (simp; done) | (simp [*]; done))); rintro e w6 ⟨rfl, hb⟩; have n0_ := Aside0.mk (below_step (bs HB) hb); clear HB; have HB := n0_; clear n0_; (try clear hb); (try clear hb2); (try clear hk); (try clear hi)) | ((with_reducible refine gate_callee (f := 60) rfl ?_); refine goesM_ (some 16) rfl rfl Try.func60 #[.int .i64 a0, .slice A1 l1.length c1] rfl ?_; (with_reducible refine (impl_field_roots.calls k a0 _ _ l1 t451 _ ?side1 ?side2 A5.out).mono ?_); (case side1 => exact cs ((Kd.C_below HR1.out HB.out))); (case side2 => exact HC1.out); rintro e w7 ⟨v452, rfl, ho0, hb⟩; refine ⟨_, rfl, ?_⟩; have n0_ := Aside0.mk (Kd.R_lower ho0 (below_size (bs HB))); have n1_ := Aside0.mk (below_step (bs HB) hb); clear HB; have HO453 := n0_; have HB := n1_; clear n0_ n1_; (try clear hb); (try clear hb2); (try clear hk); (try clear hi); (try clear ho0)))
    go_ret2
    exact ⟨_, by first | rfl | (simp [errW_none, errW_some] <;> rfl) | (simp [*, errW_none, errW_some] <;> rfl), by (with_reducible repeat (first | apply Kd.R_alloc | apply Kd.R_drewN | apply Kd.R_drew)); exact HO453.out, by repeat (first | (with_reducible first | exact HB.out | apply below_alloc | apply pw_below_drewN | apply below_drew1) | exact HB.out)⟩
  · rw [if_neg c4] at H
    have c4b0 : (t450 == 0) = false := beq_eq_false_iff_ne.mpr c4
    have c4b1 : (t450 != 0) = true := bne_iff_ne.mpr c4
    simp only [Option.some.injEq, Prod.mk.injEq] at H
    obtain ⟨rfl, rfl⟩ := H
    go_enter Try.func17, Try.ntmps17
    go_wp2_with (first | (go_at_call 55; (with_reducible refine (impl_filledCode_1.calls k a0 true A1 c1 l1 t450 _ ?side1 ?side2 A3.out ?sideE ?sideG ?sideP).mono ?_); (case side1 => exact cs (HR1.out)); (case side2 => exact HC1.out); (case sideE => (first | exact enters_of Try.func56 (by kernel_rfl) rfl)); (case sideG => (first | exact always_gives _)); (case sideP => (first | (simp; done) | (simp [*]; done))); rintro e w8 ⟨rfl, hb⟩; have n0_ := Aside0.mk (below_step (bs HB) hb); clear HB; have HB := n0_; clear n0_; (try clear hb); (try clear hb2); (try clear hk); (try clear hi)))
    go_ret2
    exact ⟨_, by first | rfl | (simp [errW_none, errW_some] <;> rfl) | (simp [*, errW_none, errW_some] <;> rfl), by first | exact Kd.R_nil _ _ _ _ _ | exact Kd.N_nil _ _ _ _ _ | exact Kd.V_nil _ _ _ _ _ | exact Kd.Q_nil _ _ _ _ _ | exact Kd.S_nil _ _ _ _ _, by repeat (first | (with_reducible first | exact HB.out | apply below_alloc | apply pw_below_drewN | apply below_drew1) | exact HB.out)⟩
end Go.Proofs.Ythiignohbooelaa.H
namespace Go.Proofs.Ythiignohbooelaa.H
open Go.RowKit Go.Proofs.YthiignohbooelaaW.PrintWords Go.Proofs.YthiignohbooelaaW.PrintLast Go.Proofs.YthiignohbooelaaW.PrintMore
attribute [local go_sem] max2_int min2_int max_two min_two max_three min_three max_four min_four   -- for this text's walks alone
set_option linter.unusedVariables false
set_option linter.unusedSimpArgs false
/-! ### impl_length_int64: function 92 -/
def impl_length_int64.f (l0 : List Int) : Option (Int) := some (l0.length : Int)
set_option maxHeartbeats 8000000 in
set_option maxRecDepth 100000 in
theorem impl_length_int64.calls (A0 : Option Addr) (c0 : Nat) (l0 : List Int) (r : Int) (w : World) (hr0 : Kd.C (Kd.int .i64) w A0 l0.length l0) (hc0 : l0.length ≤ c0) (h : impl_length_int64.f l0 = some r) :
    Calls Try.prog 92 #[.slice A0 l0.length c0] w fun e w' => e = .returned (.int .i64 r) ∧ Drawn0 w w' := by
  have HR0 := Aside0.mk hr0
  have HC0 := Aside0.mk hc0
  clear hr0 hc0
  have H : (some (l0.length : Int)) = some r := h
  clear h
  obtain rfl := Option.some.inj H
  go_enter Try.func92, Try.ntmps92
  go_wp2
  go_ret
  exact ⟨by first | rfl | (simp; done) | (simp [*]; done), by repeat (first | exact Drawn0.refl _ | apply Drawn0.step)⟩
end Go.Proofs.Ythiignohbooelaa.H
namespace Go.Proofs.Ythiignohbooelaa.H
open Go.RowKit Go.Proofs.YthiignohbooelaaW.PrintWords Go.Proofs.YthiignohbooelaaW.PrintLast Go.Proofs.YthiignohbooelaaW.PrintMore
attribute [local go_sem] max2_int min2_int max_two min_two max_three min_three max_four min_four   -- for this text's walks alone
set_option linter.unusedVariables false
set_option linter.unusedSimpArgs false
/-! ### impl_degree: function 54 -/
def impl_degree.f (l0 : List Int) : Option (Int) := (impl_length_int64.f l0).bind fun t375 => (some (wrap64 (t375 - 1)))
set_option maxHeartbeats 8000000 in
set_option maxRecDepth 100000 in
theorem impl_degree.calls (A0 : Option Addr) (c0 : Nat) (l0 : List Int) (r : Int) (w : World) (hr0 : Kd.C (Kd.int .i64) w A0 l0.length l0) (hc0 : l0.length ≤ c0) (h : impl_degree.f l0 = some r) :
    Calls Try.prog 54 #[.slice A0 l0.length c0] w fun e w' => e = .returned (.int .i64 r) ∧ Drawn0 w w' := by
  have HR0 := Aside0.mk hr0
  have HC0 := Aside0.mk hc0
  clear hr0 hc0
  have H : ((impl_length_int64.f l0).bind fun t375 => (some (wrap64 (t375 - 1)))) = some r := h
  clear h
  replace H := Option.bind_eq_some_iff.mp H
  obtain ⟨t375, A20, H⟩ := H
  have A2 := Aside0.mk A20
  clear A20
  obtain rfl := Option.some.inj H
  go_enter Try.func54, Try.ntmps54
  go_wp2_with (first | ((with_reducible refine gate_callee (f := 92) rfl ?_); refine goesM_ (some 4) rfl rfl Try.func92 #[.slice A0 l0.length c0] rfl ?_; (with_reducible refine (impl_length_int64.calls _ _ l0 t375 _ ?side1 ?side2 A2.out).mono ?_); (case side1 => exact cs (HR0.out)); (case side2 => exact HC0.out); rintro e w' ⟨rfl, ⟨nd, rfl⟩⟩; refine ⟨_, rfl, ?_⟩))
  go_ret
  exact ⟨by first | rfl | (simp; done) | (simp [*]; done), by repeat (first | exact Drawn0.refl _ | apply Drawn0.step)⟩
end Go.Proofs.Ythiignohbooelaa.H
namespace Go.Proofs.Ythiignohbooelaa.H
open Go.RowKit Go.Proofs.YthiignohbooelaaW.PrintWords Go.Proofs.YthiignohbooelaaW.PrintLast Go.Proofs.YthiignohbooelaaW.PrintMore
attribute [local go_sem] max2_int min2_int max_two min_two max_three min_three max_four min_four   -- for this text's walks alone
set_option linter.unusedVariables false
set_option linter.unusedSimpArgs false
/-! ### laws_big: function 6 -/
def laws_big.f (l0 : List Int) : Option (Bool) := some (decide ((l0.length : Int) > 4096))
set_option maxHeartbeats 8000000 in
set_option maxRecDepth 100000 in
theorem laws_big.calls (A0 : Option Addr) (c0 : Nat) (l0 : List Int) (r : Bool) (w : World) (hr0 : Kd.C (Kd.int .u8) w A0 l0.length l0) (hc0 : l0.length ≤ c0) (h : laws_big.f l0 = some r) :
    Calls Try.prog 6 #[.slice A0 l0.length c0] w fun e w' => e = .returned (.bool r) ∧ Drawn0 w w' := by
  have HR0 := Aside0.mk hr0
  have HC0 := Aside0.mk hc0
  clear hr0 hc0
  have H : (some (decide ((l0.length : Int) > 4096))) = some r := h
  clear h
  obtain rfl := Option.some.inj H
  go_enter Try.func6, Try.ntmps6
  go_wp2
  go_ret
  exact ⟨by first | rfl | (simp; done) | (simp [*]; done), by repeat (first | exact Drawn0.refl _ | apply Drawn0.step)⟩
end Go.Proofs.Ythiignohbooelaa.H
namespace Go.Proofs.Ythiignohbooelaa.H
open Go.RowKit Go.Proofs.YthiignohbooelaaW.PrintWords Go.Proofs.YthiignohbooelaaW.PrintLast Go.Proofs.YthiignohbooelaaW.PrintMore
attribute [local go_sem] max2_int min2_int max_two min_two max_three min_three max_four min_four   -- for this text's walks alone
set_option linter.unusedVariables false
set_option linter.unusedSimpArgs false
/-! ### laws_likeInts: function 10 -/
def laws_likeInts.l0 : Nat → List Int → List Int → Int → Option (Bool)
  | 0, _, _, _ => none
  | k + 1, x0, x1, x5 => if x5 < (x0.length : Int) then (if 0 ≤ x5 then (if x5 < (x1.length : Int) then (if (rd x0 x5) = (rd x1 x5) then (laws_likeInts.l0 k x0 x1 (wrap64 (x5 + 1))) else (some false)) else (none)) else (none)) else (some true)
def laws_likeInts.f (k : Nat) (l0 : List Int) (l1 : List Int) : Option (Bool) := if (l0.length : Int) = (l1.length : Int) then (laws_likeInts.l0 k l0 l1 0) else (some false)
set_option maxHeartbeats 8000000 in
set_option maxRecDepth 100000 in
theorem laws_likeInts.calls (k : Nat) (A0 : Option Addr) (c0 : Nat) (l0 : List Int) (A1 : Option Addr) (c1 : Nat) (l1 : List Int) (r : Bool) (w : World) (hr0 : Kd.C (Kd.int .i64) w A0 l0.length l0) (hc0 : l0.length ≤ c0) (hr1 : Kd.C (Kd.int .i64) w A1 l1.length l1) (hc1 : l1.length ≤ c1) (h : laws_likeInts.f k l0 l1 = some r) :
    Calls Try.prog 10 #[.slice A0 l0.length c0, .slice A1 l1.length c1] w fun e w' => e = .returned (.bool r) ∧ Drawn0 w w' := by
  have HR0 := Aside0.mk hr0
  have HC0 := Aside0.mk hc0
  clear hr0 hc0
  have HR1 := Aside0.mk hr1
  have HC1 := Aside0.mk hc1
  clear hr1 hc1
  have H : (if (l0.length : Int) = (l1.length : Int) then (laws_likeInts.l0 k l0 l1 0) else (some false)) = some r := h
  clear h
  by_cases c3 : (l0.length : Int) = (l1.length : Int)
  · rw [if_pos c3] at H
    have c3b0 : ((l0.length : Int) == (l1.length : Int)) = true := beq_iff_eq.mpr c3
    have c3b1 : ((l0.length : Int) != (l1.length : Int)) = false := bne_eq_false_iff_eq.mpr c3
    have c3b2 : (l0.length == l1.length) = true := by first | simpa using c3 | (simp at c3 ⊢; omega)
    clear c3
    have H' := Aside0.mk H
    clear H
    go_enter Try.func10, Try.ntmps10
    go_wp2
    repeat (go_quiet (fail); try go_wp2)
    go_loopg [5] k (fun kq v5 w' => ∃ (x5_1 : Int), v5 = .int .i64 x5_1 ∧ Aside0 (laws_likeInts.l0 kq l0 l1 x5_1 = some r) ∧ Aside0 (kq ≤ k) ∧ Drawn0 w w')
    case atStart => exact ⟨(0), ea_, H', ⟨Nat.le_refl _⟩, by repeat (first | exact Drawn0.refl _ | apply Drawn0.step)⟩
    case round =>
      clear H'
      try clear c1
      try clear p2
      try clear c3
      try clear c3b0
      try clear c3b1
      try clear c3b2
      obtain ⟨x5_1, rfl, HA, HK1, ⟨m1, rfl⟩⟩ := hrel
      cases gk with
      | zero => exact absurd HA.out (by simp [laws_likeInts.l0])
      | succ k1 =>
        have H := HA.out
        clear HA
        simp only [laws_likeInts.l0] at H
        by_cases c4 : x5_1 < (l0.length : Int)
        · rw [if_pos c4] at H
          have c4b0 : decide (x5_1 < (l0.length : Int)) = true := decide_eq_true c4
          clear c4
          by_cases c5 : 0 ≤ x5_1
          · rw [if_pos c5] at H
            have c5b0 : decide (0 ≤ x5_1) = true := decide_eq_true c5
            clear c5
            by_cases c6 : x5_1 < (l1.length : Int)
            · rw [if_pos c6] at H
              have c6b0 : decide (x5_1 < (l1.length : Int)) = true := decide_eq_true c6
              clear c6
              by_cases c7 : (rd l0 x5_1) = (rd l1 x5_1)
              · rw [if_pos c7] at H
                have c7b0 : ((rd l0 x5_1) == (rd l1 x5_1)) = true := beq_iff_eq.mpr c7
                have c7b1 : ((rd l0 x5_1) != (rd l1 x5_1)) = false := bne_eq_false_iff_eq.mpr c7
                clear c7
                have H' := Aside0.mk H
                clear H
                have p363 : 0 ≤ (x5_1 : Int) := of_decide_eq_true (by first | (with_reducible assumption) | assumption)
                have q363 : x5_1 < (l0.length : Int) := of_decide_eq_true (by first | (with_reducible assumption) | assumption)
                obtain ⟨ad363, e363, hx363_0⟩ := Kd.at_int HR0.out x5_1 p363 q363
                cases e363
                replace p363 := eq_true p363
                replace q363 := eq_true q363
                have p364 : 0 ≤ (x5_1 : Int) := of_decide_eq_true (by first | (with_reducible assumption) | assumption)
                have q364 : x5_1 < (l1.length : Int) := of_decide_eq_true (by first | (with_reducible assumption) | assumption)
                obtain ⟨ad364, e364, hx364_0⟩ := Kd.at_int HR1.out x5_1 p364 q364
                cases e364
                replace p364 := eq_true p364
                replace q364 := eq_true q364
                go_wp2
                repeat (go_quiet (fail); try go_wp2)
                go_roundg k1
                case measure => have := HK1.out; omega
                case rel => exact ⟨(wrap64 (x5_1 + 1)), ea_, H', ⟨by have := HK1.out; omega⟩, by repeat (first | exact Drawn0.refl _ | apply Drawn0.step)⟩
              · rw [if_neg c7] at H
                have c7b0 : ((rd l0 x5_1) == (rd l1 x5_1)) = false := beq_eq_false_iff_ne.mpr c7
                have c7b1 : ((rd l0 x5_1) != (rd l1 x5_1)) = true := bne_iff_ne.mpr c7
                obtain rfl := Option.some.inj H
                have p363 : 0 ≤ (x5_1 : Int) := of_decide_eq_true (by first | (with_reducible assumption) | assumption)
                have q363 : x5_1 < (l0.length : Int) := of_decide_eq_true (by first | (with_reducible assumption) | assumption)
                obtain ⟨ad363, e363, hx363_0⟩ := Kd.at_int HR0.out x5_1 p363 q363
                cases e363
                replace p363 := eq_true p363
                replace q363 := eq_true q363
                have p364 : 0 ≤ (x5_1 : Int) := of_decide_eq_true (by first | (with_reducible assumption) | assumption)
                have q364 : x5_1 < (l1.length : Int) := of_decide_eq_true (by first | (with_reducible assumption) | assumption)
                obtain ⟨ad364, e364, hx364_0⟩ := Kd.at_int HR1.out x5_1 p364 q364
                cases e364
                replace p364 := eq_true p364
                replace q364 := eq_true q364
                go_wp2
                repeat (go_quiet (fail); try go_wp2)
                go_ret
                exact ⟨by first | rfl | (simp; done) | (simp [*]; done), by repeat (first | exact Drawn0.refl _ | apply Drawn0.step)⟩
            · rw [if_neg c6] at H
              exact absurd H (by simp)
          · rw [if_neg c5] at H
            exact absurd H (by simp)
        · rw [if_neg c4] at H
          have c4b0 : decide (x5_1 < (l0.length : Int)) = false := decide_eq_false c4
          clear c4
          obtain rfl := Option.some.inj H
          go_wp2
          repeat (go_quiet (fail); try go_wp2)
          go_ret
          exact ⟨by first | rfl | (simp; done) | (simp [*]; done), by repeat (first | exact Drawn0.refl _ | apply Drawn0.step)⟩
  · rw [if_neg c3] at H
    have c3b0 : ((l0.length : Int) == (l1.length : Int)) = false := beq_eq_false_iff_ne.mpr c3
    have c3b1 : ((l0.length : Int) != (l1.length : Int)) = true := bne_iff_ne.mpr c3
    have c3b2 : (l0.length == l1.length) = false := by first | simpa using c3 | (simp at c3 ⊢; omega)
    obtain rfl := Option.some.inj H
    go_enter Try.func10, Try.ntmps10
    go_wp2
    repeat (go_quiet (fail); try go_wp2)
    go_ret
    exact ⟨by first | rfl | (simp; done) | (simp [*]; done), by repeat (first | exact Drawn0.refl _ | apply Drawn0.step)⟩
end Go.Proofs.Ythiignohbooelaa.H
