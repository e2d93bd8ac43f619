/- Joined texts of a claim: the printed functions and what is proved of them. -/
import Derived.Test.YtlmolloallhclaaYHx0
import Derived.Test.YtlmolloallhclaaMa7
import Derived.Test.YtlmolloallhclaaMa2
import Derived.Test.YtlmolloallhclaaMa4
import Derived.Test.YtlmolloallhclaaMa6
import Derived.Test.YtlmolloallhclaaMa3
namespace Go.Proofs.Ytlmolloallhclaa.H
open Go.RowKit Go.Proofs.YtlmolloallhclaaW.PrintWords Go.Proofs.YtlmolloallhclaaW.PrintLast Go.Proofs.YtlmolloallhclaaW.PrintMore
attribute [local go_sem] max2_int min2_int max_two min_two max_three min_three max_four min_four   -- for this text's walks alone
set_option linter.unusedVariables false
set_option linter.unusedSimpArgs false
mutual
def spec_l06Draw.j1 : Nat → Int → List Int → List Int → Int → Int → Option (Int × List Int × Int × Int)
 | 0, _, _, _, _, _ => none
 | k + 1, x4, x5, x1000, x1001, x1002 => (spec_l01Next.f x1000 x1001 x1002 40).bind fun bt615 => (if bt615.1 = 0 then ((spec_l01Own.f x5).bind fun t618 => (if t618.length < 17592186044416 then (some (x4, (t618 ++ [0]), bt615.2.1, bt615.2.2)) else (none))) else (if bt615.1 = 1 then ((spec_l01Pick.f x1000 bt615.2.1 bt615.2.2 (([0, 1, 4, 9] : List Int))).bind fun bt627 => (some (bt627.1, x5, bt627.2.1, bt627.2.2))) else (if bt615.1 = 2 then (some (x4, (([] : List Int)), bt615.2.1, bt615.2.2)) else (some (x4, x5, bt615.2.1, bt615.2.2)))))
def spec_l06Draw.l0 : Nat → Int → List Int → Int → List Int → Int → Int → Option (Int × List Int × Int × Int)
 | 0, _, _, _, _, _, _ => none
 | k + 1, x4, x6, x7, x1000, x1001, x1002 => if x7 > 0 then ((spec_l01Next.f x1000 x1001 x1002 x4).bind fun bt586 => ((spec_l01Next.f x1000 bt586.2.1 bt586.2.2 (mn x4 4)).bind fun bt589 => ((spec_l01Pick.f x1000 bt589.2.1 bt589.2.2 (([bt586.1, bt589.1] : List Int))).bind fun bt595 => (if x6.length < 17592186044416 then (spec_l06Draw.l0 k x4 (x6 ++ [bt595.1]) (wrap64 (x7 - 1)) x1000 bt595.2.1 bt595.2.2) else (none))))) else ((spec_l06Of.f k x4 x6).bind fun t601 => ((spec_l01Next.f x1000 x1001 x1002 3).bind fun bt604 => (if bt604.1 = 0 then ((spec_l01DrawPoly.f k x1000 bt604.2.1 bt604.2.2 x4 3).bind fun bt607 => ((spec_l01Times.f k x4 t601 bt607.1).bind fun t612 => (spec_l06Draw.j1 k x4 t612 x1000 bt607.2.1 bt607.2.2))) else (spec_l06Draw.j1 k x4 t601 x1000 bt604.2.1 bt604.2.2))))
end
def spec_l06Draw.f (k : Nat) (s0_0 : List Int) (s0_1 : Int) (s0_2 : Int) : Option (Int × List Int × Int × Int) := (spec_l01DrawPrime.f s0_0 s0_1 s0_2).bind fun bt560 => ((spec_l01Next.f s0_0 bt560.2.1 bt560.2.2 12).bind fun bt563 => ((spec_l01Pick.f s0_0 bt563.2.1 bt563.2.2 (([1, 2, 3, 4, bt563.1] : List Int))).bind fun bt569 => ((spec_l01DrawPoly.f k s0_0 bt569.2.1 bt569.2.2 bt560.1 bt569.1).bind fun bt572 => ((spec_l01Next.f s0_0 bt572.2.1 bt572.2.2 2).bind fun bt577 => (if bt577.1 = 0 then ((spec_l01Next.f s0_0 bt577.2.1 bt577.2.2 6).bind fun bt583 => (spec_l06Draw.l0 k bt560.1 (([] : List Int)) bt583.1 s0_0 bt583.2.1 bt583.2.2)) else (spec_l06Draw.j1 k bt560.1 bt572.1 s0_0 bt577.2.1 bt577.2.2))))))
set_option maxHeartbeats 8000000 in
set_option maxRecDepth 100000 in
theorem spec_l06Draw.calls (k : Nat) (g : Nat) (s0_0 : List Int) (s0_1 : Int) (s0_2 : Int) (r1 : Int) (r2 : List Int) (r3 : Int) (r4 : Int) (w0 w : World) (hI : IsS99 w0 w g s0_0 s0_1 s0_2) (hB : Below w0.heap.size w0 w) (h : spec_l06Draw.f k s0_0 s0_1 s0_2 = some (r1, r2, r3, r4)) :
  Calls Try.prog 104 #[.pointer (some ⟨g, 0, none⟩)] w fun e w' => ∃ v1_ : Value, e = .returned (.tuple #[.int .i64 r1, v1_]) ∧ Kd.R (Kd.int .i64) 2 w' w.heap.size (fun _ => True) v1_ r2 ∧ IsS99 w0 w' g s0_0 r3 r4 ∧ Below w0.heap.size w0 w' ∧ KeepBut w w' g none := by
 have HI0 := as0 hI
 have HK := as0 (KeepBut.refl w g none)
 have HL := as0 hB.size
 clear hI
 have HW0 := as0 hB.size
 have HB := as0 hB
 clear hB
 have H : ((spec_l01DrawPrime.f s0_0 s0_1 s0_2).bind fun bt560 => ((spec_l01Next.f s0_0 bt560.2.1 bt560.2.2 12).bind fun bt563 => ((spec_l01Pick.f s0_0 bt563.2.1 bt563.2.2 (([1, 2, 3, 4, bt563.1] : List Int))).bind fun bt569 => ((spec_l01DrawPoly.f k s0_0 bt569.2.1 bt569.2.2 bt560.1 bt569.1).bind fun bt572 => ((spec_l01Next.f s0_0 bt572.2.1 bt572.2.2 2).bind fun bt577 => (if bt577.1 = 0 then ((spec_l01Next.f s0_0 bt577.2.1 bt577.2.2 6).bind fun bt583 => (spec_l06Draw.l0 k bt560.1 (([] : List Int)) bt583.1 s0_0 bt583.2.1 bt583.2.2)) else (spec_l06Draw.j1 k bt560.1 bt572.1 s0_0 bt577.2.1 bt577.2.2))))))) = some (r1, r2, r3, r4) := h
 clear h
 replace H := Option.bind_eq_some_iff.mp H
 obtain ⟨⟨t560, t561, t562⟩, A20, H⟩ := H
 have A2 := as0 A20
 clear A20
 replace H := Option.bind_eq_some_iff.mp H
 obtain ⟨⟨t563, t564, t565⟩, A30, H⟩ := H
 have A3 := as0 A30
 clear A30
 obtain ⟨y566, hy566⟩ : ∃ y_ : List Int, y_ = (([1, 2, 3, 4, t563] : List Int)) := ⟨_, rfl⟩
 replace H : ((spec_l01Pick.f s0_0 t564 t565 y566).bind fun bt569 => ((spec_l01DrawPoly.f k s0_0 bt569.2.1 bt569.2.2 t560 bt569.1).bind fun bt572 => ((spec_l01Next.f s0_0 bt572.2.1 bt572.2.2 2).bind fun bt577 => (if bt577.1 = 0 then ((spec_l01Next.f s0_0 bt577.2.1 bt577.2.2 6).bind fun bt583 => (spec_l06Draw.l0 k t560 (([] : List Int)) bt583.1 s0_0 bt583.2.1 bt583.2.2)) else (spec_l06Draw.j1 k t560 bt572.1 s0_0 bt577.2.1 bt577.2.2))))) = some (r1, r2, r3, r4) := by first | (rw [hy566]; with_reducible exact H) | (have H2_ := (Option.bind_some _ _).symm.trans H; rw [hy566]; with_reducible exact H2_) | (have H2_ := (Option.bind_some _ _).symm.trans H; with_reducible exact H2_) | with_reducible exact H | (rw [hy566]; exact H) | exact H
 have Ny566 := as0 hy566
 clear hy566
 replace H := Option.bind_eq_some_iff.mp H
 obtain ⟨⟨t569, t570, t571⟩, A40, H⟩ := H
 have A4 := as0 A40
 clear A40
 replace H := Option.bind_eq_some_iff.mp H
 obtain ⟨⟨t572, t575, t576⟩, A50, H⟩ := H
 have A5 := as0 A50
 clear A50
 replace H := Option.bind_eq_some_iff.mp H
 obtain ⟨⟨t577, t578, t579⟩, A60, H⟩ := H
 have A6 := as0 A60
 clear A60
 have HC7 := as0 H
 clear H
 go_enter Try.func104, Try.ntmps104
 go_upto_if 20 with (first | ((with_reducible refine gate_callee (f := 120) rfl ?_); refine goesM_ (some 9) rfl rfl Try.func120 #[.pointer (some ⟨g, 0, none⟩)] rfl ?_; (with_reducible refine (spec_l01DrawPrime.calls g s0_0 s0_1 s0_2 t560 t561 t562 w0 _ ?side1 ?side2 A2.out).mono ?_); (case side1 => repeat (first | (with_reducible first | exact HI0.out | apply IsS99.alloc | apply IsS99.drewN | apply IsS99.drew | apply IsS99.set_1 | apply IsS99.set_2) | exact HI0.out)); (case side2 => repeat (first | (with_reducible first | exact HB.out | apply below_alloc | apply pw_below_drewN | apply below_drew1 | refine below_set ?_ (IsS99.ge HI0.out)) | exact HB.out)); rintro e w8 ⟨rfl, hi, hb, hk⟩; refine ⟨_, rfl, ?_⟩; have n0_ := as0 (KeepBut.trans (by repeat (first | (with_reducible first | exact HK.out | apply KeepBut.set_ | apply keep_drewN | apply keep_drew | apply keep_alloc) | exact HK.out)) hk (.inl rfl)); have n1_ := as0 (hb); have n2_ := as0 (hi); clear HK; clear HB; clear HI0; have HK := n0_; have HB := n1_; have HI0 := n2_; clear n0_ n1_ n2_; (try clear hb); (try clear hb2); (try clear hk); (try clear hi)) | ((with_reducible refine gate_callee (f := 107) rfl ?_); refine goesM_ (some 14) rfl rfl Try.func107 #[.pointer (some ⟨g, 0, none⟩), .int .i64 12] rfl ?_; (with_reducible refine (spec_l01Next.calls g s0_0 t561 t562 12 t563 t564 t565 w0 _ ?side1 ?side2 A3.out).mono ?_); (case side1 => repeat (first | (with_reducible first | exact HI0.out | apply IsS99.alloc | apply IsS99.drewN | apply IsS99.drew | apply IsS99.set_1 | apply IsS99.set_2) | exact HI0.out)); (case side2 => repeat (first | (with_reducible first | exact HB.out | apply below_alloc | apply pw_below_drewN | apply below_drew1 | refine below_set ?_ (IsS99.ge HI0.out)) | exact HB.out)); rintro e w9 ⟨rfl, hi, hb, hk⟩; refine ⟨_, rfl, ?_⟩; have n0_ := as0 (KeepBut.trans (by repeat (first | (with_reducible first | exact HK.out | apply KeepBut.set_ | apply keep_drewN | apply keep_drew | apply keep_alloc) | exact HK.out)) hk (.inl rfl)); have n1_ := as0 (hb); have n2_ := as0 (hi); clear HK; clear HB; clear HI0; have HK := n0_; have HB := n1_; have HI0 := n2_; clear n0_ n1_ n2_; (try clear hb); (try clear hb2); (try clear hk); (try clear hi)) | ((with_reducible refine gate_dst (N := 15) rfl ?_); refine Kd.R_lit (Kd.int .i64) _ 2 ?hg (N := 15) ?hd (xs := ([1, 2, 3, 4, t563] : List Int)) (inner := [.int .i64 1, .int .i64 2, .int .i64 3, .int .i64 4, .int .i64 t563]) (ok := fun _ => True) (okp := fun _ => True) ?hr ?hp (fun _ hk => hk) trivial (Below.refl _ _) (Nat.le_refl _) (by simp) ?_; (case hd => rfl); (case hg => rfl); (case hr => first | (go_simp; done) | (go_simp; rfl)); (case hp => exact (Reps.one (show Kd.M (Kd.int .i64) _ _ _ 1 [.int .i64 1] from rfl) (Reps.one (show Kd.M (Kd.int .i64) _ _ _ 2 [.int .i64 2] from rfl) (Reps.one (show Kd.M (Kd.int .i64) _ _ _ 3 [.int .i64 3] from rfl) (Reps.one (show Kd.M (Kd.int .i64) _ _ _ 4 [.int .i64 4] from rfl) (Reps.one (show Kd.M (Kd.int .i64) _ _ _ t563 [.int .i64 t563] from rfl) (Reps.none _ _))))))); intro v567 w10 ho11 hb hg_ hnew_; clear hg_ hnew_; (first | rw [← Ny566.out] at ho11 | (simp only [Int.reduceToNat] at ho11; rw [← Ny566.out] at ho11)); have n0_ := as0 (Kd.R_lower ho11 (keep_size (w := w) (g := g) (row := none) (by repeat (first | (with_reducible first | exact HK.out | apply KeepBut.set_ | apply keep_drewN | apply keep_drew | apply keep_alloc) | exact HK.out)))); have n1_ := as0 (IsS99.below (by repeat (first | (with_reducible first | exact HI0.out | apply IsS99.alloc | apply IsS99.drewN | apply IsS99.drew | apply IsS99.set_1 | apply IsS99.set_2) | exact HI0.out)) hb); have n2_ := as0 (KeepBut.trans (by repeat (first | (with_reducible first | exact HK.out | apply KeepBut.set_ | apply keep_drewN | apply keep_drew | apply keep_alloc) | exact HK.out)) (KeepBut.of_below hb g none) (.inl rfl)); have n3_ := as0 (below_step (by repeat (first | (with_reducible first | exact HB.out | apply below_alloc | apply pw_below_drewN | apply below_drew1 | refine below_set ?_ (IsS99.ge HI0.out)) | exact HB.out)) hb); clear HI0; clear HK; clear HB; have HO568 := n0_; have HI0 := n1_; have HK := n2_; have HB := n3_; clear n0_ n1_ n2_ n3_; clear hb ho11; obtain ⟨Ao12, co12, eo12⟩ := Kd.R_slice HO568.out; subst eo12) | ((with_reducible refine gate_callee (f := 121) rfl ?_); refine goesM_ (some 16) rfl rfl Try.func121 #[.pointer (some ⟨g, 0, none⟩), .slice Ao12 y566.length co12] rfl ?_; (with_reducible refine (spec_l01Pick.calls g s0_0 t564 t565 _ _ y566 t569 t570 t571 w0 _ ?side1 ?side2 ?side3 ?side4 ?side5 A4.out).mono ?_); (case side1 => repeat (first | (with_reducible first | exact HI0.out | apply IsS99.alloc | apply IsS99.drewN | apply IsS99.drew | apply IsS99.set_1 | apply IsS99.set_2) | exact HI0.out)); (case side2 => repeat (first | (with_reducible first | exact HB.out | apply below_alloc | apply pw_below_drewN | apply below_drew1 | refine below_set ?_ (IsS99.ge HI0.out)) | exact HB.out)); (case side3 => exact cs ((Kd.R_reads' HO568.out).2.2)); (case side4 => exact (Kd.R_reads' HO568.out).2.1); (case side5 => exact far_slice (IsS99.own_ne HI0.out HO568.out (by decide))); rintro e w13 ⟨rfl, hi, hb, hk⟩; refine ⟨_, rfl, ?_⟩; have n0_ := as0 (Kd.R_mono (Kd.R_keep (IsS99.apart (show IsS99 w0 _ g s0_0 t564 t565 from by repeat (first | (with_reducible first | exact HI0.out | apply IsS99.alloc | apply IsS99.drewN | apply IsS99.drew | apply IsS99.set_1 | apply IsS99.set_2) | exact HI0.out)) (rs HO568) (by decide)) hk (fun _ h => h.2)) (fun _ h => h.1)); have n1_ := as0 (KeepBut.trans (by repeat (first | (with_reducible first | exact HK.out | apply KeepBut.set_ | apply keep_drewN | apply keep_drew | apply keep_alloc) | exact HK.out)) hk (.inl rfl)); have n2_ := as0 (hb); have n3_ := as0 (hi); clear HO568; clear HK; clear HB; clear HI0; have HO568 := n0_; have HK := n1_; have HB := n2_; have HI0 := n3_; clear n0_ n1_ n2_ n3_; (try clear hb); (try clear hb2); (try clear hk); (try clear hi)) | ((with_reducible refine gate_callee (f := 106) rfl ?_); refine goesM_ (some 17) rfl rfl Try.func106 #[.pointer (some ⟨g, 0, none⟩), .int .i64 t560, .int .i64 t569] rfl ?_; (with_reducible refine (spec_l01DrawPoly.calls k g s0_0 t570 t571 t560 t569 t572 t575 t576 w0 _ ?side1 ?side2 A5.out).mono ?_); (case side1 => repeat (first | (with_reducible first | exact HI0.out | apply IsS99.alloc | apply IsS99.drewN | apply IsS99.drew | apply IsS99.set_1 | apply IsS99.set_2) | exact HI0.out)); (case side2 => repeat (first | (with_reducible first | exact HB.out | apply below_alloc | apply pw_below_drewN | apply below_drew1 | refine below_set ?_ (IsS99.ge HI0.out)) | exact HB.out)); rintro e w14 ⟨v573, rfl, ho0, hi, hb, hk⟩; refine ⟨_, rfl, ?_⟩; have n0_ := as0 (Kd.R_mono (Kd.R_told (Kd.R_oldK (IsS99.apart (show IsS99 w0 _ g s0_0 t570 t571 from by repeat (first | (with_reducible first | exact HI0.out | apply IsS99.alloc | apply IsS99.drewN | apply IsS99.drew | apply IsS99.set_1 | apply IsS99.set_2) | exact HI0.out)) (rs HO568) (by decide)) hk) (Kd.R_base ho0)) (fun _ h_ => h_.1)); have n1_ := as0 (Kd.R_lower (Kd.R_new' ho0 (Kd.R_lt (rs HO568))) (keep_size (w := w) (g := g) (row := none) (by repeat (first | (with_reducible first | exact HK.out | apply KeepBut.set_ | apply keep_drewN | apply keep_drew | apply keep_alloc) | exact HK.out)))); have n2_ := as0 (KeepBut.trans (by repeat (first | (with_reducible first | exact HK.out | apply KeepBut.set_ | apply keep_drewN | apply keep_drew | apply keep_alloc) | exact HK.out)) hk (.inl rfl)); have n3_ := as0 (hb); have n4_ := as0 (hi); clear HO568; clear HK; clear HB; clear HI0; have HO568 := n0_; have HO574 := n1_; have HK := n2_; have HB := n3_; have HI0 := n4_; clear n0_ n1_ n2_ n3_ n4_; (try clear hb); (try clear hb2); (try clear hk); (try clear hi); (try clear ho0)) | ((with_reducible refine gate_callee (f := 107) rfl ?_); refine goesM_ (some 19) rfl rfl Try.func107 #[.pointer (some ⟨g, 0, none⟩), .int .i64 2] rfl ?_; (with_reducible refine (spec_l01Next.calls g s0_0 t575 t576 2 t577 t578 t579 w0 _ ?side1 ?side2 A6.out).mono ?_); (case side1 => repeat (first | (with_reducible first | exact HI0.out | apply IsS99.alloc | apply IsS99.drewN | apply IsS99.drew | apply IsS99.set_1 | apply IsS99.set_2) | exact HI0.out)); (case side2 => repeat (first | (with_reducible first | exact HB.out | apply below_alloc | apply pw_below_drewN | apply below_drew1 | refine below_set ?_ (IsS99.ge HI0.out)) | exact HB.out)); rintro e w15 ⟨rfl, hi, hb, hk⟩; refine ⟨_, rfl, ?_⟩; have n0_ := as0 (Kd.R_mono (Kd.R_keep (IsS99.apart (show IsS99 w0 _ g s0_0 t575 t576 from by repeat (first | (with_reducible first | exact HI0.out | apply IsS99.alloc | apply IsS99.drewN | apply IsS99.drew | apply IsS99.set_1 | apply IsS99.set_2) | exact HI0.out)) (rs HO568) (by decide)) hk (fun _ h => h.2)) (fun _ h => h.1)); have n1_ := as0 (Kd.R_mono (Kd.R_keep (IsS99.apart (show IsS99 w0 _ g s0_0 t575 t576 from by repeat (first | (with_reducible first | exact HI0.out | apply IsS99.alloc | apply IsS99.drewN | apply IsS99.drew | apply IsS99.set_1 | apply IsS99.set_2) | exact HI0.out)) (rs HO574) (by decide)) hk (fun _ h => h.2)) (fun _ h => h.1)); have n2_ := as0 (KeepBut.trans (by repeat (first | (with_reducible first | exact HK.out | apply KeepBut.set_ | apply keep_drewN | apply keep_drew | apply keep_alloc) | exact HK.out)) hk (.inl rfl)); have n3_ := as0 (hb); have n4_ := as0 (hi); clear HO568; clear HO574; clear HK; clear HB; clear HI0; have HO568 := n0_; have HO574 := n1_; have HK := n2_; have HB := n3_; have HI0 := n4_; clear n0_ n1_ n2_ n3_ n4_; (try clear hb); (try clear hb2); (try clear hk); (try clear hi)))
 (try simp only [Act.put, List.setIfInBounds_toArray, List.set_cons_zero, List.set_cons_succ])
 go_cut [5] (fun v5 wc => ∃ (kq : Nat) (x5_6 : List Int) (x1001_6 : Int) (x1002_6 : Int), Aside0 (spec_l06Draw.j1 kq t560 x5_6 s0_0 x1001_6 x1002_6 = some (r1, r2, r3, r4)) ∧ Aside0 (kq ≤ k) ∧ Aside0 (Kd.R (Kd.int .i64) 2 wc w.heap.size (fun _ => True) v5 x5_6) ∧ Aside0 (IsS99 w0 wc g s0_0 x1001_6 x1002_6) ∧ Aside0 (KeepBut w wc g none) ∧ Aside0 (Below w0.heap.size w0 wc))
 case first =>
  have H := HC7.out
  clear HC7
  by_cases c16 : t577 = 0
  ·
   rw [if_pos c16] at H
   have c16b0 : (t577 == 0) = true := beq_iff_eq.mpr c16
   have c16b1 : (t577 != 0) = false := bne_eq_false_iff_eq.mpr c16
   clear c16
   (first | rw [c16b0] | (simp only [i64_w, i32_w]; rw [c16b0]) | skip)
   obtain ⟨y580, hy580⟩ : ∃ y_ : List Int, y_ = (([] : List Int)) := ⟨_, rfl⟩
   replace H : ((spec_l01Next.f s0_0 t578 t579 6).bind fun bt583 => (spec_l06Draw.l0 k t560 y580 bt583.1 s0_0 bt583.2.1 bt583.2.2)) = some (r1, r2, r3, r4) := by first | (rw [hy580]; with_reducible exact H) | (have H2_ := (Option.bind_some _ _).symm.trans H; rw [hy580]; with_reducible exact H2_) | (have H2_ := (Option.bind_some _ _).symm.trans H; with_reducible exact H2_) | with_reducible exact H | (rw [hy580]; exact H) | exact H
   have Ny580 := as0 hy580
   clear hy580
   replace H := Option.bind_eq_some_iff.mp H
   obtain ⟨⟨t583, t584, t585⟩, A170, H⟩ := H
   have A17 := as0 A170
   clear A170
   have H' := as0 H
   clear H
   go_wp2_with (first | ((with_reducible refine gate_dst (N := 21) rfl ?_); refine Kd.R_lit (Kd.int .i64) _ 2 ?hg (N := 21) ?hd (xs := ([] : List Int)) (inner := []) (ok := fun _ => True) (okp := fun _ => True) ?hr ?hp (fun _ hk => hk) trivial (Below.refl _ _) (Nat.le_refl _) (by simp) ?_; (case hd => rfl); (case hg => rfl); (case hr => first | (go_simp; done) | (go_simp; rfl)); (case hp => exact (Reps.none _ _)); intro v581 w18 ho19 hb hg_ hnew_; clear hg_ hnew_; (first | rw [← Ny580.out] at ho19 | (simp only [Int.reduceToNat] at ho19; rw [← Ny580.out] at ho19)); have n0_ := as0 (Kd.R_elder' (rs HO568) (Kd.R_base ho19) hb); have n1_ := as0 (Kd.R_elder' (rs HO574) (Kd.R_base ho19) hb); have n2_ := as0 (Kd.R_lower (Kd.R_new' (Kd.R_new' ho19 (Kd.R_lt (rs HO568))) (Kd.R_lt (rs HO574))) (keep_size (w := w) (g := g) (row := none) (by repeat (first | (with_reducible first | exact HK.out | apply KeepBut.set_ | apply keep_drewN | apply keep_drew | apply keep_alloc) | exact HK.out)))); have n3_ := as0 (IsS99.below (by repeat (first | (with_reducible first | exact HI0.out | apply IsS99.alloc | apply IsS99.drewN | apply IsS99.drew | apply IsS99.set_1 | apply IsS99.set_2) | exact HI0.out)) hb); have n4_ := as0 (KeepBut.trans (by repeat (first | (with_reducible first | exact HK.out | apply KeepBut.set_ | apply keep_drewN | apply keep_drew | apply keep_alloc) | exact HK.out)) (KeepBut.of_below hb g none) (.inl rfl)); have n5_ := as0 (below_step (by repeat (first | (with_reducible first | exact HB.out | apply below_alloc | apply pw_below_drewN | apply below_drew1 | refine below_set ?_ (IsS99.ge HI0.out)) | exact HB.out)) hb); clear HO568; clear HO574; clear HI0; clear HK; clear HB; have HO568 := n0_; have HO574 := n1_; have HO582 := n2_; have HI0 := n3_; have HK := n4_; have HB := n5_; clear n0_ n1_ n2_ n3_ n4_ n5_; clear hb ho19) | ((with_reducible refine gate_callee (f := 107) rfl ?_); refine goesM_ (some 23) rfl rfl Try.func107 #[.pointer (some ⟨g, 0, none⟩), .int .i64 6] rfl ?_; (with_reducible refine (spec_l01Next.calls g s0_0 t578 t579 6 t583 t584 t585 w0 _ ?side1 ?side2 A17.out).mono ?_); (case side1 => repeat (first | (with_reducible first | exact HI0.out | apply IsS99.alloc | apply IsS99.drewN | apply IsS99.drew | apply IsS99.set_1 | apply IsS99.set_2) | exact HI0.out)); (case side2 => repeat (first | (with_reducible first | exact HB.out | apply below_alloc | apply pw_below_drewN | apply below_drew1 | refine below_set ?_ (IsS99.ge HI0.out)) | exact HB.out)); rintro e w20 ⟨rfl, hi, hb, hk⟩; refine ⟨_, rfl, ?_⟩; have n0_ := as0 (Kd.R_mono (Kd.R_keep (IsS99.apart (show IsS99 w0 _ g s0_0 t578 t579 from by repeat (first | (with_reducible first | exact HI0.out | apply IsS99.alloc | apply IsS99.drewN | apply IsS99.drew | apply IsS99.set_1 | apply IsS99.set_2) | exact HI0.out)) (rs HO568) (by decide)) hk (fun _ h => h.2)) (fun _ h => h.1)); have n1_ := as0 (Kd.R_mono (Kd.R_keep (IsS99.apart (show IsS99 w0 _ g s0_0 t578 t579 from by repeat (first | (with_reducible first | exact HI0.out | apply IsS99.alloc | apply IsS99.drewN | apply IsS99.drew | apply IsS99.set_1 | apply IsS99.set_2) | exact HI0.out)) (rs HO574) (by decide)) hk (fun _ h => h.2)) (fun _ h => h.1)); have n2_ := as0 (Kd.R_mono (Kd.R_keep (IsS99.apart (show IsS99 w0 _ g s0_0 t578 t579 from by repeat (first | (with_reducible first | exact HI0.out | apply IsS99.alloc | apply IsS99.drewN | apply IsS99.drew | apply IsS99.set_1 | apply IsS99.set_2) | exact HI0.out)) (rs HO582) (by decide)) hk (fun _ h => h.2)) (fun _ h => h.1)); have n3_ := as0 (KeepBut.trans (by repeat (first | (with_reducible first | exact HK.out | apply KeepBut.set_ | apply keep_drewN | apply keep_drew | apply keep_alloc) | exact HK.out)) hk (.inl rfl)); have n4_ := as0 (hb); have n5_ := as0 (hi); clear HO568; clear HO574; clear HO582; clear HK; clear HB; clear HI0; have HO568 := n0_; have HO574 := n1_; have HO582 := n2_; have HK := n3_; have HB := n4_; have HI0 := n5_; clear n0_ n1_ n2_ n3_ n4_ n5_; (try clear hb); (try clear hb2); (try clear hk); (try clear hi)))
   go_loopg [6, 7] k (fun kq v6 v7 w' => ∃ (x6_1 : List Int) (x7_1 : Int) (x1001_1 : Int) (x1002_1 : Int), v7 = .int .i64 x7_1 ∧ Aside0 (spec_l06Draw.l0 kq t560 x6_1 x7_1 s0_0 x1001_1 x1002_1 = some (r1, r2, r3, r4)) ∧ Aside0 (kq ≤ k) ∧ Aside0 (Kd.R (Kd.int .i64) 2 w' w.heap.size (fun _ => True) v6 x6_1) ∧ Aside0 (IsS99 w0 w' g s0_0 x1001_1 x1002_1) ∧ Aside0 (KeepBut w w' g none) ∧ Aside0 (Below w0.heap.size w0 w'))
   case atStart => exact ⟨(y580), (t583), (t584), (t585), ea_, H', ⟨Nat.le_refl _⟩, ⟨by (with_reducible repeat (first | apply Kd.R_alloc | apply Kd.R_drewN | apply Kd.R_drew)); exact Kd.R_mono HO582.out (fun _ hk => trivial)⟩, ⟨by repeat (first | (with_reducible first | exact HI0.out | apply IsS99.alloc | apply IsS99.drewN | apply IsS99.drew | apply IsS99.set_1 | apply IsS99.set_2) | exact HI0.out)⟩, ⟨by repeat (first | (with_reducible first | exact HK.out | apply KeepBut.set_ | apply keep_drewN | apply keep_drew | apply keep_alloc) | exact HK.out)⟩, ⟨by repeat (first | (with_reducible first | exact HB.out | apply below_alloc | apply pw_below_drewN | apply below_drew1 | refine below_set ?_ (IsS99.ge HI0.out)) | exact HB.out)⟩⟩
   case round =>
    clear H'
    try clear c1
    try clear p2
    try clear c10
    try clear c12
    try clear c16
    try clear c16b0
    try clear c16b1
    obtain ⟨x6_1, x7_1, x1001_1, x1002_1, rfl, HA, HK1, HO_6, HI0, HK, HB⟩ := hrel
    cases gk with
    | zero => exact absurd HA.out (by simp [spec_l06Draw.l0])
    | succ k1 =>
     have H := HA.out
     clear HA
     simp only [spec_l06Draw.l0] at H
     by_cases c21 : x7_1 > 0
     ·
      rw [if_pos c21] at H
      have c21b0 : decide (0 < x7_1) = true := decide_eq_true c21
      clear c21
      replace H := Option.bind_eq_some_iff.mp H
      obtain ⟨⟨t586, t587, t588⟩, A220, H⟩ := H
      have A22 := as0 A220
      clear A220
      obtain ⟨ji23, hji23⟩ : ∃ j_ : Int, (mn t560 4) = j_ := ⟨_, rfl⟩
      replace H : ((spec_l01Next.f s0_0 t587 t588 (ji23)).bind fun bt589 => ((spec_l01Pick.f s0_0 bt589.2.1 bt589.2.2 (([t586, bt589.1] : List Int))).bind fun bt595 => (if x6_1.length < 17592186044416 then (spec_l06Draw.l0 k1 t560 (x6_1 ++ [bt595.1]) (wrap64 (x7_1 - 1)) s0_0 bt595.2.1 bt595.2.2) else (none)))) = some (r1, r2, r3, r4) := by first | (rw [hji23] at H; exact H) | (simp only [hji23] at H ⊢; exact H)
      (try rw [hji23] at A22)
      have hji23_ : (if 4 < t560 then 4 else t560) = ji23 := hji23
      replace H := Option.bind_eq_some_iff.mp H
      obtain ⟨⟨t589, t590, t591⟩, A240, H⟩ := H
      have A24 := as0 A240
      clear A240
      obtain ⟨y592, hy592⟩ : ∃ y_ : List Int, y_ = (([t586, t589] : List Int)) := ⟨_, rfl⟩
      replace H : ((spec_l01Pick.f s0_0 t590 t591 y592).bind fun bt595 => (if x6_1.length < 17592186044416 then (spec_l06Draw.l0 k1 t560 (x6_1 ++ [bt595.1]) (wrap64 (x7_1 - 1)) s0_0 bt595.2.1 bt595.2.2) else (none))) = some (r1, r2, r3, r4) := by first | (rw [hy592]; with_reducible exact H) | (have H2_ := (Option.bind_some _ _).symm.trans H; rw [hy592]; with_reducible exact H2_) | (have H2_ := (Option.bind_some _ _).symm.trans H; with_reducible exact H2_) | with_reducible exact H | (rw [hy592]; exact H) | exact H
      have Ny592 := as0 hy592
      clear hy592
      replace H := Option.bind_eq_some_iff.mp H
      obtain ⟨⟨t595, t596, t597⟩, A250, H⟩ := H
      have A25 := as0 A250
      clear A250
      by_cases c26 : x6_1.length < 17592186044416
      ·
       rw [if_pos c26] at H
       have LMc26 := as0 c26
       clear c26
       obtain ⟨y598, hy598⟩ : ∃ y_ : List Int, y_ = (x6_1 ++ [t595]) := ⟨_, rfl⟩
       replace H : (spec_l06Draw.l0 k1 t560 y598 (wrap64 (x7_1 - 1)) s0_0 t596 t597) = some (r1, r2, r3, r4) := by first | (rw [hy598]; with_reducible exact H) | (have H2_ := (Option.bind_some _ _).symm.trans H; rw [hy598]; with_reducible exact H2_) | (have H2_ := (Option.bind_some _ _).symm.trans H; with_reducible exact H2_) | with_reducible exact H | (rw [hy598]; exact H) | exact H
       have Ny598 := as0 hy598
       clear hy598
       have H' := as0 H
       clear H
       go_wp2_with (first | ((with_reducible refine gate_callee (f := 107) rfl ?_); refine goesM_ (some 32) rfl rfl Try.func107 #[.pointer (some ⟨g, 0, none⟩), .int .i64 t560] rfl ?_; (with_reducible refine (spec_l01Next.calls g s0_0 x1001_1 x1002_1 t560 t586 t587 t588 w0 _ ?side1 ?side2 A22.out).mono ?_); (case side1 => repeat (first | (with_reducible first | exact HI0.out | apply IsS99.alloc | apply IsS99.drewN | apply IsS99.drew | apply IsS99.set_1 | apply IsS99.set_2) | exact HI0.out)); (case side2 => repeat (first | (with_reducible first | exact HB.out | apply below_alloc | apply pw_below_drewN | apply below_drew1 | refine below_set ?_ (IsS99.ge HI0.out)) | exact HB.out)); rintro e w27 ⟨rfl, hi, hb, hk⟩; refine ⟨_, rfl, ?_⟩; have n0_ := as0 (Kd.R_mono (Kd.R_keep (IsS99.apart (show IsS99 w0 _ g s0_0 x1001_1 x1002_1 from by repeat (first | (with_reducible first | exact HI0.out | apply IsS99.alloc | apply IsS99.drewN | apply IsS99.drew | apply IsS99.set_1 | apply IsS99.set_2) | exact HI0.out)) (rs HO_6) (by decide)) hk (fun _ h => h.2)) (fun _ h => h.1)); have n1_ := as0 (KeepBut.trans (by repeat (first | (with_reducible first | exact HK.out | apply KeepBut.set_ | apply keep_drewN | apply keep_drew | apply keep_alloc) | exact HK.out)) hk (.inl rfl)); have n2_ := as0 (hb); have n3_ := as0 (hi); clear HO_6; clear HK; clear HB; clear HI0; have HO_6 := n0_; have HK := n1_; have HB := n2_; have HI0 := n3_; clear n0_ n1_ n2_ n3_; (try clear hb); (try clear hb2); (try clear hk); (try clear hi)) | ((with_reducible refine gate_callee (f := 107) rfl ?_); refine goesL_ (some 36) rfl rfl Try.func107 (by kernel_rfl) rfl #[.pointer (some ⟨g, 0, none⟩), .int .i64 ji23] rfl (by (try simp only [List.map_toArray, List.map_cons, List.map_nil]); first | done | (simp only [hji23]; rfl) | rfl | (simp only [List.length_drop, List.length_take]; rfl)) ?_; (with_reducible refine (spec_l01Next.calls g s0_0 t587 t588 ji23 t589 t590 t591 w0 _ ?side1 ?side2 A24.out).mono ?_); (case side1 => repeat (first | (with_reducible first | exact HI0.out | apply IsS99.alloc | apply IsS99.drewN | apply IsS99.drew | apply IsS99.set_1 | apply IsS99.set_2) | exact HI0.out)); (case side2 => repeat (first | (with_reducible first | exact HB.out | apply below_alloc | apply pw_below_drewN | apply below_drew1 | refine below_set ?_ (IsS99.ge HI0.out)) | exact HB.out)); rintro e w28 ⟨rfl, hi, hb, hk⟩; refine ⟨_, rfl, ?_⟩; have n0_ := as0 (Kd.R_mono (Kd.R_keep (IsS99.apart (show IsS99 w0 _ g s0_0 t587 t588 from by repeat (first | (with_reducible first | exact HI0.out | apply IsS99.alloc | apply IsS99.drewN | apply IsS99.drew | apply IsS99.set_1 | apply IsS99.set_2) | exact HI0.out)) (rs HO_6) (by decide)) hk (fun _ h => h.2)) (fun _ h => h.1)); have n1_ := as0 (KeepBut.trans (by repeat (first | (with_reducible first | exact HK.out | apply KeepBut.set_ | apply keep_drewN | apply keep_drew | apply keep_alloc) | exact HK.out)) hk (.inl rfl)); have n2_ := as0 (hb); have n3_ := as0 (hi); clear HO_6; clear HK; clear HB; clear HI0; have HO_6 := n0_; have HK := n1_; have HB := n2_; have HI0 := n3_; clear n0_ n1_ n2_ n3_; (try clear hb); (try clear hb2); (try clear hk); (try clear hi)) | ((with_reducible refine gate_dst (N := 37) rfl ?_); refine Kd.R_lit (Kd.int .i64) _ 2 ?hg (N := 37) ?hd (xs := ([t586, t589] : List Int)) (inner := [.int .i64 t586, .int .i64 t589]) (ok := fun _ => True) (okp := fun _ => True) ?hr ?hp (fun _ hk => hk) trivial (Below.refl _ _) (Nat.le_refl _) (by simp) ?_; (case hd => rfl); (case hg => rfl); (case hr => first | (go_simp; done) | (go_simp; rfl)); (case hp => exact (Reps.one (show Kd.M (Kd.int .i64) _ _ _ t586 [.int .i64 t586] from rfl) (Reps.one (show Kd.M (Kd.int .i64) _ _ _ t589 [.int .i64 t589] from rfl) (Reps.none _ _)))); intro v593 w29 ho30 hb hg_ hnew_; clear hg_ hnew_; (first | rw [← Ny592.out] at ho30 | (simp only [Int.reduceToNat] at ho30; rw [← Ny592.out] at ho30)); have n0_ := as0 (Kd.R_elder' (rs HO_6) (Kd.R_base ho30) hb); have n1_ := as0 (Kd.R_lower (Kd.R_new' ho30 (Kd.R_lt (rs HO_6))) (keep_size (w := w) (g := g) (row := none) (by repeat (first | (with_reducible first | exact HK.out | apply KeepBut.set_ | apply keep_drewN | apply keep_drew | apply keep_alloc) | exact HK.out)))); have n2_ := as0 (IsS99.below (by repeat (first | (with_reducible first | exact HI0.out | apply IsS99.alloc | apply IsS99.drewN | apply IsS99.drew | apply IsS99.set_1 | apply IsS99.set_2) | exact HI0.out)) hb); have n3_ := as0 (KeepBut.trans (by repeat (first | (with_reducible first | exact HK.out | apply KeepBut.set_ | apply keep_drewN | apply keep_drew | apply keep_alloc) | exact HK.out)) (KeepBut.of_below hb g none) (.inl rfl)); have n4_ := as0 (below_step (by repeat (first | (with_reducible first | exact HB.out | apply below_alloc | apply pw_below_drewN | apply below_drew1 | refine below_set ?_ (IsS99.ge HI0.out)) | exact HB.out)) hb); clear HO_6; clear HI0; clear HK; clear HB; have HO_6 := n0_; have HO594 := n1_; have HI0 := n2_; have HK := n3_; have HB := n4_; clear n0_ n1_ n2_ n3_ n4_; clear hb ho30; obtain ⟨Ao31, co31, eo31⟩ := Kd.R_slice HO594.out; subst eo31) | ((with_reducible refine gate_callee (f := 121) rfl ?_); refine goesM_ (some 38) rfl rfl Try.func121 #[.pointer (some ⟨g, 0, none⟩), .slice Ao31 y592.length co31] rfl ?_; (with_reducible refine (spec_l01Pick.calls g s0_0 t590 t591 _ _ y592 t595 t596 t597 w0 _ ?side1 ?side2 ?side3 ?side4 ?side5 A25.out).mono ?_); (case side1 => repeat (first | (with_reducible first | exact HI0.out | apply IsS99.alloc | apply IsS99.drewN | apply IsS99.drew | apply IsS99.set_1 | apply IsS99.set_2) | exact HI0.out)); (case side2 => repeat (first | (with_reducible first | exact HB.out | apply below_alloc | apply pw_below_drewN | apply below_drew1 | refine below_set ?_ (IsS99.ge HI0.out)) | exact HB.out)); (case side3 => exact cs ((Kd.R_reads' HO594.out).2.2)); (case side4 => exact (Kd.R_reads' HO594.out).2.1); (case side5 => exact far_slice (IsS99.own_ne HI0.out HO594.out (by decide))); rintro e w32 ⟨rfl, hi, hb, hk⟩; refine ⟨_, rfl, ?_⟩; have n0_ := as0 (Kd.R_mono (Kd.R_keep (IsS99.apart (show IsS99 w0 _ g s0_0 t590 t591 from by repeat (first | (with_reducible first | exact HI0.out | apply IsS99.alloc | apply IsS99.drewN | apply IsS99.drew | apply IsS99.set_1 | apply IsS99.set_2) | exact HI0.out)) (rs HO_6) (by decide)) hk (fun _ h => h.2)) (fun _ h => h.1)); have n1_ := as0 (Kd.R_mono (Kd.R_keep (IsS99.apart (show IsS99 w0 _ g s0_0 t590 t591 from by repeat (first | (with_reducible first | exact HI0.out | apply IsS99.alloc | apply IsS99.drewN | apply IsS99.drew | apply IsS99.set_1 | apply IsS99.set_2) | exact HI0.out)) (rs HO594) (by decide)) hk (fun _ h => h.2)) (fun _ h => h.1)); have n2_ := as0 (KeepBut.trans (by repeat (first | (with_reducible first | exact HK.out | apply KeepBut.set_ | apply keep_drewN | apply keep_drew | apply keep_alloc) | exact HK.out)) hk (.inl rfl)); have n3_ := as0 (hb); have n4_ := as0 (hi); clear HO_6; clear HO594; clear HK; clear HB; clear HI0; have HO_6 := n0_; have HO594 := n1_; have HK := n2_; have HB := n3_; have HI0 := n4_; clear n0_ n1_ n2_ n3_ n4_; (try clear hb); (try clear hb2); (try clear hk); (try clear hi)) | ((with_reducible refine gate_builtin (b := .append) (xs := #[.tmp 28, .tmp 39]) rfl ?_); at_builtin; refine Kd.R_append (Kd.int .i64) w.heap.size rfl (.tmp 28) (.tmp 39) 22 2 (.int .i64 0) 8 rfl Try.underlying22 info2 rfl (by decide) (by omega) u6 x6_1 t595 [.int .i64 t595] (fun k_ => some k_ ≠ (.slice Ao31 y592.length co31 : Value).ownBlock) (fun _ => False) rfl rfl ?aP (fun _ hk => hk.elim) ?aF ?aO (Below.refl _ _) ?aS ?aL ?_; (case aP => exact rfl); (case aF => exact (fun k_ hk => Kd.fresh' (Kd.R_lt (rs HO594)) k_ hk)); (case aO => exact (by (with_reducible repeat (first | apply Kd.R_alloc | apply Kd.R_drewN | apply Kd.R_drew)); exact Kd.R_mono HO_6.out (fun _ hk => hk.2))); (case aS => exact (keep_size (w := w) (g := g) (row := none) (by repeat (first | (with_reducible first | exact HK.out | apply KeepBut.set_ | apply keep_drewN | apply keep_drew | apply keep_alloc) | exact HK.out)))); (case aL => have := LMc26.out; omega); intro v599 w33 ho hb hg hat; rw [← Ny598.out] at ho; have n0_ := as0 (IsS99.grown (by repeat (first | (with_reducible first | exact HI0.out | apply IsS99.alloc | apply IsS99.drewN | apply IsS99.drew | apply IsS99.set_1 | apply IsS99.set_2) | exact HI0.out)) hg (IsS99.own_ne HI0.out HO_6.out (by decide))); have n1_ := as0 (Kd.R_after (ok := (fun _ => True)) (rs HO594) hg hat); have n2_ := as0 (below_weaken (by repeat (first | (with_reducible first | exact HB.out | apply below_alloc | apply pw_below_drewN | apply below_drew1 | refine below_set ?_ (IsS99.ge HI0.out)) | exact HB.out)) HL.out hb); have n3_ := as0 (KeepBut.trans (by repeat (first | (with_reducible first | exact HK.out | apply KeepBut.set_ | apply keep_drewN | apply keep_drew | apply keep_alloc) | exact HK.out)) (KeepBut.of_grown hg g) (Kd.R_base2 HO_6.out)); have n4_ := as0 (ho); clear HI0; clear HO594; clear HB; clear HK; clear HO_6; have HI0 := n0_; have HO594 := n1_; have HB := n2_; have HK := n3_; have HO600 := n4_; clear n0_ n1_ n2_ n3_ n4_; clear ho hb hg hat))
       go_roundg k1
       case measure => have := HK1.out; omega
       case rel => exact ⟨(y598), (wrap64 (x7_1 - 1)), (t596), (t597), ea_, H', ⟨by have := HK1.out; omega⟩, ⟨by (with_reducible repeat (first | apply Kd.R_alloc | apply Kd.R_drewN | apply Kd.R_drew)); exact Kd.R_mono HO600.out (fun _ hk => trivial)⟩, ⟨by repeat (first | (with_reducible first | exact HI0.out | apply IsS99.alloc | apply IsS99.drewN | apply IsS99.drew | apply IsS99.set_1 | apply IsS99.set_2) | exact HI0.out)⟩, ⟨by repeat (first | (with_reducible first | exact HK.out | apply KeepBut.set_ | apply keep_drewN | apply keep_drew | apply keep_alloc) | exact HK.out)⟩, ⟨by repeat (first | (with_reducible first | exact HB.out | apply below_alloc | apply pw_below_drewN | apply below_drew1 | refine below_set ?_ (IsS99.ge HI0.out)) | exact HB.out)⟩⟩
      ·
       rw [if_neg c26] at H
       exact absurd H (by simp)
     ·
      rw [if_neg c21] at H
      have c21b0 : decide (0 < x7_1) = false := decide_eq_false c21
      clear c21
      replace H := Option.bind_eq_some_iff.mp H
      obtain ⟨t601, A340, H⟩ := H
      have A34 := as0 A340
      clear A340
      replace H := Option.bind_eq_some_iff.mp H
      obtain ⟨⟨t604, t605, t606⟩, A350, H⟩ := H
      have A35 := as0 A350
      clear A350
      by_cases c36 : t604 = 0
      ·
       rw [if_pos c36] at H
       have c36b0 : (t604 == 0) = true := beq_iff_eq.mpr c36
       have c36b1 : (t604 != 0) = false := bne_eq_false_iff_eq.mpr c36
       clear c36
       replace H := Option.bind_eq_some_iff.mp H
       obtain ⟨⟨t607, t610, t611⟩, A370, H⟩ := H
       have A37 := as0 A370
       clear A370
       replace H := Option.bind_eq_some_iff.mp H
       obtain ⟨t612, A380, H⟩ := H
       have A38 := as0 A380
       clear A380
       have H' := as0 H
       clear H
       obtain ⟨Ao39, co39, eo39⟩ := Kd.R_slice HO_6.out
       subst eo39
       go_wp2_with (first | ((with_reducible refine gate_callee (f := 122) rfl ?_); refine goesM_ (some 43) rfl rfl Try.func122 #[.int .i64 t560, .slice Ao39 x6_1.length co39] rfl ?_; (with_reducible refine (spec_l06Of.calls k1 t560 _ _ x6_1 t601 _ ?side1 ?side2 A34.out).mono ?_); (case side1 => exact cs ((Kd.R_reads' HO_6.out).2.2)); (case side2 => exact (Kd.R_reads' HO_6.out).2.1); rintro e w40 ⟨v602, rfl, ho0, hb⟩; refine ⟨_, rfl, ?_⟩; have n0_ := as0 (Kd.R_elder' (rs HO_6) (Kd.R_base ho0) hb); have n1_ := as0 (Kd.R_lower (Kd.R_new' ho0 (Kd.R_lt (rs HO_6))) (keep_size (w := w) (g := g) (row := none) (by repeat (first | (with_reducible first | exact HK.out | apply KeepBut.set_ | apply keep_drewN | apply keep_drew | apply keep_alloc) | exact HK.out)))); have n2_ := as0 (IsS99.below (by repeat (first | (with_reducible first | exact HI0.out | apply IsS99.alloc | apply IsS99.drewN | apply IsS99.drew | apply IsS99.set_1 | apply IsS99.set_2) | exact HI0.out)) hb); have n3_ := as0 (KeepBut.trans (by repeat (first | (with_reducible first | exact HK.out | apply KeepBut.set_ | apply keep_drewN | apply keep_drew | apply keep_alloc) | exact HK.out)) (KeepBut.of_below hb g none) (.inl rfl)); have n4_ := as0 (below_step (by repeat (first | (with_reducible first | exact HB.out | apply below_alloc | apply pw_below_drewN | apply below_drew1 | refine below_set ?_ (IsS99.ge HI0.out)) | exact HB.out)) hb); clear HO_6; clear HI0; clear HK; clear HB; have HO_6 := n0_; have HO603 := n1_; have HI0 := n2_; have HK := n3_; have HB := n4_; clear n0_ n1_ n2_ n3_ n4_; (try clear hb); (try clear hb2); (try clear hk); (try clear hi); (try clear ho0)) | ((with_reducible refine gate_callee (f := 107) rfl ?_); refine goesM_ (some 45) rfl rfl Try.func107 #[.pointer (some ⟨g, 0, none⟩), .int .i64 3] rfl ?_; (with_reducible refine (spec_l01Next.calls g s0_0 x1001_1 x1002_1 3 t604 t605 t606 w0 _ ?side1 ?side2 A35.out).mono ?_); (case side1 => repeat (first | (with_reducible first | exact HI0.out | apply IsS99.alloc | apply IsS99.drewN | apply IsS99.drew | apply IsS99.set_1 | apply IsS99.set_2) | exact HI0.out)); (case side2 => repeat (first | (with_reducible first | exact HB.out | apply below_alloc | apply pw_below_drewN | apply below_drew1 | refine below_set ?_ (IsS99.ge HI0.out)) | exact HB.out)); rintro e w41 ⟨rfl, hi, hb, hk⟩; refine ⟨_, rfl, ?_⟩; have n0_ := as0 (Kd.R_mono (Kd.R_keep (IsS99.apart (show IsS99 w0 _ g s0_0 x1001_1 x1002_1 from by repeat (first | (with_reducible first | exact HI0.out | apply IsS99.alloc | apply IsS99.drewN | apply IsS99.drew | apply IsS99.set_1 | apply IsS99.set_2) | exact HI0.out)) (rs HO_6) (by decide)) hk (fun _ h => h.2)) (fun _ h => h.1)); have n1_ := as0 (Kd.R_mono (Kd.R_keep (IsS99.apart (show IsS99 w0 _ g s0_0 x1001_1 x1002_1 from by repeat (first | (with_reducible first | exact HI0.out | apply IsS99.alloc | apply IsS99.drewN | apply IsS99.drew | apply IsS99.set_1 | apply IsS99.set_2) | exact HI0.out)) (rs HO603) (by decide)) hk (fun _ h => h.2)) (fun _ h => h.1)); have n2_ := as0 (KeepBut.trans (by repeat (first | (with_reducible first | exact HK.out | apply KeepBut.set_ | apply keep_drewN | apply keep_drew | apply keep_alloc) | exact HK.out)) hk (.inl rfl)); have n3_ := as0 (hb); have n4_ := as0 (hi); clear HO_6; clear HO603; clear HK; clear HB; clear HI0; have HO_6 := n0_; have HO603 := n1_; have HK := n2_; have HB := n3_; have HI0 := n4_; clear n0_ n1_ n2_ n3_ n4_; (try clear hb); (try clear hb2); (try clear hk); (try clear hi)) | ((with_reducible refine gate_callee (f := 106) rfl ?_); refine goesM_ (some 51) rfl rfl Try.func106 #[.pointer (some ⟨g, 0, none⟩), .int .i64 t560, .int .i64 3] rfl ?_; (with_reducible refine (spec_l01DrawPoly.calls k1 g s0_0 t605 t606 t560 3 t607 t610 t611 w0 _ ?side1 ?side2 A37.out).mono ?_); (case side1 => repeat (first | (with_reducible first | exact HI0.out | apply IsS99.alloc | apply IsS99.drewN | apply IsS99.drew | apply IsS99.set_1 | apply IsS99.set_2) | exact HI0.out)); (case side2 => repeat (first | (with_reducible first | exact HB.out | apply below_alloc | apply pw_below_drewN | apply below_drew1 | refine below_set ?_ (IsS99.ge HI0.out)) | exact HB.out)); rintro e w42 ⟨v608, rfl, ho0, hi, hb, hk⟩; refine ⟨_, rfl, ?_⟩; have n0_ := as0 (Kd.R_mono (Kd.R_told (Kd.R_oldK (IsS99.apart (show IsS99 w0 _ g s0_0 t605 t606 from by repeat (first | (with_reducible first | exact HI0.out | apply IsS99.alloc | apply IsS99.drewN | apply IsS99.drew | apply IsS99.set_1 | apply IsS99.set_2) | exact HI0.out)) (rs HO_6) (by decide)) hk) (Kd.R_base ho0)) (fun _ h_ => h_.1)); have n1_ := as0 (Kd.R_mono (Kd.R_told (Kd.R_oldK (IsS99.apart (show IsS99 w0 _ g s0_0 t605 t606 from by repeat (first | (with_reducible first | exact HI0.out | apply IsS99.alloc | apply IsS99.drewN | apply IsS99.drew | apply IsS99.set_1 | apply IsS99.set_2) | exact HI0.out)) (rs HO603) (by decide)) hk) (Kd.R_base ho0)) (fun _ h_ => h_.1)); have n2_ := as0 (Kd.R_lower (Kd.R_new' (Kd.R_new' ho0 (Kd.R_lt (rs HO_6))) (Kd.R_lt (rs HO603))) (keep_size (w := w) (g := g) (row := none) (by repeat (first | (with_reducible first | exact HK.out | apply KeepBut.set_ | apply keep_drewN | apply keep_drew | apply keep_alloc) | exact HK.out)))); have n3_ := as0 (KeepBut.trans (by repeat (first | (with_reducible first | exact HK.out | apply KeepBut.set_ | apply keep_drewN | apply keep_drew | apply keep_alloc) | exact HK.out)) hk (.inl rfl)); have n4_ := as0 (hb); have n5_ := as0 (hi); clear HO_6; clear HO603; clear HK; clear HB; clear HI0; have HO_6 := n0_; have HO603 := n1_; have HO609 := n2_; have HK := n3_; have HB := n4_; have HI0 := n5_; clear n0_ n1_ n2_ n3_ n4_ n5_; (try clear hb); (try clear hb2); (try clear hk); (try clear hi); (try clear ho0); obtain ⟨Ao43, co43, eo43⟩ := Kd.R_slice HO603.out; subst eo43; obtain ⟨Ao44, co44, eo44⟩ := Kd.R_slice HO609.out; subst eo44) | ((with_reducible refine gate_callee (f := 48) rfl ?_); refine goesM_ (some 52) rfl rfl Try.func48 #[.int .i64 t560, .slice Ao43 t601.length co43, .slice Ao44 t607.length co44] rfl ?_; (with_reducible refine (spec_l01Times.calls k1 t560 _ _ t601 _ _ t607 t612 _ ?side1 ?side2 ?side3 ?side4 A38.out).mono ?_); (case side1 => exact cs ((Kd.R_reads' HO603.out).2.2)); (case side2 => exact (Kd.R_reads' HO603.out).2.1); (case side3 => exact cs ((Kd.R_reads' HO609.out).2.2)); (case side4 => exact (Kd.R_reads' HO609.out).2.1); rintro e w45 ⟨v613, rfl, ho0, hb⟩; refine ⟨_, rfl, ?_⟩; have n0_ := as0 (Kd.R_elder' (rs HO_6) (Kd.R_base ho0) hb); have n1_ := as0 (Kd.R_elder' (rs HO603) (Kd.R_base ho0) hb); have n2_ := as0 (Kd.R_elder' (rs HO609) (Kd.R_base ho0) hb); have n3_ := as0 (Kd.R_lower (Kd.R_new' (Kd.R_new' (Kd.R_new' ho0 (Kd.R_lt (rs HO_6))) (Kd.R_lt (rs HO603))) (Kd.R_lt (rs HO609))) (keep_size (w := w) (g := g) (row := none) (by repeat (first | (with_reducible first | exact HK.out | apply KeepBut.set_ | apply keep_drewN | apply keep_drew | apply keep_alloc) | exact HK.out)))); have n4_ := as0 (IsS99.below (by repeat (first | (with_reducible first | exact HI0.out | apply IsS99.alloc | apply IsS99.drewN | apply IsS99.drew | apply IsS99.set_1 | apply IsS99.set_2) | exact HI0.out)) hb); have n5_ := as0 (KeepBut.trans (by repeat (first | (with_reducible first | exact HK.out | apply KeepBut.set_ | apply keep_drewN | apply keep_drew | apply keep_alloc) | exact HK.out)) (KeepBut.of_below hb g none) (.inl rfl)); have n6_ := as0 (below_step (by repeat (first | (with_reducible first | exact HB.out | apply below_alloc | apply pw_below_drewN | apply below_drew1 | refine below_set ?_ (IsS99.ge HI0.out)) | exact HB.out)) hb); clear HO_6; clear HO603; clear HO609; clear HI0; clear HK; clear HB; have HO_6 := n0_; have HO603 := n1_; have HO609 := n2_; have HO614 := n3_; have HI0 := n4_; have HK := n5_; have HB := n6_; clear n0_ n1_ n2_ n3_ n4_ n5_ n6_; (try clear hb); (try clear hb2); (try clear hk); (try clear hi); (try clear ho0)))
       go_meet
       case rel => exact ⟨_, (t612), (t610), (t611), H', ⟨by have := HK1.out; first | omega | exact Nat.le_refl _⟩, ⟨by (with_reducible repeat (first | apply Kd.R_alloc | apply Kd.R_drewN | apply Kd.R_drew)); exact Kd.R_mono HO614.out (fun _ hk => trivial)⟩, ⟨by repeat (first | (with_reducible first | exact HI0.out | apply IsS99.alloc | apply IsS99.drewN | apply IsS99.drew | apply IsS99.set_1 | apply IsS99.set_2) | exact HI0.out)⟩, ⟨by repeat (first | (with_reducible first | exact HK.out | apply KeepBut.set_ | apply keep_drewN | apply keep_drew | apply keep_alloc) | exact HK.out)⟩, ⟨by repeat (first | (with_reducible first | exact HB.out | apply below_alloc | apply pw_below_drewN | apply below_drew1 | refine below_set ?_ (IsS99.ge HI0.out)) | exact HB.out)⟩⟩
      ·
       rw [if_neg c36] at H
       have c36b0 : (t604 == 0) = false := beq_eq_false_iff_ne.mpr c36
       have c36b1 : (t604 != 0) = true := bne_iff_ne.mpr c36
       have H' := as0 H
       clear H
       obtain ⟨Ao46, co46, eo46⟩ := Kd.R_slice HO_6.out
       subst eo46
       go_wp2_with (first | ((with_reducible refine gate_callee (f := 122) rfl ?_); refine goesM_ (some 43) rfl rfl Try.func122 #[.int .i64 t560, .slice Ao46 x6_1.length co46] rfl ?_; (with_reducible refine (spec_l06Of.calls k1 t560 _ _ x6_1 t601 _ ?side1 ?side2 A34.out).mono ?_); (case side1 => exact cs ((Kd.R_reads' HO_6.out).2.2)); (case side2 => exact (Kd.R_reads' HO_6.out).2.1); rintro e w47 ⟨v602, rfl, ho0, hb⟩; refine ⟨_, rfl, ?_⟩; have n0_ := as0 (Kd.R_elder' (rs HO_6) (Kd.R_base ho0) hb); have n1_ := as0 (Kd.R_lower (Kd.R_new' ho0 (Kd.R_lt (rs HO_6))) (keep_size (w := w) (g := g) (row := none) (by repeat (first | (with_reducible first | exact HK.out | apply KeepBut.set_ | apply keep_drewN | apply keep_drew | apply keep_alloc) | exact HK.out)))); have n2_ := as0 (IsS99.below (by repeat (first | (with_reducible first | exact HI0.out | apply IsS99.alloc | apply IsS99.drewN | apply IsS99.drew | apply IsS99.set_1 | apply IsS99.set_2) | exact HI0.out)) hb); have n3_ := as0 (KeepBut.trans (by repeat (first | (with_reducible first | exact HK.out | apply KeepBut.set_ | apply keep_drewN | apply keep_drew | apply keep_alloc) | exact HK.out)) (KeepBut.of_below hb g none) (.inl rfl)); have n4_ := as0 (below_step (by repeat (first | (with_reducible first | exact HB.out | apply below_alloc | apply pw_below_drewN | apply below_drew1 | refine below_set ?_ (IsS99.ge HI0.out)) | exact HB.out)) hb); clear HO_6; clear HI0; clear HK; clear HB; have HO_6 := n0_; have HO603 := n1_; have HI0 := n2_; have HK := n3_; have HB := n4_; clear n0_ n1_ n2_ n3_ n4_; (try clear hb); (try clear hb2); (try clear hk); (try clear hi); (try clear ho0)) | ((with_reducible refine gate_callee (f := 107) rfl ?_); refine goesM_ (some 45) rfl rfl Try.func107 #[.pointer (some ⟨g, 0, none⟩), .int .i64 3] rfl ?_; (with_reducible refine (spec_l01Next.calls g s0_0 x1001_1 x1002_1 3 t604 t605 t606 w0 _ ?side1 ?side2 A35.out).mono ?_); (case side1 => repeat (first | (with_reducible first | exact HI0.out | apply IsS99.alloc | apply IsS99.drewN | apply IsS99.drew | apply IsS99.set_1 | apply IsS99.set_2) | exact HI0.out)); (case side2 => repeat (first | (with_reducible first | exact HB.out | apply below_alloc | apply pw_below_drewN | apply below_drew1 | refine below_set ?_ (IsS99.ge HI0.out)) | exact HB.out)); rintro e w48 ⟨rfl, hi, hb, hk⟩; refine ⟨_, rfl, ?_⟩; have n0_ := as0 (Kd.R_mono (Kd.R_keep (IsS99.apart (show IsS99 w0 _ g s0_0 x1001_1 x1002_1 from by repeat (first | (with_reducible first | exact HI0.out | apply IsS99.alloc | apply IsS99.drewN | apply IsS99.drew | apply IsS99.set_1 | apply IsS99.set_2) | exact HI0.out)) (rs HO_6) (by decide)) hk (fun _ h => h.2)) (fun _ h => h.1)); have n1_ := as0 (Kd.R_mono (Kd.R_keep (IsS99.apart (show IsS99 w0 _ g s0_0 x1001_1 x1002_1 from by repeat (first | (with_reducible first | exact HI0.out | apply IsS99.alloc | apply IsS99.drewN | apply IsS99.drew | apply IsS99.set_1 | apply IsS99.set_2) | exact HI0.out)) (rs HO603) (by decide)) hk (fun _ h => h.2)) (fun _ h => h.1)); have n2_ := as0 (KeepBut.trans (by repeat (first | (with_reducible first | exact HK.out | apply KeepBut.set_ | apply keep_drewN | apply keep_drew | apply keep_alloc) | exact HK.out)) hk (.inl rfl)); have n3_ := as0 (hb); have n4_ := as0 (hi); clear HO_6; clear HO603; clear HK; clear HB; clear HI0; have HO_6 := n0_; have HO603 := n1_; have HK := n2_; have HB := n3_; have HI0 := n4_; clear n0_ n1_ n2_ n3_ n4_; (try clear hb); (try clear hb2); (try clear hk); (try clear hi)))
       go_meet
       case rel => exact ⟨_, (t601), (t605), (t606), H', ⟨by have := HK1.out; first | omega | exact Nat.le_refl _⟩, ⟨by (with_reducible repeat (first | apply Kd.R_alloc | apply Kd.R_drewN | apply Kd.R_drew)); exact Kd.R_mono HO603.out (fun _ hk => trivial)⟩, ⟨by repeat (first | (with_reducible first | exact HI0.out | apply IsS99.alloc | apply IsS99.drewN | apply IsS99.drew | apply IsS99.set_1 | apply IsS99.set_2) | exact HI0.out)⟩, ⟨by repeat (first | (with_reducible first | exact HK.out | apply KeepBut.set_ | apply keep_drewN | apply keep_drew | apply keep_alloc) | exact HK.out)⟩, ⟨by repeat (first | (with_reducible first | exact HB.out | apply below_alloc | apply pw_below_drewN | apply below_drew1 | refine below_set ?_ (IsS99.ge HI0.out)) | exact HB.out)⟩⟩
  ·
   rw [if_neg c16] at H
   have c16b0 : (t577 == 0) = false := beq_eq_false_iff_ne.mpr c16
   have c16b1 : (t577 != 0) = true := bne_iff_ne.mpr c16
   (first | rw [c16b0] | (simp only [i64_w, i32_w]; rw [c16b0]) | skip)
   have H' := as0 H
   clear H
   go_wp2
   go_meet
   case rel => exact ⟨_, (t572), (t578), (t579), H', ⟨by first | omega | exact Nat.le_refl _⟩, ⟨by (with_reducible repeat (first | apply Kd.R_alloc | apply Kd.R_drewN | apply Kd.R_drew)); exact Kd.R_mono HO574.out (fun _ hk => trivial)⟩, ⟨by repeat (first | (with_reducible first | exact HI0.out | apply IsS99.alloc | apply IsS99.drewN | apply IsS99.drew | apply IsS99.set_1 | apply IsS99.set_2) | exact HI0.out)⟩, ⟨by repeat (first | (with_reducible first | exact HK.out | apply KeepBut.set_ | apply keep_drewN | apply keep_drew | apply keep_alloc) | exact HK.out)⟩, ⟨by repeat (first | (with_reducible first | exact HB.out | apply below_alloc | apply pw_below_drewN | apply below_drew1 | refine below_set ?_ (IsS99.ge HI0.out)) | exact HB.out)⟩⟩
 case rest =>
  clear HC7
  try clear c1
  try clear c2
  try clear p2
  try clear c3
  try clear c4
  try clear p6
  try clear c10
  try clear c12
  try clear c16
  try clear c16b0
  try clear c16b1
  try clear c21
  try clear c21b0
  try clear c26
  try clear c36
  try clear c36b0
  try clear c36b1
  try clear c48
  try clear p2
  obtain ⟨kq, x5_6, x1001_6, x1002_6, HA, HJ6, HO_5, HI0, HK, HB⟩ := hcut
  cases kq with
  | zero => exact absurd HA.out (by simp [spec_l06Draw.j1])
  | succ kj6 =>
   have H := HA.out
   clear HA
   simp only [spec_l06Draw.j1] at H
   replace H := Option.bind_eq_some_iff.mp H
   obtain ⟨⟨t615, t616, t617⟩, A490, H⟩ := H
   have A49 := as0 A490
   clear A490
   by_cases c50 : t615 = 0
   ·
    rw [if_pos c50] at H
    have c50b0 : (t615 == 0) = true := beq_iff_eq.mpr c50
    have c50b1 : (t615 != 0) = false := bne_eq_false_iff_eq.mpr c50
    clear c50
    replace H := Option.bind_eq_some_iff.mp H
    obtain ⟨t618, A510, H⟩ := H
    have A51 := as0 A510
    clear A510
    by_cases c52 : t618.length < 17592186044416
    ·
     rw [if_pos c52] at H
     have LMc52 := as0 c52
     clear c52
     obtain ⟨y621, hy621⟩ : ∃ y_ : List Int, y_ = (t618 ++ [0]) := ⟨_, rfl⟩
     replace H : (some (t560, y621, t616, t617)) = some (r1, r2, r3, r4) := by first | (rw [hy621]; with_reducible exact H) | (have H2_ := (Option.bind_some _ _).symm.trans H; rw [hy621]; with_reducible exact H2_) | (have H2_ := (Option.bind_some _ _).symm.trans H; with_reducible exact H2_) | with_reducible exact H | (rw [hy621]; exact H) | exact H
     have Ny621 := as0 hy621
     clear hy621
     simp only [Option.some.injEq, Prod.mk.injEq] at H
     obtain ⟨rfl, rfl, rfl, rfl⟩ := H
     go_wp2_with (first | ((with_reducible refine gate_callee (f := 107) rfl ?_); refine goesM_ (some 54) rfl rfl Try.func107 #[.pointer (some ⟨g, 0, none⟩), .int .i64 40] rfl ?_; (with_reducible refine (spec_l01Next.calls g s0_0 x1001_6 x1002_6 40 t615 t616 t617 w0 _ ?side1 ?side2 A49.out).mono ?_); (case side1 => repeat (first | (with_reducible first | exact HI0.out | apply IsS99.alloc | apply IsS99.drewN | apply IsS99.drew | apply IsS99.set_1 | apply IsS99.set_2) | exact HI0.out)); (case side2 => repeat (first | (with_reducible first | exact HB.out | apply below_alloc | apply pw_below_drewN | apply below_drew1 | refine below_set ?_ (IsS99.ge HI0.out)) | exact HB.out)); rintro e w53 ⟨rfl, hi, hb, hk⟩; refine ⟨_, rfl, ?_⟩; have n0_ := as0 (Kd.R_mono (Kd.R_keep (IsS99.apart (show IsS99 w0 _ g s0_0 x1001_6 x1002_6 from by repeat (first | (with_reducible first | exact HI0.out | apply IsS99.alloc | apply IsS99.drewN | apply IsS99.drew | apply IsS99.set_1 | apply IsS99.set_2) | exact HI0.out)) (rs HO_5) (by decide)) hk (fun _ h => h.2)) (fun _ h => h.1)); have n1_ := as0 (KeepBut.trans (by repeat (first | (with_reducible first | exact HK.out | apply KeepBut.set_ | apply keep_drewN | apply keep_drew | apply keep_alloc) | exact HK.out)) hk (.inl rfl)); have n2_ := as0 (hb); have n3_ := as0 (hi); clear HO_5; clear HK; clear HB; clear HI0; have HO_5 := n0_; have HK := n1_; have HB := n2_; have HI0 := n3_; clear n0_ n1_ n2_ n3_; (try clear hb); (try clear hb2); (try clear hk); (try clear hi); obtain ⟨Ao54, co54, eo54⟩ := Kd.R_slice HO_5.out; subst eo54) | ((with_reducible refine gate_callee (f := 81) rfl ?_); refine goesM_ (some 58) rfl rfl Try.func81 #[.slice Ao54 x5_6.length co54] rfl ?_; (with_reducible refine (spec_l01Own.calls _ _ x5_6 t618 _ ?side1 ?side2 A51.out).mono ?_); (case side1 => exact cs ((Kd.R_reads' HO_5.out).2.2)); (case side2 => exact (Kd.R_reads' HO_5.out).2.1); rintro e w55 ⟨v619, rfl, ho0, hb⟩; refine ⟨_, rfl, ?_⟩; have n0_ := as0 (Kd.R_elder' (rs HO_5) (Kd.R_base ho0) hb); have n1_ := as0 (Kd.R_lower (Kd.R_new' ho0 (Kd.R_lt (rs HO_5))) (keep_size (w := w) (g := g) (row := none) (by repeat (first | (with_reducible first | exact HK.out | apply KeepBut.set_ | apply keep_drewN | apply keep_drew | apply keep_alloc) | exact HK.out)))); have n2_ := as0 (IsS99.below (by repeat (first | (with_reducible first | exact HI0.out | apply IsS99.alloc | apply IsS99.drewN | apply IsS99.drew | apply IsS99.set_1 | apply IsS99.set_2) | exact HI0.out)) hb); have n3_ := as0 (KeepBut.trans (by repeat (first | (with_reducible first | exact HK.out | apply KeepBut.set_ | apply keep_drewN | apply keep_drew | apply keep_alloc) | exact HK.out)) (KeepBut.of_below hb g none) (.inl rfl)); have n4_ := as0 (below_step (by repeat (first | (with_reducible first | exact HB.out | apply below_alloc | apply pw_below_drewN | apply below_drew1 | refine below_set ?_ (IsS99.ge HI0.out)) | exact HB.out)) hb); clear HO_5; clear HI0; clear HK; clear HB; have HO_5 := n0_; have HO620 := n1_; have HI0 := n2_; have HK := n3_; have HB := n4_; clear n0_ n1_ n2_ n3_ n4_; (try clear hb); (try clear hb2); (try clear hk); (try clear hi); (try clear ho0)) | ((with_reducible refine gate_builtin (b := .append) (xs := #[.tmp 58, .tmp 59]) rfl ?_); at_builtin; refine Kd.R_append (Kd.int .i64) w.heap.size rfl (.tmp 58) (.tmp 59) 22 2 (.int .i64 0) 8 rfl Try.underlying22 info2 rfl (by decide) (by omega) v619 t618 0 [.int .i64 0] (fun k_ => some k_ ≠ (.slice Ao54 x5_6.length co54 : Value).ownBlock) (fun _ => False) rfl rfl ?aP (fun _ hk => hk.elim) ?aF ?aO (Below.refl _ _) ?aS ?aL ?_; (case aP => exact rfl); (case aF => exact (fun k_ hk => Kd.fresh' (Kd.R_lt (rs HO_5)) k_ hk)); (case aO => exact (by (with_reducible repeat (first | apply Kd.R_alloc | apply Kd.R_drewN | apply Kd.R_drew)); exact Kd.R_mono HO620.out (fun _ hk => hk.2))); (case aS => exact (keep_size (w := w) (g := g) (row := none) (by repeat (first | (with_reducible first | exact HK.out | apply KeepBut.set_ | apply keep_drewN | apply keep_drew | apply keep_alloc) | exact HK.out)))); (case aL => have := LMc52.out; omega); intro v622 w56 ho hb hg hat; rw [← Ny621.out] at ho; have n0_ := as0 (Kd.R_after (ok := (fun _ => True)) (rs HO_5) hg hat); have n1_ := as0 (IsS99.grown (by repeat (first | (with_reducible first | exact HI0.out | apply IsS99.alloc | apply IsS99.drewN | apply IsS99.drew | apply IsS99.set_1 | apply IsS99.set_2) | exact HI0.out)) hg (IsS99.own_ne HI0.out HO620.out (by decide))); have n2_ := as0 (below_weaken (by repeat (first | (with_reducible first | exact HB.out | apply below_alloc | apply pw_below_drewN | apply below_drew1 | refine below_set ?_ (IsS99.ge HI0.out)) | exact HB.out)) HL.out hb); have n3_ := as0 (KeepBut.trans (by repeat (first | (with_reducible first | exact HK.out | apply KeepBut.set_ | apply keep_drewN | apply keep_drew | apply keep_alloc) | exact HK.out)) (KeepBut.of_grown hg g) (Kd.R_base2 HO620.out)); have n4_ := as0 (ho); clear HO_5; clear HI0; clear HB; clear HK; clear HO620; have HO_5 := n0_; have HI0 := n1_; have HB := n2_; have HK := n3_; have HO623 := n4_; clear n0_ n1_ n2_ n3_ n4_; clear ho hb hg hat))
     go_ret2
     exact ⟨_, er_, by (with_reducible repeat (first | apply Kd.R_alloc | apply Kd.R_drewN | apply Kd.R_drew)); exact Kd.R_mono HO623.out (fun _ hk => trivial), by repeat (first | (with_reducible first | exact HI0.out | apply IsS99.alloc | apply IsS99.drewN | apply IsS99.drew | apply IsS99.set_1 | apply IsS99.set_2) | exact HI0.out), by repeat (first | (with_reducible first | exact HB.out | apply below_alloc | apply pw_below_drewN | apply below_drew1 | refine below_set ?_ (IsS99.ge HI0.out)) | exact HB.out), by repeat (first | (with_reducible first | exact HK.out | apply KeepBut.set_ | apply keep_drewN | apply keep_drew | apply keep_alloc) | exact HK.out)⟩
    ·
     rw [if_neg c52] at H
     exact absurd H (by simp)
   ·
    rw [if_neg c50] at H
    have c50b0 : (t615 == 0) = false := beq_eq_false_iff_ne.mpr c50
    have c50b1 : (t615 != 0) = true := bne_iff_ne.mpr c50
    by_cases c57 : t615 = 1
    ·
     rw [if_pos c57] at H
     have c57b0 : (t615 == 1) = true := beq_iff_eq.mpr c57
     have c57b1 : (t615 != 1) = false := bne_eq_false_iff_eq.mpr c57
     clear c57
     obtain ⟨y624, hy624⟩ : ∃ y_ : List Int, y_ = (([0, 1, 4, 9] : List Int)) := ⟨_, rfl⟩
     replace H : ((spec_l01Pick.f s0_0 t616 t617 y624).bind fun bt627 => (some (bt627.1, x5_6, bt627.2.1, bt627.2.2))) = some (r1, r2, r3, r4) := by first | (rw [hy624]; with_reducible exact H) | (have H2_ := (Option.bind_some _ _).symm.trans H; rw [hy624]; with_reducible exact H2_) | (have H2_ := (Option.bind_some _ _).symm.trans H; with_reducible exact H2_) | with_reducible exact H | (rw [hy624]; exact H) | exact H
     have Ny624 := as0 hy624
     clear hy624
     replace H := Option.bind_eq_some_iff.mp H
     obtain ⟨⟨t627, t628, t629⟩, A580, H⟩ := H
     have A58 := as0 A580
     clear A580
     simp only [Option.some.injEq, Prod.mk.injEq] at H
     obtain ⟨rfl, rfl, rfl, rfl⟩ := H
     go_wp2_with (first | ((with_reducible refine gate_callee (f := 107) rfl ?_); refine goesM_ (some 54) rfl rfl Try.func107 #[.pointer (some ⟨g, 0, none⟩), .int .i64 40] rfl ?_; (with_reducible refine (spec_l01Next.calls g s0_0 x1001_6 x1002_6 40 t615 t616 t617 w0 _ ?side1 ?side2 A49.out).mono ?_); (case side1 => repeat (first | (with_reducible first | exact HI0.out | apply IsS99.alloc | apply IsS99.drewN | apply IsS99.drew | apply IsS99.set_1 | apply IsS99.set_2) | exact HI0.out)); (case side2 => repeat (first | (with_reducible first | exact HB.out | apply below_alloc | apply pw_below_drewN | apply below_drew1 | refine below_set ?_ (IsS99.ge HI0.out)) | exact HB.out)); rintro e w59 ⟨rfl, hi, hb, hk⟩; refine ⟨_, rfl, ?_⟩; have n0_ := as0 (Kd.R_mono (Kd.R_keep (IsS99.apart (show IsS99 w0 _ g s0_0 x1001_6 x1002_6 from by repeat (first | (with_reducible first | exact HI0.out | apply IsS99.alloc | apply IsS99.drewN | apply IsS99.drew | apply IsS99.set_1 | apply IsS99.set_2) | exact HI0.out)) (rs HO_5) (by decide)) hk (fun _ h => h.2)) (fun _ h => h.1)); have n1_ := as0 (KeepBut.trans (by repeat (first | (with_reducible first | exact HK.out | apply KeepBut.set_ | apply keep_drewN | apply keep_drew | apply keep_alloc) | exact HK.out)) hk (.inl rfl)); have n2_ := as0 (hb); have n3_ := as0 (hi); clear HO_5; clear HK; clear HB; clear HI0; have HO_5 := n0_; have HK := n1_; have HB := n2_; have HI0 := n3_; clear n0_ n1_ n2_ n3_; (try clear hb); (try clear hb2); (try clear hk); (try clear hi)) | ((with_reducible refine gate_dst (N := 64) rfl ?_); refine Kd.R_lit (Kd.int .i64) _ 2 ?hg (N := 64) ?hd (xs := ([0, 1, 4, 9] : List Int)) (inner := [.int .i64 0, .int .i64 1, .int .i64 4, .int .i64 9]) (ok := fun _ => True) (okp := fun _ => True) ?hr ?hp (fun _ hk => hk) trivial (Below.refl _ _) (Nat.le_refl _) (by simp) ?_; (case hd => rfl); (case hg => rfl); (case hr => first | (go_simp; done) | (go_simp; rfl)); (case hp => exact (Reps.one (show Kd.M (Kd.int .i64) _ _ _ 0 [.int .i64 0] from rfl) (Reps.one (show Kd.M (Kd.int .i64) _ _ _ 1 [.int .i64 1] from rfl) (Reps.one (show Kd.M (Kd.int .i64) _ _ _ 4 [.int .i64 4] from rfl) (Reps.one (show Kd.M (Kd.int .i64) _ _ _ 9 [.int .i64 9] from rfl) (Reps.none _ _)))))); intro v625 w60 ho61 hb hg_ hnew_; clear hg_ hnew_; (first | rw [← Ny624.out] at ho61 | (simp only [Int.reduceToNat] at ho61; rw [← Ny624.out] at ho61)); have n0_ := as0 (Kd.R_elder' (rs HO_5) (Kd.R_base ho61) hb); have n1_ := as0 (Kd.R_lower (Kd.R_new' ho61 (Kd.R_lt (rs HO_5))) (keep_size (w := w) (g := g) (row := none) (by repeat (first | (with_reducible first | exact HK.out | apply KeepBut.set_ | apply keep_drewN | apply keep_drew | apply keep_alloc) | exact HK.out)))); have n2_ := as0 (IsS99.below (by repeat (first | (with_reducible first | exact HI0.out | apply IsS99.alloc | apply IsS99.drewN | apply IsS99.drew | apply IsS99.set_1 | apply IsS99.set_2) | exact HI0.out)) hb); have n3_ := as0 (KeepBut.trans (by repeat (first | (with_reducible first | exact HK.out | apply KeepBut.set_ | apply keep_drewN | apply keep_drew | apply keep_alloc) | exact HK.out)) (KeepBut.of_below hb g none) (.inl rfl)); have n4_ := as0 (below_step (by repeat (first | (with_reducible first | exact HB.out | apply below_alloc | apply pw_below_drewN | apply below_drew1 | refine below_set ?_ (IsS99.ge HI0.out)) | exact HB.out)) hb); clear HO_5; clear HI0; clear HK; clear HB; have HO_5 := n0_; have HO626 := n1_; have HI0 := n2_; have HK := n3_; have HB := n4_; clear n0_ n1_ n2_ n3_ n4_; clear hb ho61; obtain ⟨Ao62, co62, eo62⟩ := Kd.R_slice HO626.out; subst eo62) | ((with_reducible refine gate_callee (f := 121) rfl ?_); refine goesM_ (some 65) rfl rfl Try.func121 #[.pointer (some ⟨g, 0, none⟩), .slice Ao62 y624.length co62] rfl ?_; (with_reducible refine (spec_l01Pick.calls g s0_0 t616 t617 _ _ y624 t627 t628 t629 w0 _ ?side1 ?side2 ?side3 ?side4 ?side5 A58.out).mono ?_); (case side1 => repeat (first | (with_reducible first | exact HI0.out | apply IsS99.alloc | apply IsS99.drewN | apply IsS99.drew | apply IsS99.set_1 | apply IsS99.set_2) | exact HI0.out)); (case side2 => repeat (first | (with_reducible first | exact HB.out | apply below_alloc | apply pw_below_drewN | apply below_drew1 | refine below_set ?_ (IsS99.ge HI0.out)) | exact HB.out)); (case side3 => exact cs ((Kd.R_reads' HO626.out).2.2)); (case side4 => exact (Kd.R_reads' HO626.out).2.1); (case side5 => exact far_slice (IsS99.own_ne HI0.out HO626.out (by decide))); rintro e w63 ⟨rfl, hi, hb, hk⟩; refine ⟨_, rfl, ?_⟩; have n0_ := as0 (Kd.R_mono (Kd.R_keep (IsS99.apart (show IsS99 w0 _ g s0_0 t616 t617 from by repeat (first | (with_reducible first | exact HI0.out | apply IsS99.alloc | apply IsS99.drewN | apply IsS99.drew | apply IsS99.set_1 | apply IsS99.set_2) | exact HI0.out)) (rs HO_5) (by decide)) hk (fun _ h => h.2)) (fun _ h => h.1)); have n1_ := as0 (Kd.R_mono (Kd.R_keep (IsS99.apart (show IsS99 w0 _ g s0_0 t616 t617 from by repeat (first | (with_reducible first | exact HI0.out | apply IsS99.alloc | apply IsS99.drewN | apply IsS99.drew | apply IsS99.set_1 | apply IsS99.set_2) | exact HI0.out)) (rs HO626) (by decide)) hk (fun _ h => h.2)) (fun _ h => h.1)); have n2_ := as0 (KeepBut.trans (by repeat (first | (with_reducible first | exact HK.out | apply KeepBut.set_ | apply keep_drewN | apply keep_drew | apply keep_alloc) | exact HK.out)) hk (.inl rfl)); have n3_ := as0 (hb); have n4_ := as0 (hi); clear HO_5; clear HO626; clear HK; clear HB; clear HI0; have HO_5 := n0_; have HO626 := n1_; have HK := n2_; have HB := n3_; have HI0 := n4_; clear n0_ n1_ n2_ n3_ n4_; (try clear hb); (try clear hb2); (try clear hk); (try clear hi)))
     go_ret2
     exact ⟨_, er_, by (with_reducible repeat (first | apply Kd.R_alloc | apply Kd.R_drewN | apply Kd.R_drew)); exact Kd.R_mono HO_5.out (fun _ hk => trivial), by repeat (first | (with_reducible first | exact HI0.out | apply IsS99.alloc | apply IsS99.drewN | apply IsS99.drew | apply IsS99.set_1 | apply IsS99.set_2) | exact HI0.out), by repeat (first | (with_reducible first | exact HB.out | apply below_alloc | apply pw_below_drewN | apply below_drew1 | refine below_set ?_ (IsS99.ge HI0.out)) | exact HB.out), by repeat (first | (with_reducible first | exact HK.out | apply KeepBut.set_ | apply keep_drewN | apply keep_drew | apply keep_alloc) | exact HK.out)⟩
    ·
     rw [if_neg c57] at H
     have c57b0 : (t615 == 1) = false := beq_eq_false_iff_ne.mpr c57
     have c57b1 : (t615 != 1) = true := bne_iff_ne.mpr c57
     by_cases c64 : t615 = 2
     ·
      rw [if_pos c64] at H
      have c64b0 : (t615 == 2) = true := beq_iff_eq.mpr c64
      have c64b1 : (t615 != 2) = false := bne_eq_false_iff_eq.mpr c64
      clear c64
      obtain ⟨y630, hy630⟩ : ∃ y_ : List Int, y_ = (([] : List Int)) := ⟨_, rfl⟩
      replace H : (some (t560, y630, t616, t617)) = some (r1, r2, r3, r4) := by first | (rw [hy630]; with_reducible exact H) | (have H2_ := (Option.bind_some _ _).symm.trans H; rw [hy630]; with_reducible exact H2_) | (have H2_ := (Option.bind_some _ _).symm.trans H; with_reducible exact H2_) | with_reducible exact H | (rw [hy630]; exact H) | exact H
      have Ny630 := as0 hy630
      clear hy630
      simp only [Option.some.injEq, Prod.mk.injEq] at H
      obtain ⟨rfl, rfl, rfl, rfl⟩ := H
      go_wp2_with (first | ((with_reducible refine gate_callee (f := 107) rfl ?_); refine goesM_ (some 54) rfl rfl Try.func107 #[.pointer (some ⟨g, 0, none⟩), .int .i64 40] rfl ?_; (with_reducible refine (spec_l01Next.calls g s0_0 x1001_6 x1002_6 40 t615 t616 t617 w0 _ ?side1 ?side2 A49.out).mono ?_); (case side1 => repeat (first | (with_reducible first | exact HI0.out | apply IsS99.alloc | apply IsS99.drewN | apply IsS99.drew | apply IsS99.set_1 | apply IsS99.set_2) | exact HI0.out)); (case side2 => repeat (first | (with_reducible first | exact HB.out | apply below_alloc | apply pw_below_drewN | apply below_drew1 | refine below_set ?_ (IsS99.ge HI0.out)) | exact HB.out)); rintro e w65 ⟨rfl, hi, hb, hk⟩; refine ⟨_, rfl, ?_⟩; have n0_ := as0 (Kd.R_mono (Kd.R_keep (IsS99.apart (show IsS99 w0 _ g s0_0 x1001_6 x1002_6 from by repeat (first | (with_reducible first | exact HI0.out | apply IsS99.alloc | apply IsS99.drewN | apply IsS99.drew | apply IsS99.set_1 | apply IsS99.set_2) | exact HI0.out)) (rs HO_5) (by decide)) hk (fun _ h => h.2)) (fun _ h => h.1)); have n1_ := as0 (KeepBut.trans (by repeat (first | (with_reducible first | exact HK.out | apply KeepBut.set_ | apply keep_drewN | apply keep_drew | apply keep_alloc) | exact HK.out)) hk (.inl rfl)); have n2_ := as0 (hb); have n3_ := as0 (hi); clear HO_5; clear HK; clear HB; clear HI0; have HO_5 := n0_; have HK := n1_; have HB := n2_; have HI0 := n3_; clear n0_ n1_ n2_ n3_; (try clear hb); (try clear hb2); (try clear hk); (try clear hi)) | ((with_reducible refine gate_dst (N := 68) rfl ?_); refine Kd.R_lit (Kd.int .i64) _ 2 ?hg (N := 68) ?hd (xs := ([] : List Int)) (inner := []) (ok := fun _ => True) (okp := fun _ => True) ?hr ?hp (fun _ hk => hk) trivial (Below.refl _ _) (Nat.le_refl _) (by simp) ?_; (case hd => rfl); (case hg => rfl); (case hr => first | (go_simp; done) | (go_simp; rfl)); (case hp => exact (Reps.none _ _)); intro v631 w66 ho67 hb hg_ hnew_; clear hg_ hnew_; (first | rw [← Ny630.out] at ho67 | (simp only [Int.reduceToNat] at ho67; rw [← Ny630.out] at ho67)); have n0_ := as0 (Kd.R_elder' (rs HO_5) (Kd.R_base ho67) hb); have n1_ := as0 (Kd.R_lower (Kd.R_new' ho67 (Kd.R_lt (rs HO_5))) (keep_size (w := w) (g := g) (row := none) (by repeat (first | (with_reducible first | exact HK.out | apply KeepBut.set_ | apply keep_drewN | apply keep_drew | apply keep_alloc) | exact HK.out)))); have n2_ := as0 (IsS99.below (by repeat (first | (with_reducible first | exact HI0.out | apply IsS99.alloc | apply IsS99.drewN | apply IsS99.drew | apply IsS99.set_1 | apply IsS99.set_2) | exact HI0.out)) hb); have n3_ := as0 (KeepBut.trans (by repeat (first | (with_reducible first | exact HK.out | apply KeepBut.set_ | apply keep_drewN | apply keep_drew | apply keep_alloc) | exact HK.out)) (KeepBut.of_below hb g none) (.inl rfl)); have n4_ := as0 (below_step (by repeat (first | (with_reducible first | exact HB.out | apply below_alloc | apply pw_below_drewN | apply below_drew1 | refine below_set ?_ (IsS99.ge HI0.out)) | exact HB.out)) hb); clear HO_5; clear HI0; clear HK; clear HB; have HO_5 := n0_; have HO632 := n1_; have HI0 := n2_; have HK := n3_; have HB := n4_; clear n0_ n1_ n2_ n3_ n4_; clear hb ho67))
      go_ret2
      exact ⟨_, er_, by (with_reducible repeat (first | apply Kd.R_alloc | apply Kd.R_drewN | apply Kd.R_drew)); exact Kd.R_mono HO632.out (fun _ hk => trivial), by repeat (first | (with_reducible first | exact HI0.out | apply IsS99.alloc | apply IsS99.drewN | apply IsS99.drew | apply IsS99.set_1 | apply IsS99.set_2) | exact HI0.out), by repeat (first | (with_reducible first | exact HB.out | apply below_alloc | apply pw_below_drewN | apply below_drew1 | refine below_set ?_ (IsS99.ge HI0.out)) | exact HB.out), by repeat (first | (with_reducible first | exact HK.out | apply KeepBut.set_ | apply keep_drewN | apply keep_drew | apply keep_alloc) | exact HK.out)⟩
     ·
      rw [if_neg c64] at H
      have c64b0 : (t615 == 2) = false := beq_eq_false_iff_ne.mpr c64
      have c64b1 : (t615 != 2) = true := bne_iff_ne.mpr c64
      simp only [Option.some.injEq, Prod.mk.injEq] at H
      obtain ⟨rfl, rfl, rfl, rfl⟩ := H
      go_wp2_with (first | ((with_reducible refine gate_callee (f := 107) rfl ?_); refine goesM_ (some 54) rfl rfl Try.func107 #[.pointer (some ⟨g, 0, none⟩), .int .i64 40] rfl ?_; (with_reducible refine (spec_l01Next.calls g s0_0 x1001_6 x1002_6 40 t615 t616 t617 w0 _ ?side1 ?side2 A49.out).mono ?_); (case side1 => repeat (first | (with_reducible first | exact HI0.out | apply IsS99.alloc | apply IsS99.drewN | apply IsS99.drew | apply IsS99.set_1 | apply IsS99.set_2) | exact HI0.out)); (case side2 => repeat (first | (with_reducible first | exact HB.out | apply below_alloc | apply pw_below_drewN | apply below_drew1 | refine below_set ?_ (IsS99.ge HI0.out)) | exact HB.out)); rintro e w68 ⟨rfl, hi, hb, hk⟩; refine ⟨_, rfl, ?_⟩; have n0_ := as0 (Kd.R_mono (Kd.R_keep (IsS99.apart (show IsS99 w0 _ g s0_0 x1001_6 x1002_6 from by repeat (first | (with_reducible first | exact HI0.out | apply IsS99.alloc | apply IsS99.drewN | apply IsS99.drew | apply IsS99.set_1 | apply IsS99.set_2) | exact HI0.out)) (rs HO_5) (by decide)) hk (fun _ h => h.2)) (fun _ h => h.1)); have n1_ := as0 (KeepBut.trans (by repeat (first | (with_reducible first | exact HK.out | apply KeepBut.set_ | apply keep_drewN | apply keep_drew | apply keep_alloc) | exact HK.out)) hk (.inl rfl)); have n2_ := as0 (hb); have n3_ := as0 (hi); clear HO_5; clear HK; clear HB; clear HI0; have HO_5 := n0_; have HK := n1_; have HB := n2_; have HI0 := n3_; clear n0_ n1_ n2_ n3_; (try clear hb); (try clear hb2); (try clear hk); (try clear hi)))
      go_ret2
      exact ⟨_, er_, rs HO_5, by repeat (first | (with_reducible first | exact HI0.out | apply IsS99.alloc | apply IsS99.drewN | apply IsS99.drew | apply IsS99.set_1 | apply IsS99.set_2) | exact HI0.out), by repeat (first | (with_reducible first | exact HB.out | apply below_alloc | apply pw_below_drewN | apply below_drew1 | refine below_set ?_ (IsS99.ge HI0.out)) | exact HB.out), by repeat (first | (with_reducible first | exact HK.out | apply KeepBut.set_ | apply keep_drewN | apply keep_drew | apply keep_alloc) | exact HK.out)⟩
def spec_l06Two.j0 : Nat → Int → List Int → Int → List Int → Bool → Option (Int × List Int × List Int)
 | 0, _, _, _, _, _ => none
 | k + 1, x6, x7, x8, x9, x40 => if x40 = true then ((spec_l06Roots.f k x8 x7).bind fun t654 => (if (t654.length : Int) > 0 then (if 0 < (t654.length : Int) then ((spec_l01Mod.f x8 (wrap64 (-(rd t654 0)))).bind fun t658 => ((spec_l01Times.f k x8 x9 (([t658, 1] : List Int))).bind fun t662 => (some (x6, x7, t662)))) else (none)) else (some (x6, x7, x9)))) else (some (x6, x7, x9))
def spec_l06Two.f (k : Nat) (l0 : List Int) : Option (Int × List Int × List Int) := (spec_l01From.f k l0).bind fun bt634 => ((spec_l06Draw.f k bt634.1 bt634.2.1 bt634.2.2).bind fun bt638 => ((spec_l01Fine.f k bt638.1).bind fun t644 => ((spec_l01DrawPoly.f k bt634.1 bt638.2.2.1 bt638.2.2.2 t644 5).bind fun bt645 => ((spec_l01Poly.f k t644 bt638.2.1).bind fun t650 => (if t650 = true then (if (bt638.2.1.length : Int) > 0 then (if (bt638.2.1.length : Int) < 10 then ((spec_l01Next.f bt634.1 bt645.2.1 bt645.2.2 3).bind fun bt651 => (spec_l06Two.j0 k bt638.1 bt638.2.1 t644 bt645.1 (bt651.1 == 0))) else (spec_l06Two.j0 k bt638.1 bt638.2.1 t644 bt645.1 false)) else (spec_l06Two.j0 k bt638.1 bt638.2.1 t644 bt645.1 false)) else (spec_l06Two.j0 k bt638.1 bt638.2.1 t644 bt645.1 false))))))
set_option maxHeartbeats 8000000 in
set_option maxRecDepth 100000 in
theorem spec_l06Two.calls (k : Nat) (A0 : Option Addr) (c0 : Nat) (l0 : List Int) (r1 : Int) (r2 : List Int) (r3 : List Int) (w : World) (hr0 : Kd.C (Kd.int .u8) w A0 l0.length l0) (hc0 : l0.length ≤ c0) (h : spec_l06Two.f k l0 = some (r1, r2, r3)) :
  Calls Try.prog 70 #[.slice A0 l0.length c0] w fun e w' => ∃ v1_ v2_ : Value, e = .returned (.tuple #[.int .i64 r1, v1_, v2_]) ∧ Kd.R (Kd.int .i64) 2 w' w.heap.size (fun k_ => some k_ ≠ (v2_ : Value).ownBlock) v1_ r2 ∧ Kd.R (Kd.int .i64) 2 w' w.heap.size (fun k_ => some k_ ≠ (v1_ : Value).ownBlock) v2_ r3 ∧ Below w.heap.size w w' := by
 have HR0 := as0 hr0
 have HC0 := as0 hc0
 clear hr0 hc0
 have HB := as0 (Below.refl w.heap.size w)
 have H : ((spec_l01From.f k l0).bind fun bt634 => ((spec_l06Draw.f k bt634.1 bt634.2.1 bt634.2.2).bind fun bt638 => ((spec_l01Fine.f k bt638.1).bind fun t644 => ((spec_l01DrawPoly.f k bt634.1 bt638.2.2.1 bt638.2.2.2 t644 5).bind fun bt645 => ((spec_l01Poly.f k t644 bt638.2.1).bind fun t650 => (if t650 = true then (if (bt638.2.1.length : Int) > 0 then (if (bt638.2.1.length : Int) < 10 then ((spec_l01Next.f bt634.1 bt645.2.1 bt645.2.2 3).bind fun bt651 => (spec_l06Two.j0 k bt638.1 bt638.2.1 t644 bt645.1 (bt651.1 == 0))) else (spec_l06Two.j0 k bt638.1 bt638.2.1 t644 bt645.1 false)) else (spec_l06Two.j0 k bt638.1 bt638.2.1 t644 bt645.1 false)) else (spec_l06Two.j0 k bt638.1 bt638.2.1 t644 bt645.1 false))))))) = some (r1, r2, r3) := h
 clear h
 replace H := Option.bind_eq_some_iff.mp H
 obtain ⟨⟨t634, t635, t636⟩, A20, H⟩ := H
 have A2 := as0 A20
 clear A20
 replace H := Option.bind_eq_some_iff.mp H
 obtain ⟨⟨t638, t639, t642, t643⟩, A30, H⟩ := H
 have A3 := as0 A30
 clear A30
 replace H := Option.bind_eq_some_iff.mp H
 obtain ⟨t644, A40, H⟩ := H
 have A4 := as0 A40
 clear A40
 replace H := Option.bind_eq_some_iff.mp H
 obtain ⟨⟨t645, t648, t649⟩, A50, H⟩ := H
 have A5 := as0 A50
 clear A50
 have HC6 := as0 H
 clear H
 go_enter Try.func70, Try.ntmps70
 go_upto_region 5 with (first | ((with_reducible refine gate_callee (f := 103) rfl ?_); refine goesM_ (some 12) rfl rfl Try.func103 #[.slice A0 l0.length c0] rfl ?_; (with_reducible refine (spec_l01From.calls k _ _ l0 t634 t635 t636 w _ ?side1 ?side2 ?side3 A2.out).mono ?_); (case side1 => exact bs HB); (case side2 => exact HR0.out); (case side3 => exact HC0.out); rintro e w7 ⟨g637, rfl, hi, hb, hb2⟩; refine ⟨_, rfl, ?_⟩; have n0_ := as0 (hb); have n1_ := as0 (hi); clear HB; have HB := n0_; have HI637 := n1_; clear n0_ n1_; (try clear hb); (try clear hb2); (try clear hk); (try clear hi)) | ((with_reducible refine gate_callee (f := 104) rfl ?_); refine goesM_ (some 15) rfl rfl Try.func104 #[.pointer (some ⟨g637, 0, none⟩)] rfl ?_; (with_reducible refine (spec_l06Draw.calls k g637 t634 t635 t636 t638 t639 t642 t643 w _ ?side1 ?side2 A3.out).mono ?_); (case side1 => repeat (first | (with_reducible first | exact HI637.out | apply IsS99.alloc | apply IsS99.drewN | apply IsS99.drew | apply IsS99.set_1 | apply IsS99.set_2) | exact HI637.out)); (case side2 => repeat (first | (with_reducible first | exact HB.out | apply below_alloc | apply pw_below_drewN | apply below_drew1 | refine below_set ?_ (IsS99.ge HI637.out)) | exact HB.out)); rintro e w8 ⟨v640, rfl, ho0, hi, hb, hk⟩; refine ⟨_, rfl, ?_⟩; have n0_ := as0 (Kd.R_lower ho0 (below_size (by repeat (first | (with_reducible first | exact HB.out | apply below_alloc | apply pw_below_drewN | apply below_drew1 | refine below_set ?_ (IsS99.ge HI637.out)) | exact HB.out)))); have n1_ := as0 (hb); have n2_ := as0 (hi); clear HB; clear HI637; have HO641 := n0_; have HB := n1_; have HI637 := n2_; clear n0_ n1_ n2_; (try clear hb); (try clear hb2); (try clear hk); (try clear hi); (try clear ho0)) | ((with_reducible refine gate_callee (f := 105) rfl ?_); refine goesM_ (some 19) rfl rfl Try.func105 #[.int .i64 t638] rfl ?_; (with_reducible refine (spec_l01Fine.calls k t638 t644 _ A4.out).mono ?_); rintro e w' ⟨rfl, ⟨nd, rfl⟩⟩; refine ⟨_, rfl, ?_⟩) | ((with_reducible refine gate_callee (f := 106) rfl ?_); refine goesM_ (some 22) rfl rfl Try.func106 #[.pointer (some ⟨g637, 0, none⟩), .int .i64 t644, .int .i64 5] rfl ?_; (with_reducible refine (spec_l01DrawPoly.calls k g637 t634 t642 t643 t644 5 t645 t648 t649 w _ ?side1 ?side2 A5.out).mono ?_); (case side1 => repeat (first | (with_reducible first | exact HI637.out | apply IsS99.alloc | apply IsS99.drewN | apply IsS99.drew | apply IsS99.set_1 | apply IsS99.set_2) | exact HI637.out)); (case side2 => repeat (first | (with_reducible first | exact HB.out | apply below_alloc | apply pw_below_drewN | apply below_drew1 | refine below_set ?_ (IsS99.ge HI637.out)) | exact HB.out)); rintro e w9 ⟨v646, rfl, ho0, hi, hb, hk⟩; refine ⟨_, rfl, ?_⟩; have n0_ := as0 (Kd.R_mono (Kd.R_told (Kd.R_oldK (IsS99.apart (show IsS99 w _ g637 t634 t642 t643 from by repeat (first | (with_reducible first | exact HI637.out | apply IsS99.alloc | apply IsS99.drewN | apply IsS99.drew | apply IsS99.set_1 | apply IsS99.set_2) | exact HI637.out)) (rs HO641) (by decide)) hk) (Kd.R_base ho0)) (fun _ h_ => h_.1)); have n1_ := as0 (Kd.R_lower (Kd.R_new' ho0 (Kd.R_lt (rs HO641))) (below_size (by repeat (first | (with_reducible first | exact HB.out | apply below_alloc | apply pw_below_drewN | apply below_drew1 | refine below_set ?_ (IsS99.ge HI637.out)) | exact HB.out)))); have n2_ := as0 (hb); have n3_ := as0 (hi); clear HO641; clear HB; clear HI637; have HO641 := n0_; have HO647 := n1_; have HB := n2_; have HI637 := n3_; clear n0_ n1_ n2_ n3_; (try clear hb); (try clear hb2); (try clear hk); (try clear hi); (try clear ho0)))
 (try simp only [Act.put, List.setIfInBounds_toArray, List.set_cons_zero, List.set_cons_succ])
 go_cut [40] (fun v40 wc => ∃ (kq : Nat) (x40_5 : Bool), v40 = .bool x40_5 ∧ Aside0 (spec_l06Two.j0 kq t638 t639 t644 t645 x40_5 = some (r1, r2, r3)) ∧ Aside0 (kq ≤ k) ∧ Aside0 (Kd.R (Kd.int .i64) 2 wc w.heap.size (fun k_ => some k_ ≠ (v646 : Value).ownBlock) v640 t639) ∧ Aside0 (Kd.R (Kd.int .i64) 2 wc w.heap.size (fun k_ => some k_ ≠ (v640 : Value).ownBlock) v646 t645) ∧ Aside0 (Below w.heap.size w wc))
 case first =>
  have H := HC6.out
  clear HC6
  replace H := Option.bind_eq_some_iff.mp H
  obtain ⟨t650, A100, H⟩ := H
  have A10 := as0 A100
  clear A100
  by_cases c11 : t650 = true
  ·
   subst c11
   have H1 : (if (t639.length : Int) > 0 then (if (t639.length : Int) < 10 then ((spec_l01Next.f t634 t648 t649 3).bind fun bt651 => (spec_l06Two.j0 k t638 t639 t644 t645 (bt651.1 == 0))) else (spec_l06Two.j0 k t638 t639 t644 t645 false)) else (spec_l06Two.j0 k t638 t639 t644 t645 false)) = some (r1, r2, r3) := by rw [if_pos rfl] at H; exact H
   clear H
   have H := H1
   clear H1
   by_cases c12 : (t639.length : Int) > 0
   ·
    rw [if_pos c12] at H
    have c12b0 : decide (0 < (t639.length : Int)) = true := decide_eq_true c12
    have c12b1 : decide (0 < t639.length) = true := decide_eq_true (by omega)
    clear c12
    (first | rw [c12b0] | (simp only [i64_w, i32_w]; rw [c12b0]) | skip)
    by_cases c13 : (t639.length : Int) < 10
    ·
     rw [if_pos c13] at H
     have c13b0 : decide ((t639.length : Int) < 10) = true := decide_eq_true c13
     have c13b1 : decide (t639.length < 10) = true := decide_eq_true (by omega)
     clear c13
     replace H := Option.bind_eq_some_iff.mp H
     obtain ⟨⟨t651, t652, t653⟩, A140, H⟩ := H
     have A14 := as0 A140
     clear A140
     have H' := as0 H
     clear H
     obtain ⟨Ao15, co15, eo15⟩ := Kd.R_slice HO641.out
     subst eo15
     go_wp2_with (first | ((with_reducible refine gate_callee (f := 80) rfl ?_); refine goesM_ (some 25) rfl rfl Try.func80 #[.int .i64 t644, .slice Ao15 t639.length co15] rfl ?_; (with_reducible refine (spec_l01Poly.calls k t644 _ _ t639 true _ ?side1 ?side2 A10.out).mono ?_); (case side1 => exact cs ((Kd.R_reads' HO641.out).2.2)); (case side2 => exact (Kd.R_reads' HO641.out).2.1); rintro e w' ⟨rfl, ⟨nd, rfl⟩⟩; refine ⟨_, rfl, ?_⟩) | (go_at_call 107; (with_reducible refine (spec_l01Next.calls g637 t634 t648 t649 3 t651 t652 t653 w _ ?side1 ?side2 A14.out).mono ?_); (case side1 => repeat (first | (with_reducible first | exact HI637.out | apply IsS99.alloc | apply IsS99.drewN | apply IsS99.drew | apply IsS99.set_1 | apply IsS99.set_2) | exact HI637.out)); (case side2 => repeat (first | (with_reducible first | exact HB.out | apply below_alloc | apply pw_below_drewN | apply below_drew1 | refine below_set ?_ (IsS99.ge HI637.out)) | exact HB.out)); rintro e w16 ⟨rfl, hi, hb, hk⟩; have n0_ := as0 (Kd.R_mono (Kd.R_keep (IsS99.apart (show IsS99 w _ g637 t634 t648 t649 from by repeat (first | (with_reducible first | exact HI637.out | apply IsS99.alloc | apply IsS99.drewN | apply IsS99.drew | apply IsS99.set_1 | apply IsS99.set_2) | exact HI637.out)) (rs HO641) (by decide)) hk (fun _ h => h.2)) (fun _ h => h.1)); have n1_ := as0 (Kd.R_mono (Kd.R_keep (IsS99.apart (show IsS99 w _ g637 t634 t648 t649 from by repeat (first | (with_reducible first | exact HI637.out | apply IsS99.alloc | apply IsS99.drewN | apply IsS99.drew | apply IsS99.set_1 | apply IsS99.set_2) | exact HI637.out)) (rs HO647) (by decide)) hk (fun _ h => h.2)) (fun _ h => h.1)); have n2_ := as0 (hb); have n3_ := as0 (hi); clear HO641; clear HO647; clear HB; clear HI637; have HO641 := n0_; have HO647 := n1_; have HB := n2_; have HI637 := n3_; clear n0_ n1_ n2_ n3_; (try clear hb); (try clear hb2); (try clear hk); (try clear hi)))
     go_meet
     case rel => exact ⟨_, ((t651 == 0)), ea_, H', ⟨by first | omega | exact Nat.le_refl _⟩, ⟨by (with_reducible repeat (first | apply Kd.R_alloc | apply Kd.R_drewN | apply Kd.R_drew)); exact Kd.R_mono HO641.out (fun _ hk => hk.2)⟩, ⟨by (with_reducible repeat (first | apply Kd.R_alloc | apply Kd.R_drewN | apply Kd.R_drew)); exact Kd.R_mono HO647.out (fun _ hk => hk.2)⟩, ⟨by repeat (first | (with_reducible first | exact HB.out | apply below_alloc | apply pw_below_drewN | apply below_drew1 | refine below_set ?_ (IsS99.ge HI637.out)) | exact HB.out)⟩⟩
    ·
     rw [if_neg c13] at H
     have c13b0 : decide ((t639.length : Int) < 10) = false := decide_eq_false c13
     have c13b1 : decide (t639.length < 10) = false := decide_eq_false (by omega)
     clear c13
     have H' := as0 H
     clear H
     obtain ⟨Ao17, co17, eo17⟩ := Kd.R_slice HO641.out
     subst eo17
     go_wp2_with (first | ((with_reducible refine gate_callee (f := 80) rfl ?_); refine goesM_ (some 25) rfl rfl Try.func80 #[.int .i64 t644, .slice Ao17 t639.length co17] rfl ?_; (with_reducible refine (spec_l01Poly.calls k t644 _ _ t639 true _ ?side1 ?side2 A10.out).mono ?_); (case side1 => exact cs ((Kd.R_reads' HO641.out).2.2)); (case side2 => exact (Kd.R_reads' HO641.out).2.1); rintro e w' ⟨rfl, ⟨nd, rfl⟩⟩; refine ⟨_, rfl, ?_⟩))
     go_meet
     case rel => exact ⟨_, (false), ea_, H', ⟨by first | omega | exact Nat.le_refl _⟩, ⟨by (with_reducible repeat (first | apply Kd.R_alloc | apply Kd.R_drewN | apply Kd.R_drew)); exact Kd.R_mono HO641.out (fun _ hk => hk.2)⟩, ⟨by (with_reducible repeat (first | apply Kd.R_alloc | apply Kd.R_drewN | apply Kd.R_drew)); exact Kd.R_mono HO647.out (fun _ hk => hk.2)⟩, ⟨by repeat (first | (with_reducible first | exact HB.out | apply below_alloc | apply pw_below_drewN | apply below_drew1 | refine below_set ?_ (IsS99.ge HI637.out)) | exact HB.out)⟩⟩
   ·
    rw [if_neg c12] at H
    have c12b0 : decide (0 < (t639.length : Int)) = false := decide_eq_false c12
    have c12b1 : decide (0 < t639.length) = false := decide_eq_false (by omega)
    clear c12
    (first | rw [c12b0] | (simp only [i64_w, i32_w]; rw [c12b0]) | skip)
    have H' := as0 H
    clear H
    obtain ⟨Ao18, co18, eo18⟩ := Kd.R_slice HO641.out
    subst eo18
    go_wp2_with (first | ((with_reducible refine gate_callee (f := 80) rfl ?_); refine goesM_ (some 25) rfl rfl Try.func80 #[.int .i64 t644, .slice Ao18 t639.length co18] rfl ?_; (with_reducible refine (spec_l01Poly.calls k t644 _ _ t639 true _ ?side1 ?side2 A10.out).mono ?_); (case side1 => exact cs ((Kd.R_reads' HO641.out).2.2)); (case side2 => exact (Kd.R_reads' HO641.out).2.1); rintro e w' ⟨rfl, ⟨nd, rfl⟩⟩; refine ⟨_, rfl, ?_⟩))
    go_meet
    case rel => exact ⟨_, (false), ea_, H', ⟨by first | omega | exact Nat.le_refl _⟩, ⟨by (with_reducible repeat (first | apply Kd.R_alloc | apply Kd.R_drewN | apply Kd.R_drew)); exact Kd.R_mono HO641.out (fun _ hk => hk.2)⟩, ⟨by (with_reducible repeat (first | apply Kd.R_alloc | apply Kd.R_drewN | apply Kd.R_drew)); exact Kd.R_mono HO647.out (fun _ hk => hk.2)⟩, ⟨by repeat (first | (with_reducible first | exact HB.out | apply below_alloc | apply pw_below_drewN | apply below_drew1 | refine below_set ?_ (IsS99.ge HI637.out)) | exact HB.out)⟩⟩
  ·
   replace c11 := Bool.eq_false_iff.mpr c11
   subst c11
   have H1 : (spec_l06Two.j0 k t638 t639 t644 t645 false) = some (r1, r2, r3) := by rw [if_neg (show ¬ (false = true) by decide)] at H; exact H
   clear H
   have H := H1
   clear H1
   have H' := as0 H
   clear H
   obtain ⟨Ao19, co19, eo19⟩ := Kd.R_slice HO641.out
   subst eo19
   go_wp2_with (first | ((with_reducible refine gate_callee (f := 80) rfl ?_); refine goesM_ (some 25) rfl rfl Try.func80 #[.int .i64 t644, .slice Ao19 t639.length co19] rfl ?_; (with_reducible refine (spec_l01Poly.calls k t644 _ _ t639 false _ ?side1 ?side2 A10.out).mono ?_); (case side1 => exact cs ((Kd.R_reads' HO641.out).2.2)); (case side2 => exact (Kd.R_reads' HO641.out).2.1); rintro e w' ⟨rfl, ⟨nd, rfl⟩⟩; refine ⟨_, rfl, ?_⟩))
   go_meet
   case rel => exact ⟨_, (false), ea_, H', ⟨by first | omega | exact Nat.le_refl _⟩, ⟨by (with_reducible repeat (first | apply Kd.R_alloc | apply Kd.R_drewN | apply Kd.R_drew)); exact Kd.R_mono HO641.out (fun _ hk => hk.2)⟩, ⟨by (with_reducible repeat (first | apply Kd.R_alloc | apply Kd.R_drewN | apply Kd.R_drew)); exact Kd.R_mono HO647.out (fun _ hk => hk.2)⟩, ⟨by repeat (first | (with_reducible first | exact HB.out | apply below_alloc | apply pw_below_drewN | apply below_drew1 | refine below_set ?_ (IsS99.ge HI637.out)) | exact HB.out)⟩⟩
 case rest =>
  clear HC6
  try clear c1
  try clear p2
  try clear c7
  try clear c8
  try clear c10
  try clear c11
  try clear c12
  try clear c12b0
  try clear c12b1
  try clear c13
  try clear c13b0
  try clear c13b1
  obtain ⟨kq, x40_5, rfl, HA, HJ5, HO_7, HO_9, HB⟩ := hcut
  cases kq with
  | zero => exact absurd HA.out (by simp [spec_l06Two.j0])
  | succ kj5 =>
   have H := HA.out
   clear HA
   simp only [spec_l06Two.j0] at H
   by_cases c20 : x40_5 = true
   ·
    subst c20
    have H1 : ((spec_l06Roots.f kj5 t644 t639).bind fun t654 => (if (t654.length : Int) > 0 then (if 0 < (t654.length : Int) then ((spec_l01Mod.f t644 (wrap64 (-(rd t654 0)))).bind fun t658 => ((spec_l01Times.f kj5 t644 t645 (([t658, 1] : List Int))).bind fun t662 => (some (t638, t639, t662)))) else (none)) else (some (t638, t639, t645)))) = some (r1, r2, r3) := by rw [if_pos rfl] at H; exact H
    clear H
    have H := H1
    clear H1
    replace H := Option.bind_eq_some_iff.mp H
    obtain ⟨t654, A210, H⟩ := H
    have A21 := as0 A210
    clear A210
    by_cases c22 : (t654.length : Int) > 0
    ·
     rw [if_pos c22] at H
     have c22b0 : decide (0 < (t654.length : Int)) = true := decide_eq_true c22
     have c22b1 : decide (0 < t654.length) = true := decide_eq_true (by omega)
     clear c22
     by_cases c23 : 0 < (t654.length : Int)
     ·
      rw [if_pos c23] at H
      have c23b0 : decide (0 < (t654.length : Int)) = true := decide_eq_true c23
      have c23b1 : decide (0 < t654.length) = true := decide_eq_true (by omega)
      clear c23
      replace H := Option.bind_eq_some_iff.mp H
      obtain ⟨t658, A240, H⟩ := H
      have A24 := as0 A240
      clear A240
      obtain ⟨y659, hy659⟩ : ∃ y_ : List Int, y_ = (([t658, 1] : List Int)) := ⟨_, rfl⟩
      replace H : ((spec_l01Times.f kj5 t644 t645 y659).bind fun t662 => (some (t638, t639, t662))) = some (r1, r2, r3) := by first | (rw [hy659]; with_reducible exact H) | (have H2_ := (Option.bind_some _ _).symm.trans H; rw [hy659]; with_reducible exact H2_) | (have H2_ := (Option.bind_some _ _).symm.trans H; with_reducible exact H2_) | with_reducible exact H | (rw [hy659]; exact H) | exact H
      have Ny659 := as0 hy659
      clear hy659
      replace H := Option.bind_eq_some_iff.mp H
      obtain ⟨t662, A250, H⟩ := H
      have A25 := as0 A250
      clear A250
      simp only [Option.some.injEq, Prod.mk.injEq] at H
      obtain ⟨rfl, rfl, rfl⟩ := H
      obtain ⟨Ao26, co26, eo26⟩ := Kd.R_slice HO_7.out
      subst eo26
      go_wp2_with (first | ((with_reducible refine gate_callee (f := 76) rfl ?_); refine goesM_ (some 43) rfl rfl Try.func76 #[.int .i64 t644, .slice Ao26 t639.length co26] rfl ?_; (with_reducible refine (spec_l06Roots.calls kj5 t644 _ _ t639 t654 _ ?side1 ?side2 A21.out).mono ?_); (case side1 => exact cs ((Kd.R_reads' HO_7.out).2.2)); (case side2 => exact (Kd.R_reads' HO_7.out).2.1); rintro e w27 ⟨v655, rfl, ho0, hb⟩; refine ⟨_, rfl, ?_⟩; have n0_ := as0 (Kd.R_elder' (rs HO_7) (Kd.R_base ho0) hb); have n1_ := as0 (Kd.R_elder' (rs HO_9) (Kd.R_base ho0) hb); have n2_ := as0 (Kd.R_lower (Kd.R_new' (Kd.R_new' ho0 (Kd.R_lt (rs HO_7))) (Kd.R_lt (rs HO_9))) (below_size (bs HB))); have n3_ := as0 (below_step (bs HB) hb); clear HO_7; clear HO_9; clear HB; have HO_7 := n0_; have HO_9 := n1_; have HO656 := n2_; have HB := n3_; clear n0_ n1_ n2_ n3_; (try clear hb); (try clear hb2); (try clear hk); (try clear hi); (try clear ho0); obtain ⟨Ao28, co28, eo28⟩ := Kd.R_slice HO656.out; subst eo28; have p657 : 0 ≤ (0 : Int) := (by omega); have q657 : 0 < (t654.length : Int) := oa_; obtain ⟨ad657, e657, hx657_0⟩ := Kd.at_int (Kd.R_reads' HO656.out).2.2 0 p657 q657; cases e657; have qi657 : (0 < t654.length) = True := eq_true (by omega); (try rw [show ((0 : Int)).toNat = 0 from rfl] at hx657_0); (try rw [Addr.add_zero'] at hx657_0); replace p657 := eq_true p657; replace q657 := eq_true q657) | ((with_reducible refine gate_callee (f := 61) rfl ?_); refine goesM_ (some 54) rfl rfl Try.func61 #[.int .i64 t644, .int .i64 (wrap64 (-(rd t654 0)))] rfl ?_; (with_reducible refine (spec_l01Mod.calls t644 (wrap64 (-(rd t654 0))) t658 _ A24.out).mono ?_); rintro e w' ⟨rfl, ⟨nd, rfl⟩⟩; refine ⟨_, rfl, ?_⟩) | ((with_reducible refine gate_dst (N := 55) rfl ?_); (try (refine gate_guard (by rfl) ?_; dsimp only)); refine Kd.R_lit (Kd.int .i64) _ 2 ?hg (N := 55) ?hd (xs := ([t658, 1] : List Int)) (inner := [.int .i64 t658, .int .i64 1]) (ok := fun _ => True) (okp := fun _ => True) ?hr ?hp (fun _ hk => hk) trivial (Below.refl _ _) (Nat.le_refl _) (by simp) ?_; (case hd => rfl); (case hg => rfl); (case hr => first | (go_simp; done) | (go_simp; rfl)); (case hp => exact (Reps.one (show Kd.M (Kd.int .i64) _ _ _ t658 [.int .i64 t658] from rfl) (Reps.one (show Kd.M (Kd.int .i64) _ _ _ 1 [.int .i64 1] from rfl) (Reps.none _ _)))); intro v660 w29 ho30 hb hg_ hnew_; clear hg_ hnew_; (first | rw [← Ny659.out] at ho30 | (simp only [Int.reduceToNat] at ho30; rw [← Ny659.out] at ho30)); have n0_ := as0 (Kd.R_elder' (rs HO_7) (Kd.R_base ho30) hb); have n1_ := as0 (Kd.R_elder' (rs HO_9) (Kd.R_base ho30) hb); have n2_ := as0 (Kd.R_elder' (rs HO656) (Kd.R_base ho30) hb); have n3_ := as0 (Kd.R_lower (Kd.R_new' (Kd.R_new' (Kd.R_new' ho30 (Kd.R_lt (rs HO_7))) (Kd.R_lt (rs HO_9))) (Kd.R_lt (rs HO656))) (below_size (bs HB))); have n4_ := as0 (below_step (bs HB) hb); clear HO_7; clear HO_9; clear HO656; clear HB; have HO_7 := n0_; have HO_9 := n1_; have HO656 := n2_; have HO661 := n3_; have HB := n4_; clear n0_ n1_ n2_ n3_ n4_; clear hb ho30; obtain ⟨Ao31, co31, eo31⟩ := Kd.R_slice HO_9.out; subst eo31; obtain ⟨Ao32, co32, eo32⟩ := Kd.R_slice HO661.out; subst eo32) | ((with_reducible refine gate_callee (f := 48) rfl ?_); refine goesM_ (some 56) rfl rfl Try.func48 #[.int .i64 t644, .slice Ao31 t645.length co31, .slice Ao32 y659.length co32] rfl ?_; (with_reducible refine (spec_l01Times.calls kj5 t644 _ _ t645 _ _ y659 t662 _ ?side1 ?side2 ?side3 ?side4 A25.out).mono ?_); (case side1 => exact cs ((Kd.R_reads' HO_9.out).2.2)); (case side2 => exact (Kd.R_reads' HO_9.out).2.1); (case side3 => exact cs ((Kd.R_reads' HO661.out).2.2)); (case side4 => exact (Kd.R_reads' HO661.out).2.1); rintro e w33 ⟨v663, rfl, ho0, hb⟩; refine ⟨_, rfl, ?_⟩; have n0_ := as0 (Kd.R_elder' (rs HO_7) (Kd.R_base ho0) hb); have n1_ := as0 (Kd.R_elder' (rs HO_9) (Kd.R_base ho0) hb); have n2_ := as0 (Kd.R_elder' (rs HO656) (Kd.R_base ho0) hb); have n3_ := as0 (Kd.R_elder' (rs HO661) (Kd.R_base ho0) hb); have n4_ := as0 (Kd.R_lower (Kd.R_new' (Kd.R_new' (Kd.R_new' (Kd.R_new' ho0 (Kd.R_lt (rs HO_7))) (Kd.R_lt (rs HO_9))) (Kd.R_lt (rs HO656))) (Kd.R_lt (rs HO661))) (below_size (bs HB))); have n5_ := as0 (below_step (bs HB) hb); clear HO_7; clear HO_9; clear HO656; clear HO661; clear HB; have HO_7 := n0_; have HO_9 := n1_; have HO656 := n2_; have HO661 := n3_; have HO664 := n4_; have HB := n5_; clear n0_ n1_ n2_ n3_ n4_ n5_; (try clear hb); (try clear hb2); (try clear hk); (try clear hi); (try clear ho0)))
      go_ret3
      exact ⟨_, _, er_, by (with_reducible repeat (first | apply Kd.R_alloc | apply Kd.R_drewN | apply Kd.R_drew)); exact Kd.R_mono HO_7.out (fun _ hk => hk.2), by (with_reducible repeat (first | apply Kd.R_alloc | apply Kd.R_drewN | apply Kd.R_drew)); exact Kd.R_mono HO664.out (fun _ hk => hk.1.1.1.2), bs HB⟩
     ·
      rw [if_neg c23] at H
      exact absurd H (by simp)
    ·
     rw [if_neg c22] at H
     have c22b0 : decide (0 < (t654.length : Int)) = false := decide_eq_false c22
     have c22b1 : decide (0 < t654.length) = false := decide_eq_false (by omega)
     clear c22
     simp only [Option.some.injEq, Prod.mk.injEq] at H
     obtain ⟨rfl, rfl, rfl⟩ := H
     obtain ⟨Ao34, co34, eo34⟩ := Kd.R_slice HO_7.out
     subst eo34
     go_wp2_with (first | ((with_reducible refine gate_callee (f := 76) rfl ?_); refine goesM_ (some 43) rfl rfl Try.func76 #[.int .i64 t644, .slice Ao34 t639.length co34] rfl ?_; (with_reducible refine (spec_l06Roots.calls kj5 t644 _ _ t639 t654 _ ?side1 ?side2 A21.out).mono ?_); (case side1 => exact cs ((Kd.R_reads' HO_7.out).2.2)); (case side2 => exact (Kd.R_reads' HO_7.out).2.1); rintro e w35 ⟨v655, rfl, ho0, hb⟩; refine ⟨_, rfl, ?_⟩; have n0_ := as0 (Kd.R_elder' (rs HO_7) (Kd.R_base ho0) hb); have n1_ := as0 (Kd.R_elder' (rs HO_9) (Kd.R_base ho0) hb); have n2_ := as0 (Kd.R_lower (Kd.R_new' (Kd.R_new' ho0 (Kd.R_lt (rs HO_7))) (Kd.R_lt (rs HO_9))) (below_size (bs HB))); have n3_ := as0 (below_step (bs HB) hb); clear HO_7; clear HO_9; clear HB; have HO_7 := n0_; have HO_9 := n1_; have HO656 := n2_; have HB := n3_; clear n0_ n1_ n2_ n3_; (try clear hb); (try clear hb2); (try clear hk); (try clear hi); (try clear ho0); obtain ⟨Ao36, co36, eo36⟩ := Kd.R_slice HO656.out; subst eo36))
     go_ret3
     exact ⟨_, _, er_, by (with_reducible repeat (first | apply Kd.R_alloc | apply Kd.R_drewN | apply Kd.R_drew)); exact Kd.R_mono HO_7.out (fun _ hk => hk.1), by (with_reducible repeat (first | apply Kd.R_alloc | apply Kd.R_drewN | apply Kd.R_drew)); exact Kd.R_mono HO_9.out (fun _ hk => hk.1), bs HB⟩
   ·
    replace c20 := Bool.eq_false_iff.mpr c20
    subst c20
    have H1 : (some (t638, t639, t645)) = some (r1, r2, r3) := by rw [if_neg (show ¬ (false = true) by decide)] at H; exact H
    clear H
    have H := H1
    clear H1
    simp only [Option.some.injEq, Prod.mk.injEq] at H
    obtain ⟨rfl, rfl, rfl⟩ := H
    go_wp2
    go_ret3
    exact ⟨_, _, er_, rs HO_7, rs HO_9, bs HB⟩
def spec_DrawCommonRoots.f (k : Nat) (l0 : List Int) : Option (Int × List Int × List Int) := (spec_l06Two.f k l0).bind fun bt772 => (some (bt772.1, bt772.2.1, bt772.2.2))
set_option maxHeartbeats 8000000 in
set_option maxRecDepth 100000 in
theorem spec_DrawCommonRoots.calls (k : Nat) (A0 : Option Addr) (c0 : Nat) (l0 : List Int) (r1 : Int) (r2 : List Int) (r3 : List Int) (w : World) (hr0 : Kd.C (Kd.int .u8) w A0 l0.length l0) (hc0 : l0.length ≤ c0) (h : spec_DrawCommonRoots.f k l0 = some (r1, r2, r3)) :
  Calls Try.prog 36 #[.slice A0 l0.length c0] w fun e w' => ∃ v1_ v2_ : Value, e = .returned (.tuple #[.int .i64 r1, v1_, v2_]) ∧ Kd.R (Kd.int .i64) 2 w' w.heap.size (fun k_ => some k_ ≠ (v2_ : Value).ownBlock) v1_ r2 ∧ Kd.R (Kd.int .i64) 2 w' w.heap.size (fun k_ => some k_ ≠ (v1_ : Value).ownBlock) v2_ r3 ∧ Below w.heap.size w w' := by
 have HR0 := as0 hr0
 have HC0 := as0 hc0
 clear hr0 hc0
 have HB := as0 (Below.refl w.heap.size w)
 have H : ((spec_l06Two.f k l0).bind fun bt772 => (some (bt772.1, bt772.2.1, bt772.2.2))) = some (r1, r2, r3) := h
 clear h
 replace H := Option.bind_eq_some_iff.mp H
 obtain ⟨⟨t772, t773, t774⟩, A20, H⟩ := H
 have A2 := as0 A20
 clear A20
 simp only [Option.some.injEq, Prod.mk.injEq] at H
 obtain ⟨rfl, rfl, rfl⟩ := H
 go_enter Try.func36, Try.ntmps36
 go_wp2_with (first | ((with_reducible refine gate_callee (f := 70) rfl ?_); refine goesM_ (some 6) rfl rfl Try.func70 #[.slice A0 l0.length c0] rfl ?_; (with_reducible refine (spec_l06Two.calls k _ _ l0 t772 t773 t774 _ ?side1 ?side2 A2.out).mono ?_); (case side1 => exact cs (HR0.out)); (case side2 => exact HC0.out); rintro e w3 ⟨v775, v777, rfl, ho0, ho1, hb⟩; refine ⟨_, rfl, ?_⟩; have n0_ := as0 (Kd.R_lower ho0 (below_size (bs HB))); have n1_ := as0 (Kd.R_lower ho1 (below_size (bs HB))); have n2_ := as0 (below_step (bs HB) hb); clear HB; have HO776 := n0_; have HO778 := n1_; have HB := n2_; clear n0_ n1_ n2_; (try clear hb); (try clear hb2); (try clear hk); (try clear hi); (try clear ho0); (try clear ho1)))
 go_ret3
 exact ⟨_, _, er_, rs HO776, rs HO778, bs HB⟩
def spec_DrawRootsIn.f (k : Nat) (l0 : List Int) : Option (Int × List Int) := (spec_l01From.f k l0).bind fun bt672 => ((spec_l06Draw.f k bt672.1 bt672.2.1 bt672.2.2).bind fun bt676 => (some (bt676.1, bt676.2.1)))
set_option maxHeartbeats 8000000 in
set_option maxRecDepth 100000 in
theorem spec_DrawRootsIn.calls (k : Nat) (A0 : Option Addr) (c0 : Nat) (l0 : List Int) (r1 : Int) (r2 : List Int) (w : World) (hr0 : Kd.C (Kd.int .u8) w A0 l0.length l0) (hc0 : l0.length ≤ c0) (h : spec_DrawRootsIn.f k l0 = some (r1, r2)) :
  Calls Try.prog 71 #[.slice A0 l0.length c0] w fun e w' => ∃ v1_ : Value, e = .returned (.tuple #[.int .i64 r1, v1_]) ∧ Kd.R (Kd.int .i64) 2 w' w.heap.size (fun _ => True) v1_ r2 ∧ Below w.heap.size w w' := by
 have HR0 := as0 hr0
 have HC0 := as0 hc0
 clear hr0 hc0
 have HB := as0 (Below.refl w.heap.size w)
 have H : ((spec_l01From.f k l0).bind fun bt672 => ((spec_l06Draw.f k bt672.1 bt672.2.1 bt672.2.2).bind fun bt676 => (some (bt676.1, bt676.2.1)))) = some (r1, r2) := h
 clear h
 replace H := Option.bind_eq_some_iff.mp H
 obtain ⟨⟨t672, t673, t674⟩, A20, H⟩ := H
 have A2 := as0 A20
 clear A20
 replace H := Option.bind_eq_some_iff.mp H
 obtain ⟨⟨t676, t677, t680, t681⟩, A30, H⟩ := H
 have A3 := as0 A30
 clear A30
 simp only [Option.some.injEq, Prod.mk.injEq] at H
 obtain ⟨rfl, rfl⟩ := H
 go_enter Try.func71, Try.ntmps71
 go_wp2_with (first | ((with_reducible refine gate_callee (f := 103) rfl ?_); refine goesM_ (some 8) rfl rfl Try.func103 #[.slice A0 l0.length c0] rfl ?_; (with_reducible refine (spec_l01From.calls k _ _ l0 t672 t673 t674 w _ ?side1 ?side2 ?side3 A2.out).mono ?_); (case side1 => exact bs HB); (case side2 => exact HR0.out); (case side3 => exact HC0.out); rintro e w4 ⟨g675, rfl, hi, hb, hb2⟩; refine ⟨_, rfl, ?_⟩; have n0_ := as0 (hb); have n1_ := as0 (hi); clear HB; have HB := n0_; have HI675 := n1_; clear n0_ n1_; (try clear hb); (try clear hb2); (try clear hk); (try clear hi)) | ((with_reducible refine gate_callee (f := 104) rfl ?_); refine goesM_ (some 9) rfl rfl Try.func104 #[.pointer (some ⟨g675, 0, none⟩)] rfl ?_; (with_reducible refine (spec_l06Draw.calls k g675 t672 t673 t674 t676 t677 t680 t681 w _ ?side1 ?side2 A3.out).mono ?_); (case side1 => repeat (first | (with_reducible first | exact HI675.out | apply IsS99.alloc | apply IsS99.drewN | apply IsS99.drew | apply IsS99.set_1 | apply IsS99.set_2) | exact HI675.out)); (case side2 => repeat (first | (with_reducible first | exact HB.out | apply below_alloc | apply pw_below_drewN | apply below_drew1 | refine below_set ?_ (IsS99.ge HI675.out)) | exact HB.out)); rintro e w5 ⟨v678, rfl, ho0, hi, hb, hk⟩; refine ⟨_, rfl, ?_⟩; have n0_ := as0 (Kd.R_lower ho0 (below_size (by repeat (first | (with_reducible first | exact HB.out | apply below_alloc | apply pw_below_drewN | apply below_drew1 | refine below_set ?_ (IsS99.ge HI675.out)) | exact HB.out)))); have n1_ := as0 (hb); have n2_ := as0 (hi); clear HB; clear HI675; have HO679 := n0_; have HB := n1_; have HI675 := n2_; clear n0_ n1_ n2_; (try clear hb); (try clear hb2); (try clear hk); (try clear hi); (try clear ho0)))
 go_ret2
 exact ⟨_, er_, rs HO679, by repeat (first | (with_reducible first | exact HB.out | apply below_alloc | apply pw_below_drewN | apply below_drew1 | refine below_set ?_ (IsS99.ge HI675.out)) | exact HB.out)⟩
def spec_DrawDiscriminantOf.f (k : Nat) (l0 : List Int) : Option (Int × List Int) := (spec_DrawRootsIn.f k l0).bind fun bt682 => (some (bt682.1, bt682.2))
set_option maxHeartbeats 8000000 in
set_option maxRecDepth 100000 in
theorem spec_DrawDiscriminantOf.calls (k : Nat) (A0 : Option Addr) (c0 : Nat) (l0 : List Int) (r1 : Int) (r2 : List Int) (w : World) (hr0 : Kd.C (Kd.int .u8) w A0 l0.length l0) (hc0 : l0.length ≤ c0) (h : spec_DrawDiscriminantOf.f k l0 = some (r1, r2)) :
  Calls Try.prog 30 #[.slice A0 l0.length c0] w fun e w' => ∃ v1_ : Value, e = .returned (.tuple #[.int .i64 r1, v1_]) ∧ Kd.R (Kd.int .i64) 2 w' w.heap.size (fun _ => True) v1_ r2 ∧ Below w.heap.size w w' := by
 have HR0 := as0 hr0
 have HC0 := as0 hc0
 clear hr0 hc0
 have HB := as0 (Below.refl w.heap.size w)
 have H : ((spec_DrawRootsIn.f k l0).bind fun bt682 => (some (bt682.1, bt682.2))) = some (r1, r2) := h
 clear h
 replace H := Option.bind_eq_some_iff.mp H
 obtain ⟨⟨t682, t683⟩, A20, H⟩ := H
 have A2 := as0 A20
 clear A20
 simp only [Option.some.injEq, Prod.mk.injEq] at H
 obtain ⟨rfl, rfl⟩ := H
 go_enter Try.func30, Try.ntmps30
 go_wp2_with (first | ((with_reducible refine gate_callee (f := 71) rfl ?_); refine goesM_ (some 5) rfl rfl Try.func71 #[.slice A0 l0.length c0] rfl ?_; (with_reducible refine (spec_DrawRootsIn.calls k _ _ l0 t682 t683 _ ?side1 ?side2 A2.out).mono ?_); (case side1 => exact cs (HR0.out)); (case side2 => exact HC0.out); rintro e w3 ⟨v684, rfl, ho0, hb⟩; refine ⟨_, rfl, ?_⟩; have n0_ := as0 (Kd.R_lower ho0 (below_size (bs HB))); have n1_ := as0 (below_step (bs HB) hb); clear HB; have HO685 := n0_; have HB := n1_; clear n0_ n1_; (try clear hb); (try clear hb2); (try clear hk); (try clear hi); (try clear ho0)))
 go_ret2
 exact ⟨_, er_, rs HO685, bs HB⟩
def spec_DrawResultantOf.f (k : Nat) (l0 : List Int) : Option (Int × List Int × List Int) := (spec_l06Two.f k l0).bind fun bt665 => (some (bt665.1, bt665.2.1, bt665.2.2))
set_option maxHeartbeats 8000000 in
set_option maxRecDepth 100000 in
theorem spec_DrawResultantOf.calls (k : Nat) (A0 : Option Addr) (c0 : Nat) (l0 : List Int) (r1 : Int) (r2 : List Int) (r3 : List Int) (w : World) (hr0 : Kd.C (Kd.int .u8) w A0 l0.length l0) (hc0 : l0.length ≤ c0) (h : spec_DrawResultantOf.f k l0 = some (r1, r2, r3)) :
  Calls Try.prog 29 #[.slice A0 l0.length c0] w fun e w' => ∃ v1_ v2_ : Value, e = .returned (.tuple #[.int .i64 r1, v1_, v2_]) ∧ Kd.R (Kd.int .i64) 2 w' w.heap.size (fun k_ => some k_ ≠ (v2_ : Value).ownBlock) v1_ r2 ∧ Kd.R (Kd.int .i64) 2 w' w.heap.size (fun k_ => some k_ ≠ (v1_ : Value).ownBlock) v2_ r3 ∧ Below w.heap.size w w' := by
 have HR0 := as0 hr0
 have HC0 := as0 hc0
 clear hr0 hc0
 have HB := as0 (Below.refl w.heap.size w)
 have H : ((spec_l06Two.f k l0).bind fun bt665 => (some (bt665.1, bt665.2.1, bt665.2.2))) = some (r1, r2, r3) := h
 clear h
 replace H := Option.bind_eq_some_iff.mp H
 obtain ⟨⟨t665, t666, t667⟩, A20, H⟩ := H
 have A2 := as0 A20
 clear A20
 simp only [Option.some.injEq, Prod.mk.injEq] at H
 obtain ⟨rfl, rfl, rfl⟩ := H
 go_enter Try.func29, Try.ntmps29
 go_wp2_with (first | ((with_reducible refine gate_callee (f := 70) rfl ?_); refine goesM_ (some 6) rfl rfl Try.func70 #[.slice A0 l0.length c0] rfl ?_; (with_reducible refine (spec_l06Two.calls k _ _ l0 t665 t666 t667 _ ?side1 ?side2 A2.out).mono ?_); (case side1 => exact cs (HR0.out)); (case side2 => exact HC0.out); rintro e w3 ⟨v668, v670, rfl, ho0, ho1, hb⟩; refine ⟨_, rfl, ?_⟩; have n0_ := as0 (Kd.R_lower ho0 (below_size (bs HB))); have n1_ := as0 (Kd.R_lower ho1 (below_size (bs HB))); have n2_ := as0 (below_step (bs HB) hb); clear HB; have HO669 := n0_; have HO671 := n1_; have HB := n2_; clear n0_ n1_ n2_; (try clear hb); (try clear hb2); (try clear hk); (try clear hi); (try clear ho0); (try clear ho1)))
 go_ret3
 exact ⟨_, _, er_, rs HO669, rs HO671, bs HB⟩
def spec_IsSimplePolynomial.f (k : Nat) (a0 : Int) (l1 : List Int) : Option (Bool × Int) := (spec_l06Code.f k a0 (([l1] : List (List Int)))).bind fun t734 => (if t734 = 0 then ((spec_l01Derive.f k a0 l1).bind fun t735 => ((spec_l01Gcd.f k a0 l1 t735).bind fun t738 => (some (((t738.length : Int) == 1), 0)))) else (some (false, t734)))
set_option maxHeartbeats 8000000 in
set_option maxRecDepth 100000 in
theorem spec_IsSimplePolynomial.calls (k : Nat) (a0 : Int) (P1_ : Nat → Prop) (A1 : Option Addr) (c1 : Nat) (l1 : List Int) (r1 : Bool) (r2 : Int) (w : World) (hs1 : Kd.V (Kd.int .i64) 2 w w.heap.size (fun k_ => P1_ k_) (.slice A1 l1.length c1) l1) (h : spec_IsSimplePolynomial.f k a0 l1 = some (r1, r2)) :
  Calls Try.prog 32 #[.int .i64 a0, .slice A1 l1.length c1] w fun e w' => e = .returned (.tuple #[.bool r1, .int .i64 r2]) ∧ Below w.heap.size w w' := by
 have HO1 := as0 (show Kd.V (Kd.int .i64) 2 w w.heap.size (fun k_ => (P1_ k_ ∨ w.heap.size ≤ k_)) (.slice A1 l1.length c1) l1 from Kd.V_mono hs1 (fun k_ hk => .inl hk))
 have HB := as0 (Below.refl w.heap.size w)
 have H : ((spec_l06Code.f k a0 (([l1] : List (List Int)))).bind fun t734 => (if t734 = 0 then ((spec_l01Derive.f k a0 l1).bind fun t735 => ((spec_l01Gcd.f k a0 l1 t735).bind fun t738 => (some (((t738.length : Int) == 1), 0)))) else (some (false, t734)))) = some (r1, r2) := h
 clear h
 obtain ⟨y731, hy731⟩ : ∃ y_ : List (List Int), y_ = (([l1] : List (List Int))) := ⟨_, rfl⟩
 replace H : ((spec_l06Code.f k a0 y731).bind fun t734 => (if t734 = 0 then ((spec_l01Derive.f k a0 l1).bind fun t735 => ((spec_l01Gcd.f k a0 l1 t735).bind fun t738 => (some (((t738.length : Int) == 1), 0)))) else (some (false, t734)))) = some (r1, r2) := by first | (rw [hy731]; with_reducible exact H) | (have H2_ := (Option.bind_some _ _).symm.trans H; rw [hy731]; with_reducible exact H2_) | (have H2_ := (Option.bind_some _ _).symm.trans H; with_reducible exact H2_) | with_reducible exact H | (rw [hy731]; exact H) | exact H
 have Ny731 := as0 hy731
 clear hy731
 replace H := Option.bind_eq_some_iff.mp H
 obtain ⟨t734, A30, H⟩ := H
 have A3 := as0 A30
 clear A30
 by_cases c4 : t734 = 0
 ·
  rw [if_pos c4] at H
  have c4b0 : (t734 == 0) = true := beq_iff_eq.mpr c4
  have c4b1 : (t734 != 0) = false := bne_eq_false_iff_eq.mpr c4
  clear c4
  replace H := Option.bind_eq_some_iff.mp H
  obtain ⟨t735, A50, H⟩ := H
  have A5 := as0 A50
  clear A50
  replace H := Option.bind_eq_some_iff.mp H
  obtain ⟨t738, A60, H⟩ := H
  have A6 := as0 A60
  clear A60
  simp only [Option.some.injEq, Prod.mk.injEq] at H
  obtain ⟨rfl, rfl⟩ := H
  go_enter Try.func32, Try.ntmps32
  go_wp2_with (first | ((with_reducible refine gate_dst (N := 9) rfl ?_); refine Kd.N_lit (Kd.slice 2 (Kd.int .i64)) _ 22 ?hg (N' := 9) ?hd (xs := ([l1] : List (List Int))) (inner := [.slice A1 l1.length c1]) (ok := (fun k_ => (P1_ k_ ∨ w.heap.size ≤ k_))) (okp := (fun k_ => (P1_ k_ ∨ w.heap.size ≤ k_))) ?hr ?hp (fun _ hk => hk) ((show ∀ k_, w.heap.size ≤ k_ → (fun k_ => (P1_ k_ ∨ w.heap.size ≤ k_)) k_ from fun k_ hk => (.inr (Nat.le_trans (below_size (bs HB)) hk))) _ (Nat.le_refl _)) (Below.refl _ _) (Nat.le_refl _) (by simp) ?_; (case hd => rfl); (case hg => rfl); (case hr => first | (go_simp; done) | (go_simp; rfl)); (case hp => exact (Reps.one (show Kd.FK (Kd.slice 2 (Kd.int .i64)) _ _ l1 [.slice A1 l1.length c1] from (Kd.FK_slice_mk (Kd.V_reads' (Kd.V_mono (ok' := (fun k_ => (P1_ k_ ∨ w.heap.size ≤ k_))) (HO1.out) (fun k_ hk => hk))).2.1 (Kd.V_F (Kd.V_mono (ok' := (fun k_ => (P1_ k_ ∨ w.heap.size ≤ k_))) (HO1.out) (fun k_ hk => hk))))) (Reps.none _ _))); intro v732 w7 ho8 hb hg_ hnew_; clear hg_ hnew_; (first | rw [← Ny731.out] at ho8 | (simp only [Int.reduceToNat] at ho8; rw [← Ny731.out] at ho8)); have n0_ := as0 (Kd.V_elder' (by (with_reducible repeat (first | apply Kd.V_alloc | apply Kd.V_drewN | apply Kd.V_drew)); exact HO1.out) (Kd.N_base ho8) hb); have n1_ := as0 (Kd.N_lower ho8 (below_size (bs HB))); have n2_ := as0 (below_step (bs HB) hb); clear HO1; clear HB; have HO1 := n0_; have HO733 := n1_; have HB := n2_; clear n0_ n1_ n2_; clear hb ho8; obtain ⟨Ao9, co9, eo9⟩ := Kd.N_slice HO733.out; subst eo9) | ((with_reducible refine gate_callee (f := 54) rfl ?_); refine goesM_ (some 10) rfl rfl Try.func54 #[.int .i64 a0, .slice Ao9 y731.length co9] rfl ?_; (with_reducible refine (spec_l06Code.calls k a0 _ _ y731 t734 _ ?side1 ?side2 A3.out).mono ?_); (case side1 => exact cs ((Kd.N_reads' HO733.out).2.2)); (case side2 => exact (Kd.N_reads' HO733.out).2.1); rintro e w' ⟨rfl, ⟨nd, rfl⟩⟩; refine ⟨_, rfl, ?_⟩) | ((with_reducible refine gate_callee (f := 59) rfl ?_); refine goesM_ (some 18) rfl rfl Try.func59 #[.int .i64 a0, .slice A1 l1.length c1] rfl ?_; (with_reducible refine (spec_l01Derive.calls k a0 _ _ l1 t735 _ ?side1 ?side2 A5.out).mono ?_); (case side1 => exact cs ((Kd.V_reads' HO1.out).2.2)); (case side2 => exact (Kd.V_reads' HO1.out).2.1); rintro e w10 ⟨v736, rfl, ho0, hb⟩; refine ⟨_, rfl, ?_⟩; have n0_ := as0 (Kd.V_elder' (by (with_reducible repeat (first | apply Kd.V_alloc | apply Kd.V_drewN | apply Kd.V_drew)); exact HO1.out) (Kd.R_base ho0) hb); have n1_ := as0 (Kd.N_elder' (by (with_reducible repeat (first | apply Kd.N_alloc | apply Kd.N_drewN | apply Kd.N_drew)); exact HO733.out) (Kd.R_base ho0) hb); have n2_ := as0 (Kd.R_lower (Kd.R_newM (M := fun k_ => (w.heap.size ≤ k_)) ho0 (below_size (bs HB)) (fun k_ h_ => h_)) (below_size (bs HB))); have n3_ := as0 (below_step (bs HB) hb); clear HO1; clear HO733; clear HB; have HO1 := n0_; have HO733 := n1_; have HO737 := n2_; have HB := n3_; clear n0_ n1_ n2_ n3_; (try clear hb); (try clear hb2); (try clear hk); (try clear hi); (try clear ho0); obtain ⟨Ao11, co11, eo11⟩ := Kd.R_slice HO737.out; subst eo11) | ((with_reducible refine gate_callee (f := 73) rfl ?_); refine goesM_ (some 19) rfl rfl Try.func73 #[.int .i64 a0, .slice A1 l1.length c1, .slice Ao11 t735.length co11] rfl ?_; (with_reducible refine (spec_l01Gcd.calls k a0 (fun k_ => (((P1_ k_ ∨ w.heap.size ≤ k_) ∧ some k_ ≠ (.slice Ao9 y731.length co9 : Value).ownBlock) ∧ some k_ ≠ (.slice Ao11 t735.length co11 : Value).ownBlock)) _ _ l1 (fun k_ => some k_ = (.slice Ao11 t735.length co11 : Value).ownBlock) _ _ t735 t738 _ ?side1 ?side2 A6.out).mono ?_); (case side1 => exact HO1.out); (case side2 => exact Kd.R_V (Kd.R_tight rfl (Kd.R_apart' (HO737.out) (Kd.N_typed HO733.out) (by decide)))); rintro e w12 ⟨v739, rfl, ho0, hb⟩; refine ⟨_, rfl, ?_⟩; have n0_ := as0 (Kd.V_elder' (by (with_reducible repeat (first | apply Kd.V_alloc | apply Kd.V_drewN | apply Kd.V_drew)); exact HO1.out) (Kd.R_base ho0) hb); have n1_ := as0 (Kd.N_elder' (by (with_reducible repeat (first | apply Kd.N_alloc | apply Kd.N_drewN | apply Kd.N_drew)); exact HO733.out) (Kd.R_base ho0) hb); have n2_ := as0 (Kd.R_elder' (rs HO737) (Kd.R_base ho0) hb); have n3_ := as0 (Kd.R_lower (Kd.R_new' (Kd.R_newM (M := fun k_ => (w.heap.size ≤ k_)) (Kd.R_mono (ok' := fun k_ => True) ho0 (fun _ hk_ => trivial)) (below_size (bs HB)) (fun k_ h_ => h_)) (Kd.R_lt (rs HO737))) (below_size (bs HB))); have n4_ := as0 (below_step (bs HB) hb); clear HO1; clear HO733; clear HO737; clear HB; have HO1 := n0_; have HO733 := n1_; have HO737 := n2_; have HO740 := n3_; have HB := n4_; clear n0_ n1_ n2_ n3_ n4_; (try clear hb); (try clear hb2); (try clear hk); (try clear hi); (try clear ho0); obtain ⟨Ao13, co13, eo13⟩ := Kd.R_slice HO740.out; subst eo13))
  go_ret2
  exact ⟨er_, bs HB⟩
 ·
  rw [if_neg c4] at H
  have c4b0 : (t734 == 0) = false := beq_eq_false_iff_ne.mpr c4
  have c4b1 : (t734 != 0) = true := bne_iff_ne.mpr c4
  simp only [Option.some.injEq, Prod.mk.injEq] at H
  obtain ⟨rfl, rfl⟩ := H
  go_enter Try.func32, Try.ntmps32
  go_wp2_with (first | ((with_reducible refine gate_dst (N := 9) rfl ?_); refine Kd.N_lit (Kd.slice 2 (Kd.int .i64)) _ 22 ?hg (N' := 9) ?hd (xs := ([l1] : List (List Int))) (inner := [.slice A1 l1.length c1]) (ok := (fun k_ => (P1_ k_ ∨ w.heap.size ≤ k_))) (okp := (fun k_ => (P1_ k_ ∨ w.heap.size ≤ k_))) ?hr ?hp (fun _ hk => hk) ((show ∀ k_, w.heap.size ≤ k_ → (fun k_ => (P1_ k_ ∨ w.heap.size ≤ k_)) k_ from fun k_ hk => (.inr (Nat.le_trans (below_size (bs HB)) hk))) _ (Nat.le_refl _)) (Below.refl _ _) (Nat.le_refl _) (by simp) ?_; (case hd => rfl); (case hg => rfl); (case hr => first | (go_simp; done) | (go_simp; rfl)); (case hp => exact (Reps.one (show Kd.FK (Kd.slice 2 (Kd.int .i64)) _ _ l1 [.slice A1 l1.length c1] from (Kd.FK_slice_mk (Kd.V_reads' (Kd.V_mono (ok' := (fun k_ => (P1_ k_ ∨ w.heap.size ≤ k_))) (HO1.out) (fun k_ hk => hk))).2.1 (Kd.V_F (Kd.V_mono (ok' := (fun k_ => (P1_ k_ ∨ w.heap.size ≤ k_))) (HO1.out) (fun k_ hk => hk))))) (Reps.none _ _))); intro v732 w14 ho15 hb hg_ hnew_; clear hg_ hnew_; (first | rw [← Ny731.out] at ho15 | (simp only [Int.reduceToNat] at ho15; rw [← Ny731.out] at ho15)); have n0_ := as0 (Kd.V_elder' (by (with_reducible repeat (first | apply Kd.V_alloc | apply Kd.V_drewN | apply Kd.V_drew)); exact HO1.out) (Kd.N_base ho15) hb); have n1_ := as0 (Kd.N_lower ho15 (below_size (bs HB))); have n2_ := as0 (below_step (bs HB) hb); clear HO1; clear HB; have HO1 := n0_; have HO733 := n1_; have HB := n2_; clear n0_ n1_ n2_; clear hb ho15; obtain ⟨Ao16, co16, eo16⟩ := Kd.N_slice HO733.out; subst eo16) | ((with_reducible refine gate_callee (f := 54) rfl ?_); refine goesM_ (some 10) rfl rfl Try.func54 #[.int .i64 a0, .slice Ao16 y731.length co16] rfl ?_; (with_reducible refine (spec_l06Code.calls k a0 _ _ y731 t734 _ ?side1 ?side2 A3.out).mono ?_); (case side1 => exact cs ((Kd.N_reads' HO733.out).2.2)); (case side2 => exact (Kd.N_reads' HO733.out).2.1); rintro e w' ⟨rfl, ⟨nd, rfl⟩⟩; refine ⟨_, rfl, ?_⟩))
  go_ret2
  exact ⟨er_, bs HB⟩
noncomputable section
def spec_ResultantOf.f (k : Nat) (a0 : Int) (l1 : List Int) (l2 : List Int) : Option (Int × Int) := (spec_l06Code.f k a0 (([l1, l2] : List (List Int)))).bind fun t325 => (if t325 = 0 then ((spec_l06Sylvester.f k a0 l1 l2).bind fun t326 => (some (t326, 0))) else (some (0, t325)))
set_option maxHeartbeats 8000000 in
set_option maxRecDepth 100000 in
theorem spec_ResultantOf.calls (k : Nat) (a0 : Int) (P1_ : Nat → Prop) (A1 : Option Addr) (c1 : Nat) (l1 : List Int) (P2_ : Nat → Prop) (A2 : Option Addr) (c2 : Nat) (l2 : List Int) (r1 : Int) (r2 : Int) (w : World) (hs1 : Kd.V (Kd.int .i64) 2 w w.heap.size (fun k_ => P1_ k_) (.slice A1 l1.length c1) l1) (hs2 : Kd.V (Kd.int .i64) 2 w w.heap.size (fun k_ => P2_ k_) (.slice A2 l2.length c2) l2) (h : spec_ResultantOf.f k a0 l1 l2 = some (r1, r2)) :
  Calls Try.prog 21 #[.int .i64 a0, .slice A1 l1.length c1, .slice A2 l2.length c2] w fun e w' => e = .returned (.tuple #[.int .i64 r1, .int .i64 r2]) ∧ Below w.heap.size w w' := by
 have HO1 := as0 (show Kd.V (Kd.int .i64) 2 w w.heap.size (fun k_ => ((P1_ k_ ∨ P2_ k_) ∨ w.heap.size ≤ k_)) (.slice A1 l1.length c1) l1 from Kd.V_mono hs1 (fun k_ hk => .inl (.inl hk)))
 have HO2 := as0 (show Kd.V (Kd.int .i64) 2 w w.heap.size (fun k_ => ((P1_ k_ ∨ P2_ k_) ∨ w.heap.size ≤ k_)) (.slice A2 l2.length c2) l2 from Kd.V_mono hs2 (fun k_ hk => .inl (.inr hk)))
 have HB := as0 (Below.refl w.heap.size w)
 have H : ((spec_l06Code.f k a0 (([l1, l2] : List (List Int)))).bind fun t325 => (if t325 = 0 then ((spec_l06Sylvester.f k a0 l1 l2).bind fun t326 => (some (t326, 0))) else (some (0, t325)))) = some (r1, r2) := h
 clear h
 obtain ⟨y322, hy322⟩ : ∃ y_ : List (List Int), y_ = (([l1, l2] : List (List Int))) := ⟨_, rfl⟩
 replace H : ((spec_l06Code.f k a0 y322).bind fun t325 => (if t325 = 0 then ((spec_l06Sylvester.f k a0 l1 l2).bind fun t326 => (some (t326, 0))) else (some (0, t325)))) = some (r1, r2) := by first | (rw [hy322]; with_reducible exact H) | (have H2_ := (Option.bind_some _ _).symm.trans H; rw [hy322]; with_reducible exact H2_) | (have H2_ := (Option.bind_some _ _).symm.trans H; with_reducible exact H2_) | with_reducible exact H | (rw [hy322]; exact H) | exact H
 have Ny322 := as0 hy322
 clear hy322
 replace H := Option.bind_eq_some_iff.mp H
 obtain ⟨t325, A40, H⟩ := H
 have A4 := as0 A40
 clear A40
 by_cases c5 : t325 = 0
 ·
  rw [if_pos c5] at H
  have c5b0 : (t325 == 0) = true := beq_iff_eq.mpr c5
  have c5b1 : (t325 != 0) = false := bne_eq_false_iff_eq.mpr c5
  clear c5
  replace H := Option.bind_eq_some_iff.mp H
  obtain ⟨t326, A60, H⟩ := H
  have A6 := as0 A60
  clear A60
  simp only [Option.some.injEq, Prod.mk.injEq] at H
  obtain ⟨rfl, rfl⟩ := H
  go_enter Try.func21, Try.ntmps21
  go_wp2_with (first | ((with_reducible refine gate_dst (N := 12) rfl ?_); refine Kd.N_lit (Kd.slice 2 (Kd.int .i64)) _ 22 ?hg (N' := 12) ?hd (xs := ([l1, l2] : List (List Int))) (inner := [.slice A1 l1.length c1, .slice A2 l2.length c2]) (ok := (fun k_ => ((P1_ k_ ∨ P2_ k_) ∨ w.heap.size ≤ k_))) (okp := (fun k_ => ((P1_ k_ ∨ P2_ k_) ∨ w.heap.size ≤ k_))) ?hr ?hp (fun _ hk => hk) ((show ∀ k_, w.heap.size ≤ k_ → (fun k_ => ((P1_ k_ ∨ P2_ k_) ∨ w.heap.size ≤ k_)) k_ from fun k_ hk => (.inr (Nat.le_trans (below_size (bs HB)) hk))) _ (Nat.le_refl _)) (Below.refl _ _) (Nat.le_refl _) (by simp) ?_; (case hd => rfl); (case hg => rfl); (case hr => first | (go_simp; done) | (go_simp; rfl)); (case hp => exact (Reps.one (show Kd.FK (Kd.slice 2 (Kd.int .i64)) _ _ l1 [.slice A1 l1.length c1] from (Kd.FK_slice_mk (Kd.V_reads' (Kd.V_mono (ok' := (fun k_ => ((P1_ k_ ∨ P2_ k_) ∨ w.heap.size ≤ k_))) (HO1.out) (fun k_ hk => hk))).2.1 (Kd.V_F (Kd.V_mono (ok' := (fun k_ => ((P1_ k_ ∨ P2_ k_) ∨ w.heap.size ≤ k_))) (HO1.out) (fun k_ hk => hk))))) (Reps.one (show Kd.FK (Kd.slice 2 (Kd.int .i64)) _ _ l2 [.slice A2 l2.length c2] from (Kd.FK_slice_mk (Kd.V_reads' (Kd.V_mono (ok' := (fun k_ => ((P1_ k_ ∨ P2_ k_) ∨ w.heap.size ≤ k_))) (HO2.out) (fun k_ hk => hk))).2.1 (Kd.V_F (Kd.V_mono (ok' := (fun k_ => ((P1_ k_ ∨ P2_ k_) ∨ w.heap.size ≤ k_))) (HO2.out) (fun k_ hk => hk))))) (Reps.none _ _)))); intro v323 w7 ho8 hb hg_ hnew_; clear hg_ hnew_; (first | rw [← Ny322.out] at ho8 | (simp only [Int.reduceToNat] at ho8; rw [← Ny322.out] at ho8)); have n0_ := as0 (Kd.V_elder' (by (with_reducible repeat (first | apply Kd.V_alloc | apply Kd.V_drewN | apply Kd.V_drew)); exact HO1.out) (Kd.N_base ho8) hb); have n1_ := as0 (Kd.V_elder' (by (with_reducible repeat (first | apply Kd.V_alloc | apply Kd.V_drewN | apply Kd.V_drew)); exact HO2.out) (Kd.N_base ho8) hb); have n2_ := as0 (Kd.N_lower ho8 (below_size (bs HB))); have n3_ := as0 (below_step (bs HB) hb); clear HO1; clear HO2; clear HB; have HO1 := n0_; have HO2 := n1_; have HO324 := n2_; have HB := n3_; clear n0_ n1_ n2_ n3_; clear hb ho8; obtain ⟨Ao9, co9, eo9⟩ := Kd.N_slice HO324.out; subst eo9) | ((with_reducible refine gate_callee (f := 54) rfl ?_); refine goesM_ (some 13) rfl rfl Try.func54 #[.int .i64 a0, .slice Ao9 y322.length co9] rfl ?_; (with_reducible refine (spec_l06Code.calls k a0 _ _ y322 t325 _ ?side1 ?side2 A4.out).mono ?_); (case side1 => exact cs ((Kd.N_reads' HO324.out).2.2)); (case side2 => exact (Kd.N_reads' HO324.out).2.1); rintro e w' ⟨rfl, ⟨nd, rfl⟩⟩; refine ⟨_, rfl, ?_⟩) | ((with_reducible refine gate_callee (f := 55) rfl ?_); refine goesM_ (some 20) rfl rfl Try.func55 #[.int .i64 a0, .slice A1 l1.length c1, .slice A2 l2.length c2] rfl ?_; (with_reducible refine (spec_l06Sylvester.calls k a0 _ _ l1 _ _ l2 t326 _ ?side1 ?side2 ?side3 ?side4 A6.out).mono ?_); (case side1 => exact cs ((Kd.V_reads' HO1.out).2.2)); (case side2 => exact (Kd.V_reads' HO1.out).2.1); (case side3 => exact cs ((Kd.V_reads' HO2.out).2.2)); (case side4 => exact (Kd.V_reads' HO2.out).2.1); rintro e w10 ⟨rfl, hb⟩; refine ⟨_, rfl, ?_⟩; have n0_ := as0 (Kd.V_below (by (with_reducible repeat (first | apply Kd.V_alloc | apply Kd.V_drewN | apply Kd.V_drew)); exact HO1.out) hb); have n1_ := as0 (Kd.V_below (by (with_reducible repeat (first | apply Kd.V_alloc | apply Kd.V_drewN | apply Kd.V_drew)); exact HO2.out) hb); have n2_ := as0 (Kd.N_below (by (with_reducible repeat (first | apply Kd.N_alloc | apply Kd.N_drewN | apply Kd.N_drew)); exact HO324.out) hb); have n3_ := as0 (below_step (bs HB) hb); clear HO1; clear HO2; clear HO324; clear HB; have HO1 := n0_; have HO2 := n1_; have HO324 := n2_; have HB := n3_; clear n0_ n1_ n2_ n3_; (try clear hb); (try clear hb2); (try clear hk); (try clear hi)))
  go_ret2
  exact ⟨er_, bs HB⟩
 ·
  rw [if_neg c5] at H
  have c5b0 : (t325 == 0) = false := beq_eq_false_iff_ne.mpr c5
  have c5b1 : (t325 != 0) = true := bne_iff_ne.mpr c5
  simp only [Option.some.injEq, Prod.mk.injEq] at H
  obtain ⟨rfl, rfl⟩ := H
  go_enter Try.func21, Try.ntmps21
  go_wp2_with (first | ((with_reducible refine gate_dst (N := 12) rfl ?_); refine Kd.N_lit (Kd.slice 2 (Kd.int .i64)) _ 22 ?hg (N' := 12) ?hd (xs := ([l1, l2] : List (List Int))) (inner := [.slice A1 l1.length c1, .slice A2 l2.length c2]) (ok := (fun k_ => ((P1_ k_ ∨ P2_ k_) ∨ w.heap.size ≤ k_))) (okp := (fun k_ => ((P1_ k_ ∨ P2_ k_) ∨ w.heap.size ≤ k_))) ?hr ?hp (fun _ hk => hk) ((show ∀ k_, w.heap.size ≤ k_ → (fun k_ => ((P1_ k_ ∨ P2_ k_) ∨ w.heap.size ≤ k_)) k_ from fun k_ hk => (.inr (Nat.le_trans (below_size (bs HB)) hk))) _ (Nat.le_refl _)) (Below.refl _ _) (Nat.le_refl _) (by simp) ?_; (case hd => rfl); (case hg => rfl); (case hr => first | (go_simp; done) | (go_simp; rfl)); (case hp => exact (Reps.one (show Kd.FK (Kd.slice 2 (Kd.int .i64)) _ _ l1 [.slice A1 l1.length c1] from (Kd.FK_slice_mk (Kd.V_reads' (Kd.V_mono (ok' := (fun k_ => ((P1_ k_ ∨ P2_ k_) ∨ w.heap.size ≤ k_))) (HO1.out) (fun k_ hk => hk))).2.1 (Kd.V_F (Kd.V_mono (ok' := (fun k_ => ((P1_ k_ ∨ P2_ k_) ∨ w.heap.size ≤ k_))) (HO1.out) (fun k_ hk => hk))))) (Reps.one (show Kd.FK (Kd.slice 2 (Kd.int .i64)) _ _ l2 [.slice A2 l2.length c2] from (Kd.FK_slice_mk (Kd.V_reads' (Kd.V_mono (ok' := (fun k_ => ((P1_ k_ ∨ P2_ k_) ∨ w.heap.size ≤ k_))) (HO2.out) (fun k_ hk => hk))).2.1 (Kd.V_F (Kd.V_mono (ok' := (fun k_ => ((P1_ k_ ∨ P2_ k_) ∨ w.heap.size ≤ k_))) (HO2.out) (fun k_ hk => hk))))) (Reps.none _ _)))); intro v323 w11 ho12 hb hg_ hnew_; clear hg_ hnew_; (first | rw [← Ny322.out] at ho12 | (simp only [Int.reduceToNat] at ho12; rw [← Ny322.out] at ho12)); have n0_ := as0 (Kd.V_elder' (by (with_reducible repeat (first | apply Kd.V_alloc | apply Kd.V_drewN | apply Kd.V_drew)); exact HO1.out) (Kd.N_base ho12) hb); have n1_ := as0 (Kd.V_elder' (by (with_reducible repeat (first | apply Kd.V_alloc | apply Kd.V_drewN | apply Kd.V_drew)); exact HO2.out) (Kd.N_base ho12) hb); have n2_ := as0 (Kd.N_lower ho12 (below_size (bs HB))); have n3_ := as0 (below_step (bs HB) hb); clear HO1; clear HO2; clear HB; have HO1 := n0_; have HO2 := n1_; have HO324 := n2_; have HB := n3_; clear n0_ n1_ n2_ n3_; clear hb ho12; obtain ⟨Ao13, co13, eo13⟩ := Kd.N_slice HO324.out; subst eo13) | ((with_reducible refine gate_callee (f := 54) rfl ?_); refine goesM_ (some 13) rfl rfl Try.func54 #[.int .i64 a0, .slice Ao13 y322.length co13] rfl ?_; (with_reducible refine (spec_l06Code.calls k a0 _ _ y322 t325 _ ?side1 ?side2 A4.out).mono ?_); (case side1 => exact cs ((Kd.N_reads' HO324.out).2.2)); (case side2 => exact (Kd.N_reads' HO324.out).2.1); rintro e w' ⟨rfl, ⟨nd, rfl⟩⟩; refine ⟨_, rfl, ?_⟩))
  go_ret2
  exact ⟨er_, bs HB⟩
end
def spec_SimplePart.f (k : Nat) (a0 : Int) (l1 : List Int) : Option (List Int × Int) := (spec_l06Code.f k a0 (([l1] : List (List Int)))).bind fun t757 => (if t757 = 0 then ((spec_l01Derive.f k a0 l1).bind fun t758 => ((spec_l01Gcd.f k a0 l1 t758).bind fun t761 => ((spec_l01Divide.f k a0 l1 t761).bind fun bt764 => (some (bt764.1, 0))))) else (some (([] : List Int), t757)))
set_option maxHeartbeats 8000000 in
set_option maxRecDepth 100000 in
theorem spec_SimplePart.calls (k : Nat) (a0 : Int) (P1_ : Nat → Prop) (A1 : Option Addr) (c1 : Nat) (l1 : List Int) (r1 : List Int) (r2 : Int) (w : World) (hs1 : Kd.V (Kd.int .i64) 2 w w.heap.size (fun k_ => P1_ k_) (.slice A1 l1.length c1) l1) (h : spec_SimplePart.f k a0 l1 = some (r1, r2)) :
  Calls Try.prog 34 #[.int .i64 a0, .slice A1 l1.length c1] w fun e w' => ∃ v0_ : Value, e = .returned (.tuple #[v0_, .int .i64 r2]) ∧ Kd.R (Kd.int .i64) 2 w' w.heap.size (fun k_ => (w.heap.size ≤ k_)) v0_ r1 ∧ Below w.heap.size w w' := by
 have HO1 := as0 (show Kd.V (Kd.int .i64) 2 w w.heap.size (fun k_ => (P1_ k_ ∨ w.heap.size ≤ k_)) (.slice A1 l1.length c1) l1 from Kd.V_mono hs1 (fun k_ hk => .inl hk))
 have HB := as0 (Below.refl w.heap.size w)
 have H : ((spec_l06Code.f k a0 (([l1] : List (List Int)))).bind fun t757 => (if t757 = 0 then ((spec_l01Derive.f k a0 l1).bind fun t758 => ((spec_l01Gcd.f k a0 l1 t758).bind fun t761 => ((spec_l01Divide.f k a0 l1 t761).bind fun bt764 => (some (bt764.1, 0))))) else (some (([] : List Int), t757)))) = some (r1, r2) := h
 clear h
 obtain ⟨y754, hy754⟩ : ∃ y_ : List (List Int), y_ = (([l1] : List (List Int))) := ⟨_, rfl⟩
 replace H : ((spec_l06Code.f k a0 y754).bind fun t757 => (if t757 = 0 then ((spec_l01Derive.f k a0 l1).bind fun t758 => ((spec_l01Gcd.f k a0 l1 t758).bind fun t761 => ((spec_l01Divide.f k a0 l1 t761).bind fun bt764 => (some (bt764.1, 0))))) else (some (([] : List Int), t757)))) = some (r1, r2) := by first | (rw [hy754]; with_reducible exact H) | (have H2_ := (Option.bind_some _ _).symm.trans H; rw [hy754]; with_reducible exact H2_) | (have H2_ := (Option.bind_some _ _).symm.trans H; with_reducible exact H2_) | with_reducible exact H | (rw [hy754]; exact H) | exact H
 have Ny754 := as0 hy754
 clear hy754
 replace H := Option.bind_eq_some_iff.mp H
 obtain ⟨t757, A30, H⟩ := H
 have A3 := as0 A30
 clear A30
 by_cases c4 : t757 = 0
 ·
  rw [if_pos c4] at H
  have c4b0 : (t757 == 0) = true := beq_iff_eq.mpr c4
  have c4b1 : (t757 != 0) = false := bne_eq_false_iff_eq.mpr c4
  clear c4
  replace H := Option.bind_eq_some_iff.mp H
  obtain ⟨t758, A50, H⟩ := H
  have A5 := as0 A50
  clear A50
  replace H := Option.bind_eq_some_iff.mp H
  obtain ⟨t761, A60, H⟩ := H
  have A6 := as0 A60
  clear A60
  replace H := Option.bind_eq_some_iff.mp H
  obtain ⟨⟨t764, t765⟩, A70, H⟩ := H
  have A7 := as0 A70
  clear A70
  simp only [Option.some.injEq, Prod.mk.injEq] at H
  obtain ⟨rfl, rfl⟩ := H
  go_enter Try.func34, Try.ntmps34
  go_wp2_with (first | ((with_reducible refine gate_dst (N := 11) rfl ?_); refine Kd.N_lit (Kd.slice 2 (Kd.int .i64)) _ 22 ?hg (N' := 11) ?hd (xs := ([l1] : List (List Int))) (inner := [.slice A1 l1.length c1]) (ok := (fun k_ => (P1_ k_ ∨ w.heap.size ≤ k_))) (okp := (fun k_ => (P1_ k_ ∨ w.heap.size ≤ k_))) ?hr ?hp (fun _ hk => hk) ((show ∀ k_, w.heap.size ≤ k_ → (fun k_ => (P1_ k_ ∨ w.heap.size ≤ k_)) k_ from fun k_ hk => (.inr (Nat.le_trans (below_size (bs HB)) hk))) _ (Nat.le_refl _)) (Below.refl _ _) (Nat.le_refl _) (by simp) ?_; (case hd => rfl); (case hg => rfl); (case hr => first | (go_simp; done) | (go_simp; rfl)); (case hp => exact (Reps.one (show Kd.FK (Kd.slice 2 (Kd.int .i64)) _ _ l1 [.slice A1 l1.length c1] from (Kd.FK_slice_mk (Kd.V_reads' (Kd.V_mono (ok' := (fun k_ => (P1_ k_ ∨ w.heap.size ≤ k_))) (HO1.out) (fun k_ hk => hk))).2.1 (Kd.V_F (Kd.V_mono (ok' := (fun k_ => (P1_ k_ ∨ w.heap.size ≤ k_))) (HO1.out) (fun k_ hk => hk))))) (Reps.none _ _))); intro v755 w8 ho9 hb hg_ hnew_; clear hg_ hnew_; (first | rw [← Ny754.out] at ho9 | (simp only [Int.reduceToNat] at ho9; rw [← Ny754.out] at ho9)); have n0_ := as0 (Kd.V_elder' (by (with_reducible repeat (first | apply Kd.V_alloc | apply Kd.V_drewN | apply Kd.V_drew)); exact HO1.out) (Kd.N_base ho9) hb); have n1_ := as0 (Kd.N_lower ho9 (below_size (bs HB))); have n2_ := as0 (below_step (bs HB) hb); clear HO1; clear HB; have HO1 := n0_; have HO756 := n1_; have HB := n2_; clear n0_ n1_ n2_; clear hb ho9; obtain ⟨Ao10, co10, eo10⟩ := Kd.N_slice HO756.out; subst eo10) | ((with_reducible refine gate_callee (f := 54) rfl ?_); refine goesM_ (some 12) rfl rfl Try.func54 #[.int .i64 a0, .slice Ao10 y754.length co10] rfl ?_; (with_reducible refine (spec_l06Code.calls k a0 _ _ y754 t757 _ ?side1 ?side2 A3.out).mono ?_); (case side1 => exact cs ((Kd.N_reads' HO756.out).2.2)); (case side2 => exact (Kd.N_reads' HO756.out).2.1); rintro e w' ⟨rfl, ⟨nd, rfl⟩⟩; refine ⟨_, rfl, ?_⟩) | ((with_reducible refine gate_callee (f := 59) rfl ?_); refine goesM_ (some 23) rfl rfl Try.func59 #[.int .i64 a0, .slice A1 l1.length c1] rfl ?_; (with_reducible refine (spec_l01Derive.calls k a0 _ _ l1 t758 _ ?side1 ?side2 A5.out).mono ?_); (case side1 => exact cs ((Kd.V_reads' HO1.out).2.2)); (case side2 => exact (Kd.V_reads' HO1.out).2.1); rintro e w11 ⟨v759, rfl, ho0, hb⟩; refine ⟨_, rfl, ?_⟩; have n0_ := as0 (Kd.V_elder' (by (with_reducible repeat (first | apply Kd.V_alloc | apply Kd.V_drewN | apply Kd.V_drew)); exact HO1.out) (Kd.R_base ho0) hb); have n1_ := as0 (Kd.N_elder' (by (with_reducible repeat (first | apply Kd.N_alloc | apply Kd.N_drewN | apply Kd.N_drew)); exact HO756.out) (Kd.R_base ho0) hb); have n2_ := as0 (Kd.R_lower (Kd.R_newM (M := fun k_ => (w.heap.size ≤ k_)) ho0 (below_size (bs HB)) (fun k_ h_ => h_)) (below_size (bs HB))); have n3_ := as0 (below_step (bs HB) hb); clear HO1; clear HO756; clear HB; have HO1 := n0_; have HO756 := n1_; have HO760 := n2_; have HB := n3_; clear n0_ n1_ n2_ n3_; (try clear hb); (try clear hb2); (try clear hk); (try clear hi); (try clear ho0); obtain ⟨Ao12, co12, eo12⟩ := Kd.R_slice HO760.out; subst eo12) | ((with_reducible refine gate_callee (f := 73) rfl ?_); refine goesM_ (some 24) rfl rfl Try.func73 #[.int .i64 a0, .slice A1 l1.length c1, .slice Ao12 t758.length co12] rfl ?_; (with_reducible refine (spec_l01Gcd.calls k a0 (fun k_ => (((P1_ k_ ∨ w.heap.size ≤ k_) ∧ some k_ ≠ (.slice Ao10 y754.length co10 : Value).ownBlock) ∧ some k_ ≠ (.slice Ao12 t758.length co12 : Value).ownBlock)) _ _ l1 (fun k_ => some k_ = (.slice Ao12 t758.length co12 : Value).ownBlock) _ _ t758 t761 _ ?side1 ?side2 A6.out).mono ?_); (case side1 => exact HO1.out); (case side2 => exact Kd.R_V (Kd.R_tight rfl (Kd.R_apart' (HO760.out) (Kd.N_typed HO756.out) (by decide)))); rintro e w13 ⟨v762, rfl, ho0, hb⟩; refine ⟨_, rfl, ?_⟩; have n0_ := as0 (Kd.V_elder' (by (with_reducible repeat (first | apply Kd.V_alloc | apply Kd.V_drewN | apply Kd.V_drew)); exact HO1.out) (Kd.R_base ho0) hb); have n1_ := as0 (Kd.N_elder' (by (with_reducible repeat (first | apply Kd.N_alloc | apply Kd.N_drewN | apply Kd.N_drew)); exact HO756.out) (Kd.R_base ho0) hb); have n2_ := as0 (Kd.R_elder' (rs HO760) (Kd.R_base ho0) hb); have n3_ := as0 (Kd.R_lower (Kd.R_new' (Kd.R_newM (M := fun k_ => (w.heap.size ≤ k_)) (Kd.R_mono (ok' := fun k_ => True) ho0 (fun _ hk_ => trivial)) (below_size (bs HB)) (fun k_ h_ => h_)) (Kd.R_lt (rs HO760))) (below_size (bs HB))); have n4_ := as0 (below_step (bs HB) hb); clear HO1; clear HO756; clear HO760; clear HB; have HO1 := n0_; have HO756 := n1_; have HO760 := n2_; have HO763 := n3_; have HB := n4_; clear n0_ n1_ n2_ n3_ n4_; (try clear hb); (try clear hb2); (try clear hk); (try clear hi); (try clear ho0); obtain ⟨Ao14, co14, eo14⟩ := Kd.R_slice HO763.out; subst eo14) | ((with_reducible refine gate_callee (f := 42) rfl ?_); refine goesM_ (some 25) rfl rfl Try.func42 #[.int .i64 a0, .slice A1 l1.length c1, .slice Ao14 t761.length co14] rfl ?_; (with_reducible refine (spec_l01Divide.calls k a0 _ _ l1 _ _ t761 t764 t765 _ ?side1 ?side2 ?side3 ?side4 A7.out).mono ?_); (case side1 => exact cs ((Kd.V_reads' HO1.out).2.2)); (case side2 => exact (Kd.V_reads' HO1.out).2.1); (case side3 => exact cs ((Kd.R_reads' HO763.out).2.2)); (case side4 => exact (Kd.R_reads' HO763.out).2.1); rintro e w15 ⟨v766, v768, rfl, ho0, ho1, hb⟩; refine ⟨_, rfl, ?_⟩; have n0_ := as0 (Kd.V_mono (Kd.V_told (Kd.V_told (Kd.V_old (by (with_reducible repeat (first | apply Kd.V_alloc | apply Kd.V_drewN | apply Kd.V_drew)); exact HO1.out) hb) (Kd.R_base ho0)) (Kd.R_base ho1)) (fun _ h_ => h_.1)); have n1_ := as0 (Kd.N_mono (Kd.N_told (Kd.N_told (Kd.N_old (by (with_reducible repeat (first | apply Kd.N_alloc | apply Kd.N_drewN | apply Kd.N_drew)); exact HO756.out) hb) (Kd.R_base ho0)) (Kd.R_base ho1)) (fun _ h_ => h_.1)); have n2_ := as0 (Kd.R_mono (Kd.R_told (Kd.R_told (Kd.R_old (rs HO760) hb) (Kd.R_base ho0)) (Kd.R_base ho1)) (fun _ h_ => h_.1)); have n3_ := as0 (Kd.R_mono (Kd.R_told (Kd.R_told (Kd.R_old (rs HO763) hb) (Kd.R_base ho0)) (Kd.R_base ho1)) (fun _ h_ => h_.1)); have n4_ := as0 (Kd.R_lower (Kd.R_new' (Kd.R_new' (Kd.R_newM (M := fun k_ => (w.heap.size ≤ k_)) ho0 (below_size (bs HB)) (fun k_ h_ => h_)) (Kd.R_lt (rs HO760))) (Kd.R_lt (rs HO763))) (below_size (bs HB))); have n5_ := as0 (Kd.R_lower (Kd.R_new' (Kd.R_new' (Kd.R_newM (M := fun k_ => (w.heap.size ≤ k_)) ho1 (below_size (bs HB)) (fun k_ h_ => h_)) (Kd.R_lt (rs HO760))) (Kd.R_lt (rs HO763))) (below_size (bs HB))); have n6_ := as0 (below_step (bs HB) hb); clear HO1; clear HO756; clear HO760; clear HO763; clear HB; have HO1 := n0_; have HO756 := n1_; have HO760 := n2_; have HO763 := n3_; have HO767 := n4_; have HO769 := n5_; have HB := n6_; clear n0_ n1_ n2_ n3_ n4_ n5_ n6_; (try clear hb); (try clear hb2); (try clear hk); (try clear hi); (try clear ho0); (try clear ho1)))
  go_ret2
  exact ⟨_, er_, by (with_reducible repeat (first | apply Kd.R_alloc | apply Kd.R_drewN | apply Kd.R_drew)); exact Kd.R_mono HO767.out (fun _ hk => hk.1.1.1), bs HB⟩
 ·
  rw [if_neg c4] at H
  have c4b0 : (t757 == 0) = false := beq_eq_false_iff_ne.mpr c4
  have c4b1 : (t757 != 0) = true := bne_iff_ne.mpr c4
  simp only [Option.some.injEq, Prod.mk.injEq] at H
  obtain ⟨rfl, rfl⟩ := H
  go_enter Try.func34, Try.ntmps34
  go_wp2_with (first | ((with_reducible refine gate_dst (N := 11) rfl ?_); refine Kd.N_lit (Kd.slice 2 (Kd.int .i64)) _ 22 ?hg (N' := 11) ?hd (xs := ([l1] : List (List Int))) (inner := [.slice A1 l1.length c1]) (ok := (fun k_ => (P1_ k_ ∨ w.heap.size ≤ k_))) (okp := (fun k_ => (P1_ k_ ∨ w.heap.size ≤ k_))) ?hr ?hp (fun _ hk => hk) ((show ∀ k_, w.heap.size ≤ k_ → (fun k_ => (P1_ k_ ∨ w.heap.size ≤ k_)) k_ from fun k_ hk => (.inr (Nat.le_trans (below_size (bs HB)) hk))) _ (Nat.le_refl _)) (Below.refl _ _) (Nat.le_refl _) (by simp) ?_; (case hd => rfl); (case hg => rfl); (case hr => first | (go_simp; done) | (go_simp; rfl)); (case hp => exact (Reps.one (show Kd.FK (Kd.slice 2 (Kd.int .i64)) _ _ l1 [.slice A1 l1.length c1] from (Kd.FK_slice_mk (Kd.V_reads' (Kd.V_mono (ok' := (fun k_ => (P1_ k_ ∨ w.heap.size ≤ k_))) (HO1.out) (fun k_ hk => hk))).2.1 (Kd.V_F (Kd.V_mono (ok' := (fun k_ => (P1_ k_ ∨ w.heap.size ≤ k_))) (HO1.out) (fun k_ hk => hk))))) (Reps.none _ _))); intro v755 w16 ho17 hb hg_ hnew_; clear hg_ hnew_; (first | rw [← Ny754.out] at ho17 | (simp only [Int.reduceToNat] at ho17; rw [← Ny754.out] at ho17)); have n0_ := as0 (Kd.V_elder' (by (with_reducible repeat (first | apply Kd.V_alloc | apply Kd.V_drewN | apply Kd.V_drew)); exact HO1.out) (Kd.N_base ho17) hb); have n1_ := as0 (Kd.N_lower ho17 (below_size (bs HB))); have n2_ := as0 (below_step (bs HB) hb); clear HO1; clear HB; have HO1 := n0_; have HO756 := n1_; have HB := n2_; clear n0_ n1_ n2_; clear hb ho17; obtain ⟨Ao18, co18, eo18⟩ := Kd.N_slice HO756.out; subst eo18) | ((with_reducible refine gate_callee (f := 54) rfl ?_); refine goesM_ (some 12) rfl rfl Try.func54 #[.int .i64 a0, .slice Ao18 y754.length co18] rfl ?_; (with_reducible refine (spec_l06Code.calls k a0 _ _ y754 t757 _ ?side1 ?side2 A3.out).mono ?_); (case side1 => exact cs ((Kd.N_reads' HO756.out).2.2)); (case side2 => exact (Kd.N_reads' HO756.out).2.1); rintro e w' ⟨rfl, ⟨nd, rfl⟩⟩; refine ⟨_, rfl, ?_⟩))
  go_ret2
  exact ⟨_, er_, by first | exact Kd.R_nil _ _ _ _ _ | exact Kd.N_nil _ _ _ _ _ | exact Kd.V_nil _ _ _ _ _ | exact Kd.Q_nil _ _ _ _ _ | exact Kd.S_nil _ _ _ _ _, bs HB⟩
end Go.Proofs.Ytlmolloallhclaa.H
