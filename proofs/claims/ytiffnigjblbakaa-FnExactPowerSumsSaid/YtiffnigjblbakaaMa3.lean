/- Joined texts of a claim: the printed functions and what is proved of them. -/
import Derived.Deep.QuietTactic
import Derived.BigQuiet
import Derived.Test.YtiffnigjblbakaaYHx0
import Derived.Test.YtiffnigjblbakaaMa1
import Derived.Test.YtiffnigjblbakaaMa2
namespace Go.Proofs.Ytiffnigjblbakaa.H
open Go.RowKit Go.Proofs.YtiffnigjblbakaaW.PrintWords Go.Proofs.YtiffnigjblbakaaW.PrintLast Go.Proofs.YtiffnigjblbakaaW.PrintMore
attribute [local go_sem] max2_int min2_int max_two min_two max_three min_three max_four min_four   -- for this text's walks alone
set_option linter.unusedVariables false
set_option linter.unusedSimpArgs false
/-! ### impl_field_powerSums: function 102 -/
/-- a callee that only draws, met inside a region that draws -/
theorem quiet1 {P : Program} {f : FuncId} {args : Array Value} {w : World} {n : Nat} {v : Value} (h : Calls P f args (w.drewN n) fun e w' => e = .returned v ∧ Drawn0 (w.drewN n) w') : Calls P f args (w.drewN n) fun e w'' => e = .returned v ∧ ∃ m, w'' = w.drewN m :=
  Calls.quiet_of (h.mono (by rintro e w' ⟨rfl, ⟨nd, rfl⟩⟩; exact ⟨rfl, nd, rfl⟩))
/-- A call of a closure: 'goesV_ .. #[args, what it captures] ..'. -/
theorem goesV_ {P : Program} {ops : Array Oper} {Q : Exit → Act → World → Prop} {oi : Oper} {N : Option Tmp} {a : Act} {w : World} {K : Act → World → Prop} {f : FuncId} {fn : Func} {o : Operand} {ag : Array Operand} {ts : Array TypeId} {caps : Array Value} (hf : P.funcs[f]? = some fn) (hname : (fn.name == "runtime.NumGoroutine") = false) (hb : fn.body.isSome = true) (own args : Array Value)
    (hw : Region.wanted oi (yielded ops a.tmps) = true) (hN : oi.dst = N) (hop : oi.op = .call { callee := .value o, args := ag, argTypes := ts }) (ho : a.eval o = .func (.func f) #[] caps) (hown : ag.map a.eval = own) (hargs : own ++ caps = args)
    (h : Calls P f args w fun e w' => ∃ v, e = .returned v ∧ K (a.put N v) w') : if Region.wanted oi (yielded ops a.tmps) = true then Oper.wp P oi a w K Q else K (a.put N undef) w := by
  refine call_ f args hw hN ?_ h
  have he := enters_ hf hname hb args w
  unfold execOp
  simp [hop, ho, resolve, Deferred.ofValue, invoke, hown, hargs, he]
/-- 'signed' of powerSums: the boxes hold d, p and f -/
def impl_field_powerSums_c1.f (a0 : Int) (l1 : List Int) (a2 : Int) (a3 : Int) : Option Int := if a3 > a2 then some 0 else (if 0 ≤ (wrap64 (a2 - a3)) then (if (wrap64 (a2 - a3)) < (l1.length : Int) then (impl_field_mod.f a0 (wrap64 (-(rd l1 (wrap64 (a2 - a3)))))) else none) else none)
set_option maxHeartbeats 4000000 in
set_option maxRecDepth 100000 in
theorem impl_field_powerSums_c1.calls (a0 : Int) (A1 : Option Addr) (c1 : Nat) (l1 : List Int) (a2 a3 r : Int) (w : World) {B0 B1 B2 : Nat} (hr1 : Kd.C (Kd.int .i64) w A1 l1.length l1) (hc1 : l1.length ≤ c1) (h : impl_field_powerSums_c1.f a0 l1 a2 a3 = some r)
    (hD : w.cell? ⟨B2, 0, none⟩ = some (.int .i64 a2)) (hP : w.cell? ⟨B0, 0, none⟩ = some (.int .i64 a0)) (hF : w.cell? ⟨B1, 0, none⟩ = some (.slice A1 l1.length c1)) :
    Calls Try.prog 126 #[.int .i64 a3, .pointer (some ⟨B2, 0, none⟩), .pointer (some ⟨B0, 0, none⟩), .pointer (some ⟨B1, 0, none⟩)] w fun e w' => e = .returned (.int .i64 r) ∧ Drawn0 w w' := by
  have HR0 := Aside0.mk hr1
  clear hr1
  unfold impl_field_powerSums_c1.f at h
  by_cases c2 : a3 > a2
  · rw [if_pos c2] at h
    have c2b0 : decide (a2 < a3) = true := decide_eq_true c2
    clear c2
    obtain rfl := Option.some.inj h
    clear h
    go_enter Try.func126, Try.ntmps126
    go_wp2
    go_ret
    exact ⟨rfl, by repeat (first | exact Drawn0.refl _ | apply Drawn0.step)⟩
  · rw [if_neg c2] at h
    have c2b0 : decide (a2 < a3) = false := decide_eq_false c2
    clear c2
    obtain ⟨ji3, hji3⟩ : ∃ j_ : Int, (wrap64 (a2 - a3)) = j_ := ⟨_, rfl⟩
    rw [hji3] at h
    have hji3w : (IntKind.i64.wrap (a2 - a3)) = ji3 := (i64_w _).trans hji3
    by_cases c4 : 0 ≤ (ji3)
    · rw [if_pos c4] at h
      have c4b0 : decide (0 ≤ (ji3)) = true := decide_eq_true c4
      clear c4
      by_cases c5 : (ji3) < (l1.length : Int)
      · rw [if_pos c5] at h
        have c5b0 : decide ((ji3) < (l1.length : Int)) = true := decide_eq_true c5
        clear c5
        have A4 := Aside0.mk h
        clear h
        have p1119 : 0 ≤ ((ji3) : Int) := of_decide_eq_true (by first | (with_reducible assumption) | assumption)
        have q1119 : (ji3) < (l1.length : Int) := of_decide_eq_true (by first | (with_reducible assumption) | assumption)
        obtain ⟨ad1119, e1119, hx1119_0⟩ := Kd.at_int HR0.out (ji3) p1119 q1119
        cases e1119
        replace p1119 := eq_true p1119
        replace q1119 := eq_true q1119
        go_enter Try.func126, Try.ntmps126
        go_wp2_with fail
        go_quiet (first | (go_at_call 108; with_reducible exact quiet1 (impl_field_mod.calls a0 (wrap64 (-(rd l1 (ji3)))) r _ A4.out)))
        go_wp2
        go_ret
        exact ⟨rfl, ⟨_, rfl⟩⟩
      · rw [if_neg c5] at h
        exact absurd h (by simp)
    · rw [if_neg c4] at h
      exact absurd h (by simp)
mutual
def impl_field_powerSums.l0 : Nat → Int → List Int → Int → Int → List Int → Int → Option (List Int)
  | 0, _, _, _, _, _, _ => none
  | k + 1, x2, x9, x10, x1349000, x1350000, x1355000 => if x10 ≤ x2 then ((impl_field_mod.f x1349000 x10).bind fun t1359 => ((impl_field_powerSums_c1.f x1349000 x1350000 x1355000 x10).bind fun t1360 => ((impl_field_mul.f x1349000 t1359 t1360).bind fun t1361 => (impl_field_powerSums.l1 k x2 x9 x10 t1361 1 x1349000 x1350000 x1355000)))) else (some x9)
def impl_field_powerSums.l1 : Nat → Int → List Int → Int → Int → Int → Int → List Int → Int → Option (List Int)
  | 0, _, _, _, _, _, _, _, _ => none
  | k + 1, x2, x9, x10, x11, x12, x1349000, x1350000, x1355000 => if x12 < x10 then ((impl_field_powerSums_c1.f x1349000 x1350000 x1355000 x12).bind fun t1362 => (if 0 ≤ (wrap64 (x10 - x12)) then (if (wrap64 (x10 - x12)) < (x9.length : Int) then ((impl_field_mod.f x1349000 (wrap64 (x11 + (wrap64 (t1362 * (rd x9 (wrap64 (x10 - x12)))))))).bind fun t1364 => (impl_field_powerSums.l1 k x2 x9 x10 t1364 (wrap64 (x12 + 1)) x1349000 x1350000 x1355000)) else (none)) else (none))) else (if x9.length < 17592186044416 then (impl_field_powerSums.l0 k x2 (x9 ++ [x11]) (wrap64 (x10 + 1)) x1349000 x1350000 x1355000) else (none))
end
def impl_field_powerSums.f (k : Nat) (a0 : Int) (l1 : List Int) (a2 : Int) : Option (List Int) := (impl_field_monic.f k a0 l1).bind fun t1350 => ((impl_degree.f t1350).bind fun t1353 => ((impl_field_mod.f a0 t1353).bind fun t1355 => (impl_field_powerSums.l0 k a2 (([t1355] : List Int)) 1 a0 t1350 t1353)))
def impl_field_powerSums.T8 : Bool × List (List Nat × List Nat) := (true, [([], []), ([], []), ([], []), ([1, 2], [1, 2]), ([], []), ([], []), ([4, 5, 3], [4, 5]), ([0, 3, 6, 6], [0, 3, 6]), ([7, 7, 0, 1, 2, 3, 4, 5, 6, 7], [7])])
def impl_field_powerSums.B8 : List Nat := [0, 0, 0, 6, 0, 0, 62, 127, 255]
theorem impl_field_powerSums.tab8 : rtab .any (opsOf Try.f102 8) = impl_field_powerSums.T8 := by kernel_rfl
theorem impl_field_powerSums.bits8 : waitsOk impl_field_powerSums.T8.2 impl_field_powerSums.B8 = true := by kernel_rfl
def impl_field_powerSums.T12 : Bool × List (List Nat × List Nat) := (true, [([], []), ([], []), ([], []), ([], []), ([2, 3], [2, 3]), ([], []), ([], []), ([], []), ([6, 7], [6, 7]), ([5, 8], [5, 8]), ([9], [9]), ([4, 10], [4, 10]), ([1, 11], [1, 11]), ([0, 12, 4], [0, 12]), ([13, 13, 0, 1, 2, 3, 4, 5, 6, 7, 8, 9, 10, 11, 12, 13], [1, 13])])
def impl_field_powerSums.B12 : List Nat := [0, 0, 0, 0, 12, 0, 0, 0, 192, 480, 992, 2044, 4094, 8191, 16383]
theorem impl_field_powerSums.tab12 : rtab .any (opsOf Try.f102 12) = impl_field_powerSums.T12 := by kernel_rfl
theorem impl_field_powerSums.bits12 : waitsOk impl_field_powerSums.T12.2 impl_field_powerSums.B12 = true := by kernel_rfl
set_option maxHeartbeats 8000000 in
set_option maxRecDepth 100000 in
theorem impl_field_powerSums.calls (k : Nat) (a0 : Int) (A1 : Option Addr) (c1 : Nat) (l1 : List Int) (a2 : Int) (r : List Int) (w : World) (hr1 : Kd.C (Kd.int .i64) w A1 l1.length l1) (hc1 : l1.length ≤ c1) (h : impl_field_powerSums.f k a0 l1 a2 = some r) :
    Calls Try.prog 102 #[.int .i64 a0, .slice A1 l1.length c1, .int .i64 a2] w fun e w' => ∃ v0_ : Value, e = .returned (v0_) ∧ Kd.R (Kd.int .i64) 2 w' w.heap.size (fun _ => True) v0_ r ∧ Below w.heap.size w w' := by
  have HR1 := Aside0.mk hr1
  have HC1 := Aside0.mk hc1
  clear hr1 hc1
  have HB := Aside0.mk (Below.refl w.heap.size w)
  have H : ((impl_field_monic.f k a0 l1).bind fun t1350 => ((impl_degree.f t1350).bind fun t1353 => ((impl_field_mod.f a0 t1353).bind fun t1355 => (impl_field_powerSums.l0 k a2 (([t1355] : List Int)) 1 a0 t1350 t1353)))) = some r := h
  clear h
  replace H := Option.bind_eq_some_iff.mp H
  obtain ⟨t1350, A40, H⟩ := H
  have A4 := Aside0.mk A40
  clear A40
  replace H := Option.bind_eq_some_iff.mp H
  obtain ⟨t1353, A50, H⟩ := H
  have A5 := Aside0.mk A50
  clear A50
  replace H := Option.bind_eq_some_iff.mp H
  obtain ⟨t1355, A60, H⟩ := H
  have A6 := Aside0.mk A60
  clear A60
  obtain ⟨y1356, hy1356⟩ : ∃ y_ : List Int, y_ = (([t1355] : List Int)) := ⟨_, rfl⟩
  replace H : (impl_field_powerSums.l0 k a2 y1356 1 a0 t1350 t1353) = some r := by first | (rw [hy1356]; with_reducible exact H) | (have H2_ := (Option.bind_some _ _).symm.trans H; rw [hy1356]; with_reducible exact H2_) | (have H2_ := (Option.bind_some _ _).symm.trans H; with_reducible exact H2_) | with_reducible exact H | (rw [hy1356]; exact H) | exact H
  have Ny1356 := Aside0.mk hy1356
  clear hy1356
  have H' := Aside0.mk H
  clear H
  go_enter Try.func102, Try.ntmps102
  go_wp2_with (first | ((with_reducible refine gate_dst (N := 3) rfl ?_); refine box_event ?hg (N := 3) ?hd (cs := #[.int .i64 a0]) (t := 67) ?hr ?_; (case hd => rfl); (case hg => rfl); (case hr => first | (go_simp; done) | (go_simp; rfl)); intro gb1348 hg w7 hbox hb; have n0_ := Aside0.mk (below_step (bs HB) hb); have n1_ := Aside0.mk (hbox); have n2_ := Aside0.mk ((by rw [hg]; exact (below_size (bs HB)) : w.heap.size ≤ gb1348)); have n3_ := Aside0.mk ((by rw [hg]; exact (below_size (bs HB)) : w.heap.size ≤ gb1348)); clear HB; have HB := n0_; have BK1348 := n1_; have GW1348 := n2_; have GE1348 := n3_; clear n0_ n1_ n2_ n3_; clear hb hbox hg) | ((with_reducible refine gate_dst (N := 4) rfl ?_); refine box_event ?hg (N := 4) ?hd (cs := #[.slice A1 l1.length c1]) (t := 22) ?hr ?_; (case hd => rfl); (case hg => rfl); (case hr => first | (go_simp; done) | (go_simp; rfl)); intro gb1349 hg w8 hbox hb; have n0_ := Aside0.mk (blk_below (g := gb1348) (o := .cells #[.int .i64 a0] 67 (0, 0)) (by (with_reducible repeat (first | refine blk_drewN ?_ _ | refine blk_drew ?_ | refine blk_alloc ?_ _)); exact BK1348.out) hb); have n1_ := Aside0.mk (below_step (by repeat (first | (with_reducible first | exact HB.out | apply below_alloc | apply pw_below_drewN | apply below_drew1 | refine below_set ?_ GE1348.out) | exact HB.out)) hb); have n2_ := Aside0.mk (hbox); have n3_ := Aside0.mk ((by rw [hg]; exact (below_size (by repeat (first | (with_reducible first | exact HB.out | apply below_alloc | apply pw_below_drewN | apply below_drew1 | refine below_set ?_ GE1348.out) | exact HB.out))) : w.heap.size ≤ gb1349)); have n4_ := Aside0.mk ((by rw [hg]; exact (below_size (by repeat (first | (with_reducible first | exact HB.out | apply below_alloc | apply pw_below_drewN | apply below_drew1 | refine below_set ?_ GE1348.out) | exact HB.out))) : w.heap.size ≤ gb1349)); have n5_ := Aside0.mk ((by rw [hg]; exact Nat.ne_of_lt (blk_lt (g := gb1348) (o := .cells #[.int .i64 a0] 67 (0, 0)) (by (with_reducible repeat (first | refine blk_drewN ?_ _ | refine blk_drew ?_ | refine blk_alloc ?_ _)); exact BK1348.out)) : gb1348 ≠ gb1349)); have n6_ := Aside0.mk ((by rw [hg]; exact Nat.ne_of_gt (blk_lt (g := gb1348) (o := .cells #[.int .i64 a0] 67 (0, 0)) (by (with_reducible repeat (first | refine blk_drewN ?_ _ | refine blk_drew ?_ | refine blk_alloc ?_ _)); exact BK1348.out)) : gb1349 ≠ gb1348)); clear BK1348; clear HB; have BK1348 := n0_; have HB := n1_; have BK1349 := n2_; have GW1349 := n3_; have GE1349 := n4_; have NB1348_1349 := n5_; have NB1349_1348 := n6_; clear n0_ n1_ n2_ n3_ n4_ n5_ n6_; clear hb hbox hg; have hnb9 := NB1348_1349.out; have hnc9 := NB1349_1348.out; have hcz10_0 : w8.cell? ⟨gb1348, 0, none⟩ = some (.int .i64 a0) := (blk_cell BK1348.out 0).trans rfl; have hfz10_0 := blk_frozen BK1348.out 0; have hcz11_0 : w8.cell? ⟨gb1349, 0, none⟩ = some (.slice A1 l1.length c1) := (blk_cell BK1349.out 0).trans rfl; have hfz11_0 := blk_frozen BK1349.out 0) | ((with_reducible refine gate_callee (f := 87) rfl ?_); refine goesM_ (some 15) rfl rfl Try.func87 #[.int .i64 a0, .slice A1 l1.length c1] rfl ?_; (with_reducible refine (impl_field_monic.calls k a0 _ _ l1 t1350 _ ?side1 ?side2 A4.out).mono ?_); (case side1 => exact cs ((Kd.C_below HR1.out HB.out))); (case side2 => exact HC1.out); rintro e w12 ⟨v1351, rfl, ho0, hb⟩; refine ⟨_, rfl, ?_⟩; have n0_ := Aside0.mk (Kd.R_lower ho0 (below_size (by repeat (first | (with_reducible first | exact HB.out | apply below_alloc | apply pw_below_drewN | apply below_drew1 | refine below_set ?_ GE1348.out | refine below_set ?_ GE1349.out) | exact HB.out)))); have n1_ := Aside0.mk (blk_below (g := gb1348) (o := .cells #[.int .i64 a0] 67 (0, 0)) (by (with_reducible repeat (first | refine blk_drewN ?_ _ | refine blk_drew ?_ | refine blk_alloc ?_ _)); exact BK1348.out) hb); have n2_ := Aside0.mk (blk_below (g := gb1349) (o := .cells #[.slice A1 l1.length c1] 22 (0, 0)) (by (with_reducible repeat (first | refine blk_drewN ?_ _ | refine blk_drew ?_ | refine blk_alloc ?_ _)); exact BK1349.out) hb); have n3_ := Aside0.mk (below_step (by repeat (first | (with_reducible first | exact HB.out | apply below_alloc | apply pw_below_drewN | apply below_drew1 | refine below_set ?_ GE1348.out | refine below_set ?_ GE1349.out) | exact HB.out)) hb); clear BK1348; clear BK1349; clear HB; have HO1352 := n0_; have BK1348 := n1_; have BK1349 := n2_; have HB := n3_; clear n0_ n1_ n2_ n3_; (try clear hb); (try clear hb2); (try clear hk); (try clear hi); (try clear ho0); obtain ⟨Ao13, co13, eo13⟩ := Kd.R_slice HO1352.out; subst eo13; have hcz14_0 : w12.cell? ⟨gb1349, 0, none⟩ = some (.slice A1 l1.length c1) := (blk_cell BK1349.out 0).trans rfl; have hfz14_0 := blk_frozen BK1349.out 0) | ((with_reducible refine gate_callee (f := 85) rfl ?_); refine goesM_ (some 17) rfl rfl Try.func85 #[.slice Ao13 t1350.length co13] rfl ?_; (with_reducible refine (impl_degree.calls _ _ t1350 t1353 _ ?side1 ?side2 A5.out).mono ?_); (case side1 => refine (Kd.R_reads' (e := 2) (base := w.heap.size) (ok := fun k_ => True) (n := t1350.length) (c := co13) ?_).2.2; exact (by (with_reducible repeat (first | apply Kd.R_alloc | apply Kd.R_drewN | apply Kd.R_drew)); exact (Kd.R_mono (Kd.R_far (p := ⟨gb1349, 0, none⟩) (Kd.R_types HO1352.out BK1349.out (by decide)) (fun _ hk => hk.2) (.slice Ao13 t1350.length co13)) (fun _ h_ => h_.1)))); (case side2 => exact (Kd.R_reads' HO1352.out).2.1); rintro e w' ⟨rfl, ⟨nd, rfl⟩⟩; refine ⟨_, rfl, ?_⟩) | ((with_reducible refine gate_dst (N := 7) rfl ?_); refine box_event ?hg (N := 7) ?hd (cs := #[.int .i64 0]) (t := 2) ?hr ?_; (case hd => rfl); (case hg => rfl); (case hr => first | (go_simp; done) | (go_simp; rfl)); intro gb1354 hg w15 hbox hb; have n0_ := Aside0.mk (Kd.R_below (Kd.R_elderB (by (with_reducible repeat (first | apply Kd.R_alloc | apply Kd.R_drewN | apply Kd.R_drew)); exact (Kd.R_mono (Kd.R_far (p := ⟨gb1349, 0, none⟩) (Kd.R_types HO1352.out BK1349.out (by decide)) (fun _ hk => hk.2) (.slice Ao13 t1350.length co13)) (fun _ h_ => h_.1))) gb1354 (Nat.le_of_eq hg.symm)) hb); have n1_ := Aside0.mk (blk_below (g := gb1348) (o := .cells #[.int .i64 a0] 67 (0, 0)) (by (with_reducible repeat (first | refine blk_drewN ?_ _ | refine blk_drew ?_ | refine blk_alloc ?_ _)); refine blk_far ?_ NB1348_1349.out _; (with_reducible repeat (first | refine blk_drewN ?_ _ | refine blk_drew ?_ | refine blk_alloc ?_ _)); exact BK1348.out) hb); have n2_ := Aside0.mk (blk_below (g := gb1349) (o := .cells #[.slice Ao13 t1350.length co13] 22 (0, 0)) (by (with_reducible repeat (first | refine blk_drewN ?_ _ | refine blk_drew ?_ | refine blk_alloc ?_ _)); refine blk_put (cs := #[.slice A1 l1.length c1]) ?_ 0 _ rfl; (with_reducible repeat (first | refine blk_drewN ?_ _ | refine blk_drew ?_ | refine blk_alloc ?_ _)); exact BK1349.out) hb); have n3_ := Aside0.mk (below_step (by repeat (first | (with_reducible first | exact HB.out | apply below_alloc | apply pw_below_drewN | apply below_drew1 | refine below_set ?_ GE1348.out | refine below_set ?_ GE1349.out) | exact HB.out)) hb); have n4_ := Aside0.mk (hbox); have n5_ := Aside0.mk ((by rw [hg]; exact (below_size (by repeat (first | (with_reducible first | exact HB.out | apply below_alloc | apply pw_below_drewN | apply below_drew1 | refine below_set ?_ GE1348.out | refine below_set ?_ GE1349.out) | exact HB.out))) : w.heap.size ≤ gb1354)); have n6_ := Aside0.mk ((by rw [hg]; exact (below_size (by repeat (first | (with_reducible first | exact HB.out | apply below_alloc | apply pw_below_drewN | apply below_drew1 | refine below_set ?_ GE1348.out | refine below_set ?_ GE1349.out) | exact HB.out))) : w.heap.size ≤ gb1354)); have n7_ := Aside0.mk ((by rw [hg]; exact Nat.ne_of_lt (blk_lt (g := gb1348) (o := .cells #[.int .i64 a0] 67 (0, 0)) (by (with_reducible repeat (first | refine blk_drewN ?_ _ | refine blk_drew ?_ | refine blk_alloc ?_ _)); refine blk_far ?_ NB1348_1349.out _; (with_reducible repeat (first | refine blk_drewN ?_ _ | refine blk_drew ?_ | refine blk_alloc ?_ _)); exact BK1348.out)) : gb1348 ≠ gb1354)); have n8_ := Aside0.mk ((by rw [hg]; exact Nat.ne_of_gt (blk_lt (g := gb1348) (o := .cells #[.int .i64 a0] 67 (0, 0)) (by (with_reducible repeat (first | refine blk_drewN ?_ _ | refine blk_drew ?_ | refine blk_alloc ?_ _)); refine blk_far ?_ NB1348_1349.out _; (with_reducible repeat (first | refine blk_drewN ?_ _ | refine blk_drew ?_ | refine blk_alloc ?_ _)); exact BK1348.out)) : gb1354 ≠ gb1348)); have n9_ := Aside0.mk ((by rw [hg]; exact Nat.ne_of_lt (blk_lt (g := gb1349) (o := .cells #[.slice Ao13 t1350.length co13] 22 (0, 0)) (by (with_reducible repeat (first | refine blk_drewN ?_ _ | refine blk_drew ?_ | refine blk_alloc ?_ _)); refine blk_put (cs := #[.slice A1 l1.length c1]) ?_ 0 _ rfl; (with_reducible repeat (first | refine blk_drewN ?_ _ | refine blk_drew ?_ | refine blk_alloc ?_ _)); exact BK1349.out)) : gb1349 ≠ gb1354)); have n10_ := Aside0.mk ((by rw [hg]; exact Nat.ne_of_gt (blk_lt (g := gb1349) (o := .cells #[.slice Ao13 t1350.length co13] 22 (0, 0)) (by (with_reducible repeat (first | refine blk_drewN ?_ _ | refine blk_drew ?_ | refine blk_alloc ?_ _)); refine blk_put (cs := #[.slice A1 l1.length c1]) ?_ 0 _ rfl; (with_reducible repeat (first | refine blk_drewN ?_ _ | refine blk_drew ?_ | refine blk_alloc ?_ _)); exact BK1349.out)) : gb1354 ≠ gb1349)); clear HO1352; clear BK1348; clear BK1349; clear HB; have HO1352 := n0_; have BK1348 := n1_; have BK1349 := n2_; have HB := n3_; have BK1354 := n4_; have GW1354 := n5_; have GE1354 := n6_; have NB1348_1354 := n7_; have NB1354_1348 := n8_; have NB1349_1354 := n9_; have NB1354_1349 := n10_; clear n0_ n1_ n2_ n3_ n4_ n5_ n6_ n7_ n8_ n9_ n10_; clear hb hbox hg; have hnb16 := NB1354_1348.out; have hnc16 := NB1348_1354.out; have hnb17 := NB1354_1349.out; have hnc17 := NB1349_1354.out; have hcz18_0 : w15.cell? ⟨gb1354, 0, none⟩ = some (.int .i64 0) := (blk_cell BK1354.out 0).trans rfl; have hfz18_0 := blk_frozen BK1354.out 0; have hcz19_0 : w15.cell? ⟨gb1348, 0, none⟩ = some (.int .i64 a0) := (blk_cell BK1348.out 0).trans rfl; have hfz19_0 := blk_frozen BK1348.out 0) | ((with_reducible refine gate_callee (f := 108) rfl ?_); refine goesM_ (some 21) rfl rfl Try.func108 #[.int .i64 a0, .int .i64 t1353] rfl ?_; (with_reducible refine (impl_field_mod.calls a0 t1353 t1355 _ A6.out).mono ?_); rintro e w' ⟨rfl, ⟨nd, rfl⟩⟩; refine ⟨_, rfl, ?_⟩) | ((with_reducible refine gate_dst (N := 22) rfl ?_); refine Kd.R_lit (Kd.int .i64) _ 2 ?hg (N := 22) ?hd (xs := ([t1355] : List Int)) (inner := [.int .i64 t1355]) (ok := fun _ => True) (okp := fun _ => True) ?hr ?hp (fun _ hk => hk) trivial (Below.refl _ _) (Nat.le_refl _) (by simp) ?_; (case hd => rfl); (case hg => rfl); (case hr => first | (go_simp; done) | (go_simp; rfl)); (case hp => exact (Reps.one (show Kd.M (Kd.int .i64) _ _ _ t1355 [.int .i64 t1355] from rfl) (Reps.none _ _))); intro v1357 w20 ho21 hb hg_ hnew_; clear hg_ hnew_; (first | rw [← Ny1356.out] at ho21 | (simp only [Int.reduceToNat] at ho21; rw [← Ny1356.out] at ho21)); have n0_ := Aside0.mk (Kd.R_elder' (by (with_reducible repeat (first | apply Kd.R_alloc | apply Kd.R_drewN | apply Kd.R_drew)); exact (Kd.R_mono (Kd.R_far (p := ⟨gb1354, 0, none⟩) (Kd.R_mono HO1352.out (fun k_ hk => (⟨hk, hk.2⟩ : _ ∧ k_ ≠ gb1354))) (fun _ hk => hk.2) (.int .i64 t1353)) (fun _ h_ => h_.1))) (Kd.R_base ho21) hb); have n1_ := Aside0.mk (Kd.R_lower (Kd.R_newB (Kd.R_new' ho21 (Kd.R_lt (by (with_reducible repeat (first | apply Kd.R_alloc | apply Kd.R_drewN | apply Kd.R_drew)); exact (Kd.R_mono (Kd.R_far (p := ⟨gb1354, 0, none⟩) (Kd.R_mono HO1352.out (fun k_ hk => (⟨hk, hk.2⟩ : _ ∧ k_ ≠ gb1354))) (fun _ hk => hk.2) (.int .i64 t1353)) (fun _ h_ => h_.1))))) (g := gb1354) (o := .cells #[.int .i64 t1353] 2 (0, 0)) (by (with_reducible repeat (first | refine blk_drewN ?_ _ | refine blk_drew ?_ | refine blk_alloc ?_ _)); refine blk_put (cs := #[.int .i64 0]) ?_ 0 _ rfl; (with_reducible repeat (first | refine blk_drewN ?_ _ | refine blk_drew ?_ | refine blk_alloc ?_ _)); exact BK1354.out)) (below_size (by repeat (first | (with_reducible first | exact HB.out | apply below_alloc | apply pw_below_drewN | apply below_drew1 | refine below_set ?_ GE1348.out | refine below_set ?_ GE1349.out | refine below_set ?_ GE1354.out) | exact HB.out)))); have n2_ := Aside0.mk (blk_below (g := gb1348) (o := .cells #[.int .i64 a0] 67 (0, 0)) (by (with_reducible repeat (first | refine blk_drewN ?_ _ | refine blk_drew ?_ | refine blk_alloc ?_ _)); refine blk_far ?_ NB1348_1354.out _; (with_reducible repeat (first | refine blk_drewN ?_ _ | refine blk_drew ?_ | refine blk_alloc ?_ _)); exact BK1348.out) hb); have n3_ := Aside0.mk (blk_below (g := gb1349) (o := .cells #[.slice Ao13 t1350.length co13] 22 (0, 0)) (by (with_reducible repeat (first | refine blk_drewN ?_ _ | refine blk_drew ?_ | refine blk_alloc ?_ _)); refine blk_far ?_ NB1349_1354.out _; (with_reducible repeat (first | refine blk_drewN ?_ _ | refine blk_drew ?_ | refine blk_alloc ?_ _)); exact BK1349.out) hb); have n4_ := Aside0.mk (blk_below (g := gb1354) (o := .cells #[.int .i64 t1353] 2 (0, 0)) (by (with_reducible repeat (first | refine blk_drewN ?_ _ | refine blk_drew ?_ | refine blk_alloc ?_ _)); refine blk_put (cs := #[.int .i64 0]) ?_ 0 _ rfl; (with_reducible repeat (first | refine blk_drewN ?_ _ | refine blk_drew ?_ | refine blk_alloc ?_ _)); exact BK1354.out) hb); have n5_ := Aside0.mk (below_step (by repeat (first | (with_reducible first | exact HB.out | apply below_alloc | apply pw_below_drewN | apply below_drew1 | refine below_set ?_ GE1348.out | refine below_set ?_ GE1349.out | refine below_set ?_ GE1354.out) | exact HB.out)) hb); clear HO1352; clear BK1348; clear BK1349; clear BK1354; clear HB; have HO1352 := n0_; have HO1358 := n1_; have BK1348 := n2_; have BK1349 := n3_; have BK1354 := n4_; have HB := n5_; clear n0_ n1_ n2_ n3_ n4_ n5_; clear hb ho21))
  go_loopg [9, 10] k (fun kq v9 v10 w' => ∃ (x9_1 : List Int) (x10_1 : Int), v10 = .int .i64 x10_1 ∧ Aside0 (impl_field_powerSums.l0 kq a2 x9_1 x10_1 a0 t1350 t1353 = some r) ∧ Aside0 (kq ≤ k) ∧ Aside0 (Kd.R (Kd.int .i64) 2 w' w.heap.size (fun k_ => some k_ ≠ ((.slice Ao13 t1350.length co13) : Value).ownBlock ∧ k_ ≠ gb1354) v9 x9_1) ∧ Aside0 (Kd.R (Kd.int .i64) 2 w' w.heap.size (fun k_ => some k_ ≠ (v9 : Value).ownBlock ∧ k_ ≠ gb1354) (.slice Ao13 t1350.length co13) t1350) ∧ Aside0 (w'.heap[gb1348]? = some (.cells #[.int .i64 a0] 67 (0, 0))) ∧ Aside0 (w'.heap[gb1349]? = some (.cells #[(.slice Ao13 t1350.length co13)] 22 (0, 0))) ∧ Aside0 (w'.heap[gb1354]? = some (.cells #[.int .i64 t1353] 2 (0, 0))) ∧ Aside0 (Below w.heap.size w w'))
  case atStart => exact ⟨(y1356), (1), ea_, H', ⟨Nat.le_refl _⟩, ⟨by (with_reducible repeat (first | apply Kd.R_alloc | apply Kd.R_drewN | apply Kd.R_drew)); exact Kd.R_mono HO1358.out (fun _ hk => ⟨hk.1.2, hk.2⟩)⟩, ⟨by (with_reducible repeat (first | apply Kd.R_alloc | apply Kd.R_drewN | apply Kd.R_drew)); exact Kd.R_mono HO1352.out (fun _ hk => ⟨hk.2, hk.1.2⟩)⟩, ⟨by (with_reducible repeat (first | refine blk_drewN ?_ _ | refine blk_drew ?_ | refine blk_alloc ?_ _)); exact BK1348.out⟩, ⟨by (with_reducible repeat (first | refine blk_drewN ?_ _ | refine blk_drew ?_ | refine blk_alloc ?_ _)); exact BK1349.out⟩, ⟨by (with_reducible repeat (first | refine blk_drewN ?_ _ | refine blk_drew ?_ | refine blk_alloc ?_ _)); exact BK1354.out⟩, ⟨by repeat (first | (with_reducible first | exact HB.out | apply below_alloc | apply pw_below_drewN | apply below_drew1 | refine below_set ?_ GE1348.out | refine below_set ?_ GE1349.out | refine below_set ?_ GE1354.out) | exact HB.out)⟩⟩
  case round =>
    clear H'
    try clear c1
    try clear p2
    try clear c8
    try clear c9
    try clear c10
    try clear c16
    try clear c17
    try clear hcz10_0
    try clear hcz11_0
    try clear hcz14_0
    try clear hcz18_0
    try clear hcz19_0
    try clear hfz10_0
    try clear hfz11_0
    try clear hfz14_0
    try clear hfz18_0
    try clear hfz19_0
    obtain ⟨x9_1, x10_1, rfl, HA, HK1, HO_9, HO_1350000, BK1348, BK1349, BK1354, HB⟩ := hrel
    cases gk with
    | zero => exact absurd HA.out (by simp [impl_field_powerSums.l0])
    | succ k1 =>
      have H := HA.out
      clear HA
      simp only [impl_field_powerSums.l0] at H
      by_cases c22 : x10_1 ≤ a2
      · rw [if_pos c22] at H
        have c22b0 : decide (x10_1 ≤ a2) = true := decide_eq_true c22
        clear c22
        replace H := Option.bind_eq_some_iff.mp H
        obtain ⟨t1359, A230, H⟩ := H
        have A23 := Aside0.mk A230
        clear A230
        replace H := Option.bind_eq_some_iff.mp H
        obtain ⟨t1360, A240, H⟩ := H
        have A24 := Aside0.mk A240
        clear A240
        replace H := Option.bind_eq_some_iff.mp H
        obtain ⟨t1361, A250, H⟩ := H
        have A25 := Aside0.mk A250
        clear A250
        have H' := Aside0.mk H
        clear H
        try go_wp2
        have n0_ := Aside0.mk (Kd.R_drew HO_9.out)
        have n1_ := Aside0.mk (Kd.R_drew HO_1350000.out)
        have n2_ := Aside0.mk (blk_drew BK1348.out)
        have n3_ := Aside0.mk (blk_drew BK1349.out)
        have n4_ := Aside0.mk (blk_drew BK1354.out)
        have n5_ := Aside0.mk (below_drew1 HB.out)
        clear HO_9
        clear HO_1350000
        clear BK1348
        clear BK1349
        clear BK1354
        clear HB
        have HO_9 := n0_
        have HO_1350000 := n1_
        have BK1348 := n2_
        have BK1349 := n3_
        have BK1354 := n4_
        have HB := n5_
        clear n0_ n1_ n2_ n3_ n4_ n5_
        refine start_ (n := 9) (S := fun w' => w'.cell? ⟨gb1348, 0, none⟩ = some (.int .i64 a0)) (ds := []) #[false, false, false, false, false, false, false, false, false] (by kernel_rfl) rfl rfl ((blk_cell BK1348.out 0).trans rfl) (fun hHeld => ?_); refine with_tabW impl_field_powerSums.tab8 impl_field_powerSums.bits8 (fun HT_ HW_ => ?_)
        generalize wr.drew = w26 at HO_9 HO_1350000 BK1348 BK1349 BK1354 HB hHeld ⊢
        refine pure_ (i := 2) (N := some 30) (v := ?_) (a' := ?_) #[false, false, true, false, false, false, false, false, false] rfl rfl (any_of HT_.out (by kernel_rfl)) (fun _ _ _ h => h) (Or.inl ⟨by rfl, ?_⟩) ?_ ?_
        rotate_left
        · intro w'
          go_simp
          with_reducible rfl
        rotate_left
        · simp only [Act.put, List.setIfInBounds_toArray, List.set_cons_zero, List.set_cons_succ, i64_w, i32_w]
          rfl
        refine pure_ (i := 4) (N := some 32) (v := ?_) (a' := ?_) #[false, false, true, false, true, false, false, false, false] rfl rfl (any_of HT_.out (by kernel_rfl)) (fun _ _ _ h => h) (Or.inl ⟨by rfl, ?_⟩) ?_ ?_
        rotate_left
        · intro w'
          go_simp
          with_reducible rfl
        rotate_left
        · simp only [Act.put, List.setIfInBounds_toArray, List.set_cons_zero, List.set_cons_succ, i64_w, i32_w]
          rfl
        refine pure_ (i := 5) (N := some 33) (v := ?_) (a' := ?_) #[false, false, true, false, true, true, false, false, false] rfl rfl (any_of HT_.out (by kernel_rfl)) (fun _ _ _ h => h) (Or.inl ⟨by rfl, ?_⟩) ?_ ?_
        rotate_left
        · intro w'
          go_simp
          with_reducible rfl
        rotate_left
        · simp only [Act.put, List.setIfInBounds_toArray, List.set_cons_zero, List.set_cons_succ, i64_w, i32_w]
          rfl
        refine take_ (i := 0) (N := some 28) (v := ?_) (a' := ?_) #[true, false, true, false, true, true, false, false, false] rfl rfl (take_ofW HT_.out HW_.out (by kernel_rfl)) (fun _ _ _ h => h) (Or.inl ⟨by rfl, ?_⟩) hHeld ?_ ?_
        rotate_left
        · intro w' s0
          go_simp
          with_reducible rfl
        rotate_left
        · simp only [Act.put, List.setIfInBounds_toArray, List.set_cons_zero, List.set_cons_succ, i64_w, i32_w]
          rfl
        refine take_ (i := 1) (N := some 29) (v := ?_) (a' := ?_) #[true, true, true, false, true, true, false, false, false] rfl rfl (take_ofW HT_.out HW_.out (by kernel_rfl)) (fun _ _ _ h => h) (Or.inl ⟨by rfl, ?_⟩) hHeld ?_ ?_
        rotate_left
        · intro w' s0
          go_simp
          with_reducible rfl
        rotate_left
        · simp only [Act.put, List.setIfInBounds_toArray, List.set_cons_zero, List.set_cons_succ, i64_w, i32_w]
          rfl
        refine one_ (i := 3) (N := some 31) #[true, true, true, true, true, true, false, false, false] rfl rfl (one_of HT_.out (by kernel_rfl)) (by decide) (fun K hK => ?_)
        refine goes_ Try.func108 (by kernel_rfl) rfl #[.int .i64 a0, .int .i64 x10_1] (by rfl) rfl rfl (by (try simp only [List.map_toArray, List.map_cons, List.map_nil]); first | done | rfl | (simp only [List.length_drop, List.length_take]; rfl)) ?_
        with_reducible refine (impl_field_mod.calls a0 x10_1 t1359 _ A23.out).mono ?_
        rintro e w' ⟨rfl, ⟨nd, rfl⟩⟩
        refine ⟨_, rfl, ?_⟩
        refine hK.out _ _ ((blk_cell BK1348.out 0).trans rfl) (fun hHeld => ?_)
        clear hK K
        refine norm_ (a' := ?_) ?_ ?_
        rotate_left
        · show Act.put _ (some 31) _ = _
          simp only [Act.put, List.setIfInBounds_toArray, List.set_cons_zero, List.set_cons_succ, i64_w, i32_w]
          rfl
        refine one_ (i := 6) (N := some 34) #[true, true, true, true, true, true, true, false, false] rfl rfl (one_of HT_.out (by kernel_rfl)) (by decide) (fun K hK => ?_)
        refine goesV_ Try.func126 (by kernel_rfl) rfl #[.int .i64 x10_1] #[.int .i64 x10_1, .pointer (some ⟨gb1354, 0, none⟩), .pointer (some ⟨gb1348, 0, none⟩), .pointer (some ⟨gb1349, 0, none⟩)] (by rfl) rfl rfl rfl (by (try simp only [List.map_toArray, List.map_cons, List.map_nil]); first | done | rfl) (by simp) ?_
        with_reducible refine (impl_field_powerSums_c1.calls a0 Ao13 co13 t1350 t1353 x10_1 t1360 _ ?side1 ?side2 A24.out ?cl0 ?cl1 ?cl2).mono ?_
        (case cl0 => exact (blk_cell BK1354.out 0).trans rfl)
        (case cl1 => exact (blk_cell BK1348.out 0).trans rfl)
        (case cl2 => exact (blk_cell BK1349.out 0).trans rfl)
        (case side1 => exact cs ((Kd.R_reads' HO_1350000.out).2.2))
        (case side2 => exact (Kd.R_reads' HO_1350000.out).2.1)
        rintro e w' ⟨rfl, ⟨nd, rfl⟩⟩
        refine ⟨_, rfl, ?_⟩
        refine hK.out _ _ ((blk_cell BK1348.out 0).trans rfl) (fun hHeld => ?_)
        clear hK K
        refine norm_ (a' := ?_) ?_ ?_
        rotate_left
        · show Act.put _ (some 34) _ = _
          simp only [Act.put, List.setIfInBounds_toArray, List.set_cons_zero, List.set_cons_succ, i64_w, i32_w]
          rfl
        refine one_ (i := 7) (N := some 35) #[true, true, true, true, true, true, true, true, false] rfl rfl (one_of HT_.out (by kernel_rfl)) (by decide) (fun K hK => ?_)
        refine goes_ Try.func123 (by kernel_rfl) rfl #[.int .i64 a0, .int .i64 t1359, .int .i64 t1360] (by rfl) rfl rfl (by (try simp only [List.map_toArray, List.map_cons, List.map_nil]); first | done | rfl | (simp only [List.length_drop, List.length_take]; rfl)) ?_
        with_reducible refine (impl_field_mul.calls a0 t1359 t1360 t1361 _ A25.out).mono ?_
        rintro e w' ⟨rfl, ⟨nd, rfl⟩⟩
        refine ⟨_, rfl, ?_⟩
        refine hK.out _ _ ((blk_cell BK1348.out 0).trans rfl) (fun hHeld => ?_)
        clear hK K
        refine norm_ (a' := ?_) ?_ ?_
        rotate_left
        · show Act.put _ (some 35) _ = _
          simp only [Act.put, List.setIfInBounds_toArray, List.set_cons_zero, List.set_cons_succ, i64_w, i32_w]
          rfl
        refine pure_ (i := 8) (N := some 11) (v := ?_) (a' := ?_) #[true, true, true, true, true, true, true, true, true] rfl rfl (any_of HT_.out (by kernel_rfl)) (fun _ _ _ h => h) (Or.inl ⟨by rfl, ?_⟩) ?_ ?_
        rotate_left
        · intro w'
          go_simp
          with_reducible rfl
        rotate_left
        · simp only [Act.put, List.setIfInBounds_toArray, List.set_cons_zero, List.set_cons_succ, i64_w, i32_w]
          rfl
        refine done_ (done_of HT_.out (by kernel_rfl)) ?_
        try go_wp2
        go_loopg [11, 12] k1 (fun kq v11 v12 w' => ∃ (x11_2 : Int) (x12_2 : Int), v11 = .int .i64 x11_2 ∧ v12 = .int .i64 x12_2 ∧ Aside0 (impl_field_powerSums.l1 kq a2 x9_1 x10_1 x11_2 x12_2 a0 t1350 t1353 = some r) ∧ Aside0 (kq ≤ k1) ∧ Aside0 (Kd.R (Kd.int .i64) 2 w' w.heap.size (fun k_ => some k_ ≠ ((.slice Ao13 t1350.length co13) : Value).ownBlock ∧ k_ ≠ gb1354) u9 x9_1) ∧ Aside0 (Kd.R (Kd.int .i64) 2 w' w.heap.size (fun k_ => some k_ ≠ (u9 : Value).ownBlock ∧ k_ ≠ gb1354) (.slice Ao13 t1350.length co13) t1350) ∧ Aside0 (w'.heap[gb1348]? = some (.cells #[.int .i64 a0] 67 (0, 0))) ∧ Aside0 (w'.heap[gb1349]? = some (.cells #[(.slice Ao13 t1350.length co13)] 22 (0, 0))) ∧ Aside0 (w'.heap[gb1354]? = some (.cells #[.int .i64 t1353] 2 (0, 0))) ∧ Aside0 (Below w.heap.size w w'))
        case atStart => exact ⟨(t1361), (1), ea_, ea_, H', ⟨Nat.le_refl _⟩, ⟨by (with_reducible repeat (first | apply Kd.R_alloc | apply Kd.R_drewN | apply Kd.R_drew)); exact HO_9.out⟩, ⟨by (with_reducible repeat (first | apply Kd.R_alloc | apply Kd.R_drewN | apply Kd.R_drew)); exact HO_1350000.out⟩, ⟨by (with_reducible repeat (first | refine blk_drewN ?_ _ | refine blk_drew ?_ | refine blk_alloc ?_ _)); exact BK1348.out⟩, ⟨by (with_reducible repeat (first | refine blk_drewN ?_ _ | refine blk_drew ?_ | refine blk_alloc ?_ _)); exact BK1349.out⟩, ⟨by (with_reducible repeat (first | refine blk_drewN ?_ _ | refine blk_drew ?_ | refine blk_alloc ?_ _)); exact BK1354.out⟩, ⟨by repeat (first | (with_reducible first | exact HB.out | apply below_alloc | apply pw_below_drewN | apply below_drew1 | refine below_set ?_ GE1348.out | refine below_set ?_ GE1349.out | refine below_set ?_ GE1354.out) | exact HB.out)⟩⟩
        case round =>
          clear H'
          try clear c1
          try clear c2
          try clear p2
          try clear c8
          try clear c9
          try clear c10
          try clear c12
          try clear c16
          try clear c17
          try clear c22
          try clear c22b0
          try clear hcz10_0
          try clear hcz11_0
          try clear hcz14_0
          try clear hcz18_0
          try clear hcz19_0
          try clear hfz10_0
          try clear hfz11_0
          try clear hfz14_0
          try clear hfz18_0
          try clear hfz19_0
          try clear p2
          obtain ⟨x11_2, x12_2, rfl, rfl, HA, HK2, HO_9, HO_1350000, BK1348, BK1349, BK1354, HB⟩ := hrel
          cases gk with
          | zero => exact absurd HA.out (by simp [impl_field_powerSums.l1])
          | succ k2 =>
            have H := HA.out
            clear HA
            simp only [impl_field_powerSums.l1] at H
            by_cases c27 : x12_2 < x10_1
            · rw [if_pos c27] at H
              have c27b0 : decide (x12_2 < x10_1) = true := decide_eq_true c27
              clear c27
              replace H := Option.bind_eq_some_iff.mp H
              obtain ⟨t1362, A280, H⟩ := H
              have A28 := Aside0.mk A280
              clear A280
              obtain ⟨ji29, hji29⟩ : ∃ j_ : Int, (wrap64 (x10_1 - x12_2)) = j_ := ⟨_, rfl⟩
              replace H : (if 0 ≤ (ji29) then (if (ji29) < (x9_1.length : Int) then ((impl_field_mod.f a0 (wrap64 (x11_2 + (wrap64 (t1362 * (rd x9_1 (ji29))))))).bind fun t1364 => (impl_field_powerSums.l1 k2 a2 x9_1 x10_1 t1364 (wrap64 (x12_2 + 1)) a0 t1350 t1353)) else (none)) else (none)) = some r := by first | (rw [hji29] at H; exact H) | (simp only [hji29] at H ⊢; exact H)
              (try rw [hji29] at A28)
              have hji29w : (IntKind.i64.wrap (x10_1 - x12_2)) = ji29 := (i64_w _).trans hji29
              by_cases c30 : 0 ≤ (ji29)
              · rw [if_pos c30] at H
                have c30b0 : decide (0 ≤ (ji29)) = true := decide_eq_true c30
                clear c30
                by_cases c31 : (ji29) < (x9_1.length : Int)
                · rw [if_pos c31] at H
                  have c31b0 : decide ((ji29) < (x9_1.length : Int)) = true := decide_eq_true c31
                  clear c31
                  replace H := Option.bind_eq_some_iff.mp H
                  obtain ⟨t1364, A320, H⟩ := H
                  have A32 := Aside0.mk A320
                  clear A320
                  have H' := Aside0.mk H
                  clear H
                  try go_wp2
                  have n0_ := Aside0.mk (Kd.R_drew HO_9.out)
                  have n1_ := Aside0.mk (Kd.R_drew HO_1350000.out)
                  have n2_ := Aside0.mk (blk_drew BK1348.out)
                  have n3_ := Aside0.mk (blk_drew BK1349.out)
                  have n4_ := Aside0.mk (blk_drew BK1354.out)
                  have n5_ := Aside0.mk (below_drew1 HB.out)
                  clear HO_9
                  clear HO_1350000
                  clear BK1348
                  clear BK1349
                  clear BK1354
                  clear HB
                  have HO_9 := n0_
                  have HO_1350000 := n1_
                  have BK1348 := n2_
                  have BK1349 := n3_
                  have BK1354 := n4_
                  have HB := n5_
                  clear n0_ n1_ n2_ n3_ n4_ n5_
                  obtain ⟨Ao34, co34, eo34⟩ := Kd.R_slice HO_9.out
                  (first | subst eo34 | (injection eo34 with f1_ f2_ f3_; have f4_ := f1_.symm; have f5_ := f3_.symm; clear f1_ f2_ f3_; subst f4_; subst f5_))
                  have p1363 : 0 ≤ ((ji29) : Int) := of_decide_eq_true (by first | (with_reducible assumption) | assumption)
                  have q1363 : (ji29) < (x9_1.length : Int) := of_decide_eq_true (by first | (with_reducible assumption) | assumption)
                  obtain ⟨ad1363, e1363, hx1363_0⟩ := Kd.at_int (Kd.R_reads' HO_9.out).2.2 (ji29) p1363 q1363
                  cases e1363
                  replace p1363 := eq_true p1363
                  replace q1363 := eq_true q1363
                  refine start_ (n := 15) (S := fun w' => w'.cell? ⟨gb1348, 0, none⟩ = some (.int .i64 a0) ∧ w'.cell? (ad1363.add ((ji29)).toNat) = some (.int .i64 (rd x9_1 (ji29)))) (ds := []) #[false, false, false, false, false, false, false, false, false, false, false, false, false, false, false] (by kernel_rfl) rfl rfl ⟨(blk_cell BK1348.out 0).trans rfl, hx1363_0⟩ (fun hHeld => ?_); refine with_tabW impl_field_powerSums.tab12 impl_field_powerSums.bits12 (fun HT_ HW_ => ?_)
                  generalize wr.drew = w33 at HO_9 HO_1350000 BK1348 BK1349 BK1354 HB hx1363_0 hHeld ⊢
                  refine pure_ (i := 1) (N := some 42) (v := ?_) (a' := ?_) #[false, true, false, false, false, false, false, false, false, false, false, false, false, false, false] rfl rfl (any_of HT_.out (by kernel_rfl)) (fun _ _ _ h => h) (Or.inl ⟨by rfl, ?_⟩) ?_ ?_
                  rotate_left
                  · intro w'
                    go_simp
                    with_reducible rfl
                  rotate_left
                  · simp only [Act.put, List.setIfInBounds_toArray, List.set_cons_zero, List.set_cons_succ, i64_w, i32_w]
                    rfl
                  refine pure_ (i := 2) (N := some 43) (v := ?_) (a' := ?_) #[false, true, true, false, false, false, false, false, false, false, false, false, false, false, false] rfl rfl (any_of HT_.out (by kernel_rfl)) (fun _ _ _ h => h) (Or.inl ⟨by rfl, ?_⟩) ?_ ?_
                  rotate_left
                  · intro w'
                    go_simp
                    with_reducible rfl
                  rotate_left
                  · simp only [Act.put, List.setIfInBounds_toArray, List.set_cons_zero, List.set_cons_succ, i64_w, i32_w]
                    rfl
                  refine pure_ (i := 3) (N := some 44) (v := ?_) (a' := ?_) #[false, true, true, true, false, false, false, false, false, false, false, false, false, false, false] rfl rfl (any_of HT_.out (by kernel_rfl)) (fun _ _ _ h => h) (Or.inl ⟨by rfl, ?_⟩) ?_ ?_
                  rotate_left
                  · intro w'
                    go_simp
                    with_reducible rfl
                  rotate_left
                  · simp only [Act.put, List.setIfInBounds_toArray, List.set_cons_zero, List.set_cons_succ, i64_w, i32_w]
                    rfl
                  refine pure_ (i := 5) (N := some 46) (v := ?_) (a' := ?_) #[false, true, true, true, false, true, false, false, false, false, false, false, false, false, false] rfl rfl (any_of HT_.out (by kernel_rfl)) (fun _ _ _ h => h) (Or.inl ⟨by rfl, ?_⟩) ?_ ?_
                  rotate_left
                  · intro w'
                    go_simp
                    with_reducible rfl
                  rotate_left
                  · simp only [Act.put, List.setIfInBounds_toArray, List.set_cons_zero, List.set_cons_succ, i64_w, i32_w]
                    rfl
                  refine pure_ (i := 6) (N := some 47) (v := ?_) (a' := ?_) #[false, true, true, true, false, true, true, false, false, false, false, false, false, false, false] rfl rfl (any_of HT_.out (by kernel_rfl)) (fun _ _ _ h => h) (Or.inl ⟨by rfl, ?_⟩) ?_ ?_
                  rotate_left
                  · intro w'
                    go_simp
                    with_reducible rfl
                  rotate_left
                  · simp only [Act.put, List.setIfInBounds_toArray, List.set_cons_zero, List.set_cons_succ, i64_w, i32_w]
                    rfl
                  refine pure_ (i := 7) (N := some 48) (v := ?_) (a' := ?_) #[false, true, true, true, false, true, true, true, false, false, false, false, false, false, false] rfl rfl (any_of HT_.out (by kernel_rfl)) (fun _ _ _ h => h) (Or.inl ⟨by rfl, ?_⟩) ?_ ?_
                  rotate_left
                  · intro w'
                    go_simp
                    with_reducible rfl
                  rotate_left
                  · simp only [Act.put, List.setIfInBounds_toArray, List.set_cons_zero, List.set_cons_succ, i64_w, i32_w]
                    rfl
                  refine pure_ (i := 8) (N := some 49) (v := ?_) (a' := ?_) #[false, true, true, true, false, true, true, true, true, false, false, false, false, false, false] rfl rfl (any_of HT_.out (by kernel_rfl)) (fun _ _ _ h => h) (Or.inl ⟨by rfl, ?_⟩) ?_ ?_
                  rotate_left
                  · intro w'
                    go_simp
                    with_reducible rfl
                  rotate_left
                  · simp only [Act.put, List.setIfInBounds_toArray, List.set_cons_zero, List.set_cons_succ, i64_w, i32_w]
                    rfl
                  refine pure_ (i := 9) (N := some 50) (v := ?_) (a' := ?_) #[false, true, true, true, false, true, true, true, true, true, false, false, false, false, false] rfl rfl (any_of HT_.out (by kernel_rfl)) (fun _ _ _ h => h) (Or.inl ⟨by rfl, ?_⟩) ?_ ?_
                  rotate_left
                  · intro w'
                    go_simp
                    with_reducible rfl
                  rotate_left
                  · simp only [Act.put, List.setIfInBounds_toArray, List.set_cons_zero, List.set_cons_succ, i64_w, i32_w]
                    rfl
                  refine take_ (i := 0) (N := some 41) (v := ?_) (a' := ?_) #[true, true, true, true, false, true, true, true, true, true, false, false, false, false, false] rfl rfl (take_ofW HT_.out HW_.out (by kernel_rfl)) (fun _ _ _ h => h) (Or.inl ⟨by rfl, ?_⟩) hHeld ?_ ?_
                  rotate_left
                  · rintro w' ⟨s0, s1⟩
                    go_simp
                    with_reducible rfl
                  rotate_left
                  · simp only [Act.put, List.setIfInBounds_toArray, List.set_cons_zero, List.set_cons_succ, i64_w, i32_w]
                    rfl
                  refine take_ (i := 10) (N := some 51) (v := ?_) (a' := ?_) #[true, true, true, true, false, true, true, true, true, true, true, false, false, false, false] rfl rfl (take_ofW HT_.out HW_.out (by kernel_rfl)) (fun _ _ _ h => h) (Or.inl ⟨by rfl, ?_⟩) hHeld ?_ ?_
                  rotate_left
                  · rintro w' ⟨s0, s1⟩
                    go_simp
                    with_reducible rfl
                  rotate_left
                  · simp only [Act.put, List.setIfInBounds_toArray, List.set_cons_zero, List.set_cons_succ, i64_w, i32_w]
                    rfl
                  refine one_ (i := 4) (N := some 45) #[true, true, true, true, true, true, true, true, true, true, true, false, false, false, false] rfl rfl (one_of HT_.out (by kernel_rfl)) (by decide) (fun K hK => ?_)
                  refine goesV_ Try.func126 (by kernel_rfl) rfl #[.int .i64 x12_2] #[.int .i64 x12_2, .pointer (some ⟨gb1354, 0, none⟩), .pointer (some ⟨gb1348, 0, none⟩), .pointer (some ⟨gb1349, 0, none⟩)] (by rfl) rfl rfl rfl (by (try simp only [List.map_toArray, List.map_cons, List.map_nil]); first | done | rfl) (by simp) ?_
                  with_reducible refine (impl_field_powerSums_c1.calls a0 Ao13 co13 t1350 t1353 x12_2 t1362 _ ?side1 ?side2 A28.out ?cl0 ?cl1 ?cl2).mono ?_
                  (case cl0 => exact (blk_cell BK1354.out 0).trans rfl)
                  (case cl1 => exact (blk_cell BK1348.out 0).trans rfl)
                  (case cl2 => exact (blk_cell BK1349.out 0).trans rfl)
                  (case side1 => exact cs ((Kd.R_reads' HO_1350000.out).2.2))
                  (case side2 => exact (Kd.R_reads' HO_1350000.out).2.1)
                  rintro e w' ⟨rfl, ⟨nd, rfl⟩⟩
                  refine ⟨_, rfl, ?_⟩
                  refine hK.out _ _ ⟨(blk_cell BK1348.out 0).trans rfl, hHeld.2⟩ (fun hHeld => ?_)
                  clear hK K
                  refine norm_ (a' := ?_) ?_ ?_
                  rotate_left
                  · show Act.put _ (some 45) _ = _
                    simp only [Act.put, List.setIfInBounds_toArray, List.set_cons_zero, List.set_cons_succ, i64_w, i32_w]
                    rfl
                  refine pure_ (i := 11) (N := some 52) (v := ?_) (a' := ?_) #[true, true, true, true, true, true, true, true, true, true, true, true, false, false, false] rfl rfl (any_of HT_.out (by kernel_rfl)) (fun _ _ _ h => h) (Or.inl ⟨by rfl, ?_⟩) ?_ ?_
                  rotate_left
                  · intro w'
                    go_simp
                    with_reducible rfl
                  rotate_left
                  · simp only [Act.put, List.setIfInBounds_toArray, List.set_cons_zero, List.set_cons_succ, i64_w, i32_w]
                    rfl
                  refine pure_ (i := 12) (N := some 53) (v := ?_) (a' := ?_) #[true, true, true, true, true, true, true, true, true, true, true, true, true, false, false] rfl rfl (any_of HT_.out (by kernel_rfl)) (fun _ _ _ h => h) (Or.inl ⟨by rfl, ?_⟩) ?_ ?_
                  rotate_left
                  · intro w'
                    go_simp
                    with_reducible rfl
                  rotate_left
                  · simp only [Act.put, List.setIfInBounds_toArray, List.set_cons_zero, List.set_cons_succ, i64_w, i32_w]
                    rfl
                  refine one_ (i := 13) (N := some 54) #[true, true, true, true, true, true, true, true, true, true, true, true, true, true, false] rfl rfl (one_of HT_.out (by kernel_rfl)) (by decide) (fun K hK => ?_)
                  refine goes_ Try.func108 (by kernel_rfl) rfl #[.int .i64 a0, .int .i64 (wrap64 (x11_2 + (wrap64 (t1362 * (rd x9_1 (ji29))))))] (by rfl) rfl rfl (by (try simp only [List.map_toArray, List.map_cons, List.map_nil]); first | done | (simp only [hji29]; rfl) | rfl | (simp only [List.length_drop, List.length_take]; rfl)) ?_
                  with_reducible refine (impl_field_mod.calls a0 (wrap64 (x11_2 + (wrap64 (t1362 * (rd x9_1 (ji29)))))) t1364 _ A32.out).mono ?_
                  rintro e w' ⟨rfl, ⟨nd, rfl⟩⟩
                  refine ⟨_, rfl, ?_⟩
                  refine hK.out _ _ ⟨(blk_cell BK1348.out 0).trans rfl, hHeld.2⟩ (fun hHeld => ?_)
                  clear hK K
                  refine norm_ (a' := ?_) ?_ ?_
                  rotate_left
                  · show Act.put _ (some 54) _ = _
                    simp only [Act.put, List.setIfInBounds_toArray, List.set_cons_zero, List.set_cons_succ, i64_w, i32_w]
                    rfl
                  refine pure_ (i := 14) (N := some 11) (v := ?_) (a' := ?_) #[true, true, true, true, true, true, true, true, true, true, true, true, true, true, true] rfl rfl (any_of HT_.out (by kernel_rfl)) (fun _ _ _ h => h) (Or.inl ⟨by rfl, ?_⟩) ?_ ?_
                  rotate_left
                  · intro w'
                    go_simp
                    with_reducible rfl
                  rotate_left
                  · simp only [Act.put, List.setIfInBounds_toArray, List.set_cons_zero, List.set_cons_succ, i64_w, i32_w]
                    rfl
                  refine done_ (done_of HT_.out (by kernel_rfl)) ?_
                  try go_wp2
                  go_roundg k2
                  case measure => have := HK1.out; have := HK2.out; omega
                  case rel => exact ⟨(t1364), (wrap64 (x12_2 + 1)), ea_, ea_, H', ⟨by have := HK1.out; have := HK2.out; omega⟩, ⟨by (with_reducible repeat (first | apply Kd.R_alloc | apply Kd.R_drewN | apply Kd.R_drew)); exact HO_9.out⟩, ⟨by (with_reducible repeat (first | apply Kd.R_alloc | apply Kd.R_drewN | apply Kd.R_drew)); exact HO_1350000.out⟩, ⟨by (with_reducible repeat (first | refine blk_drewN ?_ _ | refine blk_drew ?_ | refine blk_alloc ?_ _)); exact BK1348.out⟩, ⟨by (with_reducible repeat (first | refine blk_drewN ?_ _ | refine blk_drew ?_ | refine blk_alloc ?_ _)); exact BK1349.out⟩, ⟨by (with_reducible repeat (first | refine blk_drewN ?_ _ | refine blk_drew ?_ | refine blk_alloc ?_ _)); exact BK1354.out⟩, ⟨by repeat (first | (with_reducible first | exact HB.out | apply below_alloc | apply pw_below_drewN | apply below_drew1 | refine below_set ?_ GE1348.out | refine below_set ?_ GE1349.out | refine below_set ?_ GE1354.out) | exact HB.out)⟩⟩
                · rw [if_neg c31] at H
                  exact absurd H (by simp)
              · rw [if_neg c30] at H
                exact absurd H (by simp)
            · rw [if_neg c27] at H
              have c27b0 : decide (x12_2 < x10_1) = false := decide_eq_false c27
              clear c27
              by_cases c35 : x9_1.length < 17592186044416
              · rw [if_pos c35] at H
                have LMc35 := Aside0.mk c35
                clear c35
                obtain ⟨y1365, hy1365⟩ : ∃ y_ : List Int, y_ = (x9_1 ++ [x11_2]) := ⟨_, rfl⟩
                replace H : (impl_field_powerSums.l0 k2 a2 y1365 (wrap64 (x10_1 + 1)) a0 t1350 t1353) = some r := by first | (rw [hy1365]; with_reducible exact H) | (have H2_ := (Option.bind_some _ _).symm.trans H; rw [hy1365]; with_reducible exact H2_) | (have H2_ := (Option.bind_some _ _).symm.trans H; with_reducible exact H2_) | with_reducible exact H | (rw [hy1365]; exact H) | exact H
                have Ny1365 := Aside0.mk hy1365
                clear hy1365
                have H' := Aside0.mk H
                clear H
                go_wp2_with (first | ((with_reducible refine gate_builtin (b := .append) (xs := #[.tmp 55, .tmp 57]) rfl ?_); at_builtin; refine Kd.R_append (Kd.int .i64) (w0 := w) w.heap.size rfl (.tmp 55) (.tmp 57) 22 2 (.int .i64 0) 8 rfl Try.underlying22 info2 rfl (by decide) (by omega) u9 x9_1 x11_2 [.int .i64 x11_2] (fun k_ => some k_ ≠ (.slice Ao13 t1350.length co13 : Value).ownBlock ∧ k_ ≠ gb1354) (fun _ => False) rfl rfl ?aP (fun _ hk => hk.elim) ?aF ?aO ?aB ?aS ?aL ?_; (case aP => exact rfl); (case aB => exact (by repeat (first | (with_reducible first | exact HB.out | apply below_alloc | apply pw_below_drewN | apply below_drew1 | refine below_set ?_ GE1348.out | refine below_set ?_ GE1349.out | refine below_set ?_ GE1354.out) | exact HB.out))); (case aF => exact (fun k_ hk => ⟨Kd.fresh' (Kd.R_lt (rs HO_1350000)) k_ hk, Kd.freshB (g := gb1354) (o := .cells #[.int .i64 t1353] 2 (0, 0)) (by (with_reducible repeat (first | refine blk_drewN ?_ _ | refine blk_drew ?_ | refine blk_alloc ?_ _)); exact BK1354.out) k_ hk⟩)); (case aO => exact (rs HO_9)); (case aS => exact (below_size (by repeat (first | (with_reducible first | exact HB.out | apply below_alloc | apply pw_below_drewN | apply below_drew1 | refine below_set ?_ GE1348.out | refine below_set ?_ GE1349.out | refine below_set ?_ GE1354.out) | exact HB.out)))); (case aL => have := LMc35.out; omega); intro v1366 w36 ho hb hg hat; rw [← Ny1365.out] at ho; have n0_ := Aside0.mk (Kd.R_after (ok := (fun k_ => k_ ≠ gb1354)) (by (with_reducible repeat (first | apply Kd.R_alloc | apply Kd.R_drewN | apply Kd.R_drew)); exact Kd.R_mono HO_1350000.out (fun _ hk => ⟨hk.2, hk.1⟩)) hg hat); have n1_ := Aside0.mk (blk_grown (g := gb1348) (o := .cells #[.int .i64 a0] 67 (0, 0)) (by (with_reducible repeat (first | refine blk_drewN ?_ _ | refine blk_drew ?_ | refine blk_alloc ?_ _)); exact BK1348.out) hg (Kd.R_ne HO_9.out BK1348.out (by decide))); have n2_ := Aside0.mk (blk_grown (g := gb1349) (o := .cells #[.slice Ao13 t1350.length co13] 22 (0, 0)) (by (with_reducible repeat (first | refine blk_drewN ?_ _ | refine blk_drew ?_ | refine blk_alloc ?_ _)); exact BK1349.out) hg (Kd.R_ne HO_9.out BK1349.out (by decide))); have n3_ := Aside0.mk (blk_grown (g := gb1354) (o := .cells #[.int .i64 t1353] 2 (0, 0)) (by (with_reducible repeat (first | refine blk_drewN ?_ _ | refine blk_drew ?_ | refine blk_alloc ?_ _)); exact BK1354.out) hg (Kd.R_away HO_9.out (fun _ hk => hk.2))); have n4_ := Aside0.mk (hb); have n5_ := Aside0.mk (ho); clear HO_1350000; clear BK1348; clear BK1349; clear BK1354; clear HB; clear HO_9; have HO_1350000 := n0_; have BK1348 := n1_; have BK1349 := n2_; have BK1354 := n3_; have HB := n4_; have HO1367 := n5_; clear n0_ n1_ n2_ n3_ n4_ n5_; clear ho hb hg hat))
                go_roundg k2
                case measure => have := HK1.out; have := HK2.out; omega
                case rel => exact ⟨(y1365), (wrap64 (x10_1 + 1)), ea_, H', ⟨by have := HK1.out; have := HK2.out; omega⟩, ⟨by (with_reducible repeat (first | apply Kd.R_alloc | apply Kd.R_drewN | apply Kd.R_drew)); exact HO1367.out⟩, ⟨by (with_reducible repeat (first | apply Kd.R_alloc | apply Kd.R_drewN | apply Kd.R_drew)); exact Kd.R_mono HO_1350000.out (fun _ hk => ⟨hk.2, hk.1⟩)⟩, ⟨by (with_reducible repeat (first | refine blk_drewN ?_ _ | refine blk_drew ?_ | refine blk_alloc ?_ _)); exact BK1348.out⟩, ⟨by (with_reducible repeat (first | refine blk_drewN ?_ _ | refine blk_drew ?_ | refine blk_alloc ?_ _)); exact BK1349.out⟩, ⟨by (with_reducible repeat (first | refine blk_drewN ?_ _ | refine blk_drew ?_ | refine blk_alloc ?_ _)); exact BK1354.out⟩, ⟨by repeat (first | (with_reducible first | exact HB.out | apply below_alloc | apply pw_below_drewN | apply below_drew1 | refine below_set ?_ GE1348.out | refine below_set ?_ GE1349.out | refine below_set ?_ GE1354.out) | exact HB.out)⟩⟩
              · rw [if_neg c35] at H
                exact absurd H (by simp)
      · rw [if_neg c22] at H
        have c22b0 : decide (x10_1 ≤ a2) = false := decide_eq_false c22
        clear c22
        obtain rfl := Option.some.inj H
        go_wp2
        go_ret
        exact ⟨_, by first | rfl | (simp [errW_none, errW_some] <;> rfl) | (simp [*, errW_none, errW_some] <;> rfl), by (with_reducible repeat (first | apply Kd.R_alloc | apply Kd.R_drewN | apply Kd.R_drew)); exact Kd.R_mono HO_9.out (fun _ hk => trivial), by repeat (first | (with_reducible first | exact HB.out | apply below_alloc | apply pw_below_drewN | apply below_drew1 | refine below_set ?_ GE1348.out | refine below_set ?_ GE1349.out | refine below_set ?_ GE1354.out) | exact HB.out)⟩
end Go.Proofs.Ytiffnigjblbakaa.H
