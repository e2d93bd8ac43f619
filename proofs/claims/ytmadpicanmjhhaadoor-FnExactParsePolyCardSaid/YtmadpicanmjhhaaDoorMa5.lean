/- Joined texts of a claim: the printed functions and what is proved of them. -/
import Derived.Test.YtmadpicanmjhhaaDoorYHx0
import Derived.Test.YtmadpicanmjhhaaDoorMa4
namespace Go.Proofs.YtmadpicanmjhhaaDoor.H
open Go.RowKit Go.Proofs.YtmadpicanmjhhaaDoorW.PrintWords Go.Proofs.YtmadpicanmjhhaaDoorW.PrintLast Go.Proofs.YtmadpicanmjhhaaDoorW.PrintMore
attribute [local go_sem] max2_int min2_int max_two min_two max_three min_three max_four min_four   -- for this text's walks alone
set_option linter.unusedVariables false
set_option linter.unusedSimpArgs false
def slices_Reverse_int64_int64.l0 : Nat → List Int → Int → Int → Option (List Int)
 | 0, _, _, _ => none
 | k + 1, x0, x2, x3 => if x2 < x3 then (if 0 ≤ x3 then (if x3 < (x0.length : Int) then (if 0 ≤ x2 then (if x2 < (x0.length : Int) then (slices_Reverse_int64_int64.l0 k ((x0.set (x2 : Int).toNat (rd x0 x3)).set (x3 : Int).toNat (rd x0 x2)) (wrap64 (x2 + 1)) (wrap64 (x3 - 1))) else (none)) else (none)) else (none)) else (none)) else (some x0)
def slices_Reverse_int64_int64.f (k : Nat) (l0 : List Int) : Option (List Int) := slices_Reverse_int64_int64.l0 k l0 0 (wrap64 ((l0.length : Int) - 1))
def slices_Reverse_int64_int64.T3 : Bool × List (List Nat × List Nat) := (true, [([], []), ([], []), ([], []), ([], []), ([], []), ([], []), ([4, 5], [4, 5]), ([6], [6]), ([], []), ([], []), ([8, 9], [8, 9]), ([10], [10]), ([0, 1, 0, 1, 4, 5, 6, 7, 11], [0, 1]), ([12, 7, 0, 1, 4, 5, 6, 7, 11], [7, 12]), ([2, 3, 0, 1, 2, 3, 4, 5, 6, 7, 8, 9, 10, 11, 12, 13], [2, 3]), ([14, 11, 13, 0, 1, 2, 3, 4, 5, 6, 7, 8, 9, 10, 11, 12, 13], [11, 14])])
def slices_Reverse_int64_int64.B3 : List Nat := [0, 0, 0, 0, 0, 0, 48, 112, 0, 0, 768, 1792, 4083, 8179, 16383, 32767]
theorem slices_Reverse_int64_int64.tab3 : rtab .any (opsOf Tryd.f23 3) = slices_Reverse_int64_int64.T3 := by kernel_rfl
theorem slices_Reverse_int64_int64.bits3 : waitsOk slices_Reverse_int64_int64.T3.2 slices_Reverse_int64_int64.B3 = true := by kernel_rfl
set_option maxHeartbeats 8000000 in
set_option maxRecDepth 100000 in
theorem slices_Reverse_int64_int64.calls (k : Nat) (P0_ : Nat → Prop) (u9000_ : Value) (l0 : List Int) (r : List Int) (w0 w : World) (hB : Below w0.heap.size w0 w) (ho0 : Kd.R (Kd.int .i64) 2 w w0.heap.size P0_ u9000_ l0) (h : slices_Reverse_int64_int64.f k l0 = some r) :
  Calls Tryd.prog 23 #[u9000_] w fun e w' => e = .returned (.tuple #[]) ∧ Kd.R (Kd.int .i64) 2 w' w0.heap.size (fun k_ => (P0_ k_ ∨ w.heap.size ≤ k_)) u9000_ r ∧ Below w0.heap.size w0 w' ∧ Kept w w' (fun k_ => P0_ k_) := by
 have HO0 := as0 (show Kd.R (Kd.int .i64) 2 w w0.heap.size (fun k_ => (P0_ k_ ∨ w.heap.size ≤ k_)) u9000_ l0 from Kd.R_mono ho0 (fun k_ hk => (.inl hk)))
 have HK := as0 (Kept.refl w (fun k_ => P0_ k_))
 have HW0 := as0 hB.size
 have HB := as0 hB
 clear hB
 have H : (slices_Reverse_int64_int64.l0 k l0 0 (wrap64 ((l0.length : Int) - 1))) = some r := h
 clear h
 have H' := as0 H
 clear H
 obtain ⟨Ao2, co2, eo2⟩ := Kd.R_slice HO0.out
 subst eo2
 go_enter Tryd.func23, Tryd.ntmps23
 go_wp2
 go_loopg [2, 3] k (fun kq v2 v3 w' => ∃ (x0_1 : List Int) (x2_1 : Int) (x3_1 : Int), v2 = .int .i64 x2_1 ∧ v3 = .int .i64 x3_1 ∧ Aside0 (slices_Reverse_int64_int64.l0 kq x0_1 x2_1 x3_1 = some r) ∧ Aside0 (kq ≤ k) ∧ Aside0 (Kd.R (Kd.int .i64) 2 w' w0.heap.size (fun k_ => (P0_ k_ ∨ w.heap.size ≤ k_)) (.slice Ao2 l0.length co2) x0_1) ∧ Aside0 (Kept w w' (fun k_ => P0_ k_)) ∧ Aside0 (Below w0.heap.size w0 w'))
 case atStart => exact ⟨(l0), (0), (wrap64 ((l0.length : Int) - 1)), ea_, ea_, H', ⟨Nat.le_refl _⟩, ⟨rs HO0⟩, ⟨by repeat (first | (with_reducible first | exact HK.out | apply Kept.alloc | apply Kept.drewN | apply Kept.drew) | exact HK.out)⟩, ⟨bs HB⟩⟩
 case round =>
  clear H'
  try clear c2
  try clear p2
  obtain ⟨x0_1, x2_1, x3_1, rfl, rfl, HA, HK1, HO_0, HK, HB⟩ := hrel
  have hl0_1 := (Kd.R_reads' HO_0.out).1
  rw [hl0_1] at HO_0
  (try simp only [hl0_1])
  cases gk with
  | zero => exact absurd HA.out (by simp [slices_Reverse_int64_int64.l0])
  | succ k1 =>
   have H := HA.out
   clear HA
   simp only [slices_Reverse_int64_int64.l0] at H
   by_cases c3 : x2_1 < x3_1
   ·
    rw [if_pos c3] at H
    have c3b0 : decide (x2_1 < x3_1) = true := decide_eq_true c3
    clear c3
    by_cases c4 : 0 ≤ x3_1
    ·
     rw [if_pos c4] at H
     have c4b0 : decide (0 ≤ x3_1) = true := decide_eq_true c4
     clear c4
     by_cases c5 : x3_1 < (x0_1.length : Int)
     ·
      rw [if_pos c5] at H
      have c5b0 : decide (x3_1 < (x0_1.length : Int)) = true := decide_eq_true c5
      clear c5
      by_cases c6 : 0 ≤ x2_1
      ·
       rw [if_pos c6] at H
       have c6b0 : decide (0 ≤ x2_1) = true := decide_eq_true c6
       clear c6
       by_cases c7 : x2_1 < (x0_1.length : Int)
       ·
        rw [if_pos c7] at H
        have c7b0 : decide (x2_1 < (x0_1.length : Int)) = true := decide_eq_true c7
        clear c7
        obtain ⟨y196, hy196⟩ : ∃ y_ : List Int, y_ = (x0_1.set (x2_1 : Int).toNat (rd x0_1 x3_1)) := ⟨_, rfl⟩
        replace H : (slices_Reverse_int64_int64.l0 k1 (y196.set (x3_1 : Int).toNat (rd x0_1 x2_1)) (wrap64 (x2_1 + 1)) (wrap64 (x3_1 - 1))) = some r := by first | (rw [hy196]; with_reducible exact H) | (have H2_ := (Option.bind_some _ _).symm.trans H; rw [hy196]; with_reducible exact H2_) | (have H2_ := (Option.bind_some _ _).symm.trans H; with_reducible exact H2_) | with_reducible exact H | (rw [hy196]; exact H) | exact H
        have Ny196 := as0 hy196
        clear hy196
        obtain ⟨y197, hy197⟩ : ∃ y_ : List Int, y_ = (y196.set (x3_1 : Int).toNat (rd x0_1 x2_1)) := ⟨_, rfl⟩
        replace H : (slices_Reverse_int64_int64.l0 k1 y197 (wrap64 (x2_1 + 1)) (wrap64 (x3_1 - 1))) = some r := by first | (rw [hy197]; with_reducible exact H) | (have H2_ := (Option.bind_some _ _).symm.trans H; rw [hy197]; with_reducible exact H2_) | (have H2_ := (Option.bind_some _ _).symm.trans H; with_reducible exact H2_) | with_reducible exact H | (rw [hy197]; exact H) | exact H
        have Ny197 := as0 hy197
        clear hy197
        have H' := as0 H
        clear H
        try go_wp2
        have n0_ := as0 (Kd.R_drew HO_0.out)
        have n1_ := as0 (Kept.drew HK.out)
        have n2_ := as0 (below_drew1 HB.out)
        clear HO_0
        clear HK
        clear HB
        have HO_0 := n0_
        have HK := n1_
        have HB := n2_
        clear n0_ n1_ n2_
        have p194 : 0 ≤ (x3_1 : Int) := oa_
        have q194 : x3_1 < (x0_1.length : Int) := oa_
        obtain ⟨ad194, e194, hx194_0⟩ := Kd.at_int (Kd.R_reads' HO_0.out).2.2 x3_1 p194 q194
        cases e194
        replace p194 := eq_true p194
        replace q194 := eq_true q194
        have p195 : 0 ≤ (x2_1 : Int) := oa_
        have q195 : x2_1 < (x0_1.length : Int) := oa_
        obtain ⟨ad195, e195, hx195_0⟩ := Kd.at_int (Kd.R_reads' HO_0.out).2.2 x2_1 p195 q195
        obtain rfl : ad194 = ad195 := (by injection e195)
        replace p195 := eq_true p195
        replace q195 := eq_true q195
        have p8 : 0 ≤ (x2_1 : Int) := oa_
        have q8 : (x2_1 : Int) < ((x0_1.length : Int) : Int) := oa_
        obtain ⟨go8, co8, eo8, gb8, gl8, cl8, HG8⟩ := Kd.R_form HO_0.out (by omega)
        (first | cases eo8 | (injection eo8 with ea_ en_ ec_; (first | subst ea_ | (injection ea_ with ea_; subst ea_)); subst ec_; clear en_))
        have GB8 := as0 gb8
        have GG8 := as0 HG8
        clear gb8 gl8 HG8
        have HMgo8 := as0 (show (P0_ go8 ∨ w.heap.size ≤ go8) from (HO_0.out.1 _ rfl))
        (first | simp only [add_plain] at hx194_0 | skip)
        (first | simp only [add_plain] at hx195_0 | skip)
        obtain ⟨hx8_0, hf8_0⟩ := Kd.R_celln 0 HO_0.out (x2_1 : Int) p8 q8
        replace p8 := eq_true p8
        replace q8 := eq_true q8
        have HP11 := Kd.R_putn HO_0.out (x2_1 : Int) (rd x0_1 x3_1)
        rw [← Ny196.out] at HP11
        have HQ11 := as0 HP11
        clear HP11
        have p9 : 0 ≤ (x3_1 : Int) := oa_
        have q9 : (x3_1 : Int) < ((x0_1.length : Int) : Int) := oa_
        obtain ⟨hx9_0, hf9_0⟩ := Kd.R_celln 0 HQ11.out (x3_1 : Int) p9 q9
        replace p9 := eq_true p9
        replace q9 := eq_true q9
        have HP12 := Kd.R_putn HQ11.out (x3_1 : Int) (rd x0_1 x2_1)
        rw [← Ny197.out] at HP12
        have HQ12 := as0 HP12
        clear HP12
        refine start_ (n := 16) (S := fun w' => w'.cell? ⟨go8, (x3_1).toNat, none⟩ = some (.int .i64 (rd x0_1 x3_1)) ∧ w'.cell? ⟨go8, (x2_1).toNat, none⟩ = some (.int .i64 (rd x0_1 x2_1))) (ds := [13, 15]) #[false, false, false, false, false, false, false, false, false, false, false, false, false, false, false, false] (by kernel_rfl) rfl rfl ⟨hx194_0, hx195_0⟩ (fun hHeld => ?_); refine with_tabW slices_Reverse_int64_int64.tab3 slices_Reverse_int64_int64.bits3 (fun HT_ HW_ => ?_)
        generalize wr.drew = w10 at HO_0 HK HB GG8 HQ11 HQ12 hf8_0 hf9_0 hx194_0 hx195_0 hx8_0 hx9_0 hHeld ⊢
        refine pm_ HT_ (i := 0) (N := some 14) ?_
        refine pm_ HT_ (i := 1) (N := some 15) ?_
        refine pm_ HT_ (i := 2) (N := some 16) ?_
        refine pm_ HT_ (i := 3) (N := some 17) ?_
        refine pm_ HT_ (i := 4) (N := some 18) ?_
        refine pm_ HT_ (i := 5) (N := some 19) ?_
        refine pm_ HT_ (i := 6) (N := some 20) ?_
        refine pm_ HT_ (i := 8) (N := some 22) ?_
        refine pm_ HT_ (i := 9) (N := some 23) ?_
        refine pm_ HT_ (i := 10) (N := some 24) ?_
        refine tm2_ HT_ HW_ (i := 7) (N := some 21) hHeld ?_
        refine tm2_ HT_ HW_ (i := 11) (N := some 25) hHeld ?_
        refine pm_ HT_ (i := 12) (N := some 26) ?_
        refine last_ (i := 13) (N := none) #[true, true, true, true, true, true, true, true, true, true, true, true, true, true, false, false] rfl rfl (one_of HT_.out (by kernel_rfl)) (by decide) (fun K hK => ?_)
        refine skip_ (w1 := ?_) (by rfl) rfl ?_ ?_
        rotate_left
        ·
         go_simp
         rfl
        refine hK.out _ _ ?_
        clear hK K
        refine pm_ HT_ (i := 14) (N := some 27) ?_
        refine last_ (i := 15) (N := none) #[true, true, true, true, true, true, true, true, true, true, true, true, true, true, true, true] rfl rfl (one_of HT_.out (by kernel_rfl)) (by decide) (fun K hK => ?_)
        refine skip_ (w1 := ?_) (by rfl) rfl ?_ ?_
        rotate_left
        ·
         go_simp
         rfl
        refine hK.out _ _ ?_
        clear hK K
        refine done_ (done_of HT_.out (by kernel_rfl)) ?_
        try go_wp2
        (try simp only [← hl0_1])
        go_roundg k1
        case measure => have := HK1.out; omega
        case rel => exact ⟨(y197), (wrap64 (x2_1 + 1)), (wrap64 (x3_1 - 1)), ea_, ea_, H', ⟨by have := HK1.out; omega⟩, ⟨by (try simp only [hl0_1]); (with_reducible repeat (first | apply Kd.R_alloc | apply Kd.R_drewN | apply Kd.R_drew)); exact HQ12.out⟩, ⟨by repeat (first | (with_reducible first | exact HK.out | apply Kept.alloc | apply Kept.drewN | apply Kept.drew | refine Kept.setCell ?_ HMgo8.out _ | refine Kept.setCell ?_ HMgo8.out _) | exact HK.out)⟩, ⟨by repeat (first | (with_reducible first | exact HB.out | apply below_alloc | apply pw_below_drewN | apply below_drew1 | refine below_set ?_ GB8.out | refine below_set ?_ GB8.out) | exact HB.out)⟩⟩
       ·
        rw [if_neg c7] at H
        exact absurd H (by simp)
      ·
       rw [if_neg c6] at H
       exact absurd H (by simp)
     ·
      rw [if_neg c5] at H
      exact absurd H (by simp)
    ·
     rw [if_neg c4] at H
     exact absurd H (by simp)
   ·
    rw [if_neg c3] at H
    have c3b0 : decide (x2_1 < x3_1) = false := decide_eq_false c3
    clear c3
    obtain rfl := Option.some.inj H
    go_wp2
    first | go_end0 | ((try simp only [Exit.inBlock, Exit.then]); refine bodyPost_ret (results_none rfl _ _ _) rfl ?_)
    exact ⟨er_, (by first | exact (rs HO_0) | (simp only [hl0_1]; exact (rs HO_0))), by repeat (first | (with_reducible first | exact HB.out | apply below_alloc | apply pw_below_drewN | apply below_drew1) | exact HB.out), by repeat (first | (with_reducible first | exact HK.out | apply Kept.alloc | apply Kept.drewN | apply Kept.drew) | exact HK.out)⟩
end Go.Proofs.YtmadpicanmjhhaaDoor.H
set_option linter.unusedVariables false
set_option linter.unusedSimpArgs false
namespace Go.Proofs.YtmadpicanmjhhaaDoor.H
open Go.RowKit Go.Proofs.YtmadpicanmjhhaaDoorW.PrintWords Go.Proofs.YtmadpicanmjhhaaDoorW.PrintLast Go.Proofs.YtmadpicanmjhhaaDoorW.PrintMore Go.Proofs.YtmadpicanmjhhaaDoor.Num
def cop (l : List Int) (i : Nat) : Int := l.getD i 0
theorem cop_set (l : List Int) (i j : Nat) (x : Int) (h : i < l.length) : cop (l.set i x) j = if j = i then x else cop l j := by
 unfold cop
 simp only [List.getD_eq_getElem?_getD]
 by_cases e : j = i
 ·
  subst e; rw [List.getElem?_set_self h, if_pos rfl]; rfl
 ·
  rw [List.getElem?_set_ne (Ne.symm e), if_neg e]
theorem cop_ext {l l' : List Int} (hl : l.length = l'.length) (he : ∀ i, i < l.length → cop l i = cop l' i) : l = l' :=
 List.ext_getElem hl fun i a b => by
  have := he i a
  unfold cop at this
  rwa [List.getD_eq_getElem?_getD, List.getD_eq_getElem?_getD, List.getElem?_eq_getElem a, List.getElem?_eq_getElem b] at this
theorem cop_reverse (l : List Int) (i : Nat) (h : i < l.length) : cop l.reverse i = cop l (l.length - 1 - i) := by
 unfold cop
 rw [List.getD_eq_getElem?_getD, List.getD_eq_getElem?_getD, List.getElem?_reverse h]
theorem impl_reverse_ (l : List Int) (hl : l.length ≤ 1000000000) : Ev (fun k => slices_Reverse_int64_int64.f k l) l.reverse := by
 have loop : ∀ (d i : Nat) (xs : List Int), xs.length = l.length → i + d = l.length → (∀ t, t < l.length → cop xs t = if t < i ∨ l.length - i ≤ t then cop l (l.length - 1 - t) else cop l t) →
   Ev (fun k => slices_Reverse_int64_int64.l0 k xs (i : Int) ((l.length : Int) - 1 - i)) l.reverse := by
  intro d
  induction d with
  | zero =>
   intro i xs h1 h2 h3
   refine Ev.succ ?_
   simp (disch := omega) only [slices_Reverse_int64_int64.l0, if_neg]
   refine Ev_to (Ev.now _) (cop_ext (by simpa using h1) fun t ht => ?_)
   rw [h3 t (by omega), cop_reverse l t (by omega), if_pos (by omega)]
  | succ d ih =>
   intro i xs h1 h2 h3
   refine Ev.succ ?_
   by_cases hlt : (i : Int) < (l.length : Int) - 1 - i
   ·
    have hj : (l.length : Int) - 1 - i = ((l.length - 1 - i : Nat) : Int) := by omega
    have hi := ih (i + 1) ((xs.set i (xs.getD (l.length - 1 - i) 0)).set (l.length - 1 - i) (xs.getD i 0)) (by simpa using h1) (by omega) (fun t ht => by
     rw [cop_set _ _ _ _ (by simpa using by omega)]
     by_cases e1 : t = l.length - 1 - i
     ·
      rw [if_pos e1, if_pos (by omega)]
      have := h3 i (by omega)
      unfold cop at this
      rw [this, if_neg (by omega), e1]
      show cop l i = _
      rw [show l.length - 1 - (l.length - 1 - i) = i by omega]
     ·
      rw [if_neg e1, cop_set _ _ _ _ (by omega)]
      by_cases e2 : t = i
      ·
       rw [if_pos e2, if_pos (by omega)]
       have := h3 (l.length - 1 - i) (by omega)
       unfold cop at this
       rw [this, if_neg (by omega), e2]
       rfl
      ·
       rw [if_neg e2, h3 t ht]
       by_cases e3 : t < i ∨ l.length - i ≤ t
       ·
        rw [if_pos e3, if_pos (by omega)]
       ·
        rw [if_neg e3, if_neg (by omega)])
    rw [hj] at hlt ⊢
    simp (disch := omega) only [slices_Reverse_int64_int64.l0, if_pos hlt, if_pos, rd_n, Int.toNat_natCast, wp1, wm1]
    rw [show ((l.length - 1 - i : Nat) : Int) - 1 = (l.length : Int) - 1 - ((i + 1 : Nat) : Int) by omega]
    exact hi
   ·
    simp only [slices_Reverse_int64_int64.l0, if_neg hlt]
    refine Ev_to (Ev.now _) (cop_ext (by simpa using h1) fun t ht => ?_)
    rw [h3 t (by omega), cop_reverse l t (by omega)]
    by_cases e3 : t < i ∨ l.length - i ≤ t
    ·
     rw [if_pos e3]
    ·
     rw [if_neg e3, show l.length - 1 - t = t by omega]
 have h := loop l.length 0 l rfl (by omega) (fun t ht => by rw [if_neg (by omega)])
 simp only [slices_Reverse_int64_int64.f, wm1 (show l.length ≤ 1000000000000 by omega)]
 simpa using h
def numsI : List (List UInt8) → Option (List Int)
 | [] => some []
 | w :: r => match Lib.parseIntB 64 w with
  | .ok v => (numsI r).map (v :: ·)
  | _ => none
theorem numsI_step {ws : List (List UInt8)} {x : List Int} {i : Nat} {w : List UInt8} {v : Int} (h : numsI ws = (numsI (ws.drop i)).map (x ++ ·)) (hw : ws[i]? = some w) (hv : Lib.parseIntB 64 w = .ok v) : numsI ws = (numsI (ws.drop (i + 1))).map ((x ++ [v]) ++ ·) := by
 have hi : i < ws.length := by
  rcases Nat.lt_or_ge i ws.length with h' | h'
  ·
   exact h'
  ·
   rw [List.getElem?_eq_none h'] at hw; cases hw
 rw [List.drop_eq_getElem_cons hi] at h
 rw [List.getElem?_eq_getElem hi] at hw
 injection hw with hw
 rw [hw, numsI, hv] at h
 rw [h]
 cases numsI (ws.drop (i + 1)) with
 | none => rfl
 | some y => simp
theorem numsI_fail {ws : List (List UInt8)} {x : List Int} {i : Nat} {w : List UInt8} (h : numsI ws = (numsI (ws.drop i)).map (x ++ ·)) (hw : ws[i]? = some w) (hv : ∀ v, Lib.parseIntB 64 w ≠ .ok v) : numsI ws = none := by
 have hi : i < ws.length := by
  rcases Nat.lt_or_ge i ws.length with h' | h'
  ·
   exact h'
  ·
   rw [List.getElem?_eq_none h'] at hw; cases hw
 rw [List.drop_eq_getElem_cons hi] at h
 rw [List.getElem?_eq_getElem hi] at hw
 injection hw with hw
 rw [hw, numsI] at h
 cases hp : Lib.parseIntB 64 w with
 | ok v => exact absurd hp (hv v)
 | _ => rw [hp] at h; exact h
theorem numsI_end {ws : List (List UInt8)} {x : List Int} (h : numsI ws = (numsI (ws.drop ws.length)).map (x ++ ·)) : numsI ws = some x := by
 rw [h, List.drop_length]
 simp [numsI]
theorem parts_len (c : UInt8) : ∀ (s : List UInt8) (w : List UInt8), w ∈ parts c s → w.length ≤ s.length
 | [], w, h => by
  simp only [parts, List.mem_singleton] at h
  subst h
  exact Nat.le_refl _
 | b :: r, w, h => by
  have ih := parts_len c r
  obtain ⟨u, us, hu⟩ := parts_form c r
  rw [hu] at ih
  rw [parts] at h
  split at h
  ·
   rw [hu] at h
   rcases List.mem_cons.1 h with rfl | h
   ·
    simp
   ·
    have := ih w h
    simp only [List.length_cons]
    omega
  ·
   rw [hu] at h
   simp only [List.headD_cons, List.tail_cons] at h
   rcases List.mem_cons.1 h with rfl | h
   ·
    have := ih u (by simp)
    simp only [List.length_cons]
    omega
   ·
    have := ih w (List.mem_cons_of_mem _ h)
    simp only [List.length_cons]
    omega
theorem parts_size (c : UInt8) : ∀ (s : List UInt8), (parts c s).length ≤ s.length + 1
 | [] => by simp [parts]
 | b :: r => by
  have ih := parts_size c r
  obtain ⟨u, us, hu⟩ := parts_form c r
  rw [hu] at ih
  rw [parts]
  split
  ·
   rw [hu]
   simp only [List.length_cons] at ih ⊢
   omega
  ·
   rw [hu]
   simp only [List.headD_cons, List.tail_cons, List.length_cons] at ih ⊢
   omega
end Go.Proofs.YtmadpicanmjhhaaDoor.H
namespace Go.Proofs.YtmadpicanmjhhaaDoor.H
open Go.RowKit Go.Proofs.YtmadpicanmjhhaaDoorW.PrintWords Go.Proofs.YtmadpicanmjhhaaDoorW.PrintLast Go.Proofs.YtmadpicanmjhhaaDoorW.PrintMore
attribute [local go_sem] max2_int min2_int max_two min_two max_three min_three max_four min_four   -- for this text's walks alone
set_option linter.unusedVariables false
set_option linter.unusedSimpArgs false
def impl_within.f (a0 : Int) (a1 : Int) (a2 : Int) : Option (Bool) := if a1 ≤ a0 then (some (decide (a0 ≤ a2))) else (some false)
set_option maxHeartbeats 8000000 in
set_option maxRecDepth 100000 in
theorem impl_within.calls (a0 : Int) (a1 : Int) (a2 : Int) (r : Bool) (w : World) (h : impl_within.f a0 a1 a2 = some r) :
  Calls Tryd.prog 35 #[.int .i64 a0, .int .i64 a1, .int .i64 a2] w fun e w' => e = .returned (.bool r) ∧ Drawn0 w w' := by
 have H : (if a1 ≤ a0 then (some (decide (a0 ≤ a2))) else (some false)) = some r := h
 clear h
 by_cases c4 : a1 ≤ a0
 ·
  rw [if_pos c4] at H
  have c4b0 : decide (a1 ≤ a0) = true := decide_eq_true c4
  clear c4
  obtain rfl := Option.some.inj H
  go_enter Tryd.func35, Tryd.ntmps35
  go_wp2
  go_ret
  exact ⟨ea_, dr_⟩
 ·
  rw [if_neg c4] at H
  have c4b0 : decide (a1 ≤ a0) = false := decide_eq_false c4
  clear c4
  obtain rfl := Option.some.inj H
  go_enter Tryd.func35, Tryd.ntmps35
  go_wp2
  go_ret
  exact ⟨ea_, dr_⟩
def impl_IsPrime.l0 : Nat → Int → Int → Option (Bool)
 | 0, _, _ => none
 | k + 1, x0, x3 => if (wrap64 (x3 * x3)) ≤ x0 then (if x3 = 0 then (none) else (if (Int.tmod x0 x3) = 0 then (some false) else (impl_IsPrime.l0 k x0 (wrap64 (x3 + 1))))) else (some true)
def impl_IsPrime.f (k : Nat) (a0 : Int) : Option (Bool) := (impl_within.f a0 2 10007).bind fun t128 => (if t128 = true then (impl_IsPrime.l0 k a0 2) else (some false))
set_option maxHeartbeats 8000000 in
set_option maxRecDepth 100000 in
theorem impl_IsPrime.calls (k : Nat) (a0 : Int) (r : Bool) (w : World) (h : impl_IsPrime.f k a0 = some r) :
  Calls Tryd.prog 20 #[.int .i64 a0] w fun e w' => e = .returned (.bool r) ∧ Drawn0 w w' := by
 have H : ((impl_within.f a0 2 10007).bind fun t128 => (if t128 = true then (impl_IsPrime.l0 k a0 2) else (some false))) = some r := h
 clear h
 replace H := Option.bind_eq_some_iff.mp H
 obtain ⟨t128, A20, H⟩ := H
 have A2 := as0 A20
 clear A20
 by_cases c3 : t128 = true
 ·
  subst c3
  have H1 : (impl_IsPrime.l0 k a0 2) = some r := by rw [if_pos rfl] at H; exact H
  clear H
  have H := H1
  clear H1
  have H' := as0 H
  clear H
  go_enter Tryd.func20, Tryd.ntmps20
  go_wp2_with (first | ((with_reducible refine gate_callee (f := 35) rfl ?_); refine goesM_ (some 5) rfl rfl Tryd.func35 #[.int .i64 a0, .int .i64 2, .int .i64 10007] rfl ?_; (with_reducible refine (impl_within.calls a0 2 10007 true _ A2.out).mono ?_); rintro e w' ⟨rfl, ⟨nd, rfl⟩⟩; refine ⟨_, rfl, ?_⟩))
  go_loopg [3] k (fun kq v3 w' => ∃ (x3_1 : Int), v3 = .int .i64 x3_1 ∧ Aside0 (impl_IsPrime.l0 kq a0 x3_1 = some r) ∧ Aside0 (kq ≤ k) ∧ Drawn0 w w')
  case atStart => exact ⟨(2), ea_, H', ⟨Nat.le_refl _⟩, dr_⟩
  case round =>
   clear H'
   try clear c2
   try clear p2
   try clear c3
   obtain ⟨x3_1, rfl, HA, HK1, ⟨m1, rfl⟩⟩ := hrel
   cases gk with
   | zero => exact absurd HA.out (by simp [impl_IsPrime.l0])
   | succ k1 =>
    have H := HA.out
    clear HA
    simp only [impl_IsPrime.l0] at H
    by_cases c4 : (wrap64 (x3_1 * x3_1)) ≤ a0
    ·
     rw [if_pos c4] at H
     have c4b0 : decide ((wrap64 (x3_1 * x3_1)) ≤ a0) = true := decide_eq_true c4
     clear c4
     by_cases c5 : x3_1 = 0
     ·
      rw [if_pos c5] at H
      exact absurd H (by simp)
     ·
      rw [if_neg c5] at H
      have c5b0 : (x3_1 == 0) = false := beq_eq_false_iff_ne.mpr c5
      have c5b1 : (x3_1 != 0) = true := bne_iff_ne.mpr c5
      by_cases c6 : (Int.tmod a0 x3_1) = 0
      ·
       rw [if_pos c6] at H
       have c6b0 : ((Int.tmod a0 x3_1) == 0) = true := beq_iff_eq.mpr c6
       have c6b1 : ((Int.tmod a0 x3_1) != 0) = false := bne_eq_false_iff_eq.mpr c6
       clear c6
       obtain rfl := Option.some.inj H
       go_wp2
       go_ret
       exact ⟨ea_, dr_⟩
      ·
       rw [if_neg c6] at H
       have c6b0 : ((Int.tmod a0 x3_1) == 0) = false := beq_eq_false_iff_ne.mpr c6
       have c6b1 : ((Int.tmod a0 x3_1) != 0) = true := bne_iff_ne.mpr c6
       have H' := as0 H
       clear H
       go_wp2
       go_roundg k1
       case measure => have := HK1.out; omega
       case rel => exact ⟨(wrap64 (x3_1 + 1)), ea_, H', ⟨by have := HK1.out; omega⟩, dr_⟩
    ·
     rw [if_neg c4] at H
     have c4b0 : decide ((wrap64 (x3_1 * x3_1)) ≤ a0) = false := decide_eq_false c4
     clear c4
     obtain rfl := Option.some.inj H
     go_wp2
     go_ret
     exact ⟨ea_, dr_⟩
 ·
  replace c3 := Bool.eq_false_iff.mpr c3
  subst c3
  have H1 : (some false) = some r := by rw [if_neg (show ¬ (false = true) by decide)] at H; exact H
  clear H
  have H := H1
  clear H1
  obtain rfl := Option.some.inj H
  go_enter Tryd.func20, Tryd.ntmps20
  go_wp2_with (first | ((with_reducible refine gate_callee (f := 35) rfl ?_); refine goesM_ (some 5) rfl rfl Tryd.func35 #[.int .i64 a0, .int .i64 2, .int .i64 10007] rfl ?_; (with_reducible refine (impl_within.calls a0 2 10007 false _ A2.out).mono ?_); rintro e w' ⟨rfl, ⟨nd, rfl⟩⟩; refine ⟨_, rfl, ?_⟩))
  go_ret
  exact ⟨ea_, dr_⟩
def impl_field_has.f (a0 : Int) (a1 : Int) : Option (Bool) := if a1 ≥ 0 then (some (decide (a1 < a0))) else (some false)
set_option maxHeartbeats 8000000 in
set_option maxRecDepth 100000 in
theorem impl_field_has.calls (a0 : Int) (a1 : Int) (r : Bool) (w : World) (h : impl_field_has.f a0 a1 = some r) :
  Calls Tryd.prog 40 #[.int .i64 a0, .int .i64 a1] w fun e w' => e = .returned (.bool r) ∧ Drawn0 w w' := by
 have H : (if a1 ≥ 0 then (some (decide (a1 < a0))) else (some false)) = some r := h
 clear h
 by_cases c3 : a1 ≥ 0
 ·
  rw [if_pos c3] at H
  have c3b0 : decide (0 ≤ a1) = true := decide_eq_true c3
  clear c3
  obtain rfl := Option.some.inj H
  go_enter Tryd.func40, Tryd.ntmps40
  go_wp2
  go_ret
  exact ⟨ea_, dr_⟩
 ·
  rw [if_neg c3] at H
  have c3b0 : decide (0 ≤ a1) = false := decide_eq_false c3
  clear c3
  obtain rfl := Option.some.inj H
  go_enter Tryd.func40, Tryd.ntmps40
  go_wp2
  go_ret
  exact ⟨ea_, dr_⟩
def Gives (g : Nat) (lb : Array Value) (v : Value) (r : Bool) (w : World) : Prop :=
 ∀ W : World, Below w.heap.size w W → Calls Tryd.prog g (#[v] ++ lb) W fun e w' => e = .returned (.bool r) ∧ Below W.heap.size W w'
theorem below_next {w W w' : World} (h : Below w.heap.size w W) (k : Below W.heap.size W w') : Below w.heap.size w w' := h.trans (k.mono h.size)
set_option maxHeartbeats 4000000 in
set_option maxRecDepth 100000 in
theorem indexFunc_any (A : Option Addr) (n c : Nat) (q : Nat → Bool) (g : Nat) (lb : Array Value) (eg : ∀ args w, (callFunc g args).run Tryd.prog w = .ok (.enter g args) w) (w : World)
  (hn : n ≤ 9223372036854775807) (h : ∀ j, j < n → ∃ ad v, A = some ad ∧ w.cell? (ad.add j) = some v ∧ Gives g lb v (q j) w) :
  Calls Tryd.prog 71 #[.slice A n c, .func (.func g) #[] lb] w fun e w' => (∃ i : Int, e = .returned (.int .i64 i) ∧ (0 ≤ i ↔ ∃ j, j < n ∧ q j = true)) ∧ Below w.heap.size w w' := by
 have HH := as0 h
 clear h
 go_enter Tryd.func71, Tryd.ntmps71
 go_wp2
 go_loopg [5, 8] n (fun gg _ s8 wr => ∃ kk : Nat, kk ≤ n ∧ n - kk ≤ gg ∧ s8 = .int .i64 kk ∧ Aside0 (∀ j, j < kk → q j = false) ∧ Aside0 (Below w.heap.size w wr))
 case atStart => exact ⟨0, Nat.zero_le _, by omega, rfl, ⟨fun j hj => absurd hj (Nat.not_lt_zero _)⟩, ⟨Below.refl _ _⟩⟩
 case round =>
  obtain ⟨kk, hkk, hg, rfl, HA, HB⟩ := hrel
  by_cases hlt : kk < n
  ·
   have hltz : (kk : Int) < (n : Int) := by omega
   obtain ⟨ad, v, rfl, hc, hcall⟩ := HH.out kk hlt
   have hcall' := hcall wr HB.out
   have hc' := pw_cell_below HB.out hc
   clear hcall hc
   cases hq : q kk with
   | true =>
    rw [hq] at hcall'
    have Hq := as0 hq
    clear hq HH
    go_wp2_with fail
    refine (hcall').mono ?_
    rintro e w' ⟨rfl, hb⟩
    have HB' := as0 (below_next HB.out hb)
    clear hcall' eg hb HB
    go_wp2
    go_ret
    exact ⟨⟨kk, rfl, by constructor; (intro _; exact ⟨kk, hlt, Hq.out⟩); (intro _; omega)⟩, HB'.out⟩
   | false =>
    rw [hq] at hcall'
    have Hq := as0 hq
    clear hq HH
    go_wp2_with fail
    refine (hcall').mono ?_
    rintro e w' ⟨rfl, hb⟩
    have HB' := as0 (below_next HB.out hb)
    clear hcall' eg hb HB
    go_wp2
    go_roundg (n - (kk + 1))
    case measure => omega
    case rel =>
     refine ⟨kk + 1, by omega, by omega, by go_num, ⟨fun j hj => ?_⟩, HB'⟩
     by_cases e : j = kk
     ·
      subst e; exact Hq.out
     ·
      exact HA.out j (by omega)
  ·
   have hltz : ¬ (kk : Int) < (n : Int) := by omega
   have : kk = n := by omega
   subst this
   go_wp2
   go_ret
   refine ⟨⟨-1, rfl, ?_⟩, HB.out⟩
   constructor
   ·
    intro h; omega
   ·
    rintro ⟨j, hj, hq⟩
    rw [HA.out j hj] at hq
    cases hq
end Go.Proofs.YtmadpicanmjhhaaDoor.H
