/- Joined texts of a claim: the printed functions and what is proved of them. -/
import Derived.Test.YtlmolloallhclaaMa7
import Derived.Test.YtlmolloallhclaaYHx0
import Derived.Test.YtlmolloallhclaaMa3
import Derived.Test.YtlmolloallhclaaMa2
import Derived.Test.YtlmolloallhclaaMa4
import Derived.Test.YtlmolloallhclaaMa6
import Derived.Test.YtlmolloallhclaaMa1
namespace Go.Proofs.Ytlmolloallhclaa.H
open Go.RowKit Go.Proofs.YtlmolloallhclaaW.PrintWords Go.Proofs.YtlmolloallhclaaW.PrintLast Go.Proofs.YtlmolloallhclaaW.PrintMore
attribute [local go_sem] max2_int min2_int max_two min_two max_three min_three max_four min_four   -- for this text's walks alone
set_option linter.unusedVariables false
set_option linter.unusedSimpArgs false
def Rw (X : Nat → Prop) (W : World) (va vb v : Value) (l : List Int) : Prop := ∃ A c, v = .slice A l.length c ∧ l.length ≤ c ∧ Kd.F (Kd.int .i64) W (fun k => (X k ∧ some k ≠ va.ownBlock) ∧ some k ≠ vb.ownBlock) A l.length l
section
variable {X : Nat → Prop} {W w1 : World} {va vb v : Value} {l : List Int}
theorem Rw.below (h : Rw X W va vb v l) (hb : Below W.heap.size W w1) : Rw X w1 va vb v l := by
 obtain ⟨A, c, e, hc, hF⟩ := h
 exact ⟨A, c, e, hc, Kd.F_below hF hb⟩
theorem Rw.new (hX : ∀ k, W.heap.size ≤ k → X k) (h : Kd.R (Kd.int .i64) 2 w1 W.heap.size (fun _ => True) v l) (ha : ∀ k, va.ownBlock = some k → k < W.heap.size) (hb : ∀ k, vb.ownBlock = some k → k < W.heap.size) : Rw X w1 va vb v l := by
 obtain ⟨A, c, rfl, hc, _⟩ := Kd.R_reads h
 refine ⟨A, c, rfl, hc, Kd.F_mono (Kd.R_F (Kd.R_bound h)) fun k hk => ⟨⟨hX k hk.2.1, fun e => ?_⟩, fun e => ?_⟩⟩
 ·
  have := ha k e.symm; have := hk.2.1; omega
 ·
  have := hb k e.symm; have := hk.2.1; omega
theorem Rw.app1 {va1 : Value} (h : Rw X W va vb v l) (hg : W.grownBy w1 va.ownBlock) (hat : va1.ownBlock = va.ownBlock ∨ ∃ b, va1.ownBlock = some b ∧ W.heap.size ≤ b) : Rw X w1 va1 vb v l := by
 obtain ⟨A, c, e, hc, hF⟩ := h
 refine ⟨A, c, e, hc, Kd.F_mono (Kd.F_after (ok := fun k => X k ∧ some k ≠ vb.ownBlock) (Kd.F_mono hF fun k hk => ⟨⟨hk.1.1, hk.2⟩, hk.1.2⟩) hg hat) fun k hk => ⟨⟨hk.1.1, hk.2⟩, hk.1.2⟩⟩
theorem Rw.app2 {vb1 : Value} (h : Rw X W va vb v l) (hg : W.grownBy w1 vb.ownBlock) (hat : vb1.ownBlock = vb.ownBlock ∨ ∃ b, vb1.ownBlock = some b ∧ W.heap.size ≤ b) : Rw X w1 va vb1 v l := by
 obtain ⟨A, c, e, hc, hF⟩ := h
 exact ⟨A, c, e, hc, Kd.F_after hF hg hat⟩
theorem Rw.far (h : Rw X W va vb v l) {g j : Nat} (hX : ∀ k, X k → k ≠ g) (u : Value) : Rw X (W.setCell ⟨g, j, none⟩ u) va vb v l := by
 obtain ⟨A, c, e, hc, hF⟩ := h
 exact ⟨A, c, e, hc, Kd.F_far (p := ⟨g, j, none⟩) hF (fun k hk => hX k hk.1.1) u⟩
theorem Rw.fk (h : Rw X W va vb v l) : Kd.FK (Kd.slice 2 (Kd.int .i64)) W (fun k => (X k ∧ some k ≠ va.ownBlock) ∧ some k ≠ vb.ownBlock) l [v] := by
 obtain ⟨A, c, rfl, hc, hF⟩ := h
 exact fun W' hW => ⟨A, c, rfl, hc, hF W' hW⟩
end
theorem conv_mul {p : Int} {A B : Option Addr} {c d : Nat} {q one : List Int} {W : World} (hp : Num.IsP p) (h1 : Kd.C (Kd.int .i64) W A q.length q) (hc : q.length ≤ c) (h2 : Kd.C (Kd.int .i64) W B one.length one) (hd : one.length ≤ d) (l1 : q.length ≤ 1000) (l2 : one.length ≤ 1000) (r1 : InR p q) (r2 : InR p one) :
  Calls Try.prog 48 #[.int .i64 p, .slice A q.length c, .slice B one.length d] W fun e w' => ∃ v0_ : Value, e = .returned (v0_) ∧ Kd.R (Kd.int .i64) 2 w' W.heap.size (fun _ => True) v0_ (mulL p q one) ∧ Below W.heap.size W w' := by
 obtain ⟨K, hK⟩ := spec_product hp.1 hp.2.1 l1 l2 r1 r2
 exact spec_l01Times.calls K p A c q B d one _ W h1 hc h2 hd (hK K (Nat.le_refl _))
theorem conv_add {p : Int} {A B : Option Addr} {c d : Nat} {q one : List Int} {W : World} (hp : Num.IsP p) (h1 : Kd.C (Kd.int .i64) W A q.length q) (hc : q.length ≤ c) (h2 : Kd.C (Kd.int .i64) W B one.length one) (hd : one.length ≤ d) (l1 : q.length ≤ 1000) (l2 : one.length ≤ 1000) (r1 : InR p q) (r2 : InR p one) :
  Calls Try.prog 47 #[.int .i64 p, .slice A q.length c, .slice B one.length d, .int .i64 1] W fun e w' => ∃ v0_ : Value, e = .returned (v0_) ∧ Kd.R (Kd.int .i64) 2 w' W.heap.size (fun _ => True) v0_ (addL p q one 1) ∧ Below W.heap.size W w' := by
 obtain ⟨K, hK⟩ := spec_add (c := 1) hp.1 hp.2.1 l1 l2 r1 r2 (by omega) (by omega)
 exact spec_l01Add.calls K p A c q B d one 1 _ W h1 hc h2 hd (hK K (Nat.le_refl _))
def spec_ConvergentsOf.T12 : Bool × List (List Nat × List Nat) := (true, [([], []), ([], []), ([], []), ([], []), ([2, 3], [2, 3]), ([4], [4]), ([], []), ([1, 5, 6], [1, 5, 6]), ([], []), ([0, 7, 8, 7], [0, 7, 8]), ([], []), ([], []), ([], []), ([], []), ([12, 13], [12, 13]), ([14], [14]), ([], []), ([11, 15, 16, 9], [11, 15, 16]), ([], []), ([10, 17, 18, 17], [10, 17, 18]), ([9, 19, 0, 1, 2, 3, 4, 5, 6, 7, 8, 9], [9]), ([19, 20, 0, 1, 2, 3, 4, 5, 6, 7, 8, 9, 10, 11, 12, 13, 14, 15, 16, 17, 18, 19, 20], [19])])
def spec_ConvergentsOf.B12 : List Nat := [0, 0, 0, 0, 12, 28, 0, 126, 0, 511, 0, 0, 0, 0, 12288, 28672, 0, 130047, 0, 524287, 1048575, 2097151]
theorem spec_ConvergentsOf.tab12 : rtab .any (opsOf Try.f18 12) = spec_ConvergentsOf.T12 := by kernel_rfl
theorem spec_ConvergentsOf.bits12 : waitsOk spec_ConvergentsOf.T12.2 spec_ConvergentsOf.B12 = true := by kernel_rfl
set_option maxHeartbeats 8000000 in
set_option maxRecDepth 100000 in
theorem spec_ConvergentsOf.calls (p : Int) (A1 : Option Addr) (c1 : Nat) (Q : List (List Int)) (ra rb : List (List Int)) (er : Int) (w : World) (hr1 : Kd.C (Kd.slice 2 (Kd.int .i64)) w A1 Q.length Q) (hc1 : Q.length ≤ c1) (hlen : Q.length ≤ 2000000) (hels : ∀ l ∈ Q, l.length ≤ 1000000000) (h : convA p Q = (ra, rb, er)) :
  Calls Try.prog 18 #[.int .i64 p, .slice A1 Q.length c1] w fun e w' => ∃ va vb : Value, e = .returned (.tuple #[va, vb, .int .i64 er]) ∧ Kd.N (Kd.slice 2 (Kd.int .i64)) 22 w' w.heap.size (fun _ => True) va ra ∧ Kd.N (Kd.slice 2 (Kd.int .i64)) 22 w' w.heap.size (fun _ => True) vb rb ∧ Below w.heap.size w w' := by
 obtain ⟨K, hK⟩ := spec_codeW p Q hlen hels
 have HC := as0 hr1
 have HC1 := as0 hc1
 have HCD : Calls Try.prog 41 #[.int .i64 p, .slice A1 Q.length c1] w fun e w' => e = .returned (.int .i64 (codeL p true Q)) ∧ Drawn0 w w' := spec_l01Code.calls K p A1 c1 Q _ w hr1 hc1 (hK K (Nat.le_refl _))
 clear hK hr1 hc1
 unfold convA at h
 by_cases hcd : codeL p true Q = 0
 ·
  rw [if_pos hcd] at h
  rw [hcd] at HCD
  obtain ⟨hp, _, hq⟩ := codeL_0 hcd
  have HP := as0 hp
  have HQ := as0 hq
  clear hcd hq hels
  by_cases h24 : Q.length > 24
  ·
   rw [if_pos h24] at h
   have d1 : decide ((Q.length : Int) > 24) = true := decide_eq_true (by omega)
   have hh := as0 h
   clear h h24 hp
   go_enter Try.func18, Try.ntmps18
   go_wp2_with (go_at_call 41; refine HCD.mono ?_; rintro e w' ⟨rfl, ⟨nd, rfl⟩⟩)
   go_ret3
   have h1 := hh.out
   injection h1 with h1 h2
   injection h2 with h2 h3
   subst h1 h2 h3
   exact ⟨_, _, rfl, Kd.N_nil _ _ _ _ _, Kd.N_nil _ _ _ _ _, pw_below_drewN (Below.refl _ _) _⟩
  ·
   rw [if_neg h24] at h
   have d1 : decide ((Q.length : Int) > 24) = false := decide_eq_false (by omega)
   have hh := as0 h
   have H24 := as0 h24
   have HB := as0 (Below.refl w.heap.size w)
   clear h h24 hp
   go_enter Try.func18, Try.ntmps18
   go_wp2_with (first | (go_at_call 41; refine HCD.mono ?_; rintro e w' ⟨rfl, ⟨nd, rfl⟩⟩; have HB' := as0 (pw_below_drewN HB.out nd); clear HB; have HB := HB'; clear HB') | ((with_reducible refine gate_dst (N := 30) rfl ?_); refine Kd.R_lit (Kd.slice 2 (Kd.int .i64)) _ 22 ?hg (N := 30) ?hd (xs := ([] : List (List Int))) (inner := []) (ok := fun _ => True) (okp := fun _ => True) ?hr ?hp (fun _ hk => hk) trivial (Below.refl _ _) (Nat.le_refl _) (by simp) ?_; (case hd => rfl); (case hg => rfl); (case hr => first | (go_simp; done) | (go_simp; rfl)); (case hp => exact Reps.none _ _); intro va w3 ho hb hg_ hnew_; clear hg_ hnew_; have OA := as0 (Kd.N_lower (Kd.R_N ho) (pw_below_drewN HB.out 0).size); have HB' := as0 (below_step HB.out hb); clear HB ho hb; have HB := HB'; clear HB') | ((with_reducible refine gate_dst (N := 31) rfl ?_); refine Kd.R_lit (Kd.slice 2 (Kd.int .i64)) _ 22 ?hg (N := 31) ?hd (xs := ([] : List (List Int))) (inner := []) (ok := fun _ => True) (okp := fun _ => True) ?hr ?hp (fun _ hk => hk) trivial (Below.refl _ _) (Nat.le_refl _) (by simp) ?_; (case hd => rfl); (case hg => rfl); (case hr => first | (go_simp; done) | (go_simp; rfl)); (case hp => exact Reps.none _ _); intro vb w4 ho hb hg_ hnew_; clear hg_; have OB := as0 (Kd.N_lower (Kd.R_N (Kd.R_new' ho (Kd.N_lt OA.out))) HB.out.size); have OA' := as0 (Kd.N_elder' OA.out (fun k e => by obtain ⟨b_, e1, e2⟩ := hnew_; rw [e1] at e; injection e with e; omega) hb); have HB' := as0 (below_step HB.out hb); clear HB OA ho hb hnew_; have HB := HB'; have OA := OA'; clear HB' OA') | ((with_reducible refine gate_dst (N := 32) rfl ?_); refine Kd.R_lit (Kd.int .i64) _ 2 ?hg (N := 32) ?hd (xs := ([1] : List Int)) (inner := [.int .i64 1]) (ok := fun _ => True) (okp := fun _ => True) ?hr ?hp (fun _ hk => hk) trivial (Below.refl _ _) (Nat.le_refl _) (by simp) ?_; (case hd => rfl); (case hg => rfl); (case hr => first | (go_simp; done) | (go_simp; rfl)); (case hp => exact Reps.one (show Kd.M (Kd.int .i64) _ _ _ 1 [.int .i64 1] from rfl) (Reps.none _ _)); intro v1 w5 ho hb hg_ hnew_; clear hg_ hnew_; have R1 := as0 (Rw.new (X := fun _ => True) (fun _ _ => trivial) ho (Kd.N_lt OA.out) (Kd.N_lt OB.out)); have OA' := as0 (Kd.N_below OA.out hb); have OB' := as0 (Kd.N_below OB.out hb); have HB' := as0 (below_step HB.out hb); clear HB OA OB ho hb; have HB := HB'; have OA := OA'; have OB := OB'; clear HB' OA' OB') | ((with_reducible refine gate_dst (N := 33) rfl ?_); refine Kd.R_lit (Kd.int .i64) _ 2 ?hg (N := 33) ?hd (xs := ([] : List Int)) (inner := []) (ok := fun _ => True) (okp := fun _ => True) ?hr ?hp (fun _ hk => hk) trivial (Below.refl _ _) (Nat.le_refl _) (by simp) ?_; (case hd => rfl); (case hg => rfl); (case hr => first | (go_simp; done) | (go_simp; rfl)); (case hp => exact Reps.none _ _); intro v2 w6 ho hb hg_ hnew_; clear hg_ hnew_; have R2 := as0 (Rw.new (X := fun _ => True) (fun _ _ => trivial) ho (Kd.N_lt OA.out) (Kd.N_lt OB.out)); have R1' := as0 (R1.out.below hb); have OA' := as0 (Kd.N_below OA.out hb); have OB' := as0 (Kd.N_below OB.out hb); have HB' := as0 (below_step HB.out hb); clear HB OA OB R1 ho hb; have HB := HB'; have OA := OA'; have OB := OB'; have R1 := R1'; clear HB' OA' OB' R1') | ((with_reducible refine gate_dst (N := 34) rfl ?_); refine Kd.R_lit (Kd.int .i64) _ 2 ?hg (N := 34) ?hd (xs := ([] : List Int)) (inner := []) (ok := fun _ => True) (okp := fun _ => True) ?hr ?hp (fun _ hk => hk) trivial (Below.refl _ _) (Nat.le_refl _) (by simp) ?_; (case hd => rfl); (case hg => rfl); (case hr => first | (go_simp; done) | (go_simp; rfl)); (case hp => exact Reps.none _ _); intro v3 w7 ho hb hg_ hnew_; clear hg_ hnew_; have R3 := as0 (Rw.new (X := fun _ => True) (fun _ _ => trivial) ho (Kd.N_lt OA.out) (Kd.N_lt OB.out)); have R1' := as0 (R1.out.below hb); have R2' := as0 (R2.out.below hb); have OA' := as0 (Kd.N_below OA.out hb); have OB' := as0 (Kd.N_below OB.out hb); have HB' := as0 (below_step HB.out hb); clear HB OA OB R1 R2 ho hb; have HB := HB'; have OA := OA'; have OB := OB'; have R1 := R1'; have R2 := R2'; clear HB' OA' OB' R1' R2') | ((with_reducible refine gate_dst (N := 35) rfl ?_); refine Kd.R_lit (Kd.int .i64) _ 2 ?hg (N := 35) ?hd (xs := ([1] : List Int)) (inner := [.int .i64 1]) (ok := fun _ => True) (okp := fun _ => True) ?hr ?hp (fun _ hk => hk) trivial (Below.refl _ _) (Nat.le_refl _) (by simp) ?_; (case hd => rfl); (case hg => rfl); (case hr => first | (go_simp; done) | (go_simp; rfl)); (case hp => exact Reps.one (show Kd.M (Kd.int .i64) _ _ _ 1 [.int .i64 1] from rfl) (Reps.none _ _)); intro v4 w8 ho hb hg_ hnew_; clear hg_ hnew_; have R4 := as0 (Rw.new (X := fun _ => True) (fun _ _ => trivial) ho (Kd.N_lt OA.out) (Kd.N_lt OB.out)); have R1' := as0 (R1.out.below hb); have R2' := as0 (R2.out.below hb); have R3' := as0 (R3.out.below hb); have OA' := as0 (Kd.N_below OA.out hb); have OB' := as0 (Kd.N_below OB.out hb); have HB' := as0 (below_step HB.out hb); clear HB OA OB R1 R2 R3 ho hb; have HB := HB'; have OA := OA'; have OB := OB'; have R1 := R1'; have R2 := R2'; have R3 := R3'; clear HB' OA' OB' R1' R2' R3'))
   obtain ⟨fin, hfin⟩ : ∃ fin, fin = cvL p Q [1] [] [] [1] := ⟨_, rfl⟩
   rw [← hfin] at hh
   have HF := as0 (show fin = (cvL p (Q.drop 0) [1] [] [] [1]).map (fun r => (([] : List (List Int)) ++ r.1, ([] : List (List Int)) ++ r.2)) by
    rw [hfin, List.drop_zero]
    cases cvL p Q [1] [] [] [1] <;> rfl)
   clear hfin HCD
   have HBd := as0 (show ([1] : List Int).length ≤ 25 ∧ ([] : List Int).length ≤ 25 ∧ ([] : List Int).length ≤ 25 ∧ ([1] : List Int).length ≤ 25 from by simp)
   have hr1 : InR p [1] := fun x hx => by rw [List.mem_singleton.1 hx]; have := HP.out.1; omega
   have hr0 : InR p [] := fun x hx => by simp at hx
   have HRd := as0 (show InR p [1] ∧ InR p [] ∧ InR p [] ∧ InR p [1] from ⟨hr1, hr0, hr0, hr1⟩)
   clear hr1 hr0
   obtain ⟨n, hn⟩ : ∃ n, n = Q.length := ⟨_, rfl⟩
   have HN := as0 hn
   have hn24 : n ≤ 24 := by have := H24.out; omega
   rw [← hn] at HC HC1 ⊢
   clear hn
   go_loopg [8, 9, 10, 11, 12, 13, 14] n (fun kq v8 v9 v10 v11 v12 v13 v14 w' => ∃ (i : Nat) (xa xb : List (List Int)) (one two three four : List Int), v14 = .int .i64 (i : Int) ∧ Aside0 (i + kq = n) ∧ Aside0 (fin = (cvL p (Q.drop i) one two three four).map (fun r => (xa ++ r.1, xb ++ r.2))) ∧ Aside0 (xa.length = i ∧ xb.length = i) ∧ Aside0 (one.length ≤ 25 ∧ two.length ≤ 25 ∧ three.length ≤ 25 ∧ four.length ≤ 25) ∧ Aside0 (InR p one ∧ InR p two ∧ InR p three ∧ InR p four) ∧ Aside0 (Rw (fun _ => True) w' v8 v9 v10 one) ∧ Aside0 (Rw (fun _ => True) w' v8 v9 v11 two) ∧ Aside0 (Rw (fun _ => True) w' v8 v9 v12 three) ∧ Aside0 (Rw (fun _ => True) w' v8 v9 v13 four) ∧ Aside0 (Kd.N (Kd.slice 2 (Kd.int .i64)) 22 w' w.heap.size (fun k => True ∧ some k ≠ v9.ownBlock) v8 xa) ∧ Aside0 (Kd.N (Kd.slice 2 (Kd.int .i64)) 22 w' w.heap.size (fun k => True ∧ some k ≠ v8.ownBlock) v9 xb) ∧ Aside0 (Below w.heap.size w w'))
   case atStart => exact ⟨0, [], [], [1], [], [], [1], rfl, ⟨by omega⟩, HF, ⟨rfl, rfl⟩, HBd, HRd, R1, R2, R3, R4, OA, OB, HB⟩
   case round =>
    clear HF HBd HRd R1 R2 R3 R4 OA OB HB
    obtain ⟨i, xa, xb, one, two, three, four, rfl, HG, HF, HLn, HBd, HRd, R1, R2, R3, R4, OA, OB, HB⟩ := hrel
    have hg := HG.out
    by_cases hi : i < n
    ·
     have d2 : decide (i < n) = true := decide_eq_true hi
     obtain ⟨G, rfl⟩ : ∃ G, gk = G + 1 := ⟨gk - 1, by omega⟩
     have HI := as0 hi
     obtain ⟨q, hq⟩ : ∃ q, q = rd_L1 Q (i : Int) := ⟨_, rfl⟩
     have hqd : Q.drop i = q :: Q.drop (i + 1) := by
      have hl : i < Q.length := by rw [← HN.out]; exact hi
      rw [List.drop_eq_getElem_cons hl, hq]
      unfold rd_L1
      rw [Int.toNat_natCast, List.getD_eq_getElem?_getD, List.getElem?_eq_getElem hl]; rfl
     have hpq : Po p q := HQ.out q (by
      have hl : i < Q.length := by rw [← HN.out]; exact hi
      rw [hq]; unfold rd_L1
      rw [Int.toNat_natCast, List.getD_eq_getElem?_getD, List.getElem?_eq_getElem hl]
      exact List.getElem_mem hl)
     obtain ⟨adq, Aq, cq, eq, hcq, hlq, hCq⟩ := at_L1 HC.out (i : Int) (by omega) (by omega)
     rw [← hq] at hcq hlq hCq
     subst eq
     rw [Int.toNat_natCast] at hcq
     replace hcq := pw_cell_below HB.out hcq
     have HCQ := as0 hCq
     have HLQ := as0 hlq
     have HPQ := as0 hpq
     have HQD := as0 hqd
     have p1 := eq_true (show (0 : Int) ≤ (i : Int) by omega)
     have p2 := eq_true (show (i : Int) < (n : Int) by omega)
     obtain ⟨Ao, co1, eo, lo, FO⟩ := R1.out
     obtain ⟨At, ct, et, lt, FT⟩ := R2.out
     obtain ⟨Ah, ch, eh, lh, FH⟩ := R3.out
     obtain ⟨Af, cf, ef, lf, FF⟩ := R4.out
     subst eo et eh ef
     have LO := as0 lo
     have LT := as0 lt
     have LH := as0 lh
     have LF := as0 lf
     have FO := as0 FO
     have FT := as0 FT
     have FH := as0 FH
     have FF := as0 FF
     clear hq hqd hpq hCq hlq lo lt lh lf hi hg
     go_wp2_with fail
     have HBR := as0 HB.out
     have OA1 := as0 (Kd.N_drew OA.out)
     have OB1 := as0 (Kd.N_drew OB.out)
     have HB1 := as0 (below_drew HB.out)
     have HWD := as0 (below_drew (Below.refl wr.heap.size wr))
     refine start_ (n := 22) (S := fun w' => w'.cell? (adq.add i) = some (.slice Aq q.length cq)) (ds := []) #[false, false, false, false, false, false, false, false, false, false, false, false, false, false, false, false, false, false, false, false, false, false] (by kernel_rfl) rfl rfl hcq (fun hHeld => ?_)
     refine with_tabW spec_ConvergentsOf.tab12 spec_ConvergentsOf.bits12 (fun HT_ HW_ => ?_)
     generalize wr.drew = wd at OA1 OB1 HB1 HWD hHeld ⊢
     clear hcq OA OB HB
     refine pm_ HT_ (i := 0) (N := some 42) ?_
     refine pm_ HT_ (i := 1) (N := some 43) ?_
     refine pm_ HT_ (i := 2) (N := some 44) ?_
     refine pm_ HT_ (i := 3) (N := some 45) ?_
     refine pm_ HT_ (i := 6) (N := some 48) ?_
     refine pm_ HT_ (i := 8) (N := some 50) ?_
     refine pm_ HT_ (i := 10) (N := some 52) ?_
     refine pm_ HT_ (i := 11) (N := some 53) ?_
     refine pm_ HT_ (i := 12) (N := some 54) ?_
     refine pm_ HT_ (i := 13) (N := some 55) ?_
     refine pm_ HT_ (i := 16) (N := some 58) ?_
     refine pm_ HT_ (i := 18) (N := some 60) ?_
     refine pm_ HT_ (i := 4) (N := some 46) ?_
     refine pm_ HT_ (i := 14) (N := some 56) ?_
     refine tm1_ HT_ HW_ (i := 5) (N := some 47) hHeld ?_
     refine tm1_ HT_ HW_ (i := 15) (N := some 57) hHeld ?_
     refine one_ (i := 7) (N := (some 49)) #[true, true, true, true, true, true, true, true, true, false, true, true, true, true, true, true, true, false, true, false, false, false] rfl rfl (one_of HT_.out (by kernel_rfl)) (by decide) (fun K hK => ?_)
     refine goes_ Try.func48 (by kernel_rfl) rfl #[.int .i64 p, .slice Aq q.length cq, .slice Ao one.length co1] (by rfl) rfl rfl (by (try simp only [List.map_toArray, List.map_cons, List.map_nil]); first | done | rfl) ?_
     refine (conv_mul HP.out (Kd.C_below HCQ.out (below_step HBR.out HWD.out)) HLQ.out (Kd.C_below (Kd.F_now FO.out) HWD.out) LO.out (by have := HPQ.out.len; omega) (by have := HBd.out.1; omega) HPQ.out.inR HRd.out.1).mono ?_
     rintro e y1 ⟨vm1, rfl, om1, bm1⟩
     obtain ⟨Am1, cm1, em1⟩ := Kd.R_slice om1
     subst em1
     have Bm1 := as0 (below_step HWD.out bm1)
     have Om1 := as0 om1
     clear om1
     have Sm1 := as0 bm1
     clear bm1
     refine ⟨_, rfl, ?_⟩
     refine hK.out _ _ (pw_cell_below Sm1.out hHeld) (fun hHeld => ?_)
     clear hK K
     refine nm_ (some 49) ?_
     refine one_ (i := 9) (N := (some 51)) #[true, true, true, true, true, true, true, true, true, true, true, true, true, true, true, true, true, false, true, false, false, false] rfl rfl (one_of HT_.out (by kernel_rfl)) (by decide) (fun K hK => ?_)
     refine goes_ Try.func47 (by kernel_rfl) rfl #[.int .i64 p, .slice Am1 (mulL p q one).length cm1, .slice At two.length ct, .int .i64 1] (by rfl) rfl rfl (by (try simp only [List.map_toArray, List.map_cons, List.map_nil]); first | done | rfl) ?_
     refine (conv_add HP.out (Kd.R_reads' Om1.out).2.2 (Kd.R_reads' Om1.out).2.1 (Kd.C_below (Kd.F_now FT.out) Bm1.out) LT.out (by have := mulL_len p q one; have := HPQ.out.len; have := HBd.out.1; omega) (by have := HBd.out.2.1; omega) (mulL_inR HP.out.p0 _ _) HRd.out.2.1).mono ?_
     rintro e y2 ⟨vn1, rfl, on1, bn1⟩
     obtain ⟨An1, cn1, en1⟩ := Kd.R_slice on1
     subst en1
     have Bn1 := as0 (below_step Bm1.out bn1)
     have On1 := as0 on1
     clear on1
     have Sn1 := as0 bn1
     clear bn1
     refine ⟨_, rfl, ?_⟩
     refine hK.out _ _ (pw_cell_below Sn1.out hHeld) (fun hHeld => ?_)
     clear hK K
     refine nm_ (some 51) ?_
     refine one_ (i := 17) (N := (some 59)) #[true, true, true, true, true, true, true, true, true, true, true, true, true, true, true, true, true, true, true, false, false, false] rfl rfl (one_of HT_.out (by kernel_rfl)) (by decide) (fun K hK => ?_)
     refine goes_ Try.func48 (by kernel_rfl) rfl #[.int .i64 p, .slice Aq q.length cq, .slice Ah three.length ch] (by rfl) rfl rfl (by (try simp only [List.map_toArray, List.map_cons, List.map_nil]); first | done | rfl) ?_
     refine (conv_mul HP.out (Kd.C_below HCQ.out (below_step HBR.out Bn1.out)) HLQ.out (Kd.C_below (Kd.F_now FH.out) Bn1.out) LH.out (by have := HPQ.out.len; omega) (by have := HBd.out.2.2.1; omega) HPQ.out.inR HRd.out.2.2.1).mono ?_
     rintro e y3 ⟨vm2, rfl, om2, bm2⟩
     obtain ⟨Am2, cm2, em2⟩ := Kd.R_slice om2
     subst em2
     have Bm2 := as0 (below_step Bn1.out bm2)
     have Om2 := as0 om2
     clear om2
     have Sm2 := as0 bm2
     clear bm2
     refine ⟨_, rfl, ?_⟩
     refine hK.out _ _ (pw_cell_below Sm2.out hHeld) (fun hHeld => ?_)
     clear hK K
     refine nm_ (some 59) ?_
     refine one_ (i := 19) (N := (some 61)) #[true, true, true, true, true, true, true, true, true, true, true, true, true, true, true, true, true, true, true, true, false, false] rfl rfl (one_of HT_.out (by kernel_rfl)) (by decide) (fun K hK => ?_)
     refine goes_ Try.func47 (by kernel_rfl) rfl #[.int .i64 p, .slice Am2 (mulL p q three).length cm2, .slice Af four.length cf, .int .i64 1] (by rfl) rfl rfl (by (try simp only [List.map_toArray, List.map_cons, List.map_nil]); first | done | rfl) ?_
     refine (conv_add HP.out (Kd.R_reads' Om2.out).2.2 (Kd.R_reads' Om2.out).2.1 (Kd.C_below (Kd.F_now FF.out) Bm2.out) LF.out (by have := mulL_len p q three; have := HPQ.out.len; have := HBd.out.2.2.1; omega) (by have := HBd.out.2.2.2; omega) (mulL_inR HP.out.p0 _ _) HRd.out.2.2.2).mono ?_
     rintro e y4 ⟨vn2, rfl, on2, bn2⟩
     obtain ⟨An2, cn2, en2⟩ := Kd.R_slice on2
     subst en2
     have Bn2 := as0 (below_step Bm2.out bn2)
     have On2 := as0 on2
     clear on2
     have Sn2 := as0 bn2
     clear bn2
     refine ⟨_, rfl, ?_⟩
     refine hK.out _ _ (pw_cell_below Sn2.out hHeld) (fun hHeld => ?_)
     clear hK K
     refine nm_ (some 61) ?_
     refine pm_ HT_ (i := 20) (N := some 15) ?_
     refine pm_ HT_ (i := 21) (N := some 16) ?_
     refine done_ (done_of HT_.out (by kernel_rfl)) ?_
     clear HT_ HW_ hHeld
     have SY := as0 (below_step (below_step (below_step Sm1.out Sn1.out) Sm2.out) Sn2.out)
     have OA2 := as0 (Kd.N_below OA1.out SY.out)
     have OB2 := as0 (Kd.N_below OB1.out SY.out)
     have HB2 := as0 (below_step HB1.out SY.out)
     have la := Kd.N_lt OA1.out
     have lb := Kd.N_lt OB1.out
     have z1 := Sm1.out.size
     have z2 := Sn1.out.size
     have z3 := Sm2.out.size
     have RN := as0 (((Rw.new (X := fun _ => True) (fun _ _ => trivial) On1.out (fun k e => Nat.lt_of_lt_of_le (la k e) z1) (fun k e => Nat.lt_of_lt_of_le (lb k e) z1)).below Sm2.out).below Sn2.out)
     have RO := as0 (Rw.new (X := fun _ => True) (fun _ _ => trivial) On2.out (fun k e => Nat.lt_of_lt_of_le (la k e) (Nat.le_trans z1 (Nat.le_trans z2 z3))) (fun k e => Nat.lt_of_lt_of_le (lb k e) (Nat.le_trans z1 (Nat.le_trans z2 z3))))
     have R1' := as0 (R1.out.below Bn2.out)
     have R2' := as0 (R2.out.below Bn2.out)
     have R3' := as0 (R3.out.below Bn2.out)
     have R4' := as0 (R4.out.below Bn2.out)
     clear R1 R2 R3 R4 OA1 OB1 HB1 Sm1 Sn1 Sm2 Sn2 Bm1 Bn1 Bm2 Bn2 Om1 On1 Om2 On2 SY FO FT FH FF HBR HWD hHeld la lb z1 z2 z3 HCQ LO LT LH LF
     obtain ⟨nx, hnx⟩ : ∃ nx, nx = addL p (mulL p q one) two 1 := ⟨_, rfl⟩
     obtain ⟨ot, hot⟩ : ∃ ot, ot = addL p (mulL p q three) four 1 := ⟨_, rfl⟩
     rw [← hnx] at RN ⊢
     rw [← hot] at RO ⊢
     have HNX := as0 (show nx = stp p q one two from hnx)
     have HOT := as0 (show ot = stp p q three four from hot)
     obtain ⟨a, ha⟩ : ∃ a, a = nx.length := ⟨_, rfl⟩
     obtain ⟨b, hb⟩ : ∃ b, b = ot.length := ⟨_, rfl⟩
     have HA := as0 ha
     have HBl := as0 hb
     have a60 : (a : Int) ≤ 60 := by
      have := stp_len p q one two
      rw [ha, HNX.out]
      have := HPQ.out.len; have := HBd.out
      omega
     have b60 : (b : Int) ≤ 60 := by
      have := stp_len p q three four
      rw [hb, HOT.out]
      have := HPQ.out.len; have := HBd.out
      omega
     rw [← ha] at RN ⊢
     rw [← hb] at RO ⊢
     clear hnx hot ha hb
     have HS := as0 (show cvL p (Q.drop i) one two three four = if a > 25 ∨ b > 25 then none else (cvL p (Q.drop (i + 1)) nx one ot three).map fun r => (nx :: r.1, ot :: r.2) by
      rw [HQD.out]
      show (if (stp p q one two).length > 25 ∨ (stp p q three four).length > 25 then none else _) = _
      rw [← HNX.out, ← HOT.out, ← HA.out, ← HBl.out])
     by_cases hbig : a > 25 ∨ b > 25
     ·
      have HBG := as0 hbig
      have fn : fin = none := by rw [HF.out, HS.out, if_pos hbig]; rfl
      have h1 := hh.out
      rw [fn] at h1
      have HE := as0 (show ([], [], 3) = (ra, rb, er) from h1)
      clear h1 fn hh
      by_cases hab : a < b
      ·
       have hb25 : 25 < b := by omega
       clear hbig
       go_wp2
       go_ret3
       have h1 := HE.out
       injection h1 with h1 h2
       injection h2 with h2 h3
       subst h1 h2 h3
       exact ⟨_, _, rfl, Kd.N_nil _ _ _ _ _, Kd.N_nil _ _ _ _ _, HB2.out⟩
      ·
       have ha25 : 25 < a := by omega
       clear hbig
       go_wp2
       go_ret3
       have h1 := HE.out
       injection h1 with h1 h2
       injection h2 with h2 h3
       subst h1 h2 h3
       exact ⟨_, _, rfl, Kd.N_nil _ _ _ _ _, Kd.N_nil _ _ _ _ _, HB2.out⟩
     ·
      have ha25 : ¬ 25 < a := by omega
      have hb25 : ¬ 25 < b := by omega
      have HS2 := HS.out
      rw [if_neg hbig] at HS2
      have HS2 := as0 HS2
      clear hbig HS
      have HF2 := as0 (show fin = (cvL p (Q.drop (i + 1)) nx one ot three).map (fun r => ((xa ++ [nx]) ++ r.1, (xb ++ [ot]) ++ r.2)) by
       rw [HF.out, HS2.out]
       cases cvL p (Q.drop (i + 1)) nx one ot three with
       | none => rfl
       | some r => simp)
      by_cases hab : a < b
      all_goals
       go_wp2_with (first | ((with_reducible refine gate_builtin (b := .append) (xs := #[.tmp 69, .tmp 71]) rfl ?_); at_builtin; refine Kd.N_append (Kd.slice 2 (Kd.int .i64)) (w0 := w) w.heap.size rfl (.tmp 69) (.tmp 71) 23 22 (.slice none 0 0) 24 rfl Try.underlying23 info22 rfl (by decide) (by omega) u8 xa nx [.slice An1 a cn1] (fun k => True ∧ some k ≠ u9.ownBlock) (fun k => (True ∧ some k ≠ u8.ownBlock) ∧ some k ≠ u9.ownBlock) rfl rfl ?aP ?aK ?aF ?aO ?aB ?aS ?aL ?_; (case aP => exact RN.out.fk); (case aK => exact fun k hk => ⟨⟨trivial, hk.2⟩, hk.1.2⟩); (case aF => exact fun k hk => ⟨trivial, fun e_ => by have := Kd.N_lt OB2.out k e_.symm; omega⟩); (case aO => exact OA2.out); (case aB => exact HB2.out); (case aS => exact HB2.out.size); (case aL => have := HLn.out.1; have := HI.out; omega); intro va1 w1 ho hb hg hat; have OA3 := as0 ho; have HB3 := as0 hb; have OB3 := as0 (Kd.N_after OB2.out hg hat); have RN3 := as0 (RN.out.app1 hg hat); have RO3 := as0 (RO.out.app1 hg hat); have R13 := as0 (R1'.out.app1 hg hat); have R33 := as0 (R3'.out.app1 hg hat); clear ho hb hg hat RN RO R1' R3' OA2 OB2 HB2) | ((with_reducible refine gate_builtin (b := .append) (xs := #[.tmp 73, .tmp 75]) rfl ?_); at_builtin; refine Kd.N_append (Kd.slice 2 (Kd.int .i64)) (w0 := w) w.heap.size rfl (.tmp 73) (.tmp 75) 23 22 (.slice none 0 0) 24 rfl Try.underlying23 info22 rfl (by decide) (by omega) u9 xb ot [.slice An2 b cn2] (fun k => True ∧ some k ≠ va1.ownBlock) (fun k => (True ∧ some k ≠ va1.ownBlock) ∧ some k ≠ u9.ownBlock) rfl rfl ?bP ?bK ?bF ?bO ?bB ?bS ?bL ?_; (case bP => exact RO3.out.fk); (case bK => exact fun k hk => ⟨⟨trivial, hk.1.2⟩, hk.2⟩); (case bF => exact fun k hk => ⟨trivial, fun e_ => by have := Kd.N_lt OA3.out k e_.symm; omega⟩); (case bO => exact OB3.out); (case bB => exact HB3.out); (case bS => exact HB3.out.size); (case bL => have := HLn.out.2; have := HI.out; omega); intro vb1 w2 ho hb hg hat; have OB4 := as0 ho; have HB4 := as0 hb; have OA4 := as0 (Kd.N_after OA3.out hg hat); have RN4 := as0 (RN3.out.app2 hg hat); have RO4 := as0 (RO3.out.app2 hg hat); have R14 := as0 (R13.out.app2 hg hat); have R34 := as0 (R33.out.app2 hg hat); clear ho hb hg hat RN3 RO3 R13 R33 OA3 OB3 HB3))
       go_roundg G
       case measure => omega
       case rel =>
        refine ⟨i + 1, xa ++ [nx], xb ++ [ot], nx, one, ot, three, ?_, ⟨by have := HG.out; omega⟩, HF2, ⟨by simp [HLn.out.1], by simp [HLn.out.2]⟩, ⟨by have := HA.out; omega, HBd.out.1, by have := HBl.out; omega, HBd.out.2.2.1⟩, ⟨by rw [HNX.out]; exact stp_inR HP.out.p0 _ _ _, HRd.out.1, by rw [HOT.out]; exact stp_inR HP.out.p0 _ _ _, HRd.out.2.2.1⟩, RN4, R14, RO4, R34, OA4, OB4, HB4⟩
        rw [wp1 (show i ≤ 1000000000000 by have := HI.out; omega)]
    ·
     have hin : i = n := by omega
     have d2 : decide (i < n) = false := decide_eq_false hi
     have HIN := as0 hin
     clear hi hg hin
     go_wp2
     go_ret3
     have fn : fin = some (xa, xb) := by
      rw [HF.out, List.drop_of_length_le (by rw [HIN.out, HN.out]; exact Nat.le_refl _)]
      show some (xa ++ [], xb ++ []) = _
      rw [List.append_nil, List.append_nil]
     have h1 := hh.out
     rw [fn] at h1
     replace h1 : (xa, xb, (0 : Int)) = (ra, rb, er) := h1
     injection h1 with h1 h2
     injection h2 with h2 h3
     subst h1 h2 h3
     exact ⟨_, _, rfl, Kd.N_mono OA.out (fun _ _ => trivial), Kd.N_mono OB.out (fun _ _ => trivial), HB.out⟩
 ·
  rw [if_neg hcd] at h
  obtain ⟨cd, hcde⟩ : ∃ cd, cd = codeL p true Q := ⟨_, rfl⟩
  rw [← hcde] at h HCD hcd
  have d1 : (cd == 0) = false := beq_eq_false_iff_ne.mpr hcd
  have d2 : (cd != 0) = true := bne_iff_ne.mpr hcd
  have hh := as0 h
  clear h hcde hels hcd
  go_enter Try.func18, Try.ntmps18
  go_wp2_with (go_at_call 41; refine HCD.mono ?_; rintro e w' ⟨rfl, ⟨nd, rfl⟩⟩)
  go_ret3
  have h1 := hh.out
  injection h1 with h1 h2
  injection h2 with h2 h3
  subst h1 h2 h3
  exact ⟨_, _, rfl, Kd.N_nil _ _ _ _ _, Kd.N_nil _ _ _ _ _, pw_below_drewN (Below.refl _ _) _⟩
def impl_length_int64.f (l0 : List Int) : Option (Int) := some (l0.length : Int)
set_option maxHeartbeats 8000000 in
set_option maxRecDepth 100000 in
theorem impl_length_int64.calls (A0 : Option Addr) (c0 : Nat) (l0 : List Int) (r : Int) (w : World) (hr0 : Kd.C (Kd.int .i64) w A0 l0.length l0) (hc0 : l0.length ≤ c0) (h : impl_length_int64.f l0 = some r) :
  Calls Try.prog 89 #[.slice A0 l0.length c0] w fun e w' => e = .returned (.int .i64 r) ∧ Drawn0 w w' := by
 have HR0 := as0 hr0
 have HC0 := as0 hc0
 clear hr0 hc0
 have H : (some (l0.length : Int)) = some r := h
 clear h
 obtain rfl := Option.some.inj H
 go_enter Try.func89, Try.ntmps89
 go_wp2
 go_ret
 exact ⟨ea_, dr_⟩
def impl_degree.f (l0 : List Int) : Option (Int) := (impl_length_int64.f l0).bind fun t279 => (some (wrap64 (t279 - 1)))
set_option maxHeartbeats 8000000 in
set_option maxRecDepth 100000 in
theorem impl_degree.calls (A0 : Option Addr) (c0 : Nat) (l0 : List Int) (r : Int) (w : World) (hr0 : Kd.C (Kd.int .i64) w A0 l0.length l0) (hc0 : l0.length ≤ c0) (h : impl_degree.f l0 = some r) :
  Calls Try.prog 52 #[.slice A0 l0.length c0] w fun e w' => e = .returned (.int .i64 r) ∧ Drawn0 w w' := by
 have HR0 := as0 hr0
 have HC0 := as0 hc0
 clear hr0 hc0
 have H : ((impl_length_int64.f l0).bind fun t279 => (some (wrap64 (t279 - 1)))) = some r := h
 clear h
 replace H := Option.bind_eq_some_iff.mp H
 obtain ⟨t279, A20, H⟩ := H
 have A2 := as0 A20
 clear A20
 obtain rfl := Option.some.inj H
 go_enter Try.func52, Try.ntmps52
 go_wp2_with (first | ((with_reducible refine gate_callee (f := 89) rfl ?_); refine goesM_ (some 4) rfl rfl Try.func89 #[.slice A0 l0.length c0] rfl ?_; (with_reducible refine (impl_length_int64.calls _ _ l0 t279 _ ?side1 ?side2 A2.out).mono ?_); (case side1 => exact cs (HR0.out)); (case side2 => exact HC0.out); rintro e w' ⟨rfl, ⟨nd, rfl⟩⟩; refine ⟨_, rfl, ?_⟩))
 go_ret
 exact ⟨ea_, dr_⟩
end Go.Proofs.Ytlmolloallhclaa.H
set_option linter.unusedVariables false
set_option linter.unusedSimpArgs false
namespace Go.Proofs.Ytlmolloallhclaa.H
open Go.RowKit Go.Proofs.YtlmolloallhclaaW.PrintWords Go.Proofs.YtlmolloallhclaaW.PrintLast Go.Proofs.YtlmolloallhclaaW.PrintMore Go.Proofs.Ytlmolloallhclaa.Num
theorem impl_deg (l : List Int) (h : l.length ≤ 1000000000000) : impl_degree.f l = some ((l.length : Int) - 1) := by
 simp (disch := omega) only [impl_degree.f, impl_length_int64.f, Option.bind_some, w64]
end Go.Proofs.Ytlmolloallhclaa.H
namespace Go.Proofs.Ytlmolloallhclaa.H
open Go.RowKit Go.Proofs.YtlmolloallhclaaW.PrintWords Go.Proofs.YtlmolloallhclaaW.PrintLast Go.Proofs.YtlmolloallhclaaW.PrintMore
attribute [local go_sem] max2_int min2_int max_two min_two max_three min_three max_four min_four   -- for this text's walks alone
set_option linter.unusedVariables false
set_option linter.unusedSimpArgs false
def impl_cloned.l0 : Nat → List (List Int) → List (List Int) → Int → Int → Option ((List (List Int)))
 | 0, _, _, _, _ => none
 | k + 1, x3, x6, x7, x8 => if x8 < x7 then (if 0 ≤ x8 then (if x8 < (x6.length : Int) then ((slices_Clone_int64_int64.f (rd_L1 x6 x8)).bind fun t281 => (if x3.length < 5864062014805 then (impl_cloned.l0 k (x3 ++ [t281]) x6 x7 (wrap64 (x8 + 1))) else (none))) else (none)) else (none)) else (some x3)
def impl_cloned.f (k : Nat) (l0 : List (List Int)) : Option ((List (List Int))) := impl_cloned.l0 k ([] : List (List Int)) l0 (l0.length : Int) 0
set_option maxHeartbeats 8000000 in
set_option maxRecDepth 100000 in
theorem impl_cloned.calls (k : Nat) (A0 : Option Addr) (c0 : Nat) (l0 : List (List Int)) (r : List (List Int)) (w : World) (hr0 : Kd.C (Kd.slice 2 (Kd.int .i64)) w A0 l0.length l0) (hc0 : l0.length ≤ c0) (h : impl_cloned.f k l0 = some r) :
  Calls Try.prog 53 #[.slice A0 l0.length c0] w fun e w' => ∃ v0_ : Value, e = .returned (v0_) ∧ Kd.S (Kd.slice 2 (Kd.int .i64)) 22 w' w.heap.size (fun _ => True) v0_ r ∧ Below w.heap.size w w' := by
 have HR0 := as0 hr0
 have HC0 := as0 hc0
 clear hr0 hc0
 have HB := as0 (Below.refl w.heap.size w)
 have H : (impl_cloned.l0 k ([] : List (List Int)) l0 (l0.length : Int) 0) = some r := h
 clear h
 have H' := as0 H
 clear H
 go_enter Try.func53, Try.ntmps53
 go_wp2
 go_loopg [3, 8] k (fun kq v3 v8 w' => ∃ (x3_1 : List (List Int)) (x8_1 : Int), v8 = .int .i64 x8_1 ∧ Aside0 (impl_cloned.l0 kq x3_1 l0 (l0.length : Int) x8_1 = some r) ∧ Aside0 (kq ≤ k) ∧ Aside0 (Kd.S (Kd.slice 2 (Kd.int .i64)) 22 w' w.heap.size (fun _ => True) v3 x3_1) ∧ Aside0 (Below w.heap.size w w'))
 case atStart => exact ⟨(([] : List (List Int))), (0), ea_, H', ⟨Nat.le_refl _⟩, ⟨by first | exact Kd.S_nil _ _ _ _ _ | exact Kd.N_nil _ _ _ _ _ | exact Kd.V_nil _ _ _ _ _ | exact Kd.Q_nil _ _ _ _ _ | exact Kd.R_nil _ _ _ _ _⟩, ⟨bs HB⟩⟩
 case round =>
  clear H'
  obtain ⟨x3_1, x8_1, rfl, HA, HK1, HO_3, HB⟩ := hrel
  cases gk with
  | zero => exact absurd HA.out (by simp [impl_cloned.l0])
  | succ k1 =>
   have H := HA.out
   clear HA
   simp only [impl_cloned.l0] at H
   by_cases c2 : x8_1 < (l0.length : Int)
   ·
    rw [if_pos c2] at H
    have c2b0 : decide (x8_1 < (l0.length : Int)) = true := decide_eq_true c2
    clear c2
    by_cases c3 : 0 ≤ x8_1
    ·
     rw [if_pos c3] at H
     have c3b0 : decide (0 ≤ x8_1) = true := decide_eq_true c3
     clear c3
     by_cases c4 : x8_1 < (l0.length : Int)
     ·
      rw [if_pos c4] at H
      have c4b0 : decide (x8_1 < (l0.length : Int)) = true := decide_eq_true c4
      clear c4
      replace H := Option.bind_eq_some_iff.mp H
      obtain ⟨t281, A50, H⟩ := H
      have A5 := as0 A50
      clear A50
      by_cases c6 : x3_1.length < 5864062014805
      ·
       rw [if_pos c6] at H
       have LMc6 := as0 c6
       clear c6
       obtain ⟨y284, hy284⟩ : ∃ y_ : List (List Int), y_ = (x3_1 ++ [t281]) := ⟨_, rfl⟩
       replace H : (impl_cloned.l0 k1 y284 l0 (l0.length : Int) (wrap64 (x8_1 + 1))) = some r := by first | (rw [hy284]; with_reducible exact H) | (have H2_ := (Option.bind_some _ _).symm.trans H; rw [hy284]; with_reducible exact H2_) | (have H2_ := (Option.bind_some _ _).symm.trans H; with_reducible exact H2_) | with_reducible exact H | (rw [hy284]; exact H) | exact H
       have Ny284 := as0 hy284
       clear hy284
       have H' := as0 H
       clear H
       have p280 : 0 ≤ (x8_1 : Int) := oa_
       have q280 : x8_1 < (l0.length : Int) := oa_
       obtain ⟨ad280, A280_0, c280_0, e280, hx280_0, hl280_0, hi280_0⟩ := at_L1 HR0.out x8_1 p280 q280
       cases e280
       replace hx280_0 := (HB.out.cell (World.block_lt_of_cell? w _ hx280_0)).trans hx280_0
       have HR280_0 := as0 hi280_0
       have HC280_0 := as0 hl280_0
       clear hi280_0 hl280_0
       replace p280 := eq_true p280
       replace q280 := eq_true q280
       go_wp2_with (first | ((with_reducible refine gate_callee (f := 87) rfl ?_); refine goesM_ (some 14) rfl rfl Try.func87 #[.slice A280_0 (rd_L1 l0 x8_1).length c280_0] rfl ?_; (with_reducible refine (slices_Clone_int64_int64.calls _ _ (rd_L1 l0 x8_1) t281 _ ?side1 ?side2 A5.out).mono ?_); (case side1 => exact cs ((Kd.C_below HR280_0.out HB.out))); (case side2 => exact HC280_0.out); rintro e w7 ⟨v282, rfl, ho0, hb⟩; refine ⟨_, rfl, ?_⟩; have n0_ := as0 (Kd.S_elder' (by (with_reducible repeat (first | apply Kd.S_alloc | apply Kd.S_drewN | apply Kd.S_drew)); exact HO_3.out) (Kd.R_base ho0) hb); have n1_ := as0 (Kd.R_lower ho0 (below_size (bs HB))); have n2_ := as0 (below_step (bs HB) hb); clear HO_3; clear HB; have HO_3 := n0_; have HO283 := n1_; have HB := n2_; clear n0_ n1_ n2_; (try clear hb); (try clear hb2); (try clear hk); (try clear hi); (try clear ho0); obtain ⟨Ao9, co9, eo9⟩ := Kd.R_slice HO283.out; subst eo9) | ((with_reducible refine gate_builtin (b := .append) (xs := #[.tmp 12, .tmp 15]) rfl ?_); at_builtin; refine Kd.S_append (Kd.slice 2 (Kd.int .i64)) (w0 := w) w.heap.size rfl (.tmp 12) (.tmp 15) 23 22 (.slice none 0 0) 24 rfl Try.underlying23 info22 rfl (by decide) (by omega) u3 x3_1 t281 [.slice Ao9 t281.length co9] (fun _ => True) (fun k_ => some k_ = (.slice Ao9 t281.length co9 : Value).ownBlock) rfl rfl ?aP (fun k_ hk_ => ((Kd.R_mono (ok' := fun k_ => ((fun _ => True)) k_ ∧ some k_ ≠ (u3 : Value).ownBlock) (Kd.R_apart' (HO283.out) (Kd.S_typed HO_3.out) (by decide)) (fun k_ hk => ⟨trivial, hk.2⟩))).1 k_ hk_.symm) ?aF ?aO ?aB ?aS ?aL ?_; (case aP => exact Kd.M_row (Kd.R_mono (Kd.R_tight rfl (Kd.R_mono (ok' := fun k_ => ((fun _ => True)) k_ ∧ some k_ ≠ (u3 : Value).ownBlock) (Kd.R_apart' (HO283.out) (Kd.S_typed HO_3.out) (by decide)) (fun k_ hk => ⟨trivial, hk.2⟩))) (fun _ h_ => h_))); (case aB => exact (bs HB)); (case aF => exact (fun _ _ => trivial)); (case aO => exact (by (with_reducible repeat (first | apply Kd.S_alloc | apply Kd.S_drewN | apply Kd.S_drew)); exact Kd.S_mono HO_3.out (fun k_ hk => ⟨trivial, fun e_ => hk.2 e_⟩))); (case aS => exact (below_size (bs HB))); (case aL => have := LMc6.out; omega); intro v285 w8 ho hb hg hat; rw [← Ny284.out] at ho; have n0_ := as0 (hb); have n1_ := as0 (ho); clear HB; clear HO_3; clear HO283; have HB := n0_; have HO286 := n1_; clear n0_ n1_; clear ho hb hg hat))
       go_roundg k1
       case measure => have := HK1.out; omega
       case rel => exact ⟨(y284), (wrap64 (x8_1 + 1)), ea_, H', ⟨by have := HK1.out; omega⟩, ⟨by (with_reducible repeat (first | apply Kd.S_alloc | apply Kd.S_drewN | apply Kd.S_drew)); exact HO286.out⟩, ⟨bs HB⟩⟩
      ·
       rw [if_neg c6] at H
       exact absurd H (by simp)
     ·
      rw [if_neg c4] at H
      exact absurd H (by simp)
    ·
     rw [if_neg c3] at H
     exact absurd H (by simp)
   ·
    rw [if_neg c2] at H
    have c2b0 : decide (x8_1 < (l0.length : Int)) = false := decide_eq_false c2
    clear c2
    obtain rfl := Option.some.inj H
    go_wp2
    go_ret
    exact ⟨_, er_, by (with_reducible repeat (first | apply Kd.S_alloc | apply Kd.S_drewN | apply Kd.S_drew)); exact HO_3.out, bs HB⟩
end Go.Proofs.Ytlmolloallhclaa.H
set_option linter.unusedVariables false
set_option linter.unusedSimpArgs false
namespace Go.Proofs.Ytlmolloallhclaa.H
open Go.RowKit Go.Proofs.Ytlmolloallhclaa.Num
structure Rin (α : Type) where
 ad : α → α → α
 ml : α → α → α
 ng : α → α
 z : α
 o : α
 ad_c : ∀ a b, ad a b = ad b a
 ad_a : ∀ a b c, ad (ad a b) c = ad a (ad b c)
 ad_z : ∀ a, ad a z = a
 ad_n : ∀ a, ad a (ng a) = z
 ml_c : ∀ a b, ml a b = ml b a
 ml_a : ∀ a b c, ml (ml a b) c = ml a (ml b c)
 ml_o : ∀ a, ml a o = a
 ml_d : ∀ a b c, ml a (ad b c) = ad (ml a b) (ml a c)
def Rin.up {α : Type} (M : Nat → Nat → α) (r : Nat) (v : Nat → α) : Nat → Nat → α := fun i j => if i = r then v j else M i j
theorem Rin.up_self {α : Type} (M : Nat → Nat → α) (r : Nat) : up M r (M r) = M := by
 funext i j; unfold up; split
 ·
  subst_vars; rfl
 ·
  rfl
end Go.Proofs.Ytlmolloallhclaa.H
set_option linter.unusedVariables false
set_option linter.unusedSimpArgs false
namespace Go.Proofs.Ytlmolloallhclaa.H
open Go.RowKit Go.Proofs.Ytlmolloallhclaa.Num
end Go.Proofs.Ytlmolloallhclaa.H
set_option linter.unusedVariables false
set_option linter.unusedSimpArgs false
namespace Go.Proofs.Ytlmolloallhclaa.H
open Go.RowKit Go.Proofs.YtlmolloallhclaaW.PrintWords Go.Proofs.YtlmolloallhclaaW.PrintLast Go.Proofs.YtlmolloallhclaaW.PrintMore Go.Proofs.Ytlmolloallhclaa.Num
def ro (rows : List (List Int)) (i : Nat) : List Int := rows.getD i []
theorem ro_set (rows : List (List Int)) (b i : Nat) (x : List Int) (h : b < rows.length) : ro (rows.set b x) i = if i = b then x else ro rows i := by
 unfold ro
 rw [List.getD_eq_getElem?_getD, List.getD_eq_getElem?_getD]
 by_cases e : i = b
 ·
  subst e; rw [if_pos rfl, List.getElem?_set_self h]; rfl
 ·
  rw [if_neg e, List.getElem?_set_ne (fun h => e h.symm)]
structure Sq (p : Int) (n : Nat) (rows : List (List Int)) : Prop where
 len : rows.length = n
 row : ∀ i, i < n → (ro rows i).length = n
 inR : ∀ i, i < n → InR p (ro rows i)
theorem Sq.set {p : Int} {n : Nat} {rows : List (List Int)} (h : Sq p n rows) {b : Nat} (hb : b < n) {x : List Int} (hx : x.length = n) (hr : InR p x) : Sq p n (rows.set b x) := by
 refine ⟨by rw [List.length_set, h.len], fun i hi => ?_, fun i hi => ?_⟩
 ·
  rw [ro_set _ _ _ _ (by rw [h.len]; exact hb)]
  split
  ·
   exact hx
  ·
   exact h.row i hi
 ·
  rw [ro_set _ _ _ _ (by rw [h.len]; exact hb)]
  split
  ·
   exact hr
  ·
   exact h.inR i hi
end Go.Proofs.Ytlmolloallhclaa.H
