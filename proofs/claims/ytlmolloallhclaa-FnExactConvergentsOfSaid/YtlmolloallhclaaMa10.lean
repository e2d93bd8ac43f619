/- Joined texts of a claim: the printed functions and what is proved of them. -/
import Derived.Test.YtlmolloallhclaaMa7
import Derived.Test.YtlmolloallhclaaMa6
import Derived.Test.YtlmolloallhclaaMa8
import Derived.Test.YtlmolloallhclaaYHx0
import Derived.Test.YtlmolloallhclaaMa1
import Derived.Test.YtlmolloallhclaaMa2
import Derived.Test.YtlmolloallhclaaMa9
import Derived.Test.YtlmolloallhclaaMa3
import Derived.Test.YtlmolloallhclaaMa4
namespace Go.Proofs.Ytlmolloallhclaa.H
open Go.RowKit Go.Proofs.YtlmolloallhclaaW.PrintWords Go.Proofs.YtlmolloallhclaaW.PrintLast Go.Proofs.YtlmolloallhclaaW.PrintMore
attribute [local go_sem] max2_int min2_int max_two min_two max_three min_three max_four min_four   -- for this text's walks alone
set_option linter.unusedVariables false
set_option linter.unusedSimpArgs false
theorem conv1_gives (B : Nat) (A1 : Option Addr) (n c1 : Nat) (w : World) (hB : w.cell? ⟨B, 0, none⟩ = some (.slice A1 n c1)) : Gives0 49 #[.pointer (some ⟨B, 0, none⟩)] (decide ((n : Int) ≤ 24)) w := by
 intro W hW
 have hB' := pw_cell_below hW hB
 clear hW hB
 go_enter Try.func49, Try.ntmps49
 go_wp2
 go_ret
 exact ⟨rfl, Below.refl _ _⟩
set_option maxHeartbeats 4000000 in
set_option maxRecDepth 100000 in
theorem polyCode_opt (k : Nat) (p : Int) (g : Nat) (lb : Array Value) (eg : ∀ args w, (callFunc g args).run Try.prog w = .ok (.enter g args) w) (b t : Bool) (P : Option Addr) (n c : Nat) (hn : n ≤ 9223372036854775807) (ok : Bool) (q : Nat → Bool) (hok : ok = true ↔ ∀ j, j < n → q j = true) (w : World)
  (hg : Gives0 g lb b w) (h : ∀ j, j < n → ∃ (ad : Addr) (A : Option Addr) (c : Nat) (l : List Int), P = some ad ∧ w.cell? (ad.add j) = some (.slice A l.length c) ∧ Kd.C (Kd.int .i64) w A l.length l ∧ l.length ≤ c ∧ q j = polyB p l) (ht : ok = true → impl_IsPrime.f k p = some t) :
  Calls Try.prog 43 #[.int .i64 p, .func (.func g) #[] lb, .slice P n c] w fun e w' => e = .returned (.int .i64 (if ok = true then (if (t && b) = true then 0 else 2) else 1)) ∧ Below w.heap.size w w' := by
 have ec : ∀ args w, (callFunc 84 args).run Try.prog w = .ok (.enter 84 args) w := enters_of Try.func84 (by kernel_rfl) rfl
 have hcell : (w.alloc (.cells #[.int .i64 p] 2)).cell? ⟨w.heap.size, 0, none⟩ = some (.int .i64 p) := by simp
 have hb0 : Below w.heap.size w (w.alloc (.cells #[.int .i64 p] 2)) := (Below.refl _ w).alloc (Nat.le_refl _) _
 have HA := areAll2_clos P n c q ok hok 84 #[.pointer (some ⟨w.heap.size, 0, none⟩)] ec (w.alloc (.cells #[.int .i64 p] 2)) hn (fun j hj => by
  obtain ⟨ad, A, c, l, hP, hc, hr, hlc, hq⟩ := h j hj
  exact ⟨ad, _, hP, pw_cell_below hb0 hc, hq ▸ polyClos p A c l _ _ hcell (Kd.C_below hr hb0) hlc⟩)
 clear h ec hok
 have Hb0 := as0 hb0
 clear hb0
 cases ok with
 | false =>
  clear hg eg hcell
  go_enter Try.func43, Try.ntmps43
  go_wp2_with (go_at_call 83; refine HA.mono ?_; rintro e w' ⟨rfl, hb⟩)
  go_ret
  exact ⟨rfl, Hb0.out.trans (hb.mono (by simp))⟩
 | true =>
  have HP := fun W => impl_IsPrime.calls k p t W (ht rfl)
  have Hc := as0 hcell
  clear ht hcell
  cases t with
  | false =>
   clear hg eg
   go_enter Try.func43, Try.ntmps43
   go_wp2_with (first | (go_at_call 83; refine HA.mono ?_; rintro e w' ⟨rfl, hb⟩; have hc' := pw_cell_below hb Hc.out; have Hb := as0 hb; clear hb HA) | (go_at_call 86; refine (HP _).mono ?_; rintro e w' ⟨rfl, ⟨nd, rfl⟩⟩))
   go_ret
   exact ⟨rfl, pw_below_drewN (Hb0.out.trans (Hb.out.mono (by simp))) _⟩
  | true =>
   have Hg := as0 hg
   clear hg
   cases b with
   | _ =>
    go_enter Try.func43, Try.ntmps43
    go_wp2_with (first | (go_at_call 83; refine HA.mono ?_; rintro e w' ⟨rfl, hb⟩; have hc' := pw_cell_below hb Hc.out; have Hb := as0 hb; clear hb HA) | (go_at_call 86; refine (HP _).mono ?_; clear HP; rintro e w' ⟨rfl, ⟨nd, rfl⟩⟩))
    have Hd := as0 (pw_below_drewN (Hb0.out.trans (Hb.out.mono (by simp))) nd)
    refine (Hg.out _ Hd.out).mono ?_
    rintro e w' ⟨rfl, hb⟩
    have He := as0 (below_next Hd.out hb)
    clear hb Hd Hb hc' Hc Hg eg
    go_wp2
    go_ret
    exact ⟨rfl, He.out⟩
theorem conv_code {p : Int} {Q : List (List Int)} {A1 : Option Addr} {c1 : Nat} {w : World} (hr1 : Kd.C (Kd.slice 2 (Kd.int .i64)) w A1 Q.length Q) : ∀ (B : Nat) (W : World), Below w.heap.size w W → W.cell? ⟨B, 0, none⟩ = some (.slice A1 Q.length c1) →
  Calls Try.prog 43 #[.int .i64 p, .func (.func 49) #[] #[.pointer (some ⟨B, 0, none⟩)], .slice A1 Q.length c1] W fun e w' => e = .returned (.int .i64 (codeL p (decide ((Q.length : Int) ≤ 24)) Q)) ∧ Below W.heap.size W w' := by
 intro B W hW hB
 obtain ⟨K, hK⟩ := impl_prime p
 have eg : ∀ args w, (callFunc 49 args).run Try.prog w = .ok (.enter 49 args) w := enters_of Try.func49 (by kernel_rfl) rfl
 have hm : Q.length ≤ 9223372036854775807 := hr1.2.1
 have h := polyCode_opt K p 49 #[.pointer (some ⟨B, 0, none⟩)] eg (decide ((Q.length : Int) ≤ 24)) (Num.primeB p) A1 Q.length c1 hm (Q.all (polyB p)) (fun j => polyB p (Q.getD j [])) ⟨fun h j hj => by
   rw [List.all_eq_true] at h
   rw [List.getD_eq_getElem?_getD, List.getElem?_eq_getElem hj]
   exact h _ (List.getElem_mem hj), fun h => by
   rw [List.all_eq_true]
   intro l hl
   obtain ⟨j, hj, rfl⟩ := List.getElem_of_mem hl
   have := h j hj
   rwa [List.getD_eq_getElem?_getD, List.getElem?_eq_getElem hj] at this⟩ W (conv1_gives B A1 Q.length c1 W hB) (fun j hj => by
   obtain ⟨ad, A, c, e, hc, hl, hC⟩ := at_L1 hr1 (j : Int) (by omega) (by omega)
   have hq : rd_L1 Q (j : Int) = Q.getD j [] := by unfold rd_L1; rw [Int.toNat_natCast]
   rw [hq, Int.toNat_natCast] at hc
   rw [hq] at hl hC
   exact ⟨ad, A, c, Q.getD j [], e, pw_cell_below hW hc, Kd.C_below hC hW, hl, rfl⟩) (fun _ => hK K (Nat.le_refl _))
 exact h
theorem iconv_mul {p : Int} {A B : Option Addr} {c d : Nat} {q one : List Int} {W : World} (hp : Num.IsP p) (h1 : Kd.C (Kd.int .i64) W A q.length q) (hc : q.length ≤ c) (h2 : Kd.C (Kd.int .i64) W B one.length one) (hd : one.length ≤ d) (l1 : q.length ≤ 1000) (l2 : one.length ≤ 1000) (r1 : InR p q) (r2 : InR p one) :
  Calls Try.prog 51 #[.int .i64 p, .slice A q.length c, .slice B one.length d] W fun e w' => ∃ v0_ : Value, e = .returned (v0_) ∧ Kd.R (Kd.int .i64) 2 w' W.heap.size (fun _ => True) v0_ (mulL p q one) ∧ Below W.heap.size W w' := by
 obtain ⟨K, hK⟩ := impl_product hp.1 hp.2.1 l1 l2 r1 r2
 exact impl_field_product.calls K p A c q B d one _ W h1 hc h2 hd (hK K (Nat.le_refl _))
theorem iconv_add {p : Int} {A B : Option Addr} {c d : Nat} {q one : List Int} {W : World} (hp : Num.IsP p) (h1 : Kd.C (Kd.int .i64) W A q.length q) (hc : q.length ≤ c) (h2 : Kd.C (Kd.int .i64) W B one.length one) (hd : one.length ≤ d) (l1 : q.length ≤ 1000) (l2 : one.length ≤ 1000) (r1 : InR p q) (r2 : InR p one) :
  Calls Try.prog 50 #[.int .i64 p, .slice A q.length c, .slice B one.length d, .int .i64 1] W fun e w' => ∃ v0_ : Value, e = .returned (v0_) ∧ Kd.R (Kd.int .i64) 2 w' W.heap.size (fun _ => True) v0_ (addL p q one 1) ∧ Below W.heap.size W w' := by
 obtain ⟨K, hK⟩ := impl_add (c := 1) hp.1 hp.2.1 l1 l2 r1 r2 (by omega) (by omega)
 exact impl_field_add.calls K p A c q B d one 1 _ W h1 hc h2 hd (hK K (Nat.le_refl _))
section
variable {X : Nat → Prop} {w W w1 : World} {Ba Bb : Nat} {ca cb : Array Value} {va vb v v1 v2 v3 v4 : Value} {xa xb : List (List Int)} {l nx one ot three : List Int}
def Lw (X : Nat → Prop) (W : World) (va vb v : Value) (l : List Int) : Prop := ∃ A c, v = .slice A 1 c ∧ Kd.F (Kd.slice 2 (Kd.int .i64)) W (fun k => (X k ∧ some k ≠ va.ownBlock) ∧ some k ≠ vb.ownBlock) A 1 [l]
theorem Lw.new {base : Nat} (h : Kd.N (Kd.slice 2 (Kd.int .i64)) 22 W base (fun k => (X k ∧ some k ≠ va.ownBlock) ∧ some k ≠ vb.ownBlock) v [l]) : Lw X W va vb v l := by
 obtain ⟨A, c, rfl⟩ := Kd.N_slice h
 exact ⟨A, c, rfl, Kd.N_F h⟩
theorem Lw.below (h : Lw X W va vb v l) (hb : Below W.heap.size W w1) : Lw X w1 va vb v l := by
 obtain ⟨A, c, e, hF⟩ := h
 exact ⟨A, c, e, Kd.F_below hF hb⟩
theorem Lw.app1 {va1 : Value} (h : Lw X W va vb v l) (hg : W.grownBy w1 va.ownBlock) (hat : va1.ownBlock = va.ownBlock ∨ ∃ b, va1.ownBlock = some b ∧ W.heap.size ≤ b) : Lw X w1 va1 vb v l := by
 obtain ⟨A, c, e, hF⟩ := h
 refine ⟨A, c, e, Kd.F_mono (Kd.F_after (ok := fun k => X k ∧ some k ≠ vb.ownBlock) (Kd.F_mono hF fun k hk => ⟨⟨hk.1.1, hk.2⟩, hk.1.2⟩) hg hat) fun k hk => ⟨⟨hk.1.1, hk.2⟩, hk.1.2⟩⟩
structure CS (X : Nat → Prop) (w W : World) (Ba Bb : Nat) (ca cb : Array Value) (va vb : Value) (xa xb : List (List Int)) (v1 v2 v3 v4 : Value) (nx one ot three : List Int) : Prop where
 a : W.heap[Ba]? = some (.cells ca 62 (0, 0))
 b : W.heap[Bb]? = some (.cells cb 62 (0, 0))
 x : ∀ k, X k → k ≠ Ba ∧ k ≠ Bb
 n : ∀ k, W.heap.size ≤ k → X k
 oa : Kd.N (Kd.slice 2 (Kd.int .i64)) 22 W w.heap.size (fun k => X k ∧ some k ≠ vb.ownBlock) va xa
 ob : Kd.N (Kd.slice 2 (Kd.int .i64)) 22 W w.heap.size (fun k => X k ∧ some k ≠ va.ownBlock) vb xb
 hb : Below w.heap.size w W
 r1 : Rw X W va vb v1 nx
 r2 : Rw X W va vb v2 one
 r3 : Rw X W va vb v3 ot
 r4 : Rw X W va vb v4 three
theorem CS.below (h : CS X w W Ba Bb ca cb va vb xa xb v1 v2 v3 v4 nx one ot three) (hb : Below W.heap.size W w1) : CS X w w1 Ba Bb ca cb va vb xa xb v1 v2 v3 v4 nx one ot three :=
 ⟨(hb.block Ba (blk_lt' h.a)).trans h.a, (hb.block Bb (blk_lt' h.b)).trans h.b, h.x, fun k hk => h.n k (Nat.le_trans hb.size hk), Kd.N_below h.oa hb, Kd.N_below h.ob hb, below_step h.hb hb, h.r1.below hb, h.r2.below hb, h.r3.below hb, h.r4.below hb⟩
theorem CS.app1 {va1 : Value} (h : CS X w W Ba Bb ca cb va vb xa xb v1 v2 v3 v4 nx one ot three) (ho : Kd.N (Kd.slice 2 (Kd.int .i64)) 22 w1 w.heap.size (fun k => X k ∧ some k ≠ vb.ownBlock) va1 (xa ++ [nx])) (hb : Below w.heap.size w w1) (hg : W.grownBy w1 va.ownBlock) (hat : va1.ownBlock = va.ownBlock ∨ ∃ b, va1.ownBlock = some b ∧ W.heap.size ≤ b) :
  CS X w w1 Ba Bb ca cb va1 vb (xa ++ [nx]) xb v1 v2 v3 v4 nx one ot three :=
 ⟨(hg.block Ba (blk_lt' h.a) (fun e => (h.x Ba (h.oa.1 Ba e.symm).1).1 rfl)).trans h.a, (hg.block Bb (blk_lt' h.b) (fun e => (h.x Bb (h.oa.1 Bb e.symm).1).2 rfl)).trans h.b, h.x, fun k hk => h.n k (Nat.le_trans hg.size hk), ho, Kd.N_after h.ob hg hat, hb, h.r1.app1 hg hat, h.r2.app1 hg hat, h.r3.app1 hg hat, h.r4.app1 hg hat⟩
theorem CS.app2 {vb1 : Value} (h : CS X w W Ba Bb ca cb va vb xa xb v1 v2 v3 v4 nx one ot three) (ho : Kd.N (Kd.slice 2 (Kd.int .i64)) 22 w1 w.heap.size (fun k => X k ∧ some k ≠ va.ownBlock) vb1 (xb ++ [ot])) (hb : Below w.heap.size w w1) (hg : W.grownBy w1 vb.ownBlock) (hat : vb1.ownBlock = vb.ownBlock ∨ ∃ b, vb1.ownBlock = some b ∧ W.heap.size ≤ b) :
  CS X w w1 Ba Bb ca cb va vb1 xa (xb ++ [ot]) v1 v2 v3 v4 nx one ot three :=
 ⟨(hg.block Ba (blk_lt' h.a) (fun e => (h.x Ba (h.ob.1 Ba e.symm).1).1 rfl)).trans h.a, (hg.block Bb (blk_lt' h.b) (fun e => (h.x Bb (h.ob.1 Bb e.symm).1).2 rfl)).trans h.b, h.x, fun k hk => h.n k (Nat.le_trans hg.size hk), Kd.N_after h.oa hg hat, ho, hb, h.r1.app2 hg hat, h.r2.app2 hg hat, h.r3.app2 hg hat, h.r4.app2 hg hat⟩
theorem CS.far (h : CS X w W Ba Bb ca cb va vb xa xb v1 v2 v3 v4 nx one ot three) : ∀ k, W.heap.size ≤ k → (X k ∧ some k ≠ va.ownBlock) ∧ some k ≠ vb.ownBlock := fun k hk => ⟨⟨h.n k hk, fun e => by have := Kd.N_lt h.oa k e.symm; omega⟩, fun e => by have := Kd.N_lt h.ob k e.symm; omega⟩
end
theorem clonedR_loop (ls : List (List Int)) (hb : ∀ l ∈ ls, l.length ≤ 1000000) (hl : ls.length ≤ 1000000) : ∀ (d i : Nat), i + d = ls.length → Ev (fun k => impl_cloned.l0 k (ls.take i) ls (ls.length : Int) (i : Int)) ls := by
 intro d
 induction d with
 | zero =>
  intro i hi
  refine Ev.succ ?_
  simp only [impl_cloned.l0, if_neg (show ¬ ((i : Int) < (ls.length : Int)) by omega)]
  exact Ev_to (Ev.now _) (List.take_of_length_le (by omega))
 | succ d ih =>
  intro i hi
  have hil : i < ls.length := by omega
  have e1 : rd_L1 ls (i : Int) = ls[i] := by
   unfold rd_L1
   rw [Int.toNat_natCast, List.getD_eq_getElem?_getD, List.getElem?_eq_getElem hil]; rfl
  have hc : slices_Clone_int64_int64.f ls[i] = some ls[i] := by
   have := hb _ (List.getElem_mem hil)
   simp [slices_Clone_int64_int64.f, show (ls[i]).length < 17592186044416 by omega]
  refine Ev.succ ?_
  simp only [impl_cloned.l0, if_pos (show (i : Int) < (ls.length : Int) by omega), if_pos (show (0 : Int) ≤ (i : Int) by omega), e1, hc, Option.bind_some]
  simp only [if_pos (show (ls.take i).length < 5864062014805 by rw [List.length_take]; omega), wp1 (show i ≤ 1000000000000 by omega), List.take_append_getElem hil]
  exact ih (i + 1) (by omega)
theorem clonedR_ev (ls : List (List Int)) (hb : ∀ l ∈ ls, l.length ≤ 1000000) (hl : ls.length ≤ 1000000) : ∃ K, ∀ k, K ≤ k → impl_cloned.f k ls = some ls := by
 simp only [impl_cloned.f]
 exact clonedR_loop ls hb hl ls.length 0 (by omega)
def impl_ConvergentsOf.T9 : Bool × List (List Nat × List Nat) := (true, [([], []), ([0], [0]), ([], []), ([], []), ([], []), ([], []), ([5], [5]), ([3, 4, 6], [3, 4, 6]), ([], []), ([8], [8]), ([2, 7, 9, 7], [2, 7, 9]), ([1, 10], [1, 10]), ([11, 10, 0, 1, 2, 3, 4, 5, 6, 7, 8, 9, 10, 11], [11])])
def impl_ConvergentsOf.B9 : List Nat := [0, 1, 0, 0, 0, 0, 32, 120, 0, 256, 1020, 2047, 4095]
theorem impl_ConvergentsOf.tab9 : rtab .any (opsOf Try.f20 9) = impl_ConvergentsOf.T9 := by kernel_rfl
theorem impl_ConvergentsOf.bits9 : waitsOk impl_ConvergentsOf.T9.2 impl_ConvergentsOf.B9 = true := by kernel_rfl
def impl_ConvergentsOf.T10 : Bool × List (List Nat × List Nat) := (true, [([], []), ([0], [0]), ([], []), ([], []), ([], []), ([], []), ([5], [5]), ([3, 4, 6], [3, 4, 6]), ([], []), ([8], [8]), ([2, 7, 9, 7], [2, 7, 9]), ([1, 10], [1, 10]), ([11, 10, 0, 1, 2, 3, 4, 5, 6, 7, 8, 9, 10, 11], [11])])
def impl_ConvergentsOf.B10 : List Nat := [0, 1, 0, 0, 0, 0, 32, 120, 0, 256, 1020, 2047, 4095]
theorem impl_ConvergentsOf.tab10 : rtab .any (opsOf Try.f20 10) = impl_ConvergentsOf.T10 := by kernel_rfl
theorem impl_ConvergentsOf.bits10 : waitsOk impl_ConvergentsOf.T10.2 impl_ConvergentsOf.B10 = true := by kernel_rfl
def impl_ConvergentsOf.T13 : Bool × List (List Nat × List Nat) := (true, [([], []), ([], []), ([1], [1]), ([2], [2]), ([0, 3], [0, 3]), ([], []), ([], []), ([6], [6]), ([7], [7]), ([5, 8, 4], [5, 8]), ([4, 9, 0, 1, 2, 3, 4], [0, 4]), ([9, 10, 0, 1, 2, 3, 4, 5, 6, 7, 8, 9, 10], [5, 9])])
def impl_ConvergentsOf.B13 : List Nat := [0, 0, 2, 6, 15, 0, 0, 64, 192, 511, 1023, 2047]
theorem impl_ConvergentsOf.tab13 : rtab .any (opsOf Try.f20 13) = impl_ConvergentsOf.T13 := by kernel_rfl
theorem impl_ConvergentsOf.bits13 : waitsOk impl_ConvergentsOf.T13.2 impl_ConvergentsOf.B13 = true := by kernel_rfl
set_option maxHeartbeats 8000000 in
set_option maxRecDepth 100000 in
theorem impl_ConvergentsOf.calls (p : Int) (A1 : Option Addr) (c1 : Nat) (Q : List (List Int)) (ra rb : List (List Int)) (er : Int) (w : World) (hr1 : Kd.C (Kd.slice 2 (Kd.int .i64)) w A1 Q.length Q) (hc1 : Q.length ≤ c1) (h : convA p Q = (ra, rb, er)) :
  Calls Try.prog 20 #[.int .i64 p, .slice A1 Q.length c1] w fun e w' => ∃ (va vb : Value) (m : Nat), e = .returned (.tuple #[va, vb, .int .i64 er]) ∧ w.heap.size ≤ m ∧ Kd.S (Kd.slice 2 (Kd.int .i64)) 22 w' w.heap.size (fun k => k < m) va ra ∧ Kd.S (Kd.slice 2 (Kd.int .i64)) 22 w' m (fun _ => True) vb rb ∧ Below w.heap.size w w' := by
 have HCD := conv_code (p := p) (c1 := c1) hr1
 have HC := as0 hr1
 have HC1 := as0 hc1
 clear hr1 hc1
 have hbx : (w.alloc (.cells #[.slice A1 Q.length c1] 23)).heap[w.heap.size]? = some (.cells #[.slice A1 Q.length c1] 23 (0, 0)) := World.alloc_heap_new w _
 have hba : Below w.heap.size w (w.alloc (.cells #[.slice A1 Q.length c1] 23)) := below_alloc (Below.refl _ _) _
 have HCD := HCD w.heap.size _ hba (blk_cell1 hbx)
 have HBX := as0 hbx
 have HBA := as0 hba
 clear hbx hba
 rcases code_cases p (decide ((Q.length : Int) ≤ 24)) Q with ⟨hc, hb⟩ | ⟨hc, hx, hb, hp⟩ | ⟨hc, hx, hb, hp, hq⟩
 ·
  unfold convA at h
  rw [if_neg hc] at h
  rw [hb] at HCD
  generalize codeL p true Q = cd at h HCD hc
  have d2 : (cd != 0) = true := bne_iff_ne.mpr hc
  have hh := as0 h
  have HCD := as0 HCD
  clear h hb hc HBX
  go_enter Try.func20, Try.ntmps20
  go_wp2_with (go_at_call 43; refine HCD.out.mono ?_; clear HCD; rintro e w' ⟨rfl, hb⟩; have HBY := as0 (below_step HBA.out hb); clear hb HBA)
  go_ret3
  have h1 := hh.out
  injection h1 with h1 h2
  injection h2 with h2 h3
  subst h1 h2 h3
  exact ⟨_, _, _, rfl, Nat.le_refl _, Kd.S_nil _ _ _ _ _, Kd.S_nil _ _ _ _ _, HBY.out⟩
 ·
  unfold convA at h
  have hl : Q.length > 24 := by have := of_decide_eq_false hx; omega
  rw [if_pos hc, if_pos hl] at h
  rw [hb] at HCD
  have hh := as0 h
  have HCD := as0 HCD
  clear h hb hc HBX hx hp hl
  go_enter Try.func20, Try.ntmps20
  go_wp2_with (go_at_call 43; refine HCD.out.mono ?_; clear HCD; rintro e w' ⟨rfl, hb⟩; have HBY := as0 (below_step HBA.out hb); clear hb HBA)
  go_ret3
  have h1 := hh.out
  injection h1 with h1 h2
  injection h2 with h2 h3
  subst h1 h2 h3
  exact ⟨_, _, _, rfl, Nat.le_refl _, Kd.S_nil _ _ _ _ _, Kd.S_nil _ _ _ _ _, HBY.out⟩
 ·
  unfold convA at h
  have hl : ¬ Q.length > 24 := by have := of_decide_eq_true hx; omega
  rw [if_pos hc, if_neg hl] at h
  rw [hb] at HCD
  have hh := as0 h
  have HCD := as0 HCD
  have HP := as0 hp
  have HQ := as0 hq
  have H24 := as0 hl
  obtain ⟨Bq, hBq⟩ : ∃ Bq, Bq = w.heap.size := ⟨_, rfl⟩
  clear h hb hc hx hp hl hq
  go_enter Try.func20, Try.ntmps20
  go_upto_region 6 with (first | (go_at_call 43; refine HCD.out.mono ?_; clear HCD; rintro e w1 ⟨rfl, hb⟩; have HB := as0 (below_step HBA.out hb); have HBX1 := as0 ((hb.block _ (blk_lt' HBX.out)).trans HBX.out); clear hb HBA HBX) | ((with_reducible refine gate_dst (N := 21) rfl ?_); refine Kd.R_lit (Kd.int .i64) _ 2 ?hg (N := 21) ?hd (xs := ([1] : List Int)) (inner := [.int .i64 1]) (ok := fun _ => True) (okp := fun _ => True) ?hr ?hp (fun _ hk => hk) trivial (Below.refl _ _) (Nat.le_refl _) (by simp) ?_; (case hd => rfl); (case hg => rfl); (case hr => first | (go_simp; done) | (go_simp; rfl)); (case hp => exact Reps.one (show Kd.M (Kd.int .i64) _ _ _ 1 [.int .i64 1] from rfl) (Reps.none _ _)); intro v1 w2 ho hb hg_ hnew_; clear hg_ hnew_; obtain ⟨Ao, co1, eo⟩ := Kd.R_slice ho; subst eo; have O1 := as0 ho; have HB' := as0 (below_step HB.out hb); have HBX1' := as0 ((hb.block _ (blk_lt' HBX1.out)).trans HBX1.out); clear HB HBX1 ho hb; have HB := HB'; have HBX1 := HBX1'; clear HB' HBX1') | ((with_reducible refine gate_dst (N := 23) rfl ?_); refine Kd.R_lit (Kd.int .i64) _ 2 ?hg (N := 23) ?hd (xs := ([1] : List Int)) (inner := [.int .i64 1]) (ok := fun _ => True) (okp := fun _ => True) ?hr ?hp (fun _ hk => hk) trivial (Below.refl _ _) (Nat.le_refl _) (by simp) ?_; (case hd => rfl); (case hg => rfl); (case hr => first | (go_simp; done) | (go_simp; rfl)); (case hp => exact Reps.one (show Kd.M (Kd.int .i64) _ _ _ 1 [.int .i64 1] from rfl) (Reps.none _ _)); intro v4 w3 ho hb hg_ hnew_; clear hg_ hnew_; obtain ⟨Af, cf, ef⟩ := Kd.R_slice ho; subst ef; have O4 := as0 ho; have S3 := as0 hb; have HB' := as0 (below_step HB.out hb); have HBX1' := as0 ((hb.block _ (blk_lt' HBX1.out)).trans HBX1.out); clear HB HBX1 ho hb; have HB := HB'; have HBX1 := HBX1'; clear HB' HBX1'))
  obtain ⟨w4, hw4⟩ : ∃ w4, w4 = (w3.alloc (.cells #[.slice none 0 0, .slice Ao 1 co1] 62)).alloc (.cells #[.slice Af 1 cf, .slice none 0 0] 62) := ⟨_, rfl⟩
  rw [← hw4]
  obtain ⟨Ba, hBa⟩ : ∃ Ba, Ba = w3.heap.size := ⟨_, rfl⟩
  obtain ⟨Bb, hBb⟩ : ∃ Bb, Bb = w3.heap.size + 1 := ⟨_, rfl⟩
  have b34 : Below w3.heap.size w3 w4 := by rw [hw4]; exact below_alloc (below_alloc (Below.refl _ _) _) _
  have kA : w4.heap[Ba]? = some (.cells #[.slice none 0 0, .slice Ao 1 co1] 62 (0, 0)) := by
   rw [hw4, hBa, Below.heap_alloc _ _ _ (by simp)]; exact World.alloc_heap_new w3 _
  have kB : w4.heap[Bb]? = some (.cells #[.slice Af 1 cf, .slice none 0 0] 62 (0, 0)) := by
   rw [hw4, hBb]
   have := World.alloc_heap_new (w3.alloc (.cells #[.slice none 0 0, .slice Ao 1 co1] 62)) (.cells #[.slice Af 1 cf, .slice none 0 0] 62)
   simpa using this
  have s4 : w4.heap.size = w3.heap.size + 2 := by rw [hw4]; simp
  have KA := as0 kA
  have KB := as0 kB
  have KX := as0 ((b34.block _ (blk_lt' HBX1.out)).trans HBX1.out)
  have HB4 := as0 (below_step HB.out b34)
  have hX : ∀ k, k < w3.heap.size → (k ≠ Ba ∧ k ≠ Bb) := fun k hk => ⟨by omega, by omega⟩
  have r1 : Rw (fun k => k ≠ Ba ∧ k ≠ Bb) w4 (.slice none 0 0) (.slice none 0 0) (.slice Ao 1 co1) [1] :=
   ⟨Ao, co1, rfl, (Kd.R_reads' O1.out).2.1, Kd.F_below (Kd.F_below (Kd.F_mono (Kd.R_F (Kd.R_bound O1.out)) fun k hk => ⟨⟨hX k (Nat.lt_of_lt_of_le hk.2.2.1 S3.out.size), by simp [Value.ownBlock]⟩, by simp [Value.ownBlock]⟩) S3.out) b34⟩
  have r4 : Rw (fun k => k ≠ Ba ∧ k ≠ Bb) w4 (.slice none 0 0) (.slice none 0 0) (.slice Af 1 cf) [1] :=
   ⟨Af, cf, rfl, (Kd.R_reads' O4.out).2.1, Kd.F_below (Kd.F_mono (Kd.R_F (Kd.R_bound O4.out)) fun k hk => ⟨⟨hX k hk.2.2.1, by simp [Value.ownBlock]⟩, by simp [Value.ownBlock]⟩) b34⟩
  have r0 : Rw (fun k => k ≠ Ba ∧ k ≠ Bb) w4 (.slice none 0 0) (.slice none 0 0) (.slice none 0 0) [] := ⟨none, 0, rfl, Nat.le_refl _, Kd.F_nil _ _ _⟩
  have R1 := as0 r1
  have R2 := as0 r0
  have R4 := as0 r4
  have HBa := as0 (show w.heap.size < Ba ∧ Ba < Bb ∧ Bb < w4.heap.size from ⟨by have := HB.out.size; have := blk_lt' HBX1.out; omega, by omega, by omega⟩)
  rw [← hBb, ← hBa]
  clear hw4 hBa hBb b34 kA kB s4 hX r1 r4 r0 HB HBX1 O1 O4 S3
  obtain ⟨fin, hfin⟩ : ∃ fin, fin = cvL p Q [1] [] [] [1] := ⟨_, rfl⟩
  rw [← hfin] at hh
  have HF := as0 (show fin = (cvL p (Q.drop 0) [1] [] [] [1]).map (fun r => (([] : List (List Int)) ++ r.1, ([] : List (List Int)) ++ r.2)) by
   rw [hfin, List.drop_zero]
   cases cvL p Q [1] [] [] [1] <;> rfl)
  have HFN := as0 hfin
  clear hfin
  have HBd := as0 (show ([1] : List Int).length ≤ 25 ∧ ([] : List Int).length ≤ 25 ∧ ([] : List Int).length ≤ 25 ∧ ([1] : List Int).length ≤ 25 from by simp)
  have hr1 : InR p [1] := fun x hx => by rw [List.mem_singleton.1 hx]; have := HP.out.1; omega
  have hr0 : InR p [] := fun x hx => by simp at hx
  have HRd := as0 (show InR p [1] ∧ InR p [] ∧ InR p [] ∧ InR p [1] from ⟨hr1, hr0, hr0, hr1⟩)
  clear hr1 hr0
  obtain ⟨n, hn⟩ : ∃ n, n = Q.length := ⟨_, rfl⟩
  have HN := as0 hn
  have hn24 : n ≤ 24 := by have := H24.out; omega
  rw [← hn] at HC HC1 KX ⊢
  clear hn
  have hbx := blk_cell1 KX.out
  go_wp2
  go_loopg [8, 9, 27] n (fun kq v8 v9 v27 w' => ∃ (i : Nat) (xa xb : List (List Int)) (one two three four : List Int) (v1 v2 v3 v4 : Value), v27 = .int .i64 (i : Int) ∧ Aside0 (i + kq = n) ∧ Aside0 (fin = (cvL p (Q.drop i) one two three four).map (fun r => (xa ++ r.1, xb ++ r.2))) ∧ Aside0 (xa.length = i ∧ xb.length = i) ∧ Aside0 (one.length ≤ 25 ∧ two.length ≤ 25 ∧ three.length ≤ 25 ∧ four.length ≤ 25) ∧ Aside0 (InR p one ∧ InR p two ∧ InR p three ∧ InR p four) ∧ Aside0 (Rw (fun k => k ≠ Ba ∧ k ≠ Bb) w' v8 v9 v1 one) ∧ Aside0 (Rw (fun k => k ≠ Ba ∧ k ≠ Bb) w' v8 v9 v2 two) ∧ Aside0 (Rw (fun k => k ≠ Ba ∧ k ≠ Bb) w' v8 v9 v3 three) ∧ Aside0 (Rw (fun k => k ≠ Ba ∧ k ≠ Bb) w' v8 v9 v4 four) ∧ Aside0 (Kd.N (Kd.slice 2 (Kd.int .i64)) 22 w' w.heap.size (fun k => (k ≠ Ba ∧ k ≠ Bb) ∧ some k ≠ v9.ownBlock) v8 xa) ∧ Aside0 (Kd.N (Kd.slice 2 (Kd.int .i64)) 22 w' w.heap.size (fun k => (k ≠ Ba ∧ k ≠ Bb) ∧ some k ≠ v8.ownBlock) v9 xb) ∧ Aside0 (w'.heap[Ba]? = some (.cells #[v2, v1] 62 (0, 0))) ∧ Aside0 (w'.heap[Bb]? = some (.cells #[v4, v3] 62 (0, 0))) ∧ Aside0 (Below w.heap.size w w'))
  case atStart => exact ⟨0, [], [], [1], [], [], [1], _, _, _, _, rfl, ⟨by omega⟩, HF, ⟨rfl, rfl⟩, HBd, HRd, R1, R2, R2, R4, ⟨Kd.N_nil _ _ _ _ _⟩, ⟨Kd.N_nil _ _ _ _ _⟩, KA, KB, HB4⟩
  case round =>
   clear HF HBd HRd R1 R2 R4 KA KB HB4 KX hbx
   obtain ⟨i, xa, xb, one, two, three, four, v1, v2, v3, v4, rfl, HG, HF, HLn, HBd, HRd, R1, R2, R3, R4, OA, OB, KA, KB, HB⟩ := hrel
   have hg := HG.out
   by_cases hi : i < n
   ·
    have d2 : decide (i < n) = true := decide_eq_true hi
    obtain ⟨G, rfl⟩ : ∃ G, gk = G + 1 := ⟨gk - 1, by omega⟩
    have HI := as0 hi
    obtain ⟨q, hq⟩ : ∃ q, q = rd_L1 Q (i : Int) := ⟨_, rfl⟩
    have hqd : Q.drop i = q :: Q.drop (i + 1) := by
     have hl : i < Q.length := by rw [← HN.out]; exact hi
     rw [List.drop_eq_getElem_cons hl, hq]
     unfold rd_L1
     rw [Int.toNat_natCast, List.getD_eq_getElem?_getD, List.getElem?_eq_getElem hl]; rfl
    have hpq : Po p q := HQ.out q (by
     have hl : i < Q.length := by rw [← HN.out]; exact hi
     rw [hq]; unfold rd_L1
     rw [Int.toNat_natCast, List.getD_eq_getElem?_getD, List.getElem?_eq_getElem hl]
     exact List.getElem_mem hl)
    obtain ⟨adq, Aq, cq, eq, hcq, hlq, hCq⟩ := at_L1 HC.out (i : Int) (by omega) (by omega)
    rw [← hq] at hcq hlq hCq
    subst eq
    rw [Int.toNat_natCast] at hcq
    replace hcq := pw_cell_below HB.out hcq
    have HCQ := as0 hCq
    have HLQ := as0 hlq
    have HPQ := as0 hpq
    have HQD := as0 hqd
    have p1 := eq_true (show (0 : Int) ≤ (i : Int) by omega)
    have p2 := eq_true (show (i : Int) < (n : Int) by omega)
    obtain ⟨Ao, co1, eo, lo, FO⟩ := R1.out
    obtain ⟨At, ct, et, lt, FT⟩ := R2.out
    obtain ⟨Ah, ch, eh, lh, FH⟩ := R3.out
    obtain ⟨Af, cf, ef, lf, FF⟩ := R4.out
    subst eo et eh ef
    have LO := as0 lo
    have LT := as0 lt
    have LH := as0 lh
    have LF := as0 lf
    have FO := as0 FO
    have FT := as0 FT
    clear FH FF
    have hA1 : wr.cell? ⟨Ba, 1, none⟩ = some (.slice Ao one.length co1) := (blk_cell KA.out 1).trans rfl
    have hA0 : wr.cell? ⟨Ba, 0, none⟩ = some (.slice At two.length ct) := (blk_cell KA.out 0).trans rfl
    clear hq hqd hpq hCq hlq lo lt lh lf hi hg
    go_wp2_with fail
    have OA1 := as0 (Kd.N_drew OA.out)
    have OB1 := as0 (Kd.N_drew OB.out)
    have HB1 := as0 (below_drew HB.out)
    have HWD := as0 (below_drew (Below.refl wr.heap.size wr))
    refine start_ (n := 13) (S := fun w' => w'.cell? ⟨Ba, 1, none⟩ = some (.slice Ao one.length co1) ∧ w'.cell? ⟨Ba, 0, none⟩ = some (.slice At two.length ct)) (ds := [12]) #[false, false, false, false, false, false, false, false, false, false, false, false, false] (by kernel_rfl) rfl rfl ⟨hA1, hA0⟩ (fun hHeld => ?_)
    refine with_tabW impl_ConvergentsOf.tab9 impl_ConvergentsOf.bits9 (fun HT_ HW_ => ?_)
    generalize wr.drew = wd at OA1 OB1 HB1 HWD hHeld ⊢
    clear hcq hA1 hA0 OA OB
    refine pm_ HT_ (i := 0) (N := some 31) ?_
    refine pm_ HT_ (i := 2) (N := some 33) ?_
    refine pm_ HT_ (i := 3) (N := some 34) ?_
    refine pm_ HT_ (i := 4) (N := some 35) ?_
    refine pm_ HT_ (i := 5) (N := some 36) ?_
    refine pm_ HT_ (i := 8) (N := some 39) ?_
    refine tm2_ HT_ HW_ (i := 1) (N := some 32) hHeld ?_
    refine tm2_ HT_ HW_ (i := 6) (N := some 37) hHeld ?_
    refine tm2_ HT_ HW_ (i := 9) (N := some 40) hHeld ?_
    refine one_ (i := 7) (N := (some 38)) #[true, true, true, true, true, true, true, true, true, true, false, false, false] rfl rfl (one_of HT_.out (by kernel_rfl)) (by decide) (fun K hK => ?_)
    refine goes_ Try.func51 (by kernel_rfl) rfl #[.int .i64 p, .slice Aq q.length cq, .slice Ao one.length co1] (by rfl) rfl rfl (by (try simp only [List.map_toArray, List.map_cons, List.map_nil]); first | done | rfl) ?_
    refine (iconv_mul HP.out (Kd.C_below HCQ.out (below_step HB.out HWD.out)) HLQ.out (Kd.C_below (Kd.F_now FO.out) HWD.out) LO.out (by have := HPQ.out.len; omega) (by have := HBd.out.1; omega) HPQ.out.inR HRd.out.1).mono ?_
    rintro e y1 ⟨vm1, rfl, om1, bm1⟩
    obtain ⟨Am1, cm1, em1⟩ := Kd.R_slice om1
    subst em1
    have Bm1 := as0 (below_step HWD.out bm1)
    have Om1 := as0 om1
    clear om1
    have Sm1 := as0 bm1
    clear bm1
    refine ⟨_, rfl, ?_⟩
    refine hK.out _ _ ⟨pw_cell_below Sm1.out hHeld.1, pw_cell_below Sm1.out hHeld.2⟩ (fun hHeld => ?_)
    clear hK K
    refine nm_ (some 38) ?_
    refine one_ (i := 10) (N := (some 41)) #[true, true, true, true, true, true, true, true, true, true, true, false, false] rfl rfl (one_of HT_.out (by kernel_rfl)) (by decide) (fun K hK => ?_)
    refine goes_ Try.func50 (by kernel_rfl) rfl #[.int .i64 p, .slice Am1 (mulL p q one).length cm1, .slice At two.length ct, .int .i64 1] (by rfl) rfl rfl (by (try simp only [List.map_toArray, List.map_cons, List.map_nil]); first | done | rfl) ?_
    refine (iconv_add HP.out (Kd.R_reads' Om1.out).2.2 (Kd.R_reads' Om1.out).2.1 (Kd.C_below (Kd.F_now FT.out) Bm1.out) LT.out (by have := mulL_len p q one; have := HPQ.out.len; have := HBd.out.1; omega) (by have := HBd.out.2.1; omega) (mulL_inR HP.out.p0 _ _) HRd.out.2.1).mono ?_
    rintro e y2 ⟨vn1, rfl, on1, bn1⟩
    obtain ⟨An1, cn1, en1⟩ := Kd.R_slice on1
    subst en1
    have Bn1 := as0 (below_step Bm1.out bn1)
    have On1 := as0 on1
    clear on1
    have Sn1 := as0 bn1
    clear bn1
    refine ⟨_, rfl, ?_⟩
    refine hK.out _ _ ⟨pw_cell_below Sn1.out hHeld.1, pw_cell_below Sn1.out hHeld.2⟩ (fun hHeld => ?_)
    clear hK K
    refine nm_ (some 41) ?_
    refine pm_ HT_ (i := 11) (N := some 42) ?_
    have kA2 := (Bn1.out.block Ba (blk_lt' KA.out)).trans KA.out
    have hA1 := hHeld.1
    have hA0 := hHeld.2
    have hf1 := blk_frozen kA2 1
    have hf0 := blk_frozen kA2 0
    refine last_ (i := 12) (N := none) #[true, true, true, true, true, true, true, true, true, true, true, true, true] rfl rfl (one_of HT_.out (by kernel_rfl)) (by decide) (fun K hK => ?_)
    refine skip_ (w1 := ?_) (by rfl) rfl ?_ ?_
    rotate_left
    ·
     go_simp
     rfl
    refine hK.out _ _ ?_
    clear hK K
    refine done_ (done_of HT_.out (by kernel_rfl)) ?_
    clear HT_ HW_ hHeld
    clear hA1 hA0 hf1 hf0
    have SY := as0 (below_step Sm1.out Sn1.out)
    have la := Kd.N_lt OA1.out
    have lb := Kd.N_lt OB1.out
    have z1 := Sm1.out.size
    have zw := HWD.out.size
    have lBb := blk_lt' KB.out
    have hX1 : ∀ k, y1.heap.size ≤ k → (k ≠ Ba ∧ k ≠ Bb) := fun k hk => ⟨by have := HBa.out.2.1; omega, by omega⟩
    have oa := Kd.N_below OA1.out SY.out
    have ob := Kd.N_below OB1.out SY.out
    have hb2 := below_step HB1.out SY.out
    have rn := Rw.new (X := fun k => k ≠ Ba ∧ k ≠ Bb) hX1 On1.out (fun k e => Nat.lt_of_lt_of_le (la k e) z1) (fun k e => Nat.lt_of_lt_of_le (lb k e) z1)
    have OA2 := as0 (Kd.N_far (p := ⟨Ba, 1, none⟩) (Kd.N_far (p := ⟨Ba, 0, none⟩) oa (fun k hk => hk.1.1) (.slice Ao one.length co1)) (fun k hk => hk.1.1) (.slice An1 (addL p (mulL p q one) two 1).length cn1))
    have OB2 := as0 (Kd.N_far (p := ⟨Ba, 1, none⟩) (Kd.N_far (p := ⟨Ba, 0, none⟩) ob (fun k hk => hk.1.1) (.slice Ao one.length co1)) (fun k hk => hk.1.1) (.slice An1 (addL p (mulL p q one) two 1).length cn1))
    have HB2 := as0 (below_set (j := 1) (v := .slice An1 (addL p (mulL p q one) two 1).length cn1) (below_set (j := 0) (v := .slice Ao one.length co1) hb2 (Nat.le_of_lt HBa.out.1)) (Nat.le_of_lt HBa.out.1))
    have RN := as0 ((rn.far (g := Ba) (j := 0) (fun k hk => hk.1) (.slice Ao one.length co1)).far (g := Ba) (j := 1) (fun k hk => hk.1) (.slice An1 (addL p (mulL p q one) two 1).length cn1))
    have R1' := as0 (((R1.out.below Bn1.out).far (g := Ba) (j := 0) (fun k hk => hk.1) (.slice Ao one.length co1)).far (g := Ba) (j := 1) (fun k hk => hk.1) (.slice An1 (addL p (mulL p q one) two 1).length cn1))
    have R3' := as0 (((R3.out.below Bn1.out).far (g := Ba) (j := 0) (fun k hk => hk.1) (.slice Ao one.length co1)).far (g := Ba) (j := 1) (fun k hk => hk.1) (.slice An1 (addL p (mulL p q one) two 1).length cn1))
    have R4' := as0 (((R4.out.below Bn1.out).far (g := Ba) (j := 0) (fun k hk => hk.1) (.slice Ao one.length co1)).far (g := Ba) (j := 1) (fun k hk => hk.1) (.slice An1 (addL p (mulL p q one) two 1).length cn1))
    have KA2 := as0 (show ((y2.setCell ⟨Ba, 0, none⟩ (.slice Ao one.length co1)).setCell ⟨Ba, 1, none⟩ (.slice An1 (addL p (mulL p q one) two 1).length cn1)).heap[Ba]? = some (.cells #[.slice Ao one.length co1, .slice An1 (addL p (mulL p q one) two 1).length cn1] 62 (0, 0)) by
     have := blk_set (blk_set kA2 0 (.slice Ao one.length co1)) 1 (.slice An1 (addL p (mulL p q one) two 1).length cn1)
     simpa using this)
    have kB2 := (Bn1.out.block Bb lBb).trans KB.out
    have hab : Bb ≠ Ba := by have := HBa.out.2.1; omega
    have KB2 := as0 (blk_far (p := ⟨Ba, 1, none⟩) (blk_far (p := ⟨Ba, 0, none⟩) kB2 hab (.slice Ao one.length co1)) hab (.slice An1 (addL p (mulL p q one) two 1).length cn1))
    have SZ := as0 (show wr.heap.size ≤ ((y2.setCell ⟨Ba, 0, none⟩ (.slice Ao one.length co1)).setCell ⟨Ba, 1, none⟩ (.slice An1 (addL p (mulL p q one) two 1).length cn1)).heap.size from Nat.le_trans Bn1.out.size ((Kept.setCell (Kept.setCell (Kept.refl y2 (fun _ => True)) (.inl trivial) _) (.inl trivial) _).1))
    have LB := as0 lBb
    generalize (y2.setCell ⟨Ba, 0, none⟩ (.slice Ao one.length co1)).setCell ⟨Ba, 1, none⟩ (.slice An1 (addL p (mulL p q one) two 1).length cn1) = wA at OA2 OB2 HB2 RN R1' R3' R4' KA2 KB2 SZ ⊢
    clear R1 R2 R3 R4 OA1 OB1 HB1 Sm1 Sn1 Bm1 Bn1 Om1 On1 SY FO FT HWD hHeld la lb z1 zw lBb hX1 oa ob hb2 rn kA2 kB2 hab KA KB HB LO LT
    obtain ⟨nx, hnx⟩ : ∃ nx, nx = addL p (mulL p q one) two 1 := ⟨_, rfl⟩
    rw [← hnx] at RN KA2 ⊢
    have HNX := as0 (show nx = stp p q one two from hnx)
    obtain ⟨a, ha⟩ : ∃ a, a = nx.length := ⟨_, rfl⟩
    have HA := as0 ha
    rw [← ha] at RN KA2 ⊢
    have a60 : (a : Int) ≤ 60 := by
     have := stp_len p q one two
     rw [ha, HNX.out]
     have := HPQ.out.len; have := HBd.out
     omega
    clear hnx ha
    obtain ⟨Ah, ch, eh, lh, FH⟩ := R3'.out
    obtain ⟨Af, cf, ef, lf, FF⟩ := R4'.out
    injection eh with eh1 eh2 eh3
    injection ef with ef1 ef2 ef3
    subst eh1 eh3 ef1 ef3
    have LH := as0 lh
    have LF := as0 lf
    have FH := as0 FH
    have FF := as0 FF
    clear eh2 ef2 lh lf
    have hB1 : wA.cell? ⟨Bb, 1, none⟩ = some (.slice _ three.length _) := (blk_cell KB2.out 1).trans rfl
    have hB0 : wA.cell? ⟨Bb, 0, none⟩ = some (.slice _ four.length _) := (blk_cell KB2.out 0).trans rfl
    go_wp2_with fail
    have OA1 := as0 (Kd.N_drew OA2.out)
    have OB1 := as0 (Kd.N_drew OB2.out)
    have HB1 := as0 (below_drew HB2.out)
    have HWD := as0 (below_drew (Below.refl wA.heap.size wA))
    refine start_ (n := 13) (S := fun w' => w'.cell? ⟨Bb, 1, none⟩ = some (.slice Ah three.length ch) ∧ w'.cell? ⟨Bb, 0, none⟩ = some (.slice Af four.length cf)) (ds := [12]) #[false, false, false, false, false, false, false, false, false, false, false, false, false] (by kernel_rfl) rfl rfl ⟨hB1, hB0⟩ (fun hHeld => ?_)
    refine with_tabW impl_ConvergentsOf.tab10 impl_ConvergentsOf.bits10 (fun HT_ HW_ => ?_)
    generalize wA.drew = wd at OA1 OB1 HB1 HWD hHeld ⊢
    clear hB1 hB0 OA2 OB2
    refine pm_ HT_ (i := 0) (N := some 43) ?_
    refine pm_ HT_ (i := 2) (N := some 45) ?_
    refine pm_ HT_ (i := 3) (N := some 46) ?_
    refine pm_ HT_ (i := 4) (N := some 47) ?_
    refine pm_ HT_ (i := 5) (N := some 48) ?_
    refine pm_ HT_ (i := 8) (N := some 51) ?_
    refine tm2_ HT_ HW_ (i := 1) (N := some 44) hHeld ?_
    refine tm2_ HT_ HW_ (i := 6) (N := some 49) hHeld ?_
    refine tm2_ HT_ HW_ (i := 9) (N := some 52) hHeld ?_
    refine one_ (i := 7) (N := (some 50)) #[true, true, true, true, true, true, true, true, true, true, false, false, false] rfl rfl (one_of HT_.out (by kernel_rfl)) (by decide) (fun K hK => ?_)
    refine goes_ Try.func51 (by kernel_rfl) rfl #[.int .i64 p, .slice Aq q.length cq, .slice Ah three.length ch] (by rfl) rfl rfl (by (try simp only [List.map_toArray, List.map_cons, List.map_nil]); first | done | rfl) ?_
    refine (iconv_mul HP.out (Kd.C_below HCQ.out (below_step HB2.out HWD.out)) HLQ.out (Kd.C_below (Kd.F_now FH.out) HWD.out) LH.out (by have := HPQ.out.len; omega) (by have := HBd.out.2.2.1; omega) HPQ.out.inR HRd.out.2.2.1).mono ?_
    rintro e y3 ⟨vm2, rfl, om2, bm2⟩
    obtain ⟨Am2, cm2, em2⟩ := Kd.R_slice om2
    subst em2
    have Bm2 := as0 (below_step HWD.out bm2)
    have Om2 := as0 om2
    clear om2
    have Sm2 := as0 bm2
    clear bm2
    refine ⟨_, rfl, ?_⟩
    refine hK.out _ _ ⟨pw_cell_below Sm2.out hHeld.1, pw_cell_below Sm2.out hHeld.2⟩ (fun hHeld => ?_)
    clear hK K
    refine nm_ (some 50) ?_
    refine one_ (i := 10) (N := (some 53)) #[true, true, true, true, true, true, true, true, true, true, true, false, false] rfl rfl (one_of HT_.out (by kernel_rfl)) (by decide) (fun K hK => ?_)
    refine goes_ Try.func50 (by kernel_rfl) rfl #[.int .i64 p, .slice Am2 (mulL p q three).length cm2, .slice Af four.length cf, .int .i64 1] (by rfl) rfl rfl (by (try simp only [List.map_toArray, List.map_cons, List.map_nil]); first | done | rfl) ?_
    refine (iconv_add HP.out (Kd.R_reads' Om2.out).2.2 (Kd.R_reads' Om2.out).2.1 (Kd.C_below (Kd.F_now FF.out) Bm2.out) LF.out (by have := mulL_len p q three; have := HPQ.out.len; have := HBd.out.2.2.1; omega) (by have := HBd.out.2.2.2; omega) (mulL_inR HP.out.p0 _ _) HRd.out.2.2.2).mono ?_
    rintro e y4 ⟨vn2, rfl, on2, bn2⟩
    obtain ⟨An2, cn2, en2⟩ := Kd.R_slice on2
    subst en2
    have Bn2 := as0 (below_step Bm2.out bn2)
    have On2 := as0 on2
    clear on2
    have Sn2 := as0 bn2
    clear bn2
    refine ⟨_, rfl, ?_⟩
    refine hK.out _ _ ⟨pw_cell_below Sn2.out hHeld.1, pw_cell_below Sn2.out hHeld.2⟩ (fun hHeld => ?_)
    clear hK K
    refine nm_ (some 53) ?_
    refine pm_ HT_ (i := 11) (N := some 54) ?_
    have kB3 := (Bn2.out.block Bb (blk_lt' KB2.out)).trans KB2.out
    have hB1 := hHeld.1
    have hB0 := hHeld.2
    have hf1 := blk_frozen kB3 1
    have hf0 := blk_frozen kB3 0
    refine last_ (i := 12) (N := none) #[true, true, true, true, true, true, true, true, true, true, true, true, true] rfl rfl (one_of HT_.out (by kernel_rfl)) (by decide) (fun K hK => ?_)
    refine skip_ (w1 := ?_) (by rfl) rfl ?_ ?_
    rotate_left
    ·
     go_simp
     rfl
    refine hK.out _ _ ?_
    clear hK K
    refine done_ (done_of HT_.out (by kernel_rfl)) ?_
    clear HT_ HW_ hHeld
    clear hB1 hB0 hf1 hf0
    have SY := as0 (below_step Sm2.out Sn2.out)
    have la := Kd.N_lt OA1.out
    have lb := Kd.N_lt OB1.out
    have z1 := Sm2.out.size
    have zw := HWD.out.size
    have lBa := blk_lt' KA2.out
    have lBb := blk_lt' KB2.out
    have hX1 : ∀ k, y3.heap.size ≤ k → (k ≠ Ba ∧ k ≠ Bb) := fun k hk => ⟨by omega, by omega⟩
    have oa := Kd.N_below OA1.out SY.out
    have ob := Kd.N_below OB1.out SY.out
    have hb2 := below_step HB1.out SY.out
    have ro := Rw.new (X := fun k => k ≠ Ba ∧ k ≠ Bb) hX1 On2.out (fun k e => Nat.lt_of_lt_of_le (la k e) z1) (fun k e => Nat.lt_of_lt_of_le (lb k e) z1)
    have hwb : w.heap.size ≤ Bb := by have := HBa.out; omega
    have OA3 := as0 (Kd.N_far (p := ⟨Bb, 1, none⟩) (Kd.N_far (p := ⟨Bb, 0, none⟩) oa (fun k hk => hk.1.2) (.slice Ah three.length ch)) (fun k hk => hk.1.2) (.slice An2 (addL p (mulL p q three) four 1).length cn2))
    have OB3 := as0 (Kd.N_far (p := ⟨Bb, 1, none⟩) (Kd.N_far (p := ⟨Bb, 0, none⟩) ob (fun k hk => hk.1.2) (.slice Ah three.length ch)) (fun k hk => hk.1.2) (.slice An2 (addL p (mulL p q three) four 1).length cn2))
    have HB3 := as0 (below_set (j := 1) (v := .slice An2 (addL p (mulL p q three) four 1).length cn2) (below_set (j := 0) (v := .slice Ah three.length ch) hb2 hwb) hwb)
    have RO := as0 ((ro.far (g := Bb) (j := 0) (fun k hk => hk.2) (.slice Ah three.length ch)).far (g := Bb) (j := 1) (fun k hk => hk.2) (.slice An2 (addL p (mulL p q three) four 1).length cn2))
    have RN' := as0 (((RN.out.below Bn2.out).far (g := Bb) (j := 0) (fun k hk => hk.2) (.slice Ah three.length ch)).far (g := Bb) (j := 1) (fun k hk => hk.2) (.slice An2 (addL p (mulL p q three) four 1).length cn2))
    have R1 := as0 (((R1'.out.below Bn2.out).far (g := Bb) (j := 0) (fun k hk => hk.2) (.slice Ah three.length ch)).far (g := Bb) (j := 1) (fun k hk => hk.2) (.slice An2 (addL p (mulL p q three) four 1).length cn2))
    have R3 := as0 (((R3'.out.below Bn2.out).far (g := Bb) (j := 0) (fun k hk => hk.2) (.slice Ah three.length ch)).far (g := Bb) (j := 1) (fun k hk => hk.2) (.slice An2 (addL p (mulL p q three) four 1).length cn2))
    have KB3 := as0 (show ((y4.setCell ⟨Bb, 0, none⟩ (.slice Ah three.length ch)).setCell ⟨Bb, 1, none⟩ (.slice An2 (addL p (mulL p q three) four 1).length cn2)).heap[Bb]? = some (.cells #[.slice Ah three.length ch, .slice An2 (addL p (mulL p q three) four 1).length cn2] 62 (0, 0)) by
     have := blk_set (blk_set kB3 0 (.slice Ah three.length ch)) 1 (.slice An2 (addL p (mulL p q three) four 1).length cn2)
     simpa using this)
    have kA3 := (Bn2.out.block Ba lBa).trans KA2.out
    have hab : Ba ≠ Bb := by have := HBa.out.2.1; omega
    have KA3 := as0 (blk_far (p := ⟨Bb, 1, none⟩) (blk_far (p := ⟨Bb, 0, none⟩) kA3 hab (.slice Ah three.length ch)) hab (.slice An2 (addL p (mulL p q three) four 1).length cn2))
    generalize (y4.setCell ⟨Bb, 0, none⟩ (.slice Ah three.length ch)).setCell ⟨Bb, 1, none⟩ (.slice An2 (addL p (mulL p q three) four 1).length cn2) = wB at OA3 OB3 HB3 RN' RO R1 R3 KA3 KB3 ⊢
    clear RN R1' R3' R4' OA1 OB1 HB1 HB2 Sm2 Sn2 Bm2 Bn2 Om2 On2 SY FH FF HWD hHeld la lb z1 zw lBa lBb hX1 oa ob hb2 ro kB3 kA3 hab hwb KA2 KB2 LH LF LB SZ HCQ
    obtain ⟨ot, hot⟩ : ∃ ot, ot = addL p (mulL p q three) four 1 := ⟨_, rfl⟩
    rw [← hot] at RO KB3 ⊢
    have HOT := as0 (show ot = stp p q three four from hot)
    obtain ⟨b, hb⟩ : ∃ b, b = ot.length := ⟨_, rfl⟩
    have HBl := as0 hb
    rw [← hb] at RO KB3 ⊢
    have b60 : (b : Int) ≤ 60 := by
     have := stp_len p q three four
     rw [hb, HOT.out]
     have := HPQ.out.len; have := HBd.out
     omega
    clear hot hb
    have HS := as0 (show cvL p (Q.drop i) one two three four = if a > 25 ∨ b > 25 then none else (cvL p (Q.drop (i + 1)) nx one ot three).map fun r => (nx :: r.1, ot :: r.2) by
     rw [HQD.out]
     show (if (stp p q one two).length > 25 ∨ (stp p q three four).length > 25 then none else _) = _
     rw [← HNX.out, ← HOT.out, ← HA.out, ← HBl.out])
    have hA1 : wB.cell? ⟨Ba, 1, none⟩ = some (.slice An1 a cn1) := (blk_cell KA3.out 1).trans rfl
    have hB1 : wB.cell? ⟨Bb, 1, none⟩ = some (.slice An2 b cn2) := (blk_cell KB3.out 1).trans rfl
    have HDA : ∀ W, Below wB.heap.size wB W → Calls Try.prog 52 #[.slice An1 a cn1] W fun e w' => e = .returned (.int .i64 ((a : Int) - 1)) ∧ Drawn0 W w' := fun W hW => by
     obtain ⟨A', c', e', hc', hF'⟩ := RN'.out
     injection e' with f1 f2 f3
     subst f1 f3
     have := impl_degree.calls An1 cn1 nx ((nx.length : Int) - 1) W (Kd.C_below (Kd.F_now hF') hW) hc' (impl_deg nx (by have := HA.out; omega))
     rwa [← HA.out] at this
    have HDB : ∀ W, Below wB.heap.size wB W → Calls Try.prog 52 #[.slice An2 b cn2] W fun e w' => e = .returned (.int .i64 ((b : Int) - 1)) ∧ Drawn0 W w' := fun W hW => by
     obtain ⟨A', c', e', hc', hF'⟩ := RO.out
     injection e' with f1 f2 f3
     subst f1 f3
     have := impl_degree.calls An2 cn2 ot ((ot.length : Int) - 1) W (Kd.C_below (Kd.F_now hF') hW) hc' (impl_deg ot (by have := HBl.out; omega))
     rwa [← HBl.out] at this
    have HDA := as0 HDA
    have HDB := as0 HDB
    by_cases ha25 : 25 < a
    ·
     have da : decide ((a : Int) - 1 > 24) = true := decide_eq_true (by omega)
     have h1 := HF.out
     rw [HS.out, if_pos (Or.inl ha25)] at h1
     have h2 := hh.out
     rw [show fin = none from h1] at h2
     have HE := as0 (show ([], [], 3) = (ra, rb, er) from h2)
     clear h1 h2
     go_wp2_with (go_at_call 52; refine (HDA.out _ (Below.refl _ _)).mono ?_; rintro e w' ⟨rfl, ⟨nd, rfl⟩⟩)
     go_ret3
     have h1 := HE.out
     injection h1 with h1 h2
     injection h2 with h2 h3
     subst h1 h2 h3
     exact ⟨_, _, _, rfl, Nat.le_refl _, Kd.S_nil _ _ _ _ _, Kd.S_nil _ _ _ _ _, pw_below_drewN HB3.out _⟩
    ·
     have da : decide ((a : Int) - 1 > 24) = false := decide_eq_false (by omega)
     by_cases hb25 : 25 < b
     ·
      have db : decide ((b : Int) - 1 > 24) = true := decide_eq_true (by omega)
      have h1 := HF.out
      rw [HS.out, if_pos (Or.inr hb25)] at h1
      have h2 := hh.out
      rw [show fin = none from h1] at h2
      have HE := as0 (show ([], [], 3) = (ra, rb, er) from h2)
      clear h1 h2
      go_wp2_with fail
      refine (HDA.out _ (Below.refl _ _)).mono ?_
      rintro e w' ⟨rfl, ⟨nd, rfl⟩⟩
      have hA1' := pw_cell_below (pw_below_drewN (Below.refl _ _) nd) hB1
      go_wp2_with fail
      refine (HDB.out _ (pw_below_drewN (Below.refl _ _) nd)).mono ?_
      rintro e w' ⟨rfl, ⟨nd2, rfl⟩⟩
      go_wp2
      go_ret3
      have h1 := HE.out
      injection h1 with h1 h2
      injection h2 with h2 h3
      subst h1 h2 h3
      exact ⟨_, _, _, rfl, Nat.le_refl _, Kd.S_nil _ _ _ _ _, Kd.S_nil _ _ _ _ _, pw_below_drewN HB3.out _⟩
     ·
      have db : decide ((b : Int) - 1 > 24) = false := decide_eq_false (by omega)
      have h1 := HS.out
      rw [if_neg (by omega)] at h1
      have HF2 := as0 (show fin = (cvL p (Q.drop (i + 1)) nx one ot three).map (fun r => ((xa ++ [nx]) ++ r.1, (xb ++ [ot]) ++ r.2)) by
       rw [HF.out, h1]
       cases cvL p (Q.drop (i + 1)) nx one ot three with
       | none => rfl
       | some r => simp)
      clear h1 HS HF
      go_wp2_with fail
      refine (HDA.out _ (Below.refl _ _)).mono ?_
      rintro e w' ⟨rfl, ⟨nd, rfl⟩⟩
      have hA1' := pw_cell_below (pw_below_drewN (Below.refl _ _) nd) hB1
      go_wp2_with fail
      refine (HDB.out _ (pw_below_drewN (Below.refl _ _) nd)).mono ?_
      rintro e w' ⟨rfl, ⟨nd2, rfl⟩⟩
      have HCB := below_step (Below.refl _ _) (pw_below_drewN (Below.refl wB.heap.size wB) (nd + nd2))
      have HCS := as0 ((show CS (fun k => k ≠ Ba ∧ k ≠ Bb) w wB Ba Bb #[.slice Ao one.length co1, .slice An1 a cn1] #[.slice Ah three.length ch, .slice An2 b cn2] u8 u9 xa xb (.slice An1 a cn1) (.slice Ao one.length co1) (.slice An2 b cn2) (.slice Ah three.length ch) nx one ot three from ⟨KA3.out, KB3.out, fun k hk => hk, fun k hk => ⟨by have := blk_lt' KA3.out; omega, by have := blk_lt' KB3.out; omega⟩, OA3.out, OB3.out, HB3.out, RN'.out, R1.out, RO.out, R3.out⟩).below (pw_below_drewN (Below.refl _ _) (nd + nd2)))
      clear HCB HDA HDB hA1' hA1 hB1 OA3 OB3 HB3 RN' R1 R3 KA3 KB3 RO FH FF FO FT
      go_upto_region 13 with (fail)
      generalize wB.drewN (nd + nd2) = wc at HCS ⊢
      go_wp2_with fail
      refine start_ (n := 12) (S := fun w' => w'.cell? ⟨Ba, 1, none⟩ = some (.slice An1 a cn1) ∧ w'.cell? ⟨Bb, 1, none⟩ = some (.slice An2 b cn2)) (ds := []) #[false, false, false, false, false, false, false, false, false, false, false, false] (by kernel_rfl) rfl rfl ⟨(blk_cell HCS.out.a 1).trans rfl, (blk_cell HCS.out.b 1).trans rfl⟩ (fun hHeld => ?_)
      refine with_tabW impl_ConvergentsOf.tab13 impl_ConvergentsOf.bits13 (fun HT_ HW_ => ?_)
      have HC0 := as0 (HCS.out.below (below_drew (Below.refl wc.heap.size wc)))
      generalize wc.drew = wd at HC0 hHeld ⊢
      clear HCS
      refine pm_ HT_ (i := 0) (N := some 65) ?_
      refine pm_ HT_ (i := 1) (N := some 66) ?_
      refine pm_ HT_ (i := 5) (N := some 70) ?_
      refine pm_ HT_ (i := 6) (N := some 71) ?_
      refine tm2_ HT_ HW_ (i := 2) (N := some 67) hHeld ?_
      refine tm2_ HT_ HW_ (i := 7) (N := some 72) hHeld ?_
      refine join_ (σ := Value × Value × Value × Value) 2 #[true, true, true, true, true, true, true, true, true, true, false, false] (fun s => [(68, s.1), (69, s.2.1), (73, s.2.2.1), (74, s.2.2.2)]) (fun s w' => Aside0 (CS (fun k => k ≠ Ba ∧ k ≠ Bb) w w' Ba Bb #[.slice Ao one.length co1, .slice An1 a cn1] #[.slice Ah three.length ch, .slice An2 b cn2] s.2.1 s.2.2.2 (xa ++ [nx]) (xb ++ [ot]) (.slice An1 a cn1) (.slice Ao one.length co1) (.slice An2 b cn2) (.slice Ah three.length ch) nx one ot three)) ?_ ?_
      rotate_left
      ·
       intro hCont
       refine two_ (i := 3) (j := 8) (Ni := (some 68)) (Nj := (some 73)) #[true, true, true, true, false, true, true, true, false, false, false, false] #[true, true, true, false, false, true, true, true, true, false, false, false] rfl rfl rfl rfl (two_of HT_.out (by kernel_rfl)) (by decide) (by decide) (fun K hK => ?_) (fun K hK => ?_)
       ·
        skip
        refine Kd.N_lit_step (Kd.slice 2 (Kd.int .i64)) _ 22 ?hg (N' := 68) ?hd (xs := [nx]) (inner := [.slice An1 a cn1]) (ok := fun k => ((k ≠ Ba ∧ k ≠ Bb) ∧ some k ≠ Value.ownBlock u8) ∧ some k ≠ Value.ownBlock u9) (okp := fun k => ((k ≠ Ba ∧ k ≠ Bb) ∧ some k ≠ Value.ownBlock u8) ∧ some k ≠ Value.ownBlock u9) ?hr ?hp (fun _ hk => hk) (HC0.out.far _ (Nat.le_refl _)) (Below.refl _ _) (Nat.le_refl _) (by simp) ?_
        case hd => rfl
        case hg => rfl
        case hr => first | (go_simp; done) | (go_simp; rfl)
        case hp => exact Reps.one HC0.out.r1.fk (Reps.none _ _)
        intro vLA wLA ho hb hg_ hat_
        clear hg_ hat_
        have HC1 := as0 (HC0.out.below hb)
        have LA := as0 (Lw.new ho)
        clear ho hb HC0
        refine hK.out _ _ ⟨(blk_cell HC1.out.a 1).trans rfl, (blk_cell HC1.out.b 1).trans rfl⟩ (fun hHeld => ?_)
        clear hK K
        refine nm_ (some 68) ?_
        refine two_ (i := 4) (j := 8) (Ni := (some 69)) (Nj := (some 73)) #[true, true, true, true, true, true, true, true, false, false, false, false] #[true, true, true, true, false, true, true, true, true, false, false, false] rfl rfl rfl rfl (two_of HT_.out (by kernel_rfl)) (by decide) (by decide) (fun K hK => ?_) (fun K hK => ?_)
        ·
         skip
         obtain ⟨ALA, cLA, eLA, FLA⟩ := LA.out
         subst eLA
         refine Kd.N_append_rows_step (Kd.slice 2 (Kd.int .i64)) (w0 := w) w.heap.size (by rfl) (.tmp 65) (.tmp 68) 23 22 (.slice none 0 0) 24 rfl Try.underlying23 info22 rfl (by decide) (by omega) u8 xa [nx] ALA 1 cLA (fun k => (k ≠ Ba ∧ k ≠ Bb) ∧ some k ≠ Value.ownBlock u9) (fun k => ((k ≠ Ba ∧ k ≠ Bb) ∧ some k ≠ Value.ownBlock u8) ∧ some k ≠ Value.ownBlock u9) (by rfl) (by rfl) HC1.out.oa FLA (fun k hk => ⟨⟨hk.1.1, hk.2⟩, hk.1.2⟩) (fun k hk => ⟨(HC1.out.far k hk).1.1, (HC1.out.far k hk).2⟩) HC1.out.hb HC1.out.hb.size (by have := HLn.out.1; have := HI.out; omega) ?_
         intro va1 wva1 ho hb hg hat
         have HC2 := as0 (HC1.out.app1 ho hb hg hat)
         clear ho hb hg hat FLA LA HC1
         refine hK.out _ _ ⟨(blk_cell HC2.out.a 1).trans rfl, (blk_cell HC2.out.b 1).trans rfl⟩ (fun hHeld => ?_)
         clear hK K
         refine nm_ (some 69) ?_
         refine one_ (i := 8) (N := (some 73)) #[true, true, true, true, true, true, true, true, true, false, false, false] rfl rfl (one_of HT_.out (by kernel_rfl)) (by decide) (fun K hK => ?_)
         refine Kd.N_lit_step (Kd.slice 2 (Kd.int .i64)) _ 22 ?hg (N' := 73) ?hd (xs := [ot]) (inner := [.slice An2 b cn2]) (ok := fun k => ((k ≠ Ba ∧ k ≠ Bb) ∧ some k ≠ Value.ownBlock va1) ∧ some k ≠ Value.ownBlock u9) (okp := fun k => ((k ≠ Ba ∧ k ≠ Bb) ∧ some k ≠ Value.ownBlock va1) ∧ some k ≠ Value.ownBlock u9) ?hr ?hp (fun _ hk => hk) (HC2.out.far _ (Nat.le_refl _)) (Below.refl _ _) (Nat.le_refl _) (by simp) ?_
         case hd => rfl
         case hg => rfl
         case hr => first | (go_simp; done) | (go_simp; rfl)
         case hp => exact Reps.one HC2.out.r3.fk (Reps.none _ _)
         intro vLB wLB ho hb hg_ hat_
         clear hg_ hat_
         have HC3 := as0 (HC2.out.below hb)
         have LB := as0 (Lw.new ho)
         clear ho hb HC2
         refine hK.out _ _ ⟨(blk_cell HC3.out.a 1).trans rfl, (blk_cell HC3.out.b 1).trans rfl⟩ (fun hHeld => ?_)
         clear hK K
         refine nm_ (some 73) ?_
         refine one_ (i := 9) (N := (some 74)) #[true, true, true, true, true, true, true, true, true, true, false, false] rfl rfl (one_of HT_.out (by kernel_rfl)) (by decide) (fun K hK => ?_)
         obtain ⟨ALB, cLB, eLB, FLB⟩ := LB.out
         subst eLB
         refine Kd.N_append_rows_step (Kd.slice 2 (Kd.int .i64)) (w0 := w) w.heap.size (by rfl) (.tmp 70) (.tmp 73) 23 22 (.slice none 0 0) 24 rfl Try.underlying23 info22 rfl (by decide) (by omega) u9 xb [ot] ALB 1 cLB (fun k => (k ≠ Ba ∧ k ≠ Bb) ∧ some k ≠ Value.ownBlock va1) (fun k => ((k ≠ Ba ∧ k ≠ Bb) ∧ some k ≠ Value.ownBlock va1) ∧ some k ≠ Value.ownBlock u9) (by rfl) (by rfl) HC3.out.ob FLB (fun k hk => ⟨⟨hk.1.1, hk.1.2⟩, hk.2⟩) (fun k hk => (HC3.out.far k hk).1) HC3.out.hb HC3.out.hb.size (by have := HLn.out.2; have := HI.out; omega) ?_
         intro vb1 wvb1 ho hb hg hat
         have HC4 := as0 (HC3.out.app2 ho hb hg hat)
         clear ho hb hg hat FLB LB HC3
         refine hK.out _ _ ⟨(blk_cell HC4.out.a 1).trans rfl, (blk_cell HC4.out.b 1).trans rfl⟩ (fun hHeld => ?_)
         clear hK K
         refine nm_ (some 74) ?_
         exact norm_ (by simp only [putAll, Act.put, List.setIfInBounds_toArray, List.set_cons_zero, List.set_cons_succ]) (hCont ((.slice ALA 1 cLA), va1, (.slice ALB 1 cLB), vb1) _ HC4)
        ·
         skip
         refine Kd.N_lit_step (Kd.slice 2 (Kd.int .i64)) _ 22 ?hg (N' := 73) ?hd (xs := [ot]) (inner := [.slice An2 b cn2]) (ok := fun k => ((k ≠ Ba ∧ k ≠ Bb) ∧ some k ≠ Value.ownBlock u8) ∧ some k ≠ Value.ownBlock u9) (okp := fun k => ((k ≠ Ba ∧ k ≠ Bb) ∧ some k ≠ Value.ownBlock u8) ∧ some k ≠ Value.ownBlock u9) ?hr ?hp (fun _ hk => hk) (HC1.out.far _ (Nat.le_refl _)) (Below.refl _ _) (Nat.le_refl _) (by simp) ?_
         case hd => rfl
         case hg => rfl
         case hr => first | (go_simp; done) | (go_simp; rfl)
         case hp => exact Reps.one HC1.out.r3.fk (Reps.none _ _)
         intro vLB wLB ho hb hg_ hat_
         clear hg_ hat_
         have HC2 := as0 (HC1.out.below hb)
         have LB := as0 (Lw.new ho)
         have LA2 := as0 (LA.out.below hb)
         clear ho hb HC1 LA
         refine hK.out _ _ ⟨(blk_cell HC2.out.a 1).trans rfl, (blk_cell HC2.out.b 1).trans rfl⟩ (fun hHeld => ?_)
         clear hK K
         refine nm_ (some 73) ?_
         refine one_ (i := 4) (N := (some 69)) #[true, true, true, true, true, true, true, true, true, false, false, false] rfl rfl (one_of HT_.out (by kernel_rfl)) (by decide) (fun K hK => ?_)
         have LA := LA2
         clear LA2
         obtain ⟨ALA, cLA, eLA, FLA⟩ := LA.out
         subst eLA
         refine Kd.N_append_rows_step (Kd.slice 2 (Kd.int .i64)) (w0 := w) w.heap.size (by rfl) (.tmp 65) (.tmp 68) 23 22 (.slice none 0 0) 24 rfl Try.underlying23 info22 rfl (by decide) (by omega) u8 xa [nx] ALA 1 cLA (fun k => (k ≠ Ba ∧ k ≠ Bb) ∧ some k ≠ Value.ownBlock u9) (fun k => ((k ≠ Ba ∧ k ≠ Bb) ∧ some k ≠ Value.ownBlock u8) ∧ some k ≠ Value.ownBlock u9) (by rfl) (by rfl) HC2.out.oa FLA (fun k hk => ⟨⟨hk.1.1, hk.2⟩, hk.1.2⟩) (fun k hk => ⟨(HC2.out.far k hk).1.1, (HC2.out.far k hk).2⟩) HC2.out.hb HC2.out.hb.size (by have := HLn.out.1; have := HI.out; omega) ?_
         intro va1 wva1 ho hb hg hat
         have HC3 := as0 (HC2.out.app1 ho hb hg hat)
         have LB2 := as0 (LB.out.app1 hg hat)
         clear ho hb hg hat FLA LA HC2 LB
         refine hK.out _ _ ⟨(blk_cell HC3.out.a 1).trans rfl, (blk_cell HC3.out.b 1).trans rfl⟩ (fun hHeld => ?_)
         clear hK K
         refine nm_ (some 69) ?_
         refine one_ (i := 9) (N := (some 74)) #[true, true, true, true, true, true, true, true, true, true, false, false] rfl rfl (one_of HT_.out (by kernel_rfl)) (by decide) (fun K hK => ?_)
         have LB := LB2
         clear LB2
         obtain ⟨ALB, cLB, eLB, FLB⟩ := LB.out
         subst eLB
         refine Kd.N_append_rows_step (Kd.slice 2 (Kd.int .i64)) (w0 := w) w.heap.size (by rfl) (.tmp 70) (.tmp 73) 23 22 (.slice none 0 0) 24 rfl Try.underlying23 info22 rfl (by decide) (by omega) u9 xb [ot] ALB 1 cLB (fun k => (k ≠ Ba ∧ k ≠ Bb) ∧ some k ≠ Value.ownBlock va1) (fun k => ((k ≠ Ba ∧ k ≠ Bb) ∧ some k ≠ Value.ownBlock va1) ∧ some k ≠ Value.ownBlock u9) (by rfl) (by rfl) HC3.out.ob FLB (fun k hk => ⟨⟨hk.1.1, hk.1.2⟩, hk.2⟩) (fun k hk => (HC3.out.far k hk).1) HC3.out.hb HC3.out.hb.size (by have := HLn.out.2; have := HI.out; omega) ?_
         intro vb1 wvb1 ho hb hg hat
         have HC4 := as0 (HC3.out.app2 ho hb hg hat)
         clear ho hb hg hat FLB LB HC3
         refine hK.out _ _ ⟨(blk_cell HC4.out.a 1).trans rfl, (blk_cell HC4.out.b 1).trans rfl⟩ (fun hHeld => ?_)
         clear hK K
         refine nm_ (some 74) ?_
         exact norm_ (by simp only [putAll, Act.put, List.setIfInBounds_toArray, List.set_cons_zero, List.set_cons_succ]) (hCont ((.slice ALA 1 cLA), va1, (.slice ALB 1 cLB), vb1) _ HC4)
       ·
        skip
        refine Kd.N_lit_step (Kd.slice 2 (Kd.int .i64)) _ 22 ?hg (N' := 73) ?hd (xs := [ot]) (inner := [.slice An2 b cn2]) (ok := fun k => ((k ≠ Ba ∧ k ≠ Bb) ∧ some k ≠ Value.ownBlock u8) ∧ some k ≠ Value.ownBlock u9) (okp := fun k => ((k ≠ Ba ∧ k ≠ Bb) ∧ some k ≠ Value.ownBlock u8) ∧ some k ≠ Value.ownBlock u9) ?hr ?hp (fun _ hk => hk) (HC0.out.far _ (Nat.le_refl _)) (Below.refl _ _) (Nat.le_refl _) (by simp) ?_
        case hd => rfl
        case hg => rfl
        case hr => first | (go_simp; done) | (go_simp; rfl)
        case hp => exact Reps.one HC0.out.r3.fk (Reps.none _ _)
        intro vLB wLB ho hb hg_ hat_
        clear hg_ hat_
        have HC1 := as0 (HC0.out.below hb)
        have LB := as0 (Lw.new ho)
        clear ho hb HC0
        refine hK.out _ _ ⟨(blk_cell HC1.out.a 1).trans rfl, (blk_cell HC1.out.b 1).trans rfl⟩ (fun hHeld => ?_)
        clear hK K
        refine nm_ (some 73) ?_
        refine one_ (i := 3) (N := (some 68)) #[true, true, true, true, false, true, true, true, true, false, false, false] rfl rfl (one_of HT_.out (by kernel_rfl)) (by decide) (fun K hK => ?_)
        refine Kd.N_lit_step (Kd.slice 2 (Kd.int .i64)) _ 22 ?hg (N' := 68) ?hd (xs := [nx]) (inner := [.slice An1 a cn1]) (ok := fun k => ((k ≠ Ba ∧ k ≠ Bb) ∧ some k ≠ Value.ownBlock u8) ∧ some k ≠ Value.ownBlock u9) (okp := fun k => ((k ≠ Ba ∧ k ≠ Bb) ∧ some k ≠ Value.ownBlock u8) ∧ some k ≠ Value.ownBlock u9) ?hr ?hp (fun _ hk => hk) (HC1.out.far _ (Nat.le_refl _)) (Below.refl _ _) (Nat.le_refl _) (by simp) ?_
        case hd => rfl
        case hg => rfl
        case hr => first | (go_simp; done) | (go_simp; rfl)
        case hp => exact Reps.one HC1.out.r1.fk (Reps.none _ _)
        intro vLA wLA ho hb hg_ hat_
        clear hg_ hat_
        have HC2 := as0 (HC1.out.below hb)
        have LA := as0 (Lw.new ho)
        have LB2 := as0 (LB.out.below hb)
        clear ho hb HC1 LB
        refine hK.out _ _ ⟨(blk_cell HC2.out.a 1).trans rfl, (blk_cell HC2.out.b 1).trans rfl⟩ (fun hHeld => ?_)
        clear hK K
        refine nm_ (some 68) ?_
        refine one_ (i := 4) (N := (some 69)) #[true, true, true, true, true, true, true, true, true, false, false, false] rfl rfl (one_of HT_.out (by kernel_rfl)) (by decide) (fun K hK => ?_)
        have LB := LB2
        clear LB2
        obtain ⟨ALA, cLA, eLA, FLA⟩ := LA.out
        subst eLA
        refine Kd.N_append_rows_step (Kd.slice 2 (Kd.int .i64)) (w0 := w) w.heap.size (by rfl) (.tmp 65) (.tmp 68) 23 22 (.slice none 0 0) 24 rfl Try.underlying23 info22 rfl (by decide) (by omega) u8 xa [nx] ALA 1 cLA (fun k => (k ≠ Ba ∧ k ≠ Bb) ∧ some k ≠ Value.ownBlock u9) (fun k => ((k ≠ Ba ∧ k ≠ Bb) ∧ some k ≠ Value.ownBlock u8) ∧ some k ≠ Value.ownBlock u9) (by rfl) (by rfl) HC2.out.oa FLA (fun k hk => ⟨⟨hk.1.1, hk.2⟩, hk.1.2⟩) (fun k hk => ⟨(HC2.out.far k hk).1.1, (HC2.out.far k hk).2⟩) HC2.out.hb HC2.out.hb.size (by have := HLn.out.1; have := HI.out; omega) ?_
        intro va1 wva1 ho hb hg hat
        have HC3 := as0 (HC2.out.app1 ho hb hg hat)
        have LB2 := as0 (LB.out.app1 hg hat)
        clear ho hb hg hat FLA LA HC2 LB
        refine hK.out _ _ ⟨(blk_cell HC3.out.a 1).trans rfl, (blk_cell HC3.out.b 1).trans rfl⟩ (fun hHeld => ?_)
        clear hK K
        refine nm_ (some 69) ?_
        refine one_ (i := 9) (N := (some 74)) #[true, true, true, true, true, true, true, true, true, true, false, false] rfl rfl (one_of HT_.out (by kernel_rfl)) (by decide) (fun K hK => ?_)
        have LB := LB2
        clear LB2
        obtain ⟨ALB, cLB, eLB, FLB⟩ := LB.out
        subst eLB
        refine Kd.N_append_rows_step (Kd.slice 2 (Kd.int .i64)) (w0 := w) w.heap.size (by rfl) (.tmp 70) (.tmp 73) 23 22 (.slice none 0 0) 24 rfl Try.underlying23 info22 rfl (by decide) (by omega) u9 xb [ot] ALB 1 cLB (fun k => (k ≠ Ba ∧ k ≠ Bb) ∧ some k ≠ Value.ownBlock va1) (fun k => ((k ≠ Ba ∧ k ≠ Bb) ∧ some k ≠ Value.ownBlock va1) ∧ some k ≠ Value.ownBlock u9) (by rfl) (by rfl) HC3.out.ob FLB (fun k hk => ⟨⟨hk.1.1, hk.1.2⟩, hk.2⟩) (fun k hk => (HC3.out.far k hk).1) HC3.out.hb HC3.out.hb.size (by have := HLn.out.2; have := HI.out; omega) ?_
        intro vb1 wvb1 ho hb hg hat
        have HC4 := as0 (HC3.out.app2 ho hb hg hat)
        clear ho hb hg hat FLB LB HC3
        refine hK.out _ _ ⟨(blk_cell HC4.out.a 1).trans rfl, (blk_cell HC4.out.b 1).trans rfl⟩ (fun hHeld => ?_)
        clear hK K
        refine nm_ (some 74) ?_
        exact norm_ (by simp only [putAll, Act.put, List.setIfInBounds_toArray, List.set_cons_zero, List.set_cons_succ]) (hCont ((.slice ALA 1 cLA), va1, (.slice ALB 1 cLB), vb1) _ HC4)
      rintro ⟨vl1, va1, vl2, vb1⟩ wz HCZ
      refine norm_ (a' := ?_) ?_ ?_
      rotate_left
      ·
       simp only [putAll, Act.put, List.setIfInBounds_toArray, List.set_cons_zero, List.set_cons_succ]
       rfl
      clear hHeld HC0
      refine pm_ HT_ (i := 10) (N := some 8) ?_
      refine pm_ HT_ (i := 11) (N := some 9) ?_
      refine done_ (done_of HT_.out (by kernel_rfl)) ?_
      clear HT_ HW_
      go_wp2
      go_roundg G
      case measure => omega
      case rel =>
       have HCZ' := HCZ.out
       refine ⟨i + 1, xa ++ [nx], xb ++ [ot], nx, one, ot, three, _, _, _, _, ?_, ⟨by have := HG.out; omega⟩, HF2, ⟨by simp [HLn.out.1], by simp [HLn.out.2]⟩, ⟨by have := HA.out; omega, HBd.out.1, by have := HBl.out; omega, HBd.out.2.2.1⟩, ⟨by rw [HNX.out]; exact stp_inR HP.out.p0 _ _ _, HRd.out.1, by rw [HOT.out]; exact stp_inR HP.out.p0 _ _ _, HRd.out.2.2.1⟩, ⟨HCZ'.r1⟩, ⟨HCZ'.r2⟩, ⟨HCZ'.r3⟩, ⟨HCZ'.r4⟩, ⟨HCZ'.oa⟩, ⟨HCZ'.ob⟩, ⟨HCZ'.a⟩, ⟨HCZ'.b⟩, ⟨HCZ'.hb⟩⟩
       rw [wp1 (show i ≤ 1000000000000 by have := HI.out; omega)]
   ·
    have hin : i = n := by omega
    have d2 : decide (i < n) = false := decide_eq_false hi
    have HIN := as0 hin
    have fn : fin = some (xa, xb) := by
     rw [HF.out, List.drop_of_length_le (by rw [HIN.out, HN.out]; exact Nat.le_refl _)]
     show some (xa ++ [], xb ++ []) = _
     rw [List.append_nil, List.append_nil]
    have h1 := hh.out
    rw [fn] at h1
    replace h1 : (xa, xb, (0 : Int)) = (ra, rb, er) := h1
    have HE := as0 h1
    obtain ⟨l1, l2, b1, b2⟩ := cvL_len p Q _ _ _ _ _ (HFN.out.symm.trans fn)
    clear l1 l2
    obtain ⟨K1, hK1⟩ := clonedR_ev xa (fun l hl => Nat.le_trans (b1 l hl) (by omega)) (by have := HLn.out.1; omega)
    obtain ⟨K2, hK2⟩ := clonedR_ev xb (fun l hl => Nat.le_trans (b2 l hl) (by omega)) (by have := HLn.out.2; omega)
    obtain ⟨Aa, ca, ea, la, Ca⟩ := Kd.N_reads OA.out
    obtain ⟨Ab, cb, eb, lb, Cb⟩ := Kd.N_reads OB.out
    subst ea eb
    have H1 := as0 (impl_cloned.calls K1 Aa ca xa xa wr Ca la (hK1 K1 (Nat.le_refl _)))
    have H2 := as0 (fun W (hW : Below wr.heap.size wr W) => impl_cloned.calls K2 Ab cb xb xb W (Kd.C_below Cb hW) lb (hK2 K2 (Nat.le_refl _)))
    clear hi hg hin fn h1 b1 b2 hK1 hK2 la lb Ca Cb OA OB R1 R2 R3 R4 KA KB
    go_wp2_with fail
    refine H1.out.mono ?_
    clear H1
    rintro e wx ⟨va, rfl, oa, bx⟩
    have OX := as0 oa
    have BX := as0 bx
    clear oa bx
    go_wp2_with fail
    refine (H2.out _ BX.out).mono ?_
    clear H2
    rintro e wy ⟨vb, rfl, ob, bz⟩
    have OY := as0 ob
    have BY := as0 bz
    clear ob bz
    go_wp2
    go_ret3
    have h1 := HE.out
    injection h1 with h1 h2
    injection h2 with h2 h3
    subst h1 h2 h3
    exact ⟨_, _, wx.heap.size, rfl, Nat.le_trans HB.out.size BX.out.size, Kd.S_mono (Kd.S_lower (Kd.S_below (Kd.S_bound OX.out) BY.out) HB.out.size) (fun k hk => hk.2.2.1), OY.out, below_step (below_step HB.out BX.out) BY.out⟩
end Go.Proofs.Ytlmolloallhclaa.H
namespace Go.Proofs.Ytlmolloallhclaa.H
open Go.RowKit Go.Proofs.YtlmolloallhclaaW.PrintWords Go.Proofs.YtlmolloallhclaaW.PrintLast Go.Proofs.YtlmolloallhclaaW.PrintMore
attribute [local go_sem] max2_int min2_int max_two min_two max_three min_three max_four min_four   -- for this text's walks alone
set_option linter.unusedVariables false
set_option linter.unusedSimpArgs false
set_option maxHeartbeats 8000000 in
set_option maxRecDepth 100000 in
theorem laws_FnExactConvergentsOf.calls (k : Nat) (a0 : Int) (A1 : Option Addr) (c1 : Nat) (l1 : List (List Int)) (ra rb rma rmb z : List (List Int)) (er left m0 m1 m2 : Int) (w : World)
  (hr1 : Kd.C (Kd.slice 2 (Kd.int .i64)) w A1 l1.length l1) (hc1 : l1.length ≤ c1) (hz : laws_szInt64SS.f k l1 1048576 = some left) (hz' : ¬ left < 0) (hlen : l1.length ≤ 2000000) (hels : ∀ x ∈ l1, x.length ≤ 1000000000)
  (t1 : laws_toInt64SS.f k l1 = some l1) (hs : convA a0 l1 = (ra, rb, er)) (q0 : laws_eqInt64SS.f k ra ra = some true) (q1 : laws_eqInt64SS.f k rb rb = some true) (q2 : laws_eqInt64SS.f k l1 l1 = some true)
  (hm0 : laws_markInt64SS.f k l1 1 = some (m0, z)) (hm0' : ¬ m0 < 0) (hm1 : laws_markInt64SS.f k ra 1 = some (m1, rma)) (hm2 : laws_markInt64SS.f k rb m1 = some (m2, rmb)) (hh1 : laws_heldInt64SS.f k rma 1 = some m1) (hm1' : ¬ m1 < 0) (hh2 : laws_heldInt64SS.f k rmb m1 = some m2) (hm2' : ¬ m2 < 0) :
  Calls Try.prog 4 #[.int .i64 a0, .slice A1 l1.length c1] w fun e w' => e = .returned (.bool true) ∧ Below w.heap.size w w' := by
 have d1 : decide (left < 0) = false := decide_eq_false hz'
 have d2 : decide (m0 < 0) = false := decide_eq_false hm0'
 have d3 : decide (m1 < 0) = false := decide_eq_false hm1'
 have d4 : decide (m2 < 0) = false := decide_eq_false hm2'
 have HR1 := as0 hr1
 have HC1 := as0 hc1
 have Z1 := as0 hz
 have HL := as0 hlen
 have HE := as0 hels
 have T1 := as0 t1
 have HS := as0 hs
 have Q0 := as0 q0
 have Q1 := as0 q1
 have Q2 := as0 q2
 have M0 := as0 hm0
 have M1 := as0 hm1
 have M2 := as0 hm2
 have HH1 := as0 hh1
 have HH2 := as0 hh2
 clear hr1 hc1 hz hlen hels t1 hs q0 q1 q2 hm0 hm1 hm2 hh1 hh2 hz' hm0' hm1' hm2'
 go_enter Try.func4, Try.ntmps4
 go_wp2_with fail
 go_at_call 17
 refine (laws_szInt64SS.calls k A1 c1 l1 1048576 left _ HR1.out HC1.out Z1.out).mono ?_
 rintro e w' ⟨rfl, dr⟩
 have b0 := dr.below
 have HB := as0 b0
 clear dr b0
 go_wp2_with fail
 go_at_call 19
 refine (laws_toInt64SS.calls k A1 c1 l1 l1 _ (Kd.C_below HR1.out HB.out) HC1.out T1.out).mono ?_
 rintro e w1 ⟨v1, rfl, o1, b1⟩
 have HB := as0 (below_step HB.out b1)
 have O1 := as0 o1
 clear o1 b1
 obtain ⟨Av1, cv1, ev1⟩ := Kd.S_slice O1.out
 subst ev1
 go_wp2_with fail
 go_at_call 18
 refine (spec_ConvergentsOf.calls a0 Av1 cv1 l1 ra rb er _ (Kd.S_reads' O1.out).2.2 (Kd.S_reads' O1.out).2.1 HL.out HE.out HS.out).mono ?_
 rintro e w3 ⟨vs, vt, rfl, os, ot, bs⟩
 have HB := as0 (below_step HB.out bs)
 have S03 := as0 HB.out.size
 obtain ⟨As, cs', es, ls, rs⟩ := Kd.N_reads os
 obtain ⟨At, ct', et, lt, rt⟩ := Kd.N_reads ot
 subst es et
 have FS := as0 (Kd.C_F (Kd.heap_slice 2 (Kd.heap_int .i64)) rs)
 have FT := as0 (Kd.C_F (Kd.heap_slice 2 (Kd.heap_int .i64)) rt)
 have LS := as0 ls
 have LT := as0 lt
 clear os ot bs rs rt ls lt O1
 go_wp2_with fail
 go_at_call 19
 refine (laws_toInt64SS.calls k A1 c1 l1 l1 _ (Kd.C_below HR1.out HB.out) HC1.out T1.out).mono ?_
 rintro e w4 ⟨v4, rfl, o4, b4⟩
 have FS := as0 (Kd.F_below FS.out b4)
 have FT := as0 (Kd.F_below FT.out b4)
 have O4 := as0 (Kd.S_mono (ok' := fun k => w3.heap.size ≤ k ∧ k < w4.heap.size) (Kd.S_bound o4) (fun k hk => ⟨hk.2.1, hk.2.2.1⟩))
 have S34 := as0 b4.size
 have HB := as0 (below_step HB.out b4)
 clear o4 b4
 obtain ⟨Av4, cv4, ev4⟩ := Kd.S_slice O4.out
 subst ev4
 go_wp2_with fail
 go_at_call 20
 refine (impl_ConvergentsOf.calls a0 Av4 cv4 l1 ra rb er _ (Kd.S_reads' O4.out).2.2 (Kd.S_reads' O4.out).2.1 HS.out).mono ?_
 rintro e w6 ⟨vg, vh, mm, rfl, hmm, og, oh, bg⟩
 have FS := as0 (Kd.F_below FS.out bg)
 have FT := as0 (Kd.F_below FT.out bg)
 have O4 := as0 (Kd.S_below O4.out bg)
 have OG := as0 (Kd.S_mono (ok' := fun k => w4.heap.size ≤ k ∧ k < mm) (Kd.S_bound og) (fun k hk => ⟨hk.2.1, hk.1⟩))
 have OH := as0 (Kd.S_mono (ok' := fun k => mm ≤ k ∧ k < w6.heap.size) (Kd.S_bound oh) (fun k hk => ⟨hk.2.1, hk.2.2.1⟩))
 have S4M := as0 hmm
 have S46 := as0 bg.size
 have HB := as0 (below_step HB.out bg)
 clear og oh bg hmm
 obtain ⟨Ag, cg, eg⟩ := Kd.S_slice OG.out
 obtain ⟨Ah, ch, eh⟩ := Kd.S_slice OH.out
 subst eg eh
 go_wp2_with fail
 go_at_call 12
 refine (laws_eqInt64SS.calls k Ag cg ra As cs' ra true _ (Kd.S_reads' OG.out).2.2 (Kd.S_reads' OG.out).2.1 (Kd.F_now FS.out) LS.out Q0.out).mono ?_
 rintro e w' ⟨rfl, dr⟩
 have b7 := dr.below
 clear dr
 have FS := as0 (Kd.F_below FS.out b7)
 have FT := as0 (Kd.F_below FT.out b7)
 have O4 := as0 (Kd.S_below O4.out b7)
 have OG := as0 (Kd.S_below OG.out b7)
 have OH := as0 (Kd.S_below OH.out b7)
 have HB := as0 (below_step HB.out b7)
 clear b7
 go_wp2_with fail
 go_at_call 12
 refine (laws_eqInt64SS.calls k Ah ch rb At ct' rb true _ (Kd.S_reads' OH.out).2.2 (Kd.S_reads' OH.out).2.1 (Kd.F_now FT.out) LT.out Q1.out).mono ?_
 rintro e w' ⟨rfl, dr⟩
 have b8 := dr.below
 clear dr
 have FS := as0 (Kd.F_below FS.out b8)
 have FT := as0 (Kd.F_below FT.out b8)
 have O4 := as0 (Kd.S_below O4.out b8)
 have OG := as0 (Kd.S_below OG.out b8)
 have OH := as0 (Kd.S_below OH.out b8)
 have HB := as0 (below_step HB.out b8)
 clear b8
 go_wp2_with fail
 go_at_call 19
 refine (laws_toInt64SS.calls k A1 c1 l1 l1 _ (Kd.C_below HR1.out HB.out) HC1.out T1.out).mono ?_
 rintro e w9 ⟨v9, rfl, o9, b9⟩
 have FS := as0 (Kd.F_below FS.out b9)
 have FT := as0 (Kd.F_below FT.out b9)
 have O4 := as0 (Kd.S_below O4.out b9)
 have OG := as0 (Kd.S_below OG.out b9)
 have OH := as0 (Kd.S_below OH.out b9)
 have O9 := as0 o9
 have HB := as0 (below_step HB.out b9)
 clear o9 b9
 obtain ⟨Av9, cv9, ev9⟩ := Kd.S_slice O9.out
 subst ev9
 go_wp2_with fail
 go_at_call 12
 refine (laws_eqInt64SS.calls k Av4 cv4 l1 Av9 cv9 l1 true _ (Kd.S_reads' O4.out).2.2 (Kd.S_reads' O4.out).2.1 (Kd.S_reads' O9.out).2.2 (Kd.S_reads' O9.out).2.1 Q2.out).mono ?_
 rintro e w' ⟨rfl, dr⟩
 have b10 := dr.below
 clear dr
 have FS := as0 (Kd.F_below FS.out b10)
 have FT := as0 (Kd.F_below FT.out b10)
 have O4 := as0 (Kd.S_below O4.out b10)
 have OG := as0 (Kd.S_below OG.out b10)
 have OH := as0 (Kd.S_below OH.out b10)
 have HB := as0 (below_step HB.out b10)
 clear b10 O9
 go_wp2_with fail
 go_at_call 15
 refine (laws_markInt64SS.calls k _ _ l1 1 m0 z w _ HB.out (Kd.S_lower O4.out S03.out) M0.out).mono ?_
 rintro e w12 ⟨rfl, _, hb, hk⟩
 have FS := as0 (Kd.F_kept FS.out hk fun k_ h1 h2 => Nat.lt_irrefl _ (Nat.lt_of_lt_of_le h1 h2.1))
 have FT := as0 (Kd.F_kept FT.out hk fun k_ h1 h2 => Nat.lt_irrefl _ (Nat.lt_of_lt_of_le h1 h2.1))
 have OG := as0 (Kd.S_kept OG.out hk fun k_ h1 h2 => Nat.lt_irrefl _ (Nat.lt_of_lt_of_le h2.2 h1.1))
 have OH := as0 (Kd.S_kept OH.out hk fun k_ h1 h2 => Nat.lt_irrefl _ (Nat.lt_of_lt_of_le h2.2 (Nat.le_trans S4M.out h1.1)))
 have HB := as0 hb
 clear hk hb O4
 go_wp2_with fail
 go_at_call 12
 refine (laws_eqInt64SS.calls k Ag cg ra As cs' ra true _ (Kd.S_reads' OG.out).2.2 (Kd.S_reads' OG.out).2.1 (Kd.F_now FS.out) LS.out Q0.out).mono ?_
 rintro e w' ⟨rfl, dr⟩
 have b13 := dr.below
 clear dr
 have FS := as0 (Kd.F_below FS.out b13)
 have FT := as0 (Kd.F_below FT.out b13)
 have OG := as0 (Kd.S_below OG.out b13)
 have OH := as0 (Kd.S_below OH.out b13)
 have HB := as0 (below_step HB.out b13)
 clear b13
 go_wp2_with fail
 go_at_call 12
 refine (laws_eqInt64SS.calls k Ah ch rb At ct' rb true _ (Kd.S_reads' OH.out).2.2 (Kd.S_reads' OH.out).2.1 (Kd.F_now FT.out) LT.out Q1.out).mono ?_
 rintro e w' ⟨rfl, dr⟩
 have b14 := dr.below
 clear dr
 have FS := as0 (Kd.F_below FS.out b14)
 have FT := as0 (Kd.F_below FT.out b14)
 have OG := as0 (Kd.S_below OG.out b14)
 have OH := as0 (Kd.S_below OH.out b14)
 have HB := as0 (below_step HB.out b14)
 clear b14
 go_wp2_with fail
 go_at_call 15
 have OH := as0 (Kd.S_mono (ok' := fun k => mm ≤ k ∧ k < w'.heap.size) (Kd.S_bound OH.out) (fun k hk => ⟨hk.1.1, hk.2.2.1⟩))
 refine (laws_markInt64SS.calls k _ _ ra 1 m1 rma w _ HB.out (Kd.S_lower OG.out (Nat.le_trans S03.out S34.out)) M1.out).mono ?_
 rintro e w15 ⟨rfl, og, hb, hk⟩
 have FS := as0 (Kd.F_kept FS.out hk fun k_ h1 h2 => Nat.lt_irrefl _ (Nat.lt_of_lt_of_le h1 (Nat.le_trans S34.out h2.1)))
 have FT := as0 (Kd.F_kept FT.out hk fun k_ h1 h2 => Nat.lt_irrefl _ (Nat.lt_of_lt_of_le h1 (Nat.le_trans S34.out h2.1)))
 have OH := as0 (Kd.S_kept OH.out hk fun k_ h1 h2 => Nat.lt_irrefl _ (Nat.lt_of_lt_of_le h2.2 h1.1))
 have OG := as0 (Kd.S_mono (ok' := fun k => k < mm ∨ w'.heap.size ≤ k) og (fun k hk => hk.elim (fun h => .inl h.2) .inr))
 have HB := as0 hb
 clear hk hb og
 go_wp2_with fail
 go_at_call 15
 refine (laws_markInt64SS.calls k _ _ rb m1 m2 rmb w _ HB.out (Kd.S_lower OH.out (Nat.le_trans S03.out (Nat.le_trans S34.out S4M.out))) M2.out).mono ?_
 rintro e w16 ⟨rfl, oh, hb, hk⟩
 have FS := as0 (Kd.F_kept FS.out hk fun k_ h1 h2 => Nat.lt_irrefl _ (Nat.lt_of_lt_of_le h1 (Nat.le_trans S34.out (Nat.le_trans S4M.out h2.1))))
 have FT := as0 (Kd.F_kept FT.out hk fun k_ h1 h2 => Nat.lt_irrefl _ (Nat.lt_of_lt_of_le h1 (Nat.le_trans S34.out (Nat.le_trans S4M.out h2.1))))
 have og := Kd.S_kept OG.out hk fun k_ h1 h2 => h1.elim (fun h => Nat.lt_irrefl _ (Nat.lt_of_lt_of_le h h2.1)) (fun h => Nat.lt_irrefl _ (Nat.lt_of_lt_of_le h2.2 h))
 have NG := as0 (Kd.S_reads' og).1
 have CG := as0 (Kd.S_reads' og).2.1
 have RG := as0 (Kd.S_reads' og).2.2
 have NH := as0 (Kd.S_reads' oh).1
 have CH := as0 (Kd.S_reads' oh).2.1
 have RH := as0 (Kd.S_reads' oh).2.2
 have HB := as0 hb
 clear hk hb og oh OG OH
 go_wp2_with fail
 go_at_call 16
 refine (NG.out ▸ laws_heldInt64SS.calls k Ag cg rma 1 m1 _ RG.out (NG.out ▸ CG.out) HH1.out : Calls Try.prog 16 #[.slice Ag ra.length cg, .int .i64 1] _ _).mono ?_
 rintro e w' ⟨rfl, dr⟩
 have b17 := dr.below
 clear dr
 have FS := as0 (Kd.F_below FS.out b17)
 have FT := as0 (Kd.F_below FT.out b17)
 have RG := as0 (Kd.C_below RG.out b17)
 have RH := as0 (Kd.C_below RH.out b17)
 have HB := as0 (below_step HB.out b17)
 clear b17
 go_wp2_with fail
 go_at_call 16
 refine (NH.out ▸ laws_heldInt64SS.calls k Ah ch rmb m1 m2 _ RH.out (NH.out ▸ CH.out) HH2.out : Calls Try.prog 16 #[.slice Ah rb.length ch, .int .i64 m1] _ _).mono ?_
 rintro e w' ⟨rfl, dr⟩
 have b18 := dr.below
 clear dr
 have FS := as0 (Kd.F_below FS.out b18)
 have FT := as0 (Kd.F_below FT.out b18)
 have RG := as0 (Kd.C_below RG.out b18)
 have RH := as0 (Kd.C_below RH.out b18)
 have HB := as0 (below_step HB.out b18)
 clear b18
 go_wp2_with fail
 go_at_call 19
 refine (laws_toInt64SS.calls k A1 c1 l1 l1 _ (Kd.C_below HR1.out HB.out) HC1.out T1.out).mono ?_
 rintro e w19 ⟨v19, rfl, o19, b19⟩
 have FS := as0 (Kd.F_below FS.out b19)
 have FT := as0 (Kd.F_below FT.out b19)
 have RG := as0 (Kd.C_below RG.out b19)
 have RH := as0 (Kd.C_below RH.out b19)
 have O19 := as0 o19
 have HB := as0 (below_step HB.out b19)
 clear o19 b19
 obtain ⟨Av19, cv19, ev19⟩ := Kd.S_slice O19.out
 subst ev19
 go_wp2_with fail
 go_at_call 20
 refine (impl_ConvergentsOf.calls a0 Av19 cv19 l1 ra rb er _ (Kd.S_reads' O19.out).2.2 (Kd.S_reads' O19.out).2.1 HS.out).mono ?_
 rintro e w20 ⟨vi, vj, mm2, rfl, hmm, oi, oj, bg⟩
 have FS := as0 (Kd.F_below FS.out bg)
 have FT := as0 (Kd.F_below FT.out bg)
 have RG := as0 (Kd.C_below RG.out bg)
 have RH := as0 (Kd.C_below RH.out bg)
 have OI := as0 oi
 have OJ := as0 oj
 have HB := as0 (below_step HB.out bg)
 clear oi oj bg hmm O19
 obtain ⟨Ai, ci, ei⟩ := Kd.S_slice OI.out
 obtain ⟨Aj, cj, ej⟩ := Kd.S_slice OJ.out
 subst ei ej
 go_wp2_with fail
 go_at_call 12
 refine (laws_eqInt64SS.calls k Ai ci ra As cs' ra true _ (Kd.S_reads' OI.out).2.2 (Kd.S_reads' OI.out).2.1 (Kd.F_now FS.out) LS.out Q0.out).mono ?_
 rintro e w' ⟨rfl, dr⟩
 have b21 := dr.below
 clear dr
 have FS := as0 (Kd.F_below FS.out b21)
 have FT := as0 (Kd.F_below FT.out b21)
 have RG := as0 (Kd.C_below RG.out b21)
 have RH := as0 (Kd.C_below RH.out b21)
 have OI := as0 (Kd.S_below OI.out b21)
 have OJ := as0 (Kd.S_below OJ.out b21)
 have HB := as0 (below_step HB.out b21)
 clear b21
 go_wp2_with fail
 go_at_call 12
 refine (laws_eqInt64SS.calls k Aj cj rb At ct' rb true _ (Kd.S_reads' OJ.out).2.2 (Kd.S_reads' OJ.out).2.1 (Kd.F_now FT.out) LT.out Q1.out).mono ?_
 rintro e w' ⟨rfl, dr⟩
 have b22 := dr.below
 clear dr
 have FS := as0 (Kd.F_below FS.out b22)
 have FT := as0 (Kd.F_below FT.out b22)
 have RG := as0 (Kd.C_below RG.out b22)
 have RH := as0 (Kd.C_below RH.out b22)
 have OI := as0 (Kd.S_below OI.out b22)
 have OJ := as0 (Kd.S_below OJ.out b22)
 have HB := as0 (below_step HB.out b22)
 clear b22
 clear FS FT OI OJ
 go_wp2_with fail
 go_at_call 16
 refine (NG.out ▸ laws_heldInt64SS.calls k Ag cg rma 1 m1 _ RG.out (NG.out ▸ CG.out) HH1.out : Calls Try.prog 16 #[.slice Ag ra.length cg, .int .i64 1] _ _).mono ?_
 rintro e w' ⟨rfl, dr⟩
 have b23 := dr.below
 clear dr
 have RG := as0 (Kd.C_below RG.out b23)
 have RH := as0 (Kd.C_below RH.out b23)
 have HB := as0 (below_step HB.out b23)
 clear b23
 go_wp2_with fail
 go_at_call 16
 refine (NH.out ▸ laws_heldInt64SS.calls k Ah ch rmb m1 m2 _ RH.out (NH.out ▸ CH.out) HH2.out : Calls Try.prog 16 #[.slice Ah rb.length ch, .int .i64 m1] _ _).mono ?_
 rintro e w' ⟨rfl, dr⟩
 have b24 := dr.below
 clear dr
 have RG := as0 (Kd.C_below RG.out b24)
 have RH := as0 (Kd.C_below RH.out b24)
 have HB := as0 (below_step HB.out b24)
 clear b24
 go_wp2_with fail
 go_ret
 exact ⟨rfl, HB.out⟩
def laws_FnExactConvergentsOf.Pure : Prop := ∀ (a0 : Int) (l1 : List (List Int)), l1.length ≤ 9223372036854775807 → (∀ x ∈ l1, x.length ≤ 9223372036854775807) →
 ∃ (k : Nat) (left : Int), laws_szInt64SS.f k l1 1048576 = some left ∧ (left < 0 ∨ (¬ left < 0 ∧ ∃ (ra rb rma rmb z : List (List Int)) (er m0 m1 m2 : Int), l1.length ≤ 2000000 ∧ (∀ x ∈ l1, x.length ≤ 1000000000) ∧ laws_toInt64SS.f k l1 = some l1 ∧ convA a0 l1 = (ra, rb, er) ∧ laws_eqInt64SS.f k ra ra = some true ∧ laws_eqInt64SS.f k rb rb = some true ∧ laws_eqInt64SS.f k l1 l1 = some true ∧
  laws_markInt64SS.f k l1 1 = some (m0, z) ∧ ¬ m0 < 0 ∧ laws_markInt64SS.f k ra 1 = some (m1, rma) ∧ laws_markInt64SS.f k rb m1 = some (m2, rmb) ∧ laws_heldInt64SS.f k rma 1 = some m1 ∧ ¬ m1 < 0 ∧ laws_heldInt64SS.f k rmb m1 = some m2 ∧ ¬ m2 < 0))
set_option maxHeartbeats 8000000 in
set_option maxRecDepth 100000 in
theorem laws_FnExactConvergentsOf.walk (P : laws_FnExactConvergentsOf.Pure) (a0 : Int) (a1 : Option Addr) (len1 cap1 : Nat) (z1 : List (List Int)) (w : World) (w0 : (Lit.int .i64 a0).wf = true) (w1 : z1.length = len1 ∧ Kd.C (Kd.slice 2 (Kd.int .i64)) w a1 len1 z1) (y1 : len1 ≤ cap1) :
  Calls Try.prog 4 #[.int .i64 a0, .slice a1 len1 cap1] w fun e w' => e = .returned (.bool true) ∧ Below w.heap.size w w' := by
 obtain ⟨rfl, hr⟩ := w1
 have hm := hr.2.1
 have hels : ∀ x ∈ z1, x.length ≤ 9223372036854775807 := by
  intro x hx
  obtain ⟨j, hj, rfl⟩ := List.getElem_of_mem hx
  obtain ⟨ad, A, c, e, hc, hl, hC⟩ := at_L1 hr (j : Int) (by omega) (by omega)
  have hrd : rd_L1 z1 (j : Int) = z1[j] := by
   unfold rd_L1
   rw [Int.toNat_natCast, List.getD_eq_getElem?_getD, List.getElem?_eq_getElem hj]; rfl
  rw [← hrd]
  exact hC.2.1
 obtain ⟨k, left, h1, h2⟩ := P a0 z1 hm hels
 rcases h2 with h2 | ⟨h2, ra, rb, rma, rmb, z, er, m0, m1, m2, h3, h4, h5, h6, h7, h8, h9, h10, h11, h12, h13, h14, h15, h16, h17⟩
 ·
  have d1 : decide (left < 0) = true := decide_eq_true h2
  have HR := as0 hr
  have HZ := as0 h1
  have HY := as0 y1
  clear hr h1 y1 h2 hels hm w0
  go_enter Try.func4, Try.ntmps4
  go_wp2_with fail
  go_at_call 17
  refine (laws_szInt64SS.calls k a1 cap1 z1 1048576 left _ HR.out HY.out HZ.out).mono ?_
  rintro e w' ⟨rfl, dr⟩
  have b0 := dr.below
  have HB := as0 b0
  clear dr b0
  go_wp2_with fail
  go_ret
  exact ⟨rfl, HB.out⟩
 ·
  exact laws_FnExactConvergentsOf.calls k a0 a1 cap1 z1 ra rb rma rmb z er left m0 m1 m2 w hr y1 h1 h2 h3 h4 h5 h6 h7 h8 h9 h10 h11 h12 h13 h14 h15 h16 h17
end Go.Proofs.Ytlmolloallhclaa.H
