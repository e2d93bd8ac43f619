/- Joined texts of a claim: the printed functions and what is proved of them. -/
import Derived.Test.YtlmolloallhclaaMa5
import Derived.Test.YtlmolloallhclaaMa8
import Derived.Test.YtlmolloallhclaaYHx0
import Derived.Test.YtlmolloallhclaaMa2
import Derived.Test.YtlmolloallhclaaMa6
import Derived.Test.YtlmolloallhclaaMa3
import Derived.Test.YtlmolloallhclaaMa1
import Derived.Test.YtlmolloallhclaaMa7
namespace Go.Proofs.Ytlmolloallhclaa.H
open Go.RowKit Go.Proofs.YtlmolloallhclaaW.PrintWords Go.Proofs.YtlmolloallhclaaW.PrintLast Go.Proofs.YtlmolloallhclaaW.PrintMore
attribute [local go_sem] max2_int min2_int max_two min_two max_three min_three max_four min_four   -- for this text's walks alone
set_option linter.unusedVariables false
set_option linter.unusedSimpArgs false
theorem DM.pt {W : World} {base g n : Nat} {b cp : Nat → Nat} {rows : List (List Int)} {p : Int} (h : DM W base g n b cp rows) (sq : Sq p n rows) {i k : Nat} (v : Int) (hi : i < n) (hk : k < n) : DM (W.setCell ⟨b i, k, none⟩ (.int .i64 v)) base g n b cp (pt rows i k v) := by
 have hl : i < rows.length := by rw [sq.len]; exact hi
 refine h.put hl hk (pt_len _ _ _ _) (fun j hj => pt_ro _ _ _ _ hj) fun t ht => ?_
 have := pt_mx v hl (by rw [sq.row i hi]; exact hk) i t
 unfold mx at this
 rw [this]
 by_cases e : t = k
 ·
  rw [if_pos ⟨rfl, e⟩, if_pos e]
 ·
  rw [if_neg (fun h => e h.2), if_neg e]
theorem DM.of_S {W : World} {base g n0 C n : Nat} {ok : Nat → Prop} {rows : List (List Int)} (h : Kd.S (Kd.slice 2 (Kd.int .i64)) 22 W base ok (.slice (some ⟨g, 0, none⟩) n0 C) rows) (hn : ∀ i, i < rows.length → (ro rows i).length = n) (h0 : 0 < n) (hnl : n ≤ rows.length) : ∃ b cp, DM W base g n b cp rows := by
 have hlen : n0 = rows.length := (Kd.S_reads' h).1
 subst hlen
 have hpos : 0 < rows.length := by omega
 obtain ⟨g', cap', e', hbg, hgl, cells, hcg⟩ := Kd.S_form h hpos
 injection e' with e1 _ e3
 injection e1 with e1
 injection e1 with e1
 subst e1 e3
 obtain ⟨f, hR⟩ := h
 have each : ∀ i, i < rows.length → ∃ y : Nat × Nat, W.cell? ⟨g, i, none⟩ = some (.slice (some ⟨y.1, 0, none⟩) n y.2) ∧ base ≤ y.1 ∧ y.1 ≠ g ∧ f y.1 = i ∧ n ≤ y.2 ∧ ∃ cs : Array Value, W.heap[y.1]? = some (.cells cs 2 (0, 0)) ∧ ∀ k, k < n → cs[k]? = some (.int .i64 (co (ro rows i) k)) := by
  intro i hi
  obtain ⟨c, hcl, hM, hcc, _⟩ := Kd.R_elem hR ([], 0) (i : Int) (by omega) (by rw [← Int.ofNat_lt] at hi; exact hi)
  have hz : rows.zipIdx.getD (i : Int).toNat ([], 0) = (ro rows i, i) := by
   rw [Int.toNat_natCast, List.getD_eq_getElem?_getD, List.getElem?_zipIdx, List.getElem?_eq_getElem hi]
   simp [ro, List.getD_eq_getElem?_getD, List.getElem?_eq_getElem hi]
  rw [hz] at hM
  obtain ⟨v, rfl, hv⟩ : ∃ v, c = [v] ∧ Kd.R (Kd.int .i64) 2 W base (fun k => (ok k ∧ k ≠ g) ∧ f k = i) v (ro rows i) := hM
  have hrl := hn i hi
  obtain ⟨q, cq, rfl, hbq, hql, cs, hq⟩ := Kd.R_form hv (by omega)
  have hown := hv.1 q (by simp [Value.ownBlock])
  have hrd := Kd.R_reads' hv
  have hcell := hcc 0 _ rfl
  have hcell2 : W.cell? ⟨g, i, none⟩ = some (.slice (some ⟨q, 0, none⟩) (ro rows i).length cq) := by
   have e : (i : Int).toNat * (Kd.tag f (Kd.slice 2 (Kd.int .i64))).sz + 0 = i := by
    show (i : Int).toNat * 1 + 0 = i
    omega
   rw [e] at hcell
   exact hcell
  rw [hrl] at hcell2
  refine ⟨(q, cq), hcell2, hbq, hown.1.2, hown.2, by have := hrd.2.1; omega, cs, hq, fun k hk => ?_⟩
  obtain ⟨ad, e, hkc⟩ := Kd.at_int hrd.2.2 (k : Int) (by omega) (by omega)
  injection e with e
  subst e
  have e2 : (⟨q, 0, none⟩ : Addr).add (k : Int).toNat = ⟨q, k, none⟩ := by rw [add_at, Nat.zero_add, Int.toNat_natCast]
  rw [e2, blk_cell hq] at hkc
  rw [hkc]
  unfold rd co
  rw [Int.toNat_natCast]
 obtain ⟨y, hy⟩ := ch_lt each
 refine ⟨fun i => (y i).1, fun i => (y i).2, hbg, fun i hi => (hy i hi).2.1, fun i hi => (hy i hi).2.2.1, fun i j hi hj he => ?_, fun i hi => (hy i hi).2.2.2.2.1, ⟨cells, hcg, ?_, fun i hi => ?_⟩, fun i hi => (hy i hi).2.2.2.2.2⟩
 ·
  have h1 := (hy i hi).2.2.2.1
  have h2 := (hy j hj).2.2.2.1
  replace he : (y i).1 = (y j).1 := he
  rw [he, h2] at h1
  exact h1.symm
 ·
  rcases Nat.lt_or_ge cells.size n with h' | h'
  ·
   have h1 := (hy (n - 1) (by omega)).1
   rw [blk_cell hcg] at h1
   have : n - 1 < cells.size := by
    rcases Nat.lt_or_ge (n - 1) cells.size with h'' | h''
    ·
     exact h''
    ·
     rw [Array.getElem?_eq_none h''] at h1; cases h1
   omega
  ·
   exact h'
 ·
  have h1 := (hy i hi).1
  rwa [blk_cell hcg] at h1
theorem trx_self (s a : Nat) : trx s s a = a := by
 unfold trx
 by_cases h : a = s
 ·
  rw [if_pos h, h]
 ·
  rw [if_neg h, if_neg h]
theorem DM.same {W : World} {base g n : Nat} {b cp : Nat → Nat} {rows : List (List Int)} (h : DM W base g n b cp rows) {i : Nat} (hi : i < rows.length) : DM (W.setCell ⟨g, i, none⟩ (.slice (some ⟨b i, 0, none⟩) n (cp i))) base g n b cp rows := by
 refine ⟨h.lg, h.lb, h.ne, h.inj, h.cap, ?_, fun j hj => ?_⟩
 ·
  obtain ⟨cs, hc, h1, h2⟩ := h.top
  refine ⟨_, blk_set hc i _, by simpa using h1, fun j hj => ?_⟩
  by_cases e : j = i
  ·
   subst e
   have hl : j < cs.size := by
    rcases Nat.lt_or_ge j cs.size with h' | h'
    ·
     exact h'
    ·
     have := h2 j hj; rw [Array.getElem?_eq_none h'] at this; cases this
   rw [Array.getElem?_setIfInBounds_self_of_lt hl]
  ·
   rw [Array.getElem?_setIfInBounds_ne (by omega)]
   exact h2 j hj
 ·
  obtain ⟨cs, hc, h1⟩ := h.row j hj
  exact ⟨cs, blk_far hc (h.ne j hj) _, h1⟩
theorem DM.any2 {W : World} {base g n : Nat} {b cp : Nat → Nat} {rows : List (List Int)} (h : DM W base g n b cp rows) {f s : Nat} (hs : s < n) (u : Value) : ∃ v, (W.setCell ⟨g, f, none⟩ u).cell? ⟨g, s, none⟩ = some v := by
 obtain ⟨cs, hc, h1, _⟩ := h.top
 exact ⟨(cs.setIfInBounds f u)[s]'(by simp; omega), by rw [blk_cell (blk_set hc f u)]; exact Array.getElem?_eq_getElem (by simp; omega)⟩
theorem DM.swap' {W : World} {base g n : Nat} {b cp : Nat → Nat} {rows : List (List Int)} {p : Int} (h : DM W base g n b cp rows) (sq : Sq p n rows) {f s : Nat} (hf : f < n) (hs : s < n) : ∃ (b' cp' : Nat → Nat) (R2 : List (List Int)),
  DM ((W.setCell ⟨g, f, none⟩ (.slice (some ⟨b s, 0, none⟩) n (cp s))).setCell ⟨g, s, none⟩ (.slice (some ⟨b f, 0, none⟩) n (cp f))) base g n b' cp' R2 ∧ Sq p n R2 ∧ ∀ a b, mx R2 a b = mx rows (trx f s a) b := by
 have hl := sq.len
 by_cases e : f = s
 ·
  subst e
  refine ⟨b, cp, rows, (h.same (by omega)).same (by omega), sq, fun a b => ?_⟩
  have : trx f f a = a := by unfold trx; split <;> simp_all
  rw [this]
 ·
  have key : ∀ j, ro ((rows.set f (ro rows s)).set s (ro rows f)) j = ro rows (if j = f then s else if j = s then f else j) := fun j => by
   unfold ro
   rw [List.getD_eq_getElem?_getD, List.getD_eq_getElem?_getD]
   by_cases e1 : j = s
   ·
    subst e1
    rw [if_neg (by omega), if_pos rfl, List.getElem?_set_self (by rw [List.length_set]; omega)]
    rw [List.getD_eq_getElem?_getD]; rfl
   ·
    rw [List.getElem?_set_ne (by omega)]
    by_cases e2 : j = f
    ·
     subst e2
     rw [if_pos rfl, List.getElem?_set_self (by omega)]
     rw [List.getD_eq_getElem?_getD]; rfl
    ·
     rw [if_neg e2, if_neg e1, List.getElem?_set_ne (by omega)]
     exact (List.getD_eq_getElem?_getD).symm
  refine ⟨_, _, _, h.swap (c := f) (d := s) (R2 := (rows.set f (ro rows s)).set s (ro rows f)) (by omega) (by omega) (by omega) e (by simp) (fun j _ => key j), (sq.set hf (sq.row s hs) (sq.inR s hs)).set hs (sq.row f hf) (sq.inR f hf), fun a b => ?_⟩
  unfold mx
  rw [key]
  rfl
def spec_l03Hessenberg.T32 : Bool × List (List Nat × List Nat) := (true, [([], []), ([], []), ([], []), ([], []), ([], []), ([3, 4], [3, 4]), ([5], [5]), ([], []), ([], []), ([], []), ([9], [9]), ([8, 10], [8, 10]), ([11], [11]), ([], []), ([12, 13], [12, 13]), ([14], [14]), ([7, 15], [7, 15]), ([6, 16], [6, 16]), ([2, 17], [2, 17]), ([0, 1, 0, 1, 2, 3, 4, 5, 6, 7, 8, 9, 10, 11, 12, 13, 14, 15, 16, 17, 18], [0, 1]), ([19, 18, 18, 0, 1, 2, 3, 4, 5, 6, 7, 8, 9, 10, 11, 12, 13, 14, 15, 16, 17, 18], [18, 19])])
def spec_l03Hessenberg.B32 : List Nat := [0, 0, 0, 0, 0, 24, 56, 0, 0, 0, 512, 1792, 3840, 0, 16128, 32512, 65408, 131064, 262140, 524287, 1048575]
theorem spec_l03Hessenberg.tab32 : rtab .any (opsOf Try.f99 32) = spec_l03Hessenberg.T32 := by kernel_rfl
theorem spec_l03Hessenberg.bits32 : waitsOk spec_l03Hessenberg.T32.2 spec_l03Hessenberg.B32 = true := by kernel_rfl
def spec_l03Hessenberg.T37 : Bool × List (List Nat × List Nat) := (true, [([], []), ([], []), ([1], [1]), ([], []), ([], []), ([4], [4]), ([3, 5], [3, 5]), ([6], [6]), ([], []), ([], []), ([], []), ([9, 10], [9, 10]), ([11], [11]), ([8, 12], [8, 12]), ([7, 13], [7, 13]), ([], []), ([14, 15], [14, 15]), ([0, 2, 0, 1, 2, 3, 4, 5, 6, 7, 8, 9, 10, 11, 12, 13, 14, 15, 16], [0, 2]), ([17, 16, 0, 1, 2, 3, 4, 5, 6, 7, 8, 9, 10, 11, 12, 13, 14, 15, 16], [16, 17])])
def spec_l03Hessenberg.B37 : List Nat := [0, 0, 2, 0, 0, 16, 56, 120, 0, 0, 0, 1536, 3584, 7936, 16376, 0, 65528, 131071, 262143]
theorem spec_l03Hessenberg.tab37 : rtab .any (opsOf Try.f99 37) = spec_l03Hessenberg.T37 := by kernel_rfl
theorem spec_l03Hessenberg.bits37 : waitsOk spec_l03Hessenberg.T37.2 spec_l03Hessenberg.B37 = true := by kernel_rfl
set_option maxHeartbeats 8000000 in
set_option maxRecDepth 100000 in
theorem spec_l03Hessenberg.calls (p : Int) (A1 : Option Addr) (c1 : Nat) (l1 : List (List Int)) (w : World) (hr1 : Kd.C (Kd.slice 2 (Kd.int .i64)) w A1 l1.length l1) (hc1 : l1.length ≤ c1) (hp : Num.IsP p) (hsq : Sq p l1.length l1) (hn : l1.length ≤ 1000) (hpos : 0 < l1.length) :
  Calls Try.prog 99 #[.int .i64 p, .slice A1 l1.length c1] w fun e w' => ∃ (g C c : Nat) (b cp : Nat → Nat) (rows : List (List Int)), e = .returned (.slice (some ⟨g, 0, none⟩) l1.length C) ∧ l1.length ≤ c + 2 ∧ DM w' w.heap.size g l1.length b cp rows ∧ HI p l1.length (Dy l1.length (mx l1)) c rows ∧ Below w.heap.size w w' := by
 have HR := as0 hr1
 have HC := as0 hc1
 have HP := as0 hp
 have HSQ := as0 hsq
 obtain ⟨n, hnl⟩ : ∃ n, n = l1.length := ⟨_, rfl⟩
 rw [← hnl] at HR HC HSQ hn hpos ⊢
 have HNL := as0 hnl
 have HN := as0 hn
 have HPOS := as0 hpos
 clear hr1 hc1 hp hsq hnl hn hpos
 have HB := as0 (Below.refl w.heap.size w)
 go_enter Try.func99, Try.ntmps99
 go_wp2_with (first | ((with_reducible refine gate_dst (N := 21) rfl ?_); refine Kd.S_lit (Kd.slice 2 (Kd.int .i64)) _ 22 ?hg (N := 21) ?hd (xs := ([] : List (List Int))) (inner := []) (ok := fun _ => True) (okp := fun _ => True) ?hr ?hp (fun _ hk => hk) trivial (Below.refl _ _) (Nat.le_refl _) (by simp) ?_; (case hd => rfl); (case hg => rfl); (case hr => first | (go_simp; done) | (go_simp; rfl)); (case hp => exact (Reps.none _ _)); intro v21 w4 ho5 hb hg_ hnew_; clear hg_ hnew_; have HS := as0 ho5; have HB2 := as0 (below_step HB.out hb); clear hb ho5 HB; have HB := HB2; clear HB2))
 go_loopg [5, 7] n (fun kq v5 v7 w' => ∃ (i : Nat), v7 = .int .i64 (i : Int) ∧ Aside0 (i + kq = n) ∧ Aside0 (Kd.S (Kd.slice 2 (Kd.int .i64)) 22 w' w.heap.size (fun _ => True) v5 (l1.take i)) ∧ Aside0 (Below w.heap.size w w'))
 case atStart => exact ⟨0, rfl, ⟨by omega⟩, ⟨HS.out⟩, HB⟩
 case round =>
  clear HS HB
  obtain ⟨i, rfl, HG, HS, HB⟩ := hrel
  have hg := HG.out
  by_cases hi : i < n
  ·
   have d1 : decide (i < n) = true := decide_eq_true hi
   obtain ⟨m, rfl⟩ : ∃ m, gk = m + 1 := ⟨gk - 1, by omega⟩
   obtain ⟨adi, Ai, ci, ei, hcelli, hli, hCi⟩ := at_L1 HR.out (i : Int) (by omega) (by omega)
   have hrd : rd_L1 l1 (i : Int) = ro l1 i := by unfold rd_L1 ro; rw [Int.toNat_natCast]
   have hrl := HSQ.out.row i hi
   rw [hrd, Int.toNat_natCast] at hcelli
   rw [hrd] at hli hCi
   subst ei
   replace hcelli := pw_cell_below HB.out hcelli
   have HCI := as0 hCi
   have HLI := as0 hli
   have HRL := as0 hrl
   have p1 := eq_true (show (0 : Int) ≤ (i : Int) by omega)
   have p2 := eq_true (show (i : Int) < (n : Int) by omega)
   have HI0 := as0 hi
   have hown : spec_l01Own.f (ro l1 i) = some (ro l1 i) := by
    have : (ro l1 i).length < 17592186044416 := by rw [hrl]; have := HN.out; omega
    simp [spec_l01Own.f, this]
   have HOW := as0 hown
   clear hrd hrl hCi hli hg hi hown
   go_wp2_with fail
   refine (spec_l01Own.calls Ai ci (ro l1 i) (ro l1 i) wr (Kd.C_below HCI.out HB.out) HLI.out HOW.out).mono ?_
   rintro e w5 ⟨v5, rfl, o5, b5⟩
   have HS2 := as0 (Kd.S_elder' HS.out (Kd.R_base o5) b5)
   have HO := as0 (Kd.R_lower o5 HB.out.size)
   have HB2 := as0 (below_step HB.out b5)
   clear o5 b5 HS HB
   obtain ⟨Ao, co5, eo⟩ := Kd.R_slice HO.out
   subst eo
   go_wp2_with (first | ((with_reducible refine gate_builtin (b := .append) (xs := #[.tmp 29, .tmp 35]) rfl ?_); at_builtin; refine Kd.S_append (Kd.slice 2 (Kd.int .i64)) (w0 := w) w.heap.size rfl (.tmp 29) (.tmp 35) 23 22 (.slice none 0 0) 24 rfl Try.underlying23 info22 rfl (by decide) (by omega) u5 (l1.take i) (ro l1 i) [.slice Ao (ro l1 i).length co5] (fun _ => True) (fun k_ => some k_ = (.slice Ao (ro l1 i).length co5 : Value).ownBlock) rfl rfl ?aP (fun k_ hk_ => ((Kd.R_mono (ok' := fun k_ => ((fun _ => True)) k_ ∧ some k_ ≠ (u5 : Value).ownBlock) (Kd.R_apart' (HO.out) (Kd.S_typed HS2.out) (by decide)) (fun k_ hk => ⟨trivial, hk.2⟩))).1 k_ hk_.symm) ?aF ?aO ?aB ?aS ?aL ?_; (case aP => exact Kd.M_row (Kd.R_mono (Kd.R_tight rfl (Kd.R_mono (ok' := fun k_ => ((fun _ => True)) k_ ∧ some k_ ≠ (u5 : Value).ownBlock) (Kd.R_apart' (HO.out) (Kd.S_typed HS2.out) (by decide)) (fun k_ hk => ⟨trivial, hk.2⟩))) (fun _ h_ => h_))); (case aB => exact HB2.out); (case aF => exact (fun _ _ => trivial)); (case aO => exact Kd.S_mono HS2.out (fun k_ hk => ⟨trivial, fun e_ => hk.2 e_⟩)); (case aS => exact HB2.out.size); (case aL => have h1 : (l1.take i).length ≤ i := (by rw [List.length_take]; omega); have h2 := HI0.out; have h3 := HN.out; omega); intro v36 w6 ho hb hg hat; have HS3 := as0 ho; have HB3 := as0 hb; clear HB2 HS2 HO ho hb hg hat))
   go_roundg m
   case measure => omega
   case rel =>
    refine ⟨i + 1, ?_, ⟨by have := HG.out; omega⟩, ⟨?_⟩, HB3⟩
    ·
     rw [wp1 (show i ≤ 1000000000000 by have := HI0.out; have := HN.out; omega)]
    ·
     have hil : i < l1.length := by have := HI0.out; have := HNL.out; omega
     rw [List.take_succ_eq_append_getElem hil]
     have : l1[i] = ro l1 i := by unfold ro; rw [List.getD_eq_getElem?_getD, List.getElem?_eq_getElem]; rfl
     rw [this]
     exact HS3.out
  ·
   obtain rfl : i = n := by omega
   have d1 : decide (i < i) = false := decide_eq_false (by omega)
   have hlen : l1.take i = l1 := List.take_of_length_le (by have := HNL.out; omega)
   rw [hlen] at HS
   obtain ⟨g, C, eu, hbg, hgl, _⟩ := Kd.S_form HS.out (by have := HNL.out; have := HPOS.out; omega)
   rw [← HNL.out] at eu
   subst eu
   obtain ⟨b0, cp0, hdm⟩ := DM.of_S HS.out (fun j hj => HSQ.out.row j (by have := HNL.out; omega)) HPOS.out (by have := HNL.out; omega)
   have HDM := as0 hdm
   have HII := as0 (HI.start HSQ.out)
   clear hdm HS hbg hgl hlen hg hi HR HC
   go_wp2
   go_loopg [8] i (fun kq v8 w' => ∃ (c : Nat) (b cp : Nat → Nat) (rows : List (List Int)), v8 = .int .i64 (c : Int) ∧ Aside0 (c + kq = i) ∧ Aside0 (HI p i (Dy i (mx l1)) c rows) ∧ Aside0 (DM w' w.heap.size g i b cp rows) ∧ Aside0 (Below w.heap.size w w'))
   case atStart => exact ⟨0, b0, cp0, l1, rfl, ⟨by omega⟩, HII, HDM, HB⟩
   case round =>
    clear HII HDM HB
    obtain ⟨c, b, cp, rows, rfl, HG2, HII, HDM, HB⟩ := hrel
    have hg2 := HG2.out
    have hn := HN.out
    have hw2 : IntKind.i64.wrap ((c : Int) + 2) = (c : Int) + 2 := by
     rw [i64_w, Num.w64 (by omega) (by omega)]
    have hw1 : wrap64 ((c : Int) + 1) = ((c + 1 : Nat) : Int) := wp1 (by omega)
    by_cases hc : c + 2 < i
    ·
     have d2 : decide ((c : Int) + 2 < (i : Int)) = true := decide_eq_true (by omega)
     have HCN := as0 hc
     obtain ⟨m2, rfl⟩ : ∃ m2, gk = m2 + 1 := ⟨gk - 1, by omega⟩
     clear hc hg2 hn
     go_wp2_with fail
     go_loopg [9] (i - (c + 1)) (fun kq v9 w' => ∃ (f : Nat), v9 = .int .i64 (f : Int) ∧ Aside0 (f + kq = i) ∧ Aside0 (c + 1 ≤ f) ∧ Aside0 (∀ a, c + 1 ≤ a → a < f → mx rows a c = 0) ∧ Aside0 (DM w' w.heap.size g i b cp rows) ∧ Aside0 (Below w.heap.size w w'))
     case atStart => exact ⟨c + 1, (by first | rfl | (rw [wp1 (show c ≤ 1000000000000 by have := HCN.out; have := HN.out; omega)]) | simp), ⟨by have := HCN.out; omega⟩, ⟨Nat.le_refl _⟩, ⟨fun a h1 h2 => by omega⟩, HDM, HB⟩
     case round =>
      clear HDM HB
      obtain ⟨f, rfl, HG3, HCF, HZF, HDM, HB⟩ := hrel
      have hg3 := HG3.out
      have hn := HN.out
      have hcn := HCN.out
      by_cases hf : f < i
      ·
       have d3 : decide (f < i) = true := decide_eq_true hf
       obtain ⟨m3, rfl⟩ : ∃ m3, gk = m3 + 1 := ⟨gk - 1, by omega⟩
       have hrl : rows.length = i := HII.out.sq.len
       have hc1 := HDM.out.cellg (show f < rows.length by omega)
       have hc2 := HDM.out.cell (show f < rows.length by omega) (show c < i by omega)
       have p1 := eq_true (show (0 : Int) ≤ (f : Int) by omega)
       have p2 := eq_true (show (f : Int) < (i : Int) by omega)
       have p3 := eq_true (show (0 : Int) ≤ (c : Int) by omega)
       have p4 := eq_true (show (c : Int) < (i : Int) by omega)
       have HFI := as0 hf
       obtain ⟨y, hy⟩ : ∃ y, y = mx rows f c := ⟨_, rfl⟩
       have HY := as0 hy
       replace hc2 : wr.cell? ⟨b f, c, none⟩ = some (.int .i64 y) := by rw [hy]; exact hc2
       clear hrl hf hg3 hn hcn hy
       by_cases hz : y = 0
       ·
        have d4 : (y == 0) = true := by rw [hz]; rfl
        go_wp2
        go_roundg m3
        case measure => omega
        case rel =>
         refine ⟨f + 1, ?_, ⟨by have := HG3.out; omega⟩, ⟨by have := HCF.out; omega⟩, ⟨fun a h1 h2 => ?_⟩, HDM, HB⟩
         ·
          rw [wp1 (show f ≤ 1000000000000 by have := HFI.out; have := HN.out; omega)]
         ·
          by_cases e : a = f
          ·
           rw [e, ← HY.out]; exact hz
          ·
           exact HZF.out a h1 (by omega)
       ·
        have d4 : (y == 0) = false := beq_eq_false_iff_ne.mpr hz
        have HYZ := as0 hz
        have hsi : c + 1 < i := by have := HCN.out; omega
        have HSI := as0 hsi
        have d5 : (f == i) = false := beq_eq_false_iff_ne.mpr (by have := HFI.out; omega)
        have hrl : rows.length = i := HII.out.sq.len
        have hs1 := HDM.out.cellg (show c + 1 < rows.length by omega)
        have hfr1 := HDM.out.frg f
        have hfr2 := HDM.out.frg2 f (c + 1) (.slice (some ⟨b (c + 1), 0, none⟩) i (cp (c + 1)))
        obtain ⟨old2, hold2⟩ := HDM.out.any2 (f := f) hsi (.slice (some ⟨b (c + 1), 0, none⟩) i (cp (c + 1)))
        have p5 := eq_true (show (0 : Int) ≤ (c : Int) + 1 by omega)
        have p6 := eq_true (show (c : Int) + 1 < (i : Int) by omega)
        have hct : ((c : Int) + 1).toNat = c + 1 := by omega
        have hw1' : IntKind.i64.wrap ((c : Int) + 1) = (c : Int) + 1 := by
         rw [i64_w, Num.w64 (by omega) (by have := HN.out; omega)]
        obtain ⟨b2, cp2, R1, hdm1, sq1, he1⟩ := HDM.out.swap' HII.out.sq HFI.out hsi
        have HB1 := as0 (below_set (j := c + 1) (v := .slice (some ⟨b f, 0, none⟩) i (cp f)) (below_set (j := f) (v := .slice (some ⟨b (c + 1), 0, none⟩) i (cp (c + 1))) HB.out HDM.out.lg) HDM.out.lg)
        have HDM1 := as0 hdm1
        have HSQ1 := as0 sq1
        have HE1 := as0 he1
        clear hrl hsi hz hdm1 sq1 he1
        go_wp2_with fail
        generalize (wr.setCell ⟨g, f, none⟩ (.slice (some ⟨b (c + 1), 0, none⟩) i (cp (c + 1)))).setCell ⟨g, c + 1, none⟩ (.slice (some ⟨b f, 0, none⟩) i (cp f)) = wS at HDM1 HB1 ⊢
        clear hs1 hfr1 hfr2 hold2 hc1 hc2 HDM HB
        go_loopg [11] i (fun kq v11 w' => ∃ (r : Nat) (R' : List (List Int)), v11 = .int .i64 (r : Int) ∧ Aside0 (r + kq = i) ∧ Aside0 (DM w' w.heap.size g i b2 cp2 R') ∧ Aside0 (Sq p i R') ∧ Aside0 (∀ a d, a < i → d < i → mx R' a d = if a < r then mx R1 a (trx f (c + 1) d) else mx R1 a d) ∧ Aside0 (Below w.heap.size w w'))
        case atStart => exact ⟨0, R1, rfl, ⟨by omega⟩, HDM1, HSQ1, ⟨fun a d _ _ => by rw [if_neg (by omega)]⟩, HB1⟩
        case round =>
         clear HDM1 HB1
         obtain ⟨r, R', rfl, HG4, HDMr, HSQr, HEr, HBr⟩ := hrel
         have hg4 := HG4.out
         by_cases hr : r < i
         ·
          have d6 : decide (r < i) = true := decide_eq_true hr
          obtain ⟨m4, rfl⟩ : ∃ m4, gk = m4 + 1 := ⟨gk - 1, by omega⟩
          have hfi := HFI.out
          have hsi := HSI.out
          have hrl : R'.length = i := HSQr.out.len
          have hg1 := HDMr.out.cellg (show r < R'.length by omega)
          have hx1 := HDMr.out.cell (show r < R'.length by omega) hfi
          have hx2 := HDMr.out.cell (show r < R'.length by omega) hsi
          have hz1 := HDMr.out.fr (show r < R'.length by omega) f
          obtain ⟨x1, hxe1⟩ : ∃ x1, x1 = mx R' r f := ⟨_, rfl⟩
          obtain ⟨x2, hxe2⟩ : ∃ x2, x2 = mx R' r (c + 1) := ⟨_, rfl⟩
          replace hx1 : wr.cell? ⟨b2 r, f, none⟩ = some (.int .i64 x1) := by rw [hxe1]; exact hx1
          replace hx2 : wr.cell? ⟨b2 r, c + 1, none⟩ = some (.int .i64 x2) := by rw [hxe2]; exact hx2
          have hdm2 := HDMr.out.pt HSQr.out x2 hr hfi
          have sq2 := HSQr.out.pt (k := f) (v := x2) hr (by rw [hxe2]; exact HSQr.out.bd hr hsi)
          have hrl2 : (pt R' r f x2).length = i := sq2.len
          have hx3 := hdm2.cell (show r < (pt R' r f x2).length by omega) hsi
          have hz2 := hdm2.fr (show r < (pt R' r f x2).length by omega) (c + 1)
          have hdm3 := hdm2.pt sq2 x1 hr hsi
          have sq3 := sq2.pt (k := c + 1) (v := x1) hr (by rw [hxe1]; exact HSQr.out.bd hr hfi)
          have he3 : ∀ a d, a < i → d < i → mx (pt (pt R' r f x2) r (c + 1) x1) a d = if a < r + 1 then mx R1 a (trx f (c + 1) d) else mx R1 a d := fun a d ha hd => by
           rw [pt_mx x1 (by omega) (by rw [sq2.row r hr]; exact hsi), pt_mx x2 (by omega) (by rw [HSQr.out.row r hr]; exact hfi)]
           by_cases e1 : a = r
           ·
            subst e1
            rw [if_pos (show a < a + 1 by omega)]
            have q1 := HEr.out a f ha hfi
            have q2 := HEr.out a (c + 1) ha hsi
            have q3 := HEr.out a d ha hd
            rw [if_neg (by omega)] at q1 q2 q3
            unfold trx
            by_cases e2 : d = c + 1
            ·
             rw [if_pos ⟨rfl, e2⟩, hxe1, q1]
             by_cases e3 : d = f
             ·
              rw [if_pos e3, ← e3, e2]
             ·
              rw [if_neg e3, if_pos e2]
            ·
             rw [if_neg (fun h => e2 h.2)]
             by_cases e3 : d = f
             ·
              rw [if_pos ⟨rfl, e3⟩, if_pos e3, hxe2, q2]
             ·
              rw [if_neg (fun h => e3 h.2), if_neg e3, if_neg e2, q3]
           ·
            rw [if_neg (fun h => e1 h.1), if_neg (fun h => e1 h.1), HEr.out a d ha hd]
            by_cases e2 : a < r
            ·
             rw [if_pos e2, if_pos (by omega)]
            ·
             rw [if_neg e2, if_neg (by omega)]
          have HDM3 := as0 hdm3
          have HSQ3 := as0 sq3
          have HE3 := as0 he3
          have HB3 := as0 (below_set (j := c + 1) (v := .int .i64 x1) (below_set (j := f) (v := .int .i64 x2) HBr.out (HDMr.out.lb r (by omega))) (HDMr.out.lb r (by omega)))
          have p7 := eq_true (show (0 : Int) ≤ (r : Int) by omega)
          have p8 := eq_true (show (r : Int) < (i : Int) by omega)
          have HRI := as0 hr
          clear hdm2 hdm3 sq2 sq3 he3 hrl hrl2 hxe1 hxe2 hr hg4 hfi hsi
          go_wp2
          go_roundg m4
          case measure => omega
          case rel =>
           refine ⟨r + 1, _, ?_, ⟨by have := HG4.out; omega⟩, HDM3, HSQ3, HE3, HB3⟩
           rw [wp1 (show r ≤ 1000000000000 by have := HRI.out; have := HN.out; omega)]
         ·
          have hri : r = i := by omega
          subst hri
          have d6 : decide (r < r) = false := decide_eq_false (by omega)
          have he4 : ∀ a d, a < r → d < r → mx R' a d = mx rows (trx f (c + 1) a) (trx f (c + 1) d) := fun a d ha hd => by
           rw [HEr.out a d ha hd, if_pos ha, HE1.out]
          have HE4 := as0 he4
          -- the pivot, and where the rows stand now
          have hfi := HFI.out
          have hsi := HSI.out
          have hpv : mx R' (c + 1) c = y := by
           rw [he4 (c + 1) c hsi (by omega)]
           have e1 : trx f (c + 1) (c + 1) = f := by
            unfold trx
            split
            ·
             omega
            ·
             rw [if_pos rfl]
           have e2 : trx f (c + 1) c = c := by unfold trx; rw [if_neg (by have := HCF.out; omega), if_neg (by omega)]
           rw [e1, e2, ← HY.out]
          have hi5 : HI p r (Dy r (mx l1)) c R' := by
           by_cases e : f = c + 1
           ·
            have e3 : ∀ a, trx f (c + 1) a = a := fun a => by rw [e]; exact trx_self _ _
            refine ⟨HSQr.out, fun j a h1 h2 h3 => ?_, fun t => ?_⟩
            ·
             rw [he4 a j h3 (by omega), e3, e3]; exact HII.out.z j a h1 h2 h3
            ·
             rw [Dy_congr (B := mx rows) fun a d ha hd => by rw [he4 a d ha hd, e3, e3]]; exact HII.out.d t
           ·
            exact HII.out.swap (r := f) (s := c + 1) (by omega) (by have := HCF.out; omega) hfi HSQr.out he4
          have HII5 := as0 hi5
          have HPV := as0 hpv
          have hyb := HII.out.sq.bd hfi (show c < r by omega)
          rw [← HY.out] at hyb
          have hinv : Num.cg p (y * (y ^ (p - 2).toNat % p)) 1 := Num.inv_cg HP.out (by rw [Int.emod_eq_of_lt hyb.1 hyb.2]; exact HYZ.out)
          obtain ⟨iv, hiv⟩ : ∃ iv, iv = y ^ (p - 2).toNat % p := ⟨_, rfl⟩
          rw [← hiv] at hinv
          have hivb : 0 ≤ iv ∧ iv < p := by rw [hiv]; exact Num.emod_bd (by have := HP.out.1; omega)
          obtain ⟨K, hK⟩ := spec_inverse (p := p) (x := y) HP.out.1 HP.out.2.1
          have HIK := fun W => spec_l01Inverse.calls K p y iv W (by rw [hiv]; exact hK K (Nat.le_refl _))
          have HIV := as0 hinv
          have HIB := as0 hivb
          have hrl : R'.length = r := HSQr.out.len
          have hs1 := HDMr.out.cellg (show c + 1 < R'.length by omega)
          have hx1 := HDMr.out.cell (show c + 1 < R'.length by omega) (show c < r by omega)
          replace hx1 : wr.cell? ⟨b2 (c + 1), c, none⟩ = some (.int .i64 y) := by rw [← hpv]; exact hx1
          have p9 := eq_true (show (0 : Int) ≤ (c : Int) by omega)
          have p10 := eq_true (show (c : Int) < (r : Int) by omega)
          clear he4 hg4 hr hpv hi5 hyb hinv hivb hiv hK hrl hfi hsi HII HE4 HE1 HSQ1
          go_wp2_with (go_at_call 60; refine (HIK _).mono ?_; rintro e w' ⟨rfl, ⟨nd, rfl⟩⟩)
          have HDM5 := as0 (HDMr.out.drewN nd)
          have HB5 := as0 (pw_below_drewN HBr.out nd)
          generalize wr.drewN nd = wI at HDM5 HB5 ⊢
          clear HDMr HBr hs1 hx1
          go_loopg [15] (r - (c + 2)) (fun kq v15 w' => ∃ (q : Nat) (R2 : List (List Int)), v15 = .int .i64 (q : Int) ∧ Aside0 (q + kq = r) ∧ Aside0 (c + 2 ≤ q) ∧ Aside0 (HI p r (Dy r (mx l1)) c R2) ∧ Aside0 (DM w' w.heap.size g r b2 cp2 R2) ∧ Aside0 (∀ a, c + 1 < a → a < q → mx R2 a c = 0) ∧ Aside0 (mx R2 (c + 1) c = y) ∧ Aside0 (Below w.heap.size w w'))
          case atStart => exact ⟨c + 2, R', (by first | rfl | (rw [show wrap64 ((c : Int) + 2) = ((c + 2 : Nat) : Int) from by rw [Num.w64 (by omega) (by have := HCN.out; have := HN.out; omega)]; omega]) | simp), ⟨by have := HCN.out; omega⟩, ⟨Nat.le_refl _⟩, HII5, HDM5, ⟨fun a h1 h2 => by omega⟩, HPV, HB5⟩
          case round =>
           clear HII5 HDM5 HPV HB5 HSQr HEr
           obtain ⟨q, R2, rfl, HG5, HCQ, HII6, HDM6, HZ6, HPV6, HB6⟩ := hrel
           have hg5 := HG5.out
           by_cases hq : q < r
           ·
            have d7 : decide (q < r) = true := decide_eq_true hq
            obtain ⟨m5, rfl⟩ : ∃ m5, gk = m5 + 1 := ⟨gk - 1, by omega⟩
            have hcn := HCN.out
            have hrl : R2.length = r := HII6.out.sq.len
            have hgq := HDM6.out.cellg (show q < R2.length by omega)
            have hxq := HDM6.out.cell (show q < R2.length by omega) (show c < r by omega)
            obtain ⟨z, hz⟩ : ∃ z, z = mx R2 q c := ⟨_, rfl⟩
            replace hxq : wr.cell? ⟨b2 q, c, none⟩ = some (.int .i64 z) := by rw [hz]; exact hxq
            have hzb : 0 ≤ z ∧ z < p := by rw [hz]; exact HII6.out.sq.bd hq (by omega)
            have hib := HIB.out
            have hmb := mul_bd2 HP.out.2.1 hzb (y := iv) (by have := HP.out.2.1; omega)
            have hfac : (wrap64 (z * iv)).tmod p = z * iv % p := by rw [Num.w64 (by omega) (by omega), Num.tmod_nn hmb.1]
            have hp0 : (p == 0) = false := beq_eq_false_iff_ne.mpr (by have := HP.out.1; omega)
            have hp1 : (p = 0) = False := eq_false (by have := HP.out.1; omega)
            obtain ⟨kk, hkk⟩ : ∃ kk, kk = z * iv % p := ⟨_, rfl⟩
            rw [← hkk] at hfac
            have HKK := as0 (show Num.cg p kk (mx R2 q c * iv) by rw [hkk, hz]; exact Num.cg.mod p _)
            have HKB := as0 (show 0 ≤ kk ∧ kk < p by rw [hkk]; exact Num.emod_bd (by have := HP.out.1; omega))
            have HQR := as0 hq
            have p11 := eq_true (show (0 : Int) ≤ (q : Int) by omega)
            have p12 := eq_true (show (q : Int) < (r : Int) by omega)
            have p13 := eq_true (show (0 : Int) ≤ (c : Int) by omega)
            have p14 := eq_true (show (c : Int) < (r : Int) by omega)
            clear hkk hz hzb hib hmb hrl hcn hq hg5
            go_wp2_with fail
            clear hgq hxq hfac
            go_loopg [17] r (fun kq v17 w' => ∃ (x : Nat) (R3 : List (List Int)), v17 = .int .i64 (x : Int) ∧ Aside0 (x + kq = r) ∧ Aside0 (DM w' w.heap.size g r b2 cp2 R3) ∧ Aside0 (Sq p r R3) ∧ Aside0 (∀ a d, a < r → d < r → mx R3 a d = if a = q ∧ d < x then (mx R2 q d - kk * mx R2 (c + 1) d) % p else mx R2 a d) ∧ Aside0 (Below w.heap.size w w'))
            case atStart => exact ⟨0, R2, rfl, ⟨by omega⟩, HDM6, ⟨HII6.out.sq⟩, ⟨fun a d _ _ => by rw [if_neg (by omega)]⟩, HB6⟩
            case round =>
             clear HDM6 HB6
             obtain ⟨x, R3, rfl, HG6, HDM7, HSQ7, HE7, HB7⟩ := hrel
             have hg6 := HG6.out
             by_cases hx : x < r
             ·
              have d8 : decide (x < r) = true := decide_eq_true hx
              obtain ⟨m6, rfl⟩ : ∃ m6, gk = m6 + 1 := ⟨gk - 1, by omega⟩
              have hqr := HQR.out
              have hsi := HSI.out
              have hrl : R3.length = r := HSQ7.out.len
              have hg7 := HDM7.out.cellg (show q < R3.length by omega)
              have hs7 := HDM7.out.cellg (show c + 1 < R3.length by omega)
              have hxr := HDM7.out.cell (show q < R3.length by omega) hx
              have hxo := HDM7.out.cell (show c + 1 < R3.length by omega) hx
              obtain ⟨rt, hrt⟩ : ∃ rt, rt = mx R3 q x := ⟨_, rfl⟩
              obtain ⟨ot, hot⟩ : ∃ ot, ot = mx R3 (c + 1) x := ⟨_, rfl⟩
              replace hxr : wr.cell? ⟨b2 q, x, none⟩ = some (.int .i64 rt) := by rw [hrt]; exact hxr
              replace hxo : wr.cell? ⟨b2 (c + 1), x, none⟩ = some (.int .i64 ot) := by rw [hot]; exact hxo
              have hrb : 0 ≤ rt ∧ rt < p := by rw [hrt]; exact HSQ7.out.bd hqr hx
              have hob : 0 ≤ ot ∧ ot < p := by rw [hot]; exact HSQ7.out.bd hsi hx
              have hp2 := HP.out.2.1
              have hmb := mul_bd2 hp2 HKB.out (y := ot) (by omega)
              have hw3 : wrap64 (rt - wrap64 (kk * ot)) = rt - kk * ot := by rw [Num.w64 (x := kk * ot) (by omega) (by omega), Num.w64 (by omega) (by omega)]
              have RT := as0 hrt
              have OT := as0 hot
              have HXR := as0 hx
              have p15 := eq_true (show (0 : Int) ≤ (x : Int) by omega)
              have p16 := eq_true (show (x : Int) < (r : Int) by omega)
              have HMD : ∀ W, Calls Try.prog 61 #[.int .i64 p, .int .i64 (wrap64 (rt - wrap64 (kk * ot)))] W fun e w' => e = .returned (.int .i64 ((rt - kk * ot) % p)) ∧ Drawn0 W w' := fun W => by
               rw [hw3]; exact spec_l01Mod.calls p (rt - kk * ot) _ W (spec_mod (by have := HP.out.1; omega) (by omega))
              clear hrt hot hrl hx hg6 hqr hsi hrb hob hp2 hmb hw3
              go_wp2_with fail
              have HDM8 := as0 HDM7.out.drew
              have HB8 := as0 (below_drew HB7.out)
              refine start_ (n := 21) (S := fun w' => w'.cell? ⟨g, c + 1, none⟩ = some (.slice (some ⟨b2 (c + 1), 0, none⟩) r (cp2 (c + 1))) ∧ w'.cell? ⟨b2 (c + 1), x, none⟩ = some (.int .i64 ot) ∧ w'.cell? ⟨b2 q, x, none⟩ = some (.int .i64 rt)) (ds := [20]) #[false, false, false, false, false, false, false, false, false, false, false, false, false, false, false, false, false, false, false, false, false] (by kernel_rfl) rfl rfl ⟨hs7, hxo, hxr⟩ (fun hHeld => ?_)
              refine with_tabW spec_l03Hessenberg.tab32 spec_l03Hessenberg.bits32 (fun HT_ HW_ => ?_)
              generalize wr.drew = wd at HDM8 HB8 hHeld ⊢
              clear hg7 hs7 hxo hxr HDM7 HB7
              refine pm_ HT_ (i := 0) (N := some 143) ?_
              refine pm_ HT_ (i := 1) (N := some 144) ?_
              refine pm_ HT_ (i := 2) (N := some 145) ?_
              refine pm_ HT_ (i := 3) (N := some 146) ?_
              refine pm_ HT_ (i := 4) (N := some 147) ?_
              refine pm_ HT_ (i := 7) (N := some 150) ?_
              refine pm_ HT_ (i := 8) (N := some 151) ?_
              refine pm_ HT_ (i := 9) (N := some 152) ?_
              refine pm_ HT_ (i := 13) (N := some 156) ?_
              refine pm_ HT_ (i := 5) (N := some 148) ?_
              refine tm3_ HT_ HW_ (i := 6) (N := some 149) hHeld ?_
              refine pm_ HT_ (i := 10) (N := some 153) ?_
              refine pm_ HT_ (i := 11) (N := some 154) ?_
              refine tm3_ HT_ HW_ (i := 12) (N := some 155) hHeld ?_
              refine pm_ HT_ (i := 14) (N := some 157) ?_
              refine tm3_ HT_ HW_ (i := 15) (N := some 158) hHeld ?_
              refine pm_ HT_ (i := 16) (N := some 159) ?_
              refine pm_ HT_ (i := 17) (N := some 160) ?_
              refine one_ (i := 18) (N := (some 161)) #[true, true, true, true, true, true, true, true, true, true, true, true, true, true, true, true, true, true, true, false, false] rfl rfl (one_of HT_.out (by kernel_rfl)) (by decide) (fun K hK => ?_)
              refine goes_ Try.func61 (by kernel_rfl) rfl #[.int .i64 p, .int .i64 (wrap64 (rt - wrap64 (kk * ot)))] (by rfl) rfl rfl (by (try simp only [List.map_toArray, List.map_cons, List.map_nil]); first | done | rfl) ?_
              refine (HMD _).mono ?_
              rintro e w' ⟨rfl, ⟨nd, rfl⟩⟩
              refine ⟨_, rfl, ?_⟩
              refine hK.out _ _ hHeld (fun hHeld => ?_)
              clear hK K
              refine nm_ (some 161) ?_
              have hxr := hHeld.2.2
              have hfr := HDM8.out.fr (i := q) (by rw [HSQ7.out.len]; exact HQR.out) x
              refine pm_ HT_ (i := 19) (N := some 162) ?_
              refine last_ (i := 20) (N := none) #[true, true, true, true, true, true, true, true, true, true, true, true, true, true, true, true, true, true, true, true, true] rfl rfl (one_of HT_.out (by kernel_rfl)) (by decide) (fun K hK => ?_)
              refine skip_ (w1 := ?_) (by rfl) rfl ?_ ?_
              rotate_left
              ·
               go_simp
               rfl
              refine hK.out _ _ ?_
              clear hK K
              refine done_ (done_of HT_.out (by kernel_rfl)) ?_
              clear HT_ HW_ hHeld
              clear hxr hfr
              have hqr := HQR.out
              have hx := HXR.out
              have hsi := HSI.out
              have hdm9 := (HDM8.out.drewN nd).pt HSQ7.out ((rt - kk * ot) % p) hqr hx
              have sq9 := HSQ7.out.pt (k := x) (v := (rt - kk * ot) % p) hqr (Num.emod_bd (by have := HP.out.1; omega))
              have he9 : ∀ a d, a < r → d < r → mx (pt R3 q x ((rt - kk * ot) % p)) a d = if a = q ∧ d < x + 1 then (mx R2 q d - kk * mx R2 (c + 1) d) % p else mx R2 a d := fun a d ha hd => by
               rw [pt_mx _ (by rw [HSQ7.out.len]; exact hqr) (by rw [HSQ7.out.row q hqr]; exact hx)]
               have q1 := HE7.out q x hqr hx
               have q2 := HE7.out (c + 1) x hsi hx
               rw [if_neg (by omega)] at q1
               rw [if_neg (by omega)] at q2
               by_cases e1 : a = q ∧ d = x
               ·
                rw [if_pos e1, if_pos ⟨e1.1, by omega⟩, RT.out, OT.out, q1, q2, e1.2]
               ·
                rw [if_neg e1, HE7.out a d ha hd]
                by_cases e2 : a = q ∧ d < x
                ·
                 rw [if_pos e2, if_pos ⟨e2.1, by omega⟩]
                ·
                 rw [if_neg e2, if_neg (fun h => by omega)]
              have hb9 := below_set (j := x) (v := .int .i64 ((rt - kk * ot) % p)) (pw_below_drewN HB8.out nd) (HDM8.out.lb q (by rw [HSQ7.out.len]; exact hqr))
              have HDM9 := as0 hdm9
              have HSQ9 := as0 sq9
              have HE9 := as0 he9
              have HB9 := as0 hb9
              clear hdm9 sq9 he9 hb9 hqr hx hsi HDM8 HB8 HMD
              go_wp2
              go_roundg m6
              case measure => omega
              case rel =>
               refine ⟨x + 1, _, ?_, ⟨by have := HG6.out; omega⟩, HDM9, HSQ9, HE9, HB9⟩
               rw [wp1 (show x ≤ 1000000000000 by have := HXR.out; have := HN.out; omega)]
             ·
              have d8 : decide (x < r) = false := decide_eq_false hx
              have hxr : x = r := by omega
              have HE8 := as0 (show ∀ a d, a < r → d < r → Num.cg p (mx R3 a d) (sim1 (mx R2) q (c + 1) kk a d) from fun a d ha hd => by
               rw [HE7.out a d ha hd]
               unfold sim1
               by_cases e : a = q
               ·
                rw [if_pos ⟨e, by omega⟩, if_pos e]; exact Num.cg.mod p _
               ·
                rw [if_neg (fun h => e h.1), if_neg e]; exact Num.cg.refl _)
              clear hx hg6 hxr HE7
              go_wp2_with fail
              go_loopg [19] r (fun kq v19 w' => ∃ (x : Nat) (R4 : List (List Int)), v19 = .int .i64 (x : Int) ∧ Aside0 (x + kq = r) ∧ Aside0 (DM w' w.heap.size g r b2 cp2 R4) ∧ Aside0 (Sq p r R4) ∧ Aside0 (∀ a d, a < r → d < r → mx R4 a d = if d = c + 1 ∧ a < x then (mx R3 a (c + 1) + kk * mx R3 a q) % p else mx R3 a d) ∧ Aside0 (Below w.heap.size w w'))
              case atStart => exact ⟨0, R3, rfl, ⟨by omega⟩, HDM7, HSQ7, ⟨fun a d _ _ => by rw [if_neg (by omega)]⟩, HB7⟩
              case round =>
               clear HDM7 HB7
               obtain ⟨y2, R4, rfl, HG8, HDM10, HSQ10, HE10, HB10⟩ := hrel
               have hg8 := HG8.out
               by_cases hx : y2 < r
               ·
                have d9 : decide (y2 < r) = true := decide_eq_true hx
                obtain ⟨m8, rfl⟩ : ∃ m8, gk = m8 + 1 := ⟨gk - 1, by omega⟩
                have hqr := HQR.out
                have hsi := HSI.out
                have hrl : R4.length = r := HSQ10.out.len
                have hg10 := HDM10.out.cellg (show y2 < R4.length by omega)
                have hxs := HDM10.out.cell (show y2 < R4.length by omega) hsi
                have hxq := HDM10.out.cell (show y2 < R4.length by omega) hqr
                obtain ⟨ct, hct⟩ : ∃ ct, ct = mx R4 y2 (c + 1) := ⟨_, rfl⟩
                obtain ⟨qt, hqt⟩ : ∃ qt, qt = mx R4 y2 q := ⟨_, rfl⟩
                replace hxs : wr.cell? ⟨b2 y2, c + 1, none⟩ = some (.int .i64 ct) := by rw [hct]; exact hxs
                replace hxq : wr.cell? ⟨b2 y2, q, none⟩ = some (.int .i64 qt) := by rw [hqt]; exact hxq
                have hcb : 0 ≤ ct ∧ ct < p := by rw [hct]; exact HSQ10.out.bd hx hsi
                have hqb : 0 ≤ qt ∧ qt < p := by rw [hqt]; exact HSQ10.out.bd hx hqr
                have hp2 := HP.out.2.1
                have hmb := mul_bd2 hp2 HKB.out (y := qt) (by omega)
                have hw3 : (wrap64 (ct + wrap64 (kk * qt))).tmod p = (ct + kk * qt) % p := by rw [Num.w64 (x := kk * qt) (by omega) (by omega), Num.w64 (by omega) (by omega), Num.tmod_nn (by omega)]
                have CT := as0 hct
                have QT := as0 hqt
                have HXR := as0 hx
                have p15 := eq_true (show (0 : Int) ≤ (y2 : Int) by omega)
                have p16 := eq_true (show (y2 : Int) < (r : Int) by omega)
                clear hct hqt hrl hx hg8 hqr hsi hcb hqb hp2 hmb
                go_wp2_with fail
                have HDM11 := as0 HDM10.out.drew
                have HB11 := as0 (below_drew HB10.out)
                refine start_ (n := 19) (S := fun w' => w'.cell? ⟨b2 y2, c + 1, none⟩ = some (.int .i64 ct) ∧ w'.cell? ⟨b2 y2, q, none⟩ = some (.int .i64 qt)) (ds := [18]) #[false, false, false, false, false, false, false, false, false, false, false, false, false, false, false, false, false, false, false] (by kernel_rfl) rfl rfl ⟨hxs, hxq⟩ (fun hHeld => ?_)
                refine with_tabW spec_l03Hessenberg.tab37 spec_l03Hessenberg.bits37 (fun HT_ HW_ => ?_)
                generalize wr.drew = wd at HDM11 HB11 hHeld ⊢
                clear hg10 hxs hxq HDM10 HB10
                refine pm_ HT_ (i := 0) (N := some 172) ?_
                refine pm_ HT_ (i := 1) (N := some 173) ?_
                refine pm_ HT_ (i := 2) (N := some 174) ?_
                refine pm_ HT_ (i := 3) (N := some 175) ?_
                refine pm_ HT_ (i := 4) (N := some 176) ?_
                refine pm_ HT_ (i := 5) (N := some 177) ?_
                refine pm_ HT_ (i := 8) (N := some 180) ?_
                refine pm_ HT_ (i := 9) (N := some 181) ?_
                refine pm_ HT_ (i := 10) (N := some 182) ?_
                refine pm_ HT_ (i := 15) (N := some 187) ?_
                refine pm_ HT_ (i := 6) (N := some 178) ?_
                refine tm2_ HT_ HW_ (i := 7) (N := some 179) hHeld ?_
                refine pm_ HT_ (i := 11) (N := some 183) ?_
                refine tm2_ HT_ HW_ (i := 12) (N := some 184) hHeld ?_
                refine pm_ HT_ (i := 13) (N := some 185) ?_
                refine pm_ HT_ (i := 14) (N := some 186) ?_
                refine pm_ HT_ (i := 16) (N := some 188) ?_
                refine pm_ HT_ (i := 17) (N := some 189) ?_
                have hxr := hHeld.1
                have hfr := HDM11.out.fr (i := y2) (by rw [HSQ10.out.len]; exact HXR.out) (c + 1)
                refine last_ (i := 18) (N := none) #[true, true, true, true, true, true, true, true, true, true, true, true, true, true, true, true, true, true, true] rfl rfl (one_of HT_.out (by kernel_rfl)) (by decide) (fun K hK => ?_)
                refine skip_ (w1 := ?_) (by rfl) rfl ?_ ?_
                rotate_left
                ·
                 go_simp
                 rfl
                refine hK.out _ _ ?_
                clear hK K
                refine done_ (done_of HT_.out (by kernel_rfl)) ?_
                clear HT_ HW_ hHeld
                clear hxr hfr
                have hqr := HQR.out
                have hx := HXR.out
                have hsi := HSI.out
                have hqc := HCQ.out
                have hdm12 := HDM11.out.pt HSQ10.out ((ct + kk * qt) % p) hx hsi
                have sq12 := HSQ10.out.pt (k := c + 1) (v := (ct + kk * qt) % p) hx (Num.emod_bd (by have := HP.out.1; omega))
                have he12 : ∀ a d, a < r → d < r → mx (pt R4 y2 (c + 1) ((ct + kk * qt) % p)) a d = if d = c + 1 ∧ a < y2 + 1 then (mx R3 a (c + 1) + kk * mx R3 a q) % p else mx R3 a d := fun a d ha hd => by
                 rw [pt_mx _ (by rw [HSQ10.out.len]; exact hx) (by rw [HSQ10.out.row y2 hx]; exact hsi)]
                 have q1 := HE10.out y2 (c + 1) hx hsi
                 have q2 := HE10.out y2 q hx hqr
                 rw [if_neg (by omega)] at q1
                 rw [if_neg (by omega)] at q2
                 by_cases e1 : a = y2 ∧ d = c + 1
                 ·
                  rw [if_pos e1, if_pos ⟨e1.2, by omega⟩, CT.out, QT.out, q1, q2, e1.1]
                 ·
                  rw [if_neg e1, HE10.out a d ha hd]
                  by_cases e2 : d = c + 1 ∧ a < y2
                  ·
                   rw [if_pos e2, if_pos ⟨e2.1, by omega⟩]
                  ·
                   rw [if_neg e2, if_neg (fun h => by omega)]
                have hb12 := below_set (j := c + 1) (v := .int .i64 ((ct + kk * qt) % p)) HB11.out (HDM11.out.lb y2 (by rw [HSQ10.out.len]; exact hx))
                have HDM12 := as0 hdm12
                have HSQ12 := as0 sq12
                have HE12 := as0 he12
                have HB12 := as0 hb12
                clear hdm12 sq12 he12 hb12 hqr hx hsi hqc HDM11 HB11 hw3
                go_wp2
                go_roundg m8
                case measure => omega
                case rel =>
                 refine ⟨y2 + 1, _, ?_, ⟨by have := HG8.out; omega⟩, HDM12, HSQ12, HE12, HB12⟩
                 rw [wp1 (show y2 ≤ 1000000000000 by have := HXR.out; have := HN.out; omega)]
               ·
                have d9 : decide (y2 < r) = false := decide_eq_false hx
                have hxr : y2 = r := by omega
                have he : ∀ a d, a < r → d < r → Num.cg p (mx R4 a d) (sim2 (mx R2) q (c + 1) kk a d) := fun a d ha hd => by
                 rw [HE10.out a d ha hd]
                 unfold sim2
                 by_cases e : d = c + 1
                 ·
                  rw [if_pos ⟨e, by omega⟩, if_pos e]
                  exact (Num.cg.mod p _).trans ((HE8.out a (c + 1) ha HSI.out).add ((Num.cg.refl kk).mul (HE8.out a q ha HQR.out)))
                 ·
                  rw [if_neg (fun h => e h.1), if_neg e]; exact HE8.out a d ha hd
                have hqc := HCQ.out
                have hinv : Num.cg p (mx R2 (c + 1) c * iv) 1 := by rw [HPV6.out]; exact HIV.out
                have HII12 := as0 (HII6.out.elim (r := q) (s := c + 1) (k := kk) (by omega) (by omega) HQR.out HSQ10.out he)
                have hz : mx R4 q c = 0 := elim_zero HSQ10.out (s := c + 1) (by omega) (by omega) HQR.out he HKK.out hinv
                have hkeep : ∀ a, a < r → a ≠ q → mx R4 a c = mx R2 a c := fun a ha hne => elim_keep HSQ10.out HII6.out.sq (by omega) HSI.out ha hne he
                have HZ12 := as0 (show ∀ a, c + 1 < a → a < q + 1 → mx R4 a c = 0 from fun a h1 h2 => by
                 by_cases e : a = q
                 ·
                  rw [e]; exact hz
                 ·
                  rw [hkeep a (by have := HQR.out; omega) e]; exact HZ6.out a h1 (by omega))
                have HPV12 := as0 (show mx R4 (c + 1) c = y by rw [hkeep (c + 1) HSI.out (by omega)]; exact HPV6.out)
                clear he hz hkeep hinv hx hg8 hxr hqc
                go_wp2
                go_roundg m5
                case measure => omega
                case rel =>
                 refine ⟨q + 1, R4, ?_, ⟨by have := HG5.out; omega⟩, ⟨by have := HCQ.out; omega⟩, HII12, HDM10, HZ12, HPV12, HB10⟩
                 rw [wp1 (show q ≤ 1000000000000 by have := HQR.out; have := HN.out; omega)]
           ·
            have hqr : q = r := by omega
            subst hqr
            have d7 : decide (q < q) = false := decide_eq_false (by omega)
            clear hq hg5
            go_wp2
            go_roundg m2
            case measure => omega
            case rel =>
             refine ⟨c + 1, b2, cp2, R2, ?_, ⟨by have := HG2.out; omega⟩, ⟨HII6.out.next fun a h1 h2 => HZ6.out a h1 h2⟩, HDM6, HB6⟩
             first | (rw [wp1 (show c ≤ 1000000000000 by have := HCN.out; have := HN.out; omega)]) | rfl | simp
      ·
       have hfi : f = i := by omega
       subst hfi
       have d3 : decide (f < f) = false := decide_eq_false (by omega)
       clear hg3 hn hcn hf
       go_wp2
       go_roundg m2
       case measure => omega
       case rel =>
        refine ⟨c + 1, b, cp, rows, ?_, ⟨by have := HG2.out; omega⟩, ⟨HII.out.next fun a h1 h2 => HZF.out a (by omega) h2⟩, HDM, HB⟩
        rw [wp1 (show c ≤ 1000000000000 by have := HCN.out; have := HN.out; omega)]
    ·
     have d2 : decide ((c : Int) + 2 < (i : Int)) = false := decide_eq_false (by omega)
     have HCI := as0 hc
     clear hc hg2 hn
     go_wp2
     go_ret
     exact ⟨g, C, c, b, cp, rows, rfl, by have := HCI.out; omega, HDM.out, HII.out, HB.out⟩
theorem tmod_cg (p a : Int) : Num.cg p (a.tmod p) a := ⟨-(a.tdiv p), by have := Int.tmod_add_mul_tdiv a p; rw [Int.mul_neg]; omega⟩
theorem S_row {W : World} {base : Nat} {ok : Nat → Prop} {A : Option Addr} {n c : Nat} {xs : List (List Int)} (h : Kd.S (Kd.slice 2 (Kd.int .i64)) 22 W base ok (.slice A n c) xs) {i : Nat} (hi : i < xs.length) :
  ∃ (g : Nat) (Av : Option Addr) (cv : Nat), A = some ⟨g, 0, none⟩ ∧ W.cell? ⟨g, i, none⟩ = some (.slice Av (ro xs i).length cv) ∧ (ro xs i).length ≤ cv ∧ Kd.C (Kd.int .i64) W Av (ro xs i).length (ro xs i) ∧ Kd.R (Kd.int .i64) 2 W base (fun _ => True) (.slice Av (ro xs i).length cv) (ro xs i) := by
 have hlen : n = xs.length := (Kd.S_reads' h).1
 subst hlen
 obtain ⟨g', cap', e', hbg, hgl, cells, hcg⟩ := Kd.S_form h (by omega)
 injection e' with e1 _ e3
 subst e1 e3
 obtain ⟨f, hR⟩ := h
 obtain ⟨c, hcl, hM, hcc, _⟩ := Kd.R_elem hR ([], 0) (i : Int) (by omega) (by rw [← Int.ofNat_lt] at hi; exact hi)
 have hz : xs.zipIdx.getD (i : Int).toNat ([], 0) = (ro xs i, i) := by
  rw [Int.toNat_natCast, List.getD_eq_getElem?_getD, List.getElem?_zipIdx, List.getElem?_eq_getElem hi]
  simp [ro, List.getD_eq_getElem?_getD, List.getElem?_eq_getElem hi]
 rw [hz] at hM
 obtain ⟨v, rfl, hv⟩ : ∃ v, c = [v] ∧ Kd.R (Kd.int .i64) 2 W base (fun k => (ok k ∧ k ≠ g') ∧ f k = i) v (ro xs i) := hM
 have hcell := hcc 0 _ rfl
 have hcell2 : W.cell? ⟨g', i, none⟩ = some v := by
  have e : (i : Int).toNat * (Kd.tag f (Kd.slice 2 (Kd.int .i64))).sz + 0 = i := by
   show (i : Int).toNat * 1 + 0 = i
   omega
  rw [e] at hcell
  exact hcell
 obtain ⟨Av, cv, rfl, h1, h2⟩ := Kd.R_reads hv
 exact ⟨g', Av, cv, rfl, hcell2, h1, h2, Kd.R_mono hv fun _ _ => trivial⟩
theorem one_row {W : World} {base : Nat} {v : Value} {l : List Int} (h : Kd.R (Kd.int .i64) 2 W base (fun _ => True) v l) : ∀ (j : Nat) (x : List Int), ([l] : List (List Int))[j]? = some x → (Kd.slice 2 (Kd.int .i64)).M W base (fun k => j = 0 ∧ some k = v.ownBlock) x (([v].drop (j * (Kd.slice 2 (Kd.int .i64)).sz)).take (Kd.slice 2 (Kd.int .i64)).sz) := by
 intro j x hj
 rcases j with _ | j
 ·
  injection hj with hj
  subst hj
  exact Kd.M_row (Kd.R_mono (Kd.R_tight rfl h) fun _ hk => ⟨rfl, hk⟩)
 ·
  simp at hj
set_option maxHeartbeats 8000000 in
set_option maxRecDepth 100000 in
theorem spec_l03Hessenberg.calls0 (p : Int) (A1 : Option Addr) (c1 : Nat) (w : World) :
  Calls Try.prog 99 #[.int .i64 p, .slice A1 0 c1] w fun e w' => ∃ (A : Option Addr) (C : Nat), e = .returned (.slice A 0 C) ∧ Below w.heap.size w w' := by
 have HB := as0 (Below.refl w.heap.size w)
 go_enter Try.func99, Try.ntmps99
 go_wp2_with (first | ((with_reducible refine gate_dst (N := 21) rfl ?_); refine Kd.S_lit (Kd.slice 2 (Kd.int .i64)) _ 22 ?hg (N := 21) ?hd (xs := ([] : List (List Int))) (inner := []) (ok := fun _ => True) (okp := fun _ => True) ?hr ?hp (fun _ hk => hk) trivial (Below.refl _ _) (Nat.le_refl _) (by simp) ?_; (case hd => rfl); (case hg => rfl); (case hr => first | (go_simp; done) | (go_simp; rfl)); (case hp => exact (Reps.none _ _)); intro v21 w4 ho5 hb hg_ hnew_; clear hg_ hnew_; have HS := as0 ho5; have HB2 := as0 (below_step HB.out hb); clear hb ho5 HB; have HB := HB2; clear HB2))
 obtain ⟨A, C, e⟩ := Kd.S_slice HS.out
 subst e
 clear HS
 go_loopg [5, 7] 0 (fun kq v5 v7 w' => v7 = .int .i64 0 ∧ v5 = .slice A 0 C ∧ Aside0 (Below w.heap.size w w'))
 case atStart => exact ⟨rfl, rfl, HB⟩
 case round =>
  clear HB
  obtain ⟨rfl, rfl, HB⟩ := hrel
  go_wp2
  go_loopg [8] 0 (fun kq v8 w' => v8 = .int .i64 0 ∧ Aside0 (Below w.heap.size w w'))
  case atStart => exact ⟨rfl, HB⟩
  case round =>
   clear HB
   obtain ⟨rfl, HB⟩ := hrel
   go_wp2
   go_ret
   exact ⟨A, C, rfl, HB.out⟩
def spec_l03Characteristic.T5 : Bool × List (List Nat × List Nat) := (true, [([], []), ([], []), ([], []), ([], []), ([2, 3], [2, 3]), ([4], [4]), ([], []), ([5, 6], [5, 6]), ([7], [7]), ([8], [8]), ([1, 9], [1, 9]), ([10], [10]), ([], []), ([], []), ([12, 13], [12, 13]), ([14], [14]), ([0, 11, 15, 10], [0, 11, 15]), ([16, 16, 0, 1, 2, 3, 4, 5, 6, 7, 8, 9, 10, 11, 12, 13, 14, 15, 16], [16])])
def spec_l03Characteristic.B5 : List Nat := [0, 0, 0, 0, 12, 28, 0, 124, 252, 508, 1022, 2046, 0, 0, 12288, 28672, 65535, 131071]
theorem spec_l03Characteristic.tab5 : rtab .any (opsOf Try.f67 5) = spec_l03Characteristic.T5 := by kernel_rfl
theorem spec_l03Characteristic.bits5 : waitsOk spec_l03Characteristic.T5.2 spec_l03Characteristic.B5 = true := by kernel_rfl
def spec_l03Characteristic.T11 : Bool × List (List Nat × List Nat) := (true, [([], []), ([], []), ([], []), ([], []), ([2, 3], [2, 3]), ([4], [4]), ([], []), ([], []), ([7], [7]), ([], []), ([], []), ([9, 10], [9, 10]), ([11], [11]), ([], []), ([12, 13], [12, 13]), ([14], [14]), ([8, 15], [8, 15]), ([], []), ([16, 17], [16, 17]), ([6, 18], [6, 18]), ([0, 1, 5, 19, 19], [0, 1, 5, 19]), ([20, 20, 0, 1, 2, 3, 4, 5, 6, 7, 8, 9, 10, 11, 12, 13, 14, 15, 16, 17, 18, 19, 20], [1, 20])])
def spec_l03Characteristic.B11 : List Nat := [0, 0, 0, 0, 12, 28, 0, 0, 128, 0, 0, 1536, 3584, 0, 15872, 32256, 65408, 0, 262016, 524224, 1048575, 2097151]
theorem spec_l03Characteristic.tab11 : rtab .any (opsOf Try.f67 11) = spec_l03Characteristic.T11 := by kernel_rfl
theorem spec_l03Characteristic.bits11 : waitsOk spec_l03Characteristic.T11.2 spec_l03Characteristic.B11 = true := by kernel_rfl
set_option maxHeartbeats 8000000 in
set_option maxRecDepth 100000 in
theorem spec_l03Characteristic.calls (p : Int) (A1 : Option Addr) (c1 : Nat) (l1 : List (List Int)) (w : World) (hr1 : Kd.C (Kd.slice 2 (Kd.int .i64)) w A1 l1.length l1) (hc1 : l1.length ≤ c1) (hp : Num.IsP p) (hsq : Sq p l1.length l1) (hn : l1.length ≤ 100) :
  Calls Try.prog 67 #[.int .i64 p, .slice A1 l1.length c1] w fun e w' => ∃ v : Value, e = .returned v ∧ Kd.R (Kd.int .i64) 2 w' w.heap.size (fun _ => True) v (dL p l1.length (Dy l1.length (mx l1))) ∧ Below w.heap.size w w' := by
 have HB := as0 (Below.refl w.heap.size w)
 -- the table
 have HT : Calls Try.prog 99 #[.int .i64 p, .slice A1 l1.length c1] w fun e w' => ∃ (A : Option Addr) (C : Nat) (rows : List (List Int)), e = .returned (.slice A l1.length C) ∧ Aside0 (rows.length = l1.length) ∧ Aside0 (0 < l1.length → ∃ (g : Nat) (b cp : Nat → Nat), A = some ⟨g, 0, none⟩ ∧ DM w' w.heap.size g l1.length b cp rows) ∧ Aside0 (∀ i j, i < l1.length → j < l1.length → 0 ≤ mx rows i j ∧ mx rows i j < p) ∧ Aside0 (∀ i j, i < l1.length → j + 1 < i → mx rows i j = 0) ∧ Aside0 (∀ t, Num.cg p (Dy l1.length (mx rows) t) (Dy l1.length (mx l1) t)) ∧ Below w.heap.size w w' := by
  by_cases h0 : 0 < l1.length
  ·
   refine (spec_l03Hessenberg.calls p A1 c1 l1 w hr1 hc1 hp hsq (by omega) h0).mono ?_
   rintro e w' ⟨g, C, c, b, cp, rows, rfl, hcn, hdm, hhi, hb⟩
   exact ⟨_, C, rows, rfl, ⟨hhi.sq.len⟩, ⟨fun _ => ⟨g, b, cp, rfl, hdm⟩⟩, ⟨fun i j hi hj => hhi.sq.bd hi hj⟩, ⟨fun i j hi hj => hhi.z j i (by omega) hj hi⟩, ⟨hhi.d⟩, hb⟩
  ·
   have e0 : l1.length = 0 := by omega
   have hl : l1 = [] := List.eq_nil_of_length_eq_zero e0
   subst hl
   refine (spec_l03Hessenberg.calls0 p A1 c1 w).mono ?_
   rintro e w' ⟨A, C, rfl, hb⟩
   exact ⟨A, C, [], rfl, ⟨rfl⟩, ⟨fun h => absurd h h0⟩, ⟨fun i j hi => absurd hi (by simp)⟩, ⟨fun i j hi => absurd hi (by simp)⟩, ⟨fun t => Num.cg.refl _⟩, hb⟩
 have HP := as0 hp
 obtain ⟨n, hnl⟩ : ∃ n, n = l1.length := ⟨_, rfl⟩
 rw [← hnl] at HT hn ⊢
 obtain ⟨D, hD⟩ : ∃ D, D = Dy n (mx l1) := ⟨_, rfl⟩
 rw [← hD] at HT ⊢
 have HN := as0 hn
 clear hr1 hc1 hp hsq hnl hn hD
 go_enter Try.func67, Try.ntmps67
 go_wp2_with fail
 go_at_call 99
 refine HT.mono ?_
 clear HT
 rintro e w1 ⟨A, C, rows, rfl, HRL, HDM, HBD, HZ, HD, b1⟩
 have HB1 := as0 b1
 have HB := as0 (Below.refl w1.heap.size w1)
 clear b1
 obtain ⟨H, hH⟩ : ∃ H, H = mx rows := ⟨_, rfl⟩
 rw [← hH] at HBD HZ HD
 have HH := as0 hH
 clear hH
 go_wp2_with (first | ((with_reducible refine gate_dst (N := 14) rfl ?_); refine Kd.R_lit (Kd.int .i64) _ 2 ?hg (N := 14) ?hd (xs := ([1] : List Int)) (inner := [.int .i64 1]) (ok := fun _ => True) (okp := fun _ => True) ?hr ?hp (fun _ hk => hk) trivial (Below.refl _ _) (Nat.le_refl _) (by simp) ?_; (case hd => rfl); (case hg => rfl); (case hr => first | (go_simp; done) | (go_simp; rfl)); (case hp => exact Reps.one (show Kd.M (Kd.int .i64) _ _ _ 1 [.int .i64 1] from rfl) (Reps.none _ _)); intro v14 w2 ho hb hg_ hnew_; clear hg_ hnew_; obtain ⟨A14, c14, e14⟩ := Kd.R_slice ho; subst e14; have O14 := as0 ho; have HB' := as0 (below_step HB.out hb); clear HB ho hb; have HB := HB'; clear HB') | ((with_reducible refine gate_dst (N := 15) rfl ?_); refine Kd.S_lits (Kd.slice 2 (Kd.int .i64)) w1.heap.size 22 ?hg (N := 15) ?hd (xs := ([[1]] : List (List Int))) (inner := [.slice A14 ([1] : List Int).length c14]) (ok := fun _ => True) (w0 := w1) (fun j k => j = 0 ∧ some k = (.slice A14 ([1] : List Int).length c14 : Value).ownBlock) ?hr rfl (one_row O14.out) (fun _ _ _ h1 h2 => h1.1.trans h2.1.symm) (fun _ _ _ => trivial) trivial HB.out HB.out.size (by simp) ?_; (case hd => rfl); (case hg => rfl); (case hr => first | (go_simp; done) | (go_simp; rfl)); intro v15 w3 ho hb hg_ hnew_; clear hg_ hnew_; have HS := as0 ho; clear HB O14 ho; have HB := as0 hb; clear hb))
 go_loopg [6, 7] n (fun kq v6 v7 w' => ∃ k : Nat, v7 = .int .i64 (k : Int) ∧ Aside0 (k + kq = n) ∧ Aside0 (Kd.S (Kd.slice 2 (Kd.int .i64)) 22 w' w1.heap.size (fun _ => True) v6 (dLs p H k)) ∧ Aside0 (Below w1.heap.size w1 w'))
 case atStart => exact ⟨0, rfl, ⟨by omega⟩, ⟨by rw [dLs_0 HP.out.1]; exact HS.out⟩, HB⟩
 case round =>
  clear HS HB
  obtain ⟨k, rfl, HG, HS, HB⟩ := hrel
  have hg := HG.out
  have hn := HN.out
  obtain ⟨A6, c6, e6⟩ := Kd.S_slice HS.out
  subst e6
  obtain ⟨m1, hm1⟩ : ∃ m1, m1 = (dLs p H k).length := ⟨_, rfl⟩
  rw [← hm1] at HS ⊢
  rw [dLs_len] at hm1
  have HM1 := as0 hm1
  obtain ⟨gl, Ak, ck, eA6, hcl, hlk, hCk, hRk⟩ := S_row HS.out (i := k) (by rw [dLs_len]; omega)
  subst eA6
  rw [dLs_at _ _ (Nat.le_refl k)] at hcl hlk hCk hRk
  by_cases hk : k < n
  ·
   have d1 : decide (k < n) = true := decide_eq_true hk
   obtain ⟨m, rfl⟩ : ∃ m, gk = m + 1 := ⟨gk - 1, by omega⟩
   obtain ⟨g, b, cp, eA, hdm⟩ := HDM.out (by omega)
   have HKN := as0 hk
   have HDM1 := as0 hdm
   have hdk := hdm.below HB.out
   have hcg := hdk.cellg (show k < rows.length by rw [HRL.out]; exact hk)
   have hck := hdk.cell (show k < rows.length by rw [HRL.out]; exact hk) hk
   obtain ⟨h, hh⟩ : ∃ h, h = H k k := ⟨_, rfl⟩
   replace hck : wr.cell? ⟨b k, k, none⟩ = some (.int .i64 h) := by rw [hh, HH.out]; exact hck
   have hhb := HBD.out k k hk hk
   rw [← hh] at hhb
   have hp2 := HP.out.2.1
   have hp1 := HP.out.1
   have hwn : wrap64 (-h) = -h := Num.w64 (by omega) (by omega)
   have HMD : ∀ W, Calls Try.prog 61 #[.int .i64 p, .int .i64 (wrap64 (-h))] W fun e w' => e = .returned (.int .i64 ((-h) % p)) ∧ Drawn0 W w' := fun W => by
    rw [hwn]; exact spec_l01Mod.calls p (-h) _ W (spec_mod (by omega) (by omega))
   have HTM : ∀ (base : Nat) (W : World) (A33 : Option Addr) (c33 : Nat), Kd.R (Kd.int .i64) 2 W base (fun _ => True) (.slice A33 2 c33) [(-h) % p, 1] → Below wr.heap.size wr W → Calls Try.prog 48 #[.int .i64 p, .slice A33 2 c33, .slice Ak (dL p k (Dy k H)).length ck] W fun e w' => ∃ v : Value, e = .returned v ∧ Kd.R (Kd.int .i64) 2 w' W.heap.size (fun _ => True) v (dL p (k + 1) (chS H k 0)) ∧ Below W.heap.size W w' := fun base W A33 c33 h1 hb => by
    obtain ⟨K, hK⟩ := spec_product (p := p) (f := [(-h) % p, 1]) (g := dL p k (Dy k H)) hp1 hp2 (by simp) (by rw [dL_len]; omega) (fun x hx => by
     rcases List.mem_cons.1 hx with rfl | hx
     ·
      exact Num.emod_bd (by omega)
     ·
      rw [List.mem_singleton.1 hx]; omega) (dL_inR (by omega) _ _)
    have := spec_l01Times.calls K p A33 c33 [(-h) % p, 1] Ak ck (dL p k (Dy k H)) _ W (Kd.R_reads' h1).2.2 (Kd.R_reads' h1).2.1 (Kd.C_below hCk hb) hlk (hK K (Nat.le_refl _))
    rw [hh, ch_times hp1] at this
    exact this
   have p1 := eq_true (show (0 : Int) ≤ (k : Int) by omega)
   have p2 := eq_true (show (k : Int) < (n : Int) by omega)
   have p3 := eq_true (show (k : Int) < (m1 : Int) by omega)
   have HH2 := as0 hh
   subst eA
   clear hh hk hg hn hdm hdk hhb hp1 hp2 hlk hRk hm1
   go_wp2_with fail
   refine start_ (n := 18) (S := fun w' => w'.cell? ⟨g, k, none⟩ = some (.slice (some ⟨b k, 0, none⟩) n (cp k)) ∧ w'.cell? ⟨b k, k, none⟩ = some (.int .i64 h) ∧ w'.cell? ⟨gl, k, none⟩ = some (.slice Ak (dL p k (Dy k H)).length ck)) (ds := []) #[false, false, false, false, false, false, false, false, false, false, false, false, false, false, false, false, false, false] (by kernel_rfl) rfl rfl ⟨hcg, hck, hcl⟩ (fun hHeld => ?_)
   refine with_tabW spec_l03Characteristic.tab5 spec_l03Characteristic.bits5 (fun HT_ HW_ => ?_)
   have HB5 := as0 (below_drew (Below.refl wr.heap.size wr))
   have HS5 := as0 (Kd.S_drew HS.out)
   generalize wr.drew = wd at HB5 HS5 hHeld ⊢
   clear hcg hck hcl HS
   refine pm_ HT_ (i := 0) (N := some 22) ?_
   refine pm_ HT_ (i := 1) (N := some 23) ?_
   refine pm_ HT_ (i := 2) (N := some 24) ?_
   refine pm_ HT_ (i := 3) (N := some 25) ?_
   refine pm_ HT_ (i := 6) (N := some 28) ?_
   refine pm_ HT_ (i := 12) (N := some 34) ?_
   refine pm_ HT_ (i := 13) (N := some 35) ?_
   refine pm_ HT_ (i := 4) (N := some 26) ?_
   refine tm3_ HT_ HW_ (i := 5) (N := some 27) hHeld ?_
   refine pm_ HT_ (i := 7) (N := some 29) ?_
   refine tm3_ HT_ HW_ (i := 8) (N := some 30) hHeld ?_
   refine pm_ HT_ (i := 9) (N := some 31) ?_
   refine pm_ HT_ (i := 14) (N := some 36) ?_
   refine tm3_ HT_ HW_ (i := 15) (N := some 37) hHeld ?_
   refine one_ (i := 10) (N := (some 32)) #[true, true, true, true, true, true, true, true, true, true, true, false, true, true, true, true, false, false] rfl rfl (one_of HT_.out (by kernel_rfl)) (by decide) (fun K hK => ?_)
   refine goes_ Try.func61 (by kernel_rfl) rfl #[.int .i64 p, .int .i64 (wrap64 (-h))] (by rfl) rfl rfl (by (try simp only [List.map_toArray, List.map_cons, List.map_nil]); first | done | rfl) ?_
   refine (HMD _).mono ?_
   rintro e w' ⟨rfl, ⟨nd, rfl⟩⟩
   refine ⟨_, rfl, ?_⟩
   refine hK.out _ _ hHeld (fun hHeld => ?_)
   clear hK K
   refine nm_ (some 32) ?_
   refine one_ (i := 11) (N := (some 33)) #[true, true, true, true, true, true, true, true, true, true, true, true, true, true, true, true, false, false] rfl rfl (one_of HT_.out (by kernel_rfl)) (by decide) (fun K hK => ?_)
   refine Kd.R_lit_step (Kd.int .i64) (w0 := wd.drewN nd) _ 2 (by rfl) (N := 33) rfl (xs := ([(-h) % p, 1] : List Int)) (inner := [.int .i64 ((-h) % p), .int .i64 1]) (ok := fun _ => True) (okp := fun _ => True) ?hr ?hp (fun _ hk => hk) trivial (Below.refl _ _) (Nat.le_refl _) (by simp) ?_
   case hr => first | (go_simp; done) | (go_simp; rfl)
   case hp => exact Reps.one (show Kd.M (Kd.int .i64) _ _ _ ((-h) % p) [.int .i64 ((-h) % p)] from rfl) (Reps.one (show Kd.M (Kd.int .i64) _ _ _ 1 [.int .i64 1] from rfl) (Reps.none _ _))
   intro v33 w33 ho hb hg_ hnew_
   clear hg_ hnew_
   obtain ⟨A33, c33, e33⟩ := Kd.R_slice ho
   replace e33 : v33 = .slice A33 2 c33 := e33
   subst e33
   have HB6 := as0 (below_step (pw_below_drewN HB5.out nd) hb)
   have HS6 := as0 (Kd.S_below (Kd.S_drewN HS5.out nd) hb)
   have HO := as0 ho
   clear ho HB5 HS5
   refine hK.out _ _ ⟨pw_cell_below hb hHeld.1, pw_cell_below hb hHeld.2.1, pw_cell_below hb hHeld.2.2⟩ (fun hHeld => ?_)
   clear hK K
   refine nm_ (some 33) ?_
   clear hb
   refine one_ (i := 16) (N := (some 38)) #[true, true, true, true, true, true, true, true, true, true, true, true, true, true, true, true, true, false] rfl rfl (one_of HT_.out (by kernel_rfl)) (by decide) (fun K hK => ?_)
   refine goes_ Try.func48 (by kernel_rfl) rfl #[.int .i64 p, .slice A33 2 c33, .slice Ak (dL p k (Dy k H)).length ck] (by rfl) rfl rfl (by (try simp only [List.map_toArray, List.map_cons, List.map_nil]); first | done | rfl) ?_
   refine (HTM _ w33 A33 c33 HO.out HB6.out).mono ?_
   rintro e w8 ⟨v8, rfl, o8, b8⟩
   refine ⟨_, rfl, ?_⟩
   refine hK.out _ _ ⟨pw_cell_below b8 hHeld.1, pw_cell_below b8 hHeld.2.1, pw_cell_below b8 hHeld.2.2⟩ (fun hHeld => ?_)
   clear hK K
   refine nm_ (some 38) ?_
   refine pm_ HT_ (i := 17) (N := some 8) ?_
   refine done_ (done_of HT_.out (by kernel_rfl)) ?_
   clear HT_ HW_ hHeld
   have HB8 := as0 (below_step HB.out (below_step HB6.out b8))
   have HS8 := as0 (Kd.S_elder' HS6.out (Kd.R_base o8) b8)
   have HO8 := as0 (Kd.R_lower o8 (below_step HB.out HB6.out).size)
   clear HB6 HS6 HO o8 b8 HB hCk HMD HTM hwn
   go_wp2_with fail
   go_loopg [8, 9, 10] k (fun kq v8 v9 v10 w' => ∃ (e : Nat) (x pr : Int), v10 = .int .i64 x ∧ v9 = .int .i64 pr ∧ Aside0 (pr = prH H k e % p) ∧ Aside0 (e + kq = k) ∧ Aside0 (x + ((e : Int) + 1) = k) ∧ Aside0 (Kd.R (Kd.int .i64) 2 w' w1.heap.size (fun _ => True) v8 (dL p (k + 1) (chS H k e))) ∧ Aside0 (Kd.S (Kd.slice 2 (Kd.int .i64)) 22 w' w1.heap.size (fun q => True ∧ some q ≠ v8.ownBlock) (.slice (some ⟨gl, 0, none⟩) m1 c6) (dLs p H k)) ∧ Aside0 (Below w1.heap.size w1 w'))
   case atStart =>
    refine ⟨0, (k : Int) - 1, 1, ?_, rfl, ⟨?_⟩, ⟨by omega⟩, ⟨by omega⟩, HO8, HS8, HB8⟩
    ·
     rw [Num.w64 (by omega) (by have := HKN.out; have := HN.out; omega)]
    ·
     show _ = 1 % p
     rw [Int.emod_eq_of_lt (by omega) (by have := HP.out.1; omega)]
   case round =>
    clear HO8 HS8 HB8
    obtain ⟨e, x, pr, rfl, rfl, HPR, HE, HX, HO, HS, HB⟩ := hrel
    have he := HE.out
    have hx := HX.out
    have hn := HN.out
    have hk := HKN.out
    obtain ⟨A8, c8, e8⟩ := Kd.R_slice HO.out
    subst e8
    by_cases hek : e < k
    ·
     obtain ⟨i, hi⟩ : ∃ i : Nat, x = (i : Int) := ⟨x.toNat, by omega⟩
     subst hi
     have hie : i = k - (e + 1) := by omega
     have HIE := as0 hie
     have HEK := as0 hek
     have d2 : decide ((i : Int) ≥ 0) = true := decide_eq_true (by omega)
     have d3 : decide ((0 : Int) ≤ (i : Int)) = true := decide_eq_true (by omega)
     obtain ⟨m2, rfl⟩ : ∃ m2, gk = m2 + 1 := ⟨gk - 1, by omega⟩
     have hwi : IntKind.i64.wrap ((i : Int) + 1) = (i : Int) + 1 := by rw [i64_w, Num.w64 (by omega) (by omega)]
     have hwi2 : wrap64 ((i : Int) + 1) = (i : Int) + 1 := Num.w64 (by omega) (by omega)
     have hit : ((i : Int) + 1).toNat = i + 1 := by omega
     have q1 := eq_true (show (0 : Int) ≤ (i : Int) by omega)
     have q2 := eq_true (show (i : Int) < (n : Int) by omega)
     have q3 := eq_true (show (i : Int) < (m1 : Int) by have := HM1.out; omega)
     have q4 := eq_true (show (0 : Int) ≤ (i : Int) + 1 by omega)
     have q5 := eq_true (show (i : Int) + 1 < (n : Int) by omega)
     have hdk := HDM1.out.below HB.out
     have hi1 : i + 1 < rows.length := by rw [HRL.out]; omega
     have hi0 : i < rows.length := by omega
     have hc1 := hdk.cellg hi1
     have hx1 := hdk.cell hi1 (show i < n by omega)
     have hc2 := hdk.cellg hi0
     have hx2 := hdk.cell hi0 hk
     obtain ⟨h1, hh1⟩ : ∃ h1, h1 = H (i + 1) i := ⟨_, rfl⟩
     obtain ⟨h2, hh2⟩ : ∃ h2, h2 = H i k := ⟨_, rfl⟩
     replace hx1 : wr.cell? ⟨b (i + 1), i, none⟩ = some (.int .i64 h1) := by rw [hh1, HH.out]; exact hx1
     replace hx2 : wr.cell? ⟨b i, k, none⟩ = some (.int .i64 h2) := by rw [hh2, HH.out]; exact hx2
     have hb1 := HBD.out (i + 1) i (by omega) (by omega)
     have hb2 := HBD.out i k (by omega) hk
     rw [← hh1] at hb1
     rw [← hh2] at hb2
     obtain ⟨gl', Ai, ci, eA, hcl, hli, hCi, _⟩ := S_row HS.out (i := i) (by rw [dLs_len]; omega)
     injection eA with eA
     injection eA with eA _ _
     subst eA
     rw [dLs_at _ _ (show i ≤ k by omega)] at hcl hli hCi
     have hp2 := HP.out.2.1
     have hp1 := HP.out.1
     have hpr := HPR.out
     have hprb : 0 ≤ pr ∧ pr < p := by rw [hpr]; exact Num.emod_bd (by omega)
     obtain ⟨pr2, hpr2⟩ : ∃ pr2, pr2 = prH H k (e + 1) % p := ⟨_, rfl⟩
     have hpr2b : 0 ≤ pr2 ∧ pr2 < p := by rw [hpr2]; exact Num.emod_bd (by omega)
     have hpe : prH H k (e + 1) = prH H k e * h1 := by
      rw [hh1]
      show prH H k e * H (k - e) (k - e - 1) = _
      rw [show k - e = i + 1 by omega, show i + 1 - 1 = i by omega]
     have hmb := mul_bd2 hp2 hprb (y := h1) (by omega)
     have hw1 : (wrap64 (pr * h1)).tmod p = pr2 := by
      rw [Num.w64 (by omega) (by omega), Num.tmod_nn hmb.1, hpr2, hpe, hpr]
      exact ((Num.cg.mod p _).mul (Num.cg.refl h1)).emod
     have hmb2 := mul_bd2 hp2 hpr2b (y := h2) (by omega)
     obtain ⟨tm, htm⟩ : ∃ tm, tm = (-pr2 * h2).tmod p := ⟨_, rfl⟩
     have hneg : -pr2 * h2 = -(pr2 * h2) := Int.neg_mul _ _
     have hw2 : (wrap64 (wrap64 (-pr2) * h2)).tmod p = tm := by
      rw [Num.w64 (x := -pr2) (by omega) (by omega), Num.w64 (by omega) (by omega), htm]
     obtain ⟨cc, hcc⟩ : ∃ cc, cc = tm % p := ⟨_, rfl⟩
     have hccb : 0 ≤ cc ∧ cc < p := by rw [hcc]; exact Num.emod_bd (by omega)
     have hccg : Num.cg p cc (-(prH H k (e + 1) * H (k - (e + 1)) k)) := by
      rw [hcc, htm, hneg, ← hie, ← hh2]
      refine (Num.cg.mod p _).trans ((tmod_cg p _).trans (Num.cg.neg ?_))
      rw [hpr2]
      exact (Num.cg.mod p _).mul (Num.cg.refl h2)
     have HMD2 : ∀ W, Calls Try.prog 61 #[.int .i64 p, .int .i64 tm] W fun e w' => e = .returned (.int .i64 cc) ∧ Drawn0 W w' := fun W => by
      rw [hcc]; exact spec_l01Mod.calls p tm _ W (spec_mod (by omega) (by omega))
     obtain ⟨L8, hL8⟩ : ∃ L8, L8 = dL p (k + 1) (chS H k e) := ⟨_, rfl⟩
     rw [← hL8] at HO ⊢
     obtain ⟨Li, hLi⟩ : ∃ Li, Li = dL p i (Dy i H) := ⟨_, rfl⟩
     rw [← hLi] at hcl hli hCi
     have HAD : ∀ (W : World), Below wr.heap.size wr W → Calls Try.prog 47 #[.int .i64 p, .slice A8 L8.length c8, .slice Ai Li.length ci, .int .i64 cc] W fun e_ w' => ∃ v : Value, e_ = .returned v ∧ Kd.R (Kd.int .i64) 2 w' W.heap.size (fun _ => True) v (dL p (k + 1) (chS H k (e + 1))) ∧ Below W.heap.size W w' := fun W hb => by
      obtain ⟨K, hK⟩ := spec_add (p := p) (f := L8) (g := Li) (c := cc) hp1 hp2 (by rw [hL8, dL_len]; omega) (by rw [hLi, dL_len]; omega) (by rw [hL8]; exact dL_inR (by omega) _ _) (by rw [hLi]; exact dL_inR (by omega) _ _) hccb.1 (by omega)
      have := spec_l01Add.calls K p A8 c8 L8 Ai ci Li cc _ W (Kd.C_below (Kd.R_reads' HO.out).2.2 hb) (Kd.R_reads' HO.out).2.1 (Kd.C_below hCi hb) hli (hK K (Nat.le_refl _))
      rw [hL8, hLi, hie, ch_add hp1 H hek hccg] at this
      rw [hL8, hLi, hie]
      exact this
     have hp0 : (p == 0) = false := beq_eq_false_iff_ne.mpr (by omega)
     have hpf : (p = 0) = False := eq_false (by omega)
     have HPR2 := as0 hpr2
     clear hek he hx hn hk hie hdk hi1 hi0 hh1 hh2 hb1 hb2 hp1 hp2 hpr hprb hpr2 hpr2b hpe hmb hmb2 htm hneg hcc hccb hccg hL8 hLi hCi hli
     go_wp2_with fail
     refine start_ (n := 22) (S := fun w' => w'.cell? ⟨gl, i, none⟩ = some (.slice Ai Li.length ci) ∧ w'.cell? ⟨g, i, none⟩ = some (.slice (some ⟨b i, 0, none⟩) n (cp i)) ∧ w'.cell? ⟨b i, k, none⟩ = some (.int .i64 h2)) (ds := []) #[false, false, false, false, false, false, false, false, false, false, false, false, false, false, false, false, false, false, false, false, false, false] (by kernel_rfl) rfl rfl ⟨hcl, hc2, hx2⟩ (fun hHeld => ?_)
     refine with_tabW spec_l03Characteristic.tab11 spec_l03Characteristic.bits11 (fun HT_ HW_ => ?_)
     have HB5 := as0 (below_drew (Below.refl wr.heap.size wr))
     have HS5 := as0 (Kd.S_drew HS.out)
     generalize wr.drew = wd at HB5 HS5 hHeld ⊢
     clear hc1 hx1 hc2 hx2 hcl HS
     refine pm_ HT_ (i := 0) (N := some 57) ?_
     refine pm_ HT_ (i := 1) (N := some 58) ?_
     refine pm_ HT_ (i := 2) (N := some 59) ?_
     refine pm_ HT_ (i := 3) (N := some 60) ?_
     refine pm_ HT_ (i := 6) (N := some 63) ?_
     refine pm_ HT_ (i := 7) (N := some 64) ?_
     refine pm_ HT_ (i := 8) (N := some 65) ?_
     refine pm_ HT_ (i := 9) (N := some 66) ?_
     refine pm_ HT_ (i := 10) (N := some 67) ?_
     refine pm_ HT_ (i := 13) (N := some 70) ?_
     refine pm_ HT_ (i := 17) (N := some 74) ?_
     refine pm_ HT_ (i := 4) (N := some 61) ?_
     refine pm_ HT_ (i := 11) (N := some 68) ?_
     refine tm3_ HT_ HW_ (i := 5) (N := some 62) hHeld ?_
     refine tm3_ HT_ HW_ (i := 12) (N := some 69) hHeld ?_
     refine pm_ HT_ (i := 14) (N := some 71) ?_
     refine tm3_ HT_ HW_ (i := 15) (N := some 72) hHeld ?_
     refine pm_ HT_ (i := 16) (N := some 73) ?_
     refine pm_ HT_ (i := 18) (N := some 75) ?_
     refine one_ (i := 19) (N := (some 76)) #[true, true, true, true, true, true, true, true, true, true, true, true, true, true, true, true, true, true, true, true, false, false] rfl rfl (one_of HT_.out (by kernel_rfl)) (by decide) (fun K hK => ?_)
     refine goes_ Try.func61 (by kernel_rfl) rfl #[.int .i64 p, .int .i64 tm] (by rfl) rfl rfl (by (try simp only [List.map_toArray, List.map_cons, List.map_nil]); first | done | rfl) ?_
     refine (HMD2 _).mono ?_
     rintro e w' ⟨rfl, ⟨nd, rfl⟩⟩
     refine ⟨_, rfl, ?_⟩
     refine hK.out _ _ hHeld (fun hHeld => ?_)
     clear hK K
     refine nm_ (some 76) ?_
     refine one_ (i := 20) (N := (some 77)) #[true, true, true, true, true, true, true, true, true, true, true, true, true, true, true, true, true, true, true, true, true, false] rfl rfl (one_of HT_.out (by kernel_rfl)) (by decide) (fun K hK => ?_)
     refine goes_ Try.func47 (by kernel_rfl) rfl #[.int .i64 p, .slice A8 L8.length c8, .slice Ai Li.length ci, .int .i64 cc] (by rfl) rfl rfl (by (try simp only [List.map_toArray, List.map_cons, List.map_nil]); first | done | rfl) ?_
     refine (HAD _ (pw_below_drewN HB5.out nd)).mono ?_
     rintro e_ w9 ⟨v9, rfl, o9, b9⟩
     refine ⟨_, rfl, ?_⟩
     refine hK.out _ _ ⟨pw_cell_below b9 hHeld.1, pw_cell_below b9 hHeld.2.1, pw_cell_below b9 hHeld.2.2⟩ (fun hHeld => ?_)
     clear hK K
     refine nm_ (some 77) ?_
     refine pm_ HT_ (i := 21) (N := some 8) ?_
     refine done_ (done_of HT_.out (by kernel_rfl)) ?_
     clear HT_ HW_ hHeld
     have HB10 := as0 (below_step HB.out (below_step (pw_below_drewN HB5.out nd) b9))
     have HS10 := as0 (Kd.S_elder' (Kd.S_mono (Kd.S_drewN HS5.out nd) (fun q hq => hq.1)) (Kd.R_base o9) b9)
     have HO10 := as0 (Kd.R_lower o9 (below_step HB.out (pw_below_drewN HB5.out nd)).size)
     clear HB5 HS5 HO o9 b9 HB HAD HMD2 hw1 hw2
     go_wp2
     go_roundg m2
     case measure => omega
     case rel =>
      refine ⟨e + 1, (i : Int) - 1, pr2, ?_, rfl, HPR2, ⟨by have := HE.out; omega⟩, ⟨by have := HX.out; omega⟩, HO10, HS10, HB10⟩
      rw [Num.w64 (by omega) (by have := HIE.out; have := HKN.out; have := HN.out; omega)]
    ·
     have e1 : e = k := by omega
     have d2 : decide (x ≥ 0) = false := decide_eq_false (by omega)
     have d3 : decide (0 ≤ x) = false := decide_eq_false (by omega)
     have ech : dL p (k + 1) (chS H k e) = dL p (k + 1) (Dy (k + 1) H) := by rw [e1, chS_end HZ.out hk]
     rw [ech] at HO HS ⊢
     obtain ⟨L8, hL8⟩ : ∃ L8, L8 = dL p (k + 1) (Dy (k + 1) H) := ⟨_, rfl⟩
     rw [← hL8] at HO HS ⊢
     have HL8 := as0 hL8
     have HKN2 := as0 (show k ≤ 100 by omega)
     clear ech he hx hn hk hek e1 hL8
     go_wp2_with (first | ((with_reducible refine gate_builtin (b := .append) (xs := #[.tmp 78, .tmp 80]) rfl ?_); at_builtin; refine Kd.S_append (Kd.slice 2 (Kd.int .i64)) (w0 := w1) w1.heap.size rfl (.tmp 78) (.tmp 80) 23 22 (.slice none 0 0) 24 rfl Try.underlying23 info22 rfl (by decide) (by omega) (.slice (some ⟨gl, 0, none⟩) m1 c6) (dLs p H k) L8 [.slice A8 L8.length c8] (fun _ => True) (fun k_ => some k_ = (.slice A8 L8.length c8 : Value).ownBlock) rfl rfl ?aP (fun k_ hk_ => ((Kd.R_mono (ok' := fun k_ => True ∧ some k_ ≠ (.slice (some ⟨gl, 0, none⟩) m1 c6 : Value).ownBlock) (Kd.R_apart' (HO.out) (Kd.S_typed HS.out) (by decide)) (fun k_ hk => ⟨trivial, hk.2⟩))).1 k_ hk_.symm) ?aF ?aO ?aB ?aS ?aL ?_; (case aP => exact Kd.M_row (Kd.R_mono (Kd.R_tight rfl (Kd.R_mono (ok' := fun k_ => True ∧ some k_ ≠ (.slice (some ⟨gl, 0, none⟩) m1 c6 : Value).ownBlock) (Kd.R_apart' (HO.out) (Kd.S_typed HS.out) (by decide)) (fun k_ hk => ⟨trivial, hk.2⟩))) (fun _ h_ => h_))); (case aB => exact HB.out); (case aF => exact (fun _ _ => trivial)); (case aO => exact Kd.S_mono HS.out (fun k_ hk => ⟨trivial, fun e_ => hk.2 e_⟩)); (case aS => exact HB.out.size); (case aL => have h1 := dLs_len p H k; have h3 := HKN2.out; omega); intro v81 w6 ho hb hg hat; have HS3 := as0 ho; have HB3 := as0 hb; clear HB HS HO ho hb hg hat))
     go_roundg m
     case measure => omega
     case rel =>
      refine ⟨k + 1, ?_, ⟨by have := HG.out; omega⟩, ⟨by rw [dLs_succ, ← HL8.out]; exact HS3.out⟩, HB3⟩
      rw [wp1 (show k ≤ 1000000000000 by have := HKN2.out; omega)]
  ·
   have hkn : k = n := by omega
   subst hkn
   have d1 : decide (k < k) = false := decide_eq_false (by omega)
   have hwm : wrap64 ((m1 : Int) - 1) = (k : Int) := by rw [Num.w64 (by omega) (by omega)]; omega
   have q1 := eq_true (show (0 : Int) ≤ (k : Int) by omega)
   have q3 := eq_true (show (k : Int) < (m1 : Int) by omega)
   have HRK := as0 (show Kd.R (Kd.int .i64) 2 wr w.heap.size (fun _ => True) (.slice Ak (dL p k (Dy k H)).length ck) (dL p k D) by
    have e1 : dL p k (Dy k H) = dL p k D := dL_cg fun t _ => HD.out t
    rw [← e1]
    exact Kd.R_lower hRk HB1.out.size)
   have HBZ := as0 (below_step HB1.out HB.out)
   clear hk hg hn hm1 hRk hCk hlk
   go_wp2
   go_ret
   exact ⟨_, rfl, HRK.out, HBZ.out⟩
end Go.Proofs.Ytlmolloallhclaa.H
namespace Go.Proofs.Ytlmolloallhclaa.H
open Go.RowKit Go.Proofs.YtlmolloallhclaaW.PrintWords Go.Proofs.YtlmolloallhclaaW.PrintLast Go.Proofs.YtlmolloallhclaaW.PrintMore
attribute [local go_sem] max2_int min2_int max_two min_two max_three min_three max_four min_four   -- for this text's walks alone
set_option linter.unusedVariables false
set_option linter.unusedSimpArgs false
set_option maxHeartbeats 8000000 in
set_option maxRecDepth 100000 in
theorem spec_CharacteristicPoly.calls (p : Int) (A1 : Option Addr) (c1 : Nat) (l1 : List (List Int)) (r : List Int) (er : Int) (w : World) (hr1 : Kd.C (Kd.slice 2 (Kd.int .i64)) w A1 l1.length l1) (hc1 : l1.length ≤ c1) (hels : ∀ x ∈ l1, x.length ≤ 1000000000) (h : chA p l1 = (r, er)) :
  Calls Try.prog 25 #[.int .i64 p, .slice A1 l1.length c1] w fun e w' => ∃ v : Value, e = .returned (.tuple #[v, .int .i64 er]) ∧ Kd.R (Kd.int .i64) 2 w' w.heap.size (fun _ => True) v r ∧ Below w.heap.size w w' := by
 have HB := as0 (Below.refl w.heap.size w)
 have HPR : ∀ W, Calls Try.prog 65 #[.int .i64 p] W fun e w' => e = .returned (.bool (Num.primeB p)) ∧ Drawn0 W w' := fun W => by
  obtain ⟨K, hK⟩ := spec_prime p
  exact spec_l01Prime.calls K p _ W (hK K (Nat.le_refl _))
 have HR := as0 hr1
 have HC := as0 hc1
 have HE := as0 hels
 have no : ¬ ChOk p l1 → r = [] ∧ er = 2 := fun hn => by
  rw [chA_no hn] at h
  injection h with h1 h2
  exact ⟨h1.symm, h2.symm⟩
 have yes : ChOk p l1 → r = dL p l1.length (Dy l1.length (mx l1)) ∧ er = 0 := fun hn => by
  rw [chA_yes hn] at h
  injection h with h1 h2
  exact ⟨h1.symm, h2.symm⟩
 clear hr1 hc1 hels h
 obtain ⟨n, hnl⟩ : ∃ n, n = l1.length := ⟨_, rfl⟩
 cases hpb : Num.primeB p with
 | false =>
  rw [hpb] at HPR
  obtain ⟨rfl, rfl⟩ := no fun h => by
   have := Num.primeB_iff.2 h.1
   rw [hpb] at this
   cases this
  rw [← hnl]
  clear yes no hpb hnl HR HC HE
  go_enter Try.func25, Try.ntmps25
  go_wp2_with (go_at_call 65; refine (HPR _).mono ?_; rintro e w' ⟨rfl, ⟨nd, rfl⟩⟩)
  go_ret2
  exact ⟨_, rfl, Kd.R_nil _ _ _ _ _, pw_below_drewN HB.out _⟩
 | true =>
  rw [hpb] at HPR
  have HP := as0 (Num.primeB_iff.1 hpb)
  clear hpb
  by_cases hl : l1.length ≤ 12
  ·
   have hn : n ≤ 12 := by omega
   have d1 : decide ((n : Int) > 12) = false := decide_eq_false (by omega)
   have d1' : decide (n > 12) = false := decide_eq_false (by omega)
   have HN := as0 hn
   have HNL := as0 hnl
   have NO := as0 no
   have YES := as0 yes
   rw [← hnl] at HR HC YES ⊢
   clear no yes hl hn hnl
   go_enter Try.func25, Try.ntmps25
   go_wp2_with (go_at_call 65; refine (HPR _).mono ?_; clear HPR; rintro e w' ⟨rfl, ⟨nd, rfl⟩⟩; have HB2 := as0 (pw_below_drewN HB.out nd); generalize w.drewN nd = wI at HB2 ⊢)
   go_loopg [6] n (fun kq v6 w' => ∃ i : Nat, v6 = .int .i64 (i : Int) ∧ Aside0 (i + kq = n) ∧ Aside0 (∀ j, j < i → (ro l1 j).length = n ∧ InR p (ro l1 j)) ∧ Aside0 (Below w.heap.size w w'))
   case atStart => exact ⟨0, rfl, ⟨by omega⟩, ⟨fun j hj => absurd hj (Nat.not_lt_zero _)⟩, HB2⟩
   case round =>
    clear HB HB2
    obtain ⟨i, rfl, HG, HA, HB⟩ := hrel
    have hg := HG.out
    have hn := HN.out
    by_cases hi : i < n
    ·
     have d2 : decide (i < n) = true := decide_eq_true hi
     obtain ⟨m, rfl⟩ : ∃ m, gk = m + 1 := ⟨gk - 1, by omega⟩
     have p1 := eq_true (show (0 : Int) ≤ (i : Int) by omega)
     have p2 := eq_true (show (i : Int) < (n : Int) by omega)
     obtain ⟨adi, Ai, ci, ei, hcelli, hli, hCi⟩ := at_L1 HR.out (i : Int) (by omega) (by omega)
     rw [rd_ro, Int.toNat_natCast] at hcelli
     rw [rd_ro] at hli hCi
     subst ei
     replace hcelli := pw_cell_below HB.out hcelli
     obtain ⟨row, hrow⟩ : ∃ row, row = ro l1 i := ⟨_, rfl⟩
     rw [← hrow] at hcelli hli hCi
     have hrl : row.length ≤ 1000000000 := by rw [hrow]; exact HE.out _ (ro_mem (by have := HNL.out; omega))
     have HRW := as0 hrow
     have HII := as0 hi
     have bad : ¬ (row.length = n ∧ InR p row) → r = [] ∧ er = 2 := fun hb => NO.out fun hok => hb (by
      have h1 := hok.2.2.row i (by have := HNL.out; omega)
      have h2 := hok.2.2.inR i (by have := HNL.out; omega)
      rw [hrow]
      exact ⟨by rw [h1]; exact HNL.out.symm, h2⟩)
     by_cases hm : row.length = n
     ·
      have d3 : ((row.length : Int) != (n : Int)) = false := by rw [hm]; exact bne_self_eq_false _
      have d4 : ((row.length : Int) == (n : Int)) = true := by rw [hm]; exact beq_self_eq_true _
      have d5 : (row.length == n) = true := by rw [hm]; exact beq_self_eq_true _
      have d6 : decide (row.length = n) = true := decide_eq_true hm
      have HPT : ∀ W, Below wr.heap.size wr W → Calls Try.prog 66 #[.int .i64 p, .slice Ai row.length ci, .bool false] W fun e w' => e = .returned (.bool (row.all (hasB p))) ∧ Drawn0 W w' := fun W hb => by
       obtain ⟨K, hK⟩ := spec_points HP.out row hrl
       exact spec_l01Points.calls K p Ai ci row false _ W (Kd.C_below (Kd.C_below hCi HB.out) hb) hli (hK K (Nat.le_refl _))
      have HM := as0 hm
      cases hb : row.all (hasB p) with
      | false =>
       obtain ⟨rfl, rfl⟩ := bad fun h => by
        have := inR_all.2 h.2
        rw [hb] at this
        cases this
       rw [hb] at HPT
       clear bad hb hm hrow hrl hi hg hn hCi hli
       go_wp2_with fail
       go_at_call 66
       refine (HPT _ (by repeat (first | exact Below.refl _ _ | apply pw_below_drewN | apply below_drew1))).mono ?_
       rintro e w' ⟨rfl, ⟨nd, rfl⟩⟩
       go_wp2_with fail
       go_ret2
       exact ⟨_, rfl, Kd.R_nil _ _ _ _ _, pw_below_drewN HB.out _⟩
      | true =>
       have hin := inR_all.1 hb
       have HIN := as0 hin
       rw [hb] at HPT
       clear bad hb hm hrow hrl hi hg hn hCi hli hin
       go_wp2_with fail
       go_at_call 66
       refine (HPT _ (by repeat (first | exact Below.refl _ _ | apply pw_below_drewN | apply below_drew1))).mono ?_
       rintro e w' ⟨rfl, ⟨nd, rfl⟩⟩
       have HB2 := as0 (pw_below_drewN HB.out nd)
       generalize wr.drewN nd = wI at HB2 ⊢
       clear HPT hcelli
       go_wp2_with fail
       go_roundg m
       case measure => omega
       case rel =>
        refine ⟨i + 1, ?_, ⟨by have := HG.out; omega⟩, ⟨fun j hj => ?_⟩, HB2⟩
        ·
         rw [wp1 (show i ≤ 1000000000000 by have := HII.out; have := HN.out; omega)]
        ·
         by_cases e : j = i
         ·
          rw [e, ← HRW.out]; exact ⟨HM.out, HIN.out⟩
         ·
          exact HA.out j (by omega)
     ·
      have d3 : ((row.length : Int) != (n : Int)) = true := bne_iff_ne.mpr (by omega)
      have d4 : ((row.length : Int) == (n : Int)) = false := beq_eq_false_iff_ne.mpr (by omega)
      have d5 : (row.length == n) = false := beq_eq_false_iff_ne.mpr hm
      have d6 : decide (row.length = n) = false := decide_eq_false hm
      obtain ⟨rfl, rfl⟩ := bad fun h => hm h.1
      clear bad hm hrow hrl hi hg hn hCi hli
      go_wp2_with fail
      go_ret2
      exact ⟨_, rfl, Kd.R_nil _ _ _ _ _, HB.out⟩
    ·
     have hin : i = n := by omega
     subst hin
     have d2 : decide (i < i) = false := decide_eq_false (by omega)
     have hsq : Sq p l1.length l1 := ⟨rfl, fun j hj => by have := (HA.out j (by have := HNL.out; omega)).1; rw [this]; exact HNL.out, fun j hj => (HA.out j (by have := HNL.out; omega)).2⟩
     obtain ⟨rfl, rfl⟩ := YES.out ⟨HP.out, by have := HNL.out; omega, hsq⟩
     have HCH : Calls Try.prog 67 #[.int .i64 p, .slice A1 i c1] wr fun e w' => ∃ v : Value, e = .returned v ∧ Kd.R (Kd.int .i64) 2 w' wr.heap.size (fun _ => True) v (dL p i (Dy i (mx l1))) ∧ Below wr.heap.size wr w' := by
      have hr := HR.out
      have hc := HC.out
      have he := HNL.out
      rw [he] at hr hc ⊢
      exact spec_l03Characteristic.calls p A1 c1 l1 wr (Kd.C_below hr HB.out) hc HP.out hsq (by omega)
     clear hsq hi hg hn
     go_wp2_with fail
     go_at_call 67
     refine HCH.mono ?_
     rintro e w5 ⟨v5, rfl, o5, b5⟩
     have HO := as0 (Kd.R_lower o5 HB.out.size)
     have HB5 := as0 (below_step HB.out b5)
     clear o5 b5 HCH
     go_wp2_with fail
     go_ret2
     exact ⟨_, rfl, HO.out, HB5.out⟩
  ·
   obtain ⟨rfl, rfl⟩ := no fun h => hl h.2.1
   have d1 : decide ((n : Int) > 12) = true := decide_eq_true (by omega)
   have d1' : decide (n > 12) = true := decide_eq_true (by omega)
   rw [← hnl]
   clear yes no hl hnl HR HC HE
   go_enter Try.func25, Try.ntmps25
   go_wp2_with (go_at_call 65; refine (HPR _).mono ?_; rintro e w' ⟨rfl, ⟨nd, rfl⟩⟩)
   go_ret2
   exact ⟨_, rfl, Kd.R_nil _ _ _ _ _, pw_below_drewN HB.out _⟩
end Go.Proofs.Ytlmolloallhclaa.H
namespace Go.Proofs.Ytlmolloallhclaa.H
open Go.RowKit Go.Proofs.YtlmolloallhclaaW.PrintWords Go.Proofs.YtlmolloallhclaaW.PrintLast Go.Proofs.YtlmolloallhclaaW.PrintMore
attribute [local go_sem] max2_int min2_int max_two min_two max_three min_three max_four min_four   -- for this text's walks alone
set_option linter.unusedVariables false
set_option linter.unusedSimpArgs false
def rowB (p : Int) (n : Nat) (row : List Int) : Bool := decide (row.length = n) && row.all (hasB p)
noncomputable def areB (p : Int) (l : List (List Int)) : Bool := Num.primeB p && (decide (l.length ≤ 12) && l.all (rowB p l.length))
theorem areRowsClos (p : Int) (A A1 : Option Addr) (c c1 n : Nat) (row : List Int) (B1 B2 : Nat) (w : World) (hB1 : w.cell? ⟨B1, 0, none⟩ = some (.slice A1 n c1)) (hB2 : w.cell? ⟨B2, 0, none⟩ = some (.int .i64 p)) (hr : Kd.C (Kd.int .i64) w A row.length row) (hc : row.length ≤ c) :
  Gives 100 #[.pointer (some ⟨B1, 0, none⟩), .pointer (some ⟨B2, 0, none⟩)] (.slice A row.length c) (rowB p n row) w := by
 intro W hW
 have hB1' := (hW.cell (p := ⟨B1, 0, none⟩) (World.block_lt_of_cell? w _ hB1)).trans hB1
 have hB2' := (hW.cell (p := ⟨B2, 0, none⟩) (World.block_lt_of_cell? w _ hB2)).trans hB2
 have HA := impl_areAll_has.calls A c row p (row.all (hasB p)) W (Kd.C_below hr hW) hc rfl
 clear hW hB1 hB2 hr
 have HB := as0 (Below.refl W.heap.size W)
 show Calls Try.prog 100 #[.slice A row.length c, .pointer (some ⟨B1, 0, none⟩), .pointer (some ⟨B2, 0, none⟩)] W _
 unfold rowB
 generalize row.all (hasB p) = b at HA ⊢
 by_cases hm : row.length = n
 ·
  have d3 : ((row.length : Int) != (n : Int)) = false := by rw [hm]; exact bne_self_eq_false _
  have d4 : ((row.length : Int) == (n : Int)) = true := by rw [hm]; exact beq_self_eq_true _
  have d5 : (row.length == n) = true := by rw [hm]; exact beq_self_eq_true _
  have d6 : decide (row.length = n) = true := decide_eq_true hm
  rw [d6]
  clear hm
  go_enter Try.func100, Try.ntmps100
  go_wp2_with fail
  go_at_call 101
  refine HA.mono ?_
  rintro e w' ⟨rfl, hb⟩
  go_wp2_with fail
  go_ret
  exact ⟨by simp, hb⟩
 ·
  have d3 : ((row.length : Int) != (n : Int)) = true := bne_iff_ne.mpr (by omega)
  have d4 : ((row.length : Int) == (n : Int)) = false := beq_eq_false_iff_ne.mpr (by omega)
  have d5 : (row.length == n) = false := beq_eq_false_iff_ne.mpr hm
  have d6 : decide (row.length = n) = false := decide_eq_false hm
  rw [d6]
  clear hm HA
  go_enter Try.func100, Try.ntmps100
  go_wp2_with fail
  go_ret
  exact ⟨by simp, HB.out⟩
set_option maxHeartbeats 4000000 in
set_option maxRecDepth 100000 in
theorem impl_areRows.calls (p : Int) (A1 : Option Addr) (c1 : Nat) (l1 : List (List Int)) (w : World) (hr1 : Kd.C (Kd.slice 2 (Kd.int .i64)) w A1 l1.length l1) (hc1 : l1.length ≤ c1) :
  Calls Try.prog 68 #[.int .i64 p, .slice A1 l1.length c1] w fun e w' => e = .returned (.bool (areB p l1)) ∧ Below w.heap.size w w' := by
 have ec : ∀ args w, (callFunc 100 args).run Try.prog w = .ok (.enter 100 args) w := enters_of Try.func100 (by kernel_rfl) rfl
 obtain ⟨w2, hw2⟩ : ∃ w2 : World, w2 = (w.alloc (.cells #[.int .i64 p] 2)).alloc (.cells #[.slice A1 l1.length c1] 23) := ⟨_, rfl⟩
 have hp2 : w2.cell? ⟨w.heap.size, 0, none⟩ = some (.int .i64 p) := by
  rw [hw2]; exact pw_cell_below (below_alloc (Below.refl _ _) _) (by simp)
 have hs2 : w2.cell? ⟨w.heap.size + 1, 0, none⟩ = some (.slice A1 l1.length c1) := by
  rw [hw2]
  have : (w.alloc (.cells #[.int .i64 p] 2)).heap.size = w.heap.size + 1 := by simp
  rw [← this]; simp
 have hb2 : Below w.heap.size w w2 := by rw [hw2]; exact below_alloc (below_alloc (Below.refl _ _) _) _
 have HA : ∀ W, Below w2.heap.size w2 W → Calls Try.prog 83 #[.slice A1 l1.length c1, .func (.func 100) #[] #[.pointer (some ⟨w.heap.size + 1, 0, none⟩), .pointer (some ⟨w.heap.size, 0, none⟩)]] W fun e w' => e = .returned (.bool (l1.all (rowB p l1.length))) ∧ Below W.heap.size W w' := fun W hW =>
  areAll2_clos A1 l1.length c1 (fun j => rowB p l1.length (rd_L1 l1 (j : Int))) _ (by
   rw [List.all_eq_true]
   constructor
   ·
    intro h j hj
    refine h _ ?_
    unfold rd_L1
    rw [Int.toNat_natCast, List.getD_eq_getElem?_getD, List.getElem?_eq_getElem hj]
    exact List.getElem_mem hj
   ·
    intro h x hx
    obtain ⟨j, hj, rfl⟩ := List.getElem_of_mem hx
    have := h j hj
    unfold rd_L1 at this
    rwa [Int.toNat_natCast, List.getD_eq_getElem?_getD, List.getElem?_eq_getElem hj] at this) 100 _ ec W (Kd.C_max hr1) fun j hj => by
   obtain ⟨ad, Aj, cj, e, hc, hl, hC⟩ := at_L1 hr1 (j : Int) (by omega) (by omega)
   rw [Int.toNat_natCast] at hc
   exact ⟨ad, _, e, pw_cell_below hW (pw_cell_below hb2 hc), areRowsClos p Aj A1 cj c1 l1.length _ _ _ W (pw_cell_below hW hs2) (pw_cell_below hW hp2) (Kd.C_below (Kd.C_below hC hb2) hW) hl⟩
 have HP : ∀ W, Calls Try.prog 86 #[.int .i64 p] W fun e w' => e = .returned (.bool (Num.primeB p)) ∧ Drawn0 W w' := fun W => by
  obtain ⟨K, hK⟩ := impl_prime p
  exact impl_IsPrime.calls K p _ W (hK K (Nat.le_refl _))
 have HB2 := as0 hb2
 have HP2 := as0 hp2
 have HS2 := as0 hs2
 unfold areB
 generalize l1.all (rowB p l1.length) = ok at HA ⊢
 obtain ⟨n, hnl⟩ : ∃ n, n = l1.length := ⟨_, rfl⟩
 rw [← hnl] at HA HS2 hw2 ⊢
 clear hr1 hc1 hp2 hs2 hb2 ec hnl
 generalize Num.primeB p = b at HP ⊢
 cases b with
 | false =>
  clear HA
  go_enter Try.func68, Try.ntmps68
  go_wp2_with (go_at_call 86; refine (HP _).mono ?_; clear HP; rintro e w' ⟨rfl, ⟨nd, rfl⟩⟩)
  go_ret
  exact ⟨by simp, by subst hw2; exact pw_below_drewN HB2.out _⟩
 | true =>
  by_cases hl : n ≤ 12
  ·
   have d1 : decide ((n : Int) ≤ 12) = true := decide_eq_true (by omega)
   have d1' : decide (n ≤ 12) = true := decide_eq_true (by omega)
   rw [d1']
   clear hl d1'
   subst hw2
   go_enter Try.func68, Try.ntmps68
   go_wp2_with (first | (go_at_call 86; refine (HP _).mono ?_; clear HP; rintro e w' ⟨rfl, ⟨nd, rfl⟩⟩; have hs3 := pw_cell_below (pw_below_drewN (Below.refl _ _) nd) HS2.out) | (go_at_call 83; refine (HA _ (pw_below_drewN (Below.refl _ _) nd)).mono ?_; clear HA; rintro e w' ⟨rfl, hb⟩; have HB3 := as0 (below_step (pw_below_drewN HB2.out nd) hb); clear hb))
   go_ret
   exact ⟨by simp, HB3.out⟩
  ·
   have d1 : decide ((n : Int) ≤ 12) = false := decide_eq_false (by omega)
   have d1' : decide (n ≤ 12) = false := decide_eq_false (by omega)
   rw [d1']
   subst hw2
   clear hl d1' HA
   go_enter Try.func68, Try.ntmps68
   go_wp2_with (go_at_call 86; refine (HP _).mono ?_; clear HP; rintro e w' ⟨rfl, ⟨nd, rfl⟩⟩; have hs3 := pw_cell_below (pw_below_drewN (Below.refl _ _) nd) HS2.out)
   go_ret
   exact ⟨by simp, pw_below_drewN HB2.out _⟩
theorem areB_iff {p : Int} {l : List (List Int)} : areB p l = true ↔ ChOk p l := by
 unfold areB
 rw [Bool.and_eq_true, Bool.and_eq_true, Num.primeB_iff, decide_eq_true_iff, List.all_eq_true]
 constructor
 ·
  rintro ⟨h1, h2, h3⟩
  have h4 : ∀ i, i < l.length → (ro l i).length = l.length ∧ InR p (ro l i) := fun i hi => by
   have := h3 _ (ro_mem hi)
   unfold rowB at this
   rw [Bool.and_eq_true, decide_eq_true_iff] at this
   exact ⟨this.1, inR_all.1 this.2⟩
  exact ⟨h1, h2, rfl, fun i hi => (h4 i hi).1, fun i hi => (h4 i hi).2⟩
 ·
  rintro ⟨h1, h2, h3⟩
  refine ⟨h1, h2, fun x hx => ?_⟩
  obtain ⟨j, hj, rfl⟩ := List.getElem_of_mem hx
  have e : ro l j = l[j] := by unfold ro; rw [List.getD_eq_getElem?_getD, List.getElem?_eq_getElem hj]; rfl
  unfold rowB
  rw [← e, Bool.and_eq_true, decide_eq_true_iff]
  exact ⟨h3.row j hj, inR_all.2 (h3.inR j hj)⟩
set_option maxHeartbeats 4000000 in
set_option maxRecDepth 100000 in
theorem impl_CharacteristicPoly.calls (p : Int) (A1 : Option Addr) (c1 : Nat) (l1 : List (List Int)) (r : List Int) (er : Int) (w : World) (hr1 : Kd.C (Kd.slice 2 (Kd.int .i64)) w A1 l1.length l1) (hc1 : l1.length ≤ c1) (h : chA p l1 = (r, er)) (hk : ChOk p l1 → ∃ k, impl_field_characteristic.f k p l1 = some r) :
  Calls Try.prog 26 #[.int .i64 p, .slice A1 l1.length c1] w fun e w' => ∃ v : Value, e = .returned (.tuple #[v, .int .i64 er]) ∧ Kd.R (Kd.int .i64) 2 w' w.heap.size (fun _ => True) v r ∧ Below w.heap.size w w' := by
 have HA := impl_areRows.calls p A1 c1 l1 w hr1 hc1
 by_cases hok : ChOk p l1
 ·
  rw [areB_iff.2 hok] at HA
  rw [chA_yes hok] at h
  injection h with h1 h2
  subst h2
  obtain ⟨k, hk⟩ := hk hok
  have HC : ∀ W, Below w.heap.size w W → Calls Try.prog 69 #[.int .i64 p, .slice A1 l1.length c1] W fun e w' => ∃ v : Value, e = .returned v ∧ Kd.R (Kd.int .i64) 2 w' W.heap.size (fun _ => True) v r ∧ Below W.heap.size W w' := fun W hW =>
   impl_field_characteristic.calls k p A1 c1 l1 r W (Kd.C_below hr1 hW) hc1 hk
  clear hr1 hc1 h1 hk hok
  generalize l1.length = n at HA HC ⊢
  go_enter Try.func26, Try.ntmps26
  go_wp2_with fail
  go_at_call 68
  refine HA.mono ?_
  rintro e w' ⟨rfl, hb⟩
  have HB := as0 hb
  clear hb HA
  go_wp2_with fail
  go_at_call 69
  refine (HC _ HB.out).mono ?_
  rintro e w5 ⟨v5, rfl, o5, b5⟩
  have HO := as0 (Kd.R_lower o5 HB.out.size)
  have HB5 := as0 (below_step HB.out b5)
  clear o5 b5 HC
  go_wp2_with fail
  go_ret2
  exact ⟨_, rfl, HO.out, HB5.out⟩
 ·
  have e : areB p l1 = false := by
   rw [Bool.eq_false_iff]; exact fun h => hok (areB_iff.1 h)
  rw [e] at HA
  rw [chA_no hok] at h
  injection h with h1 h2
  subst h1 h2
  clear hr1 hc1 hk hok e
  generalize l1.length = n at HA ⊢
  go_enter Try.func26, Try.ntmps26
  go_wp2_with fail
  go_at_call 68
  refine HA.mono ?_
  rintro e w' ⟨rfl, hb⟩
  go_wp2_with fail
  go_ret2
  exact ⟨_, rfl, Kd.R_nil _ _ _ _ _, hb⟩
end Go.Proofs.Ytlmolloallhclaa.H
namespace Go.Proofs.Ytlmolloallhclaa.H
open Go.RowKit Go.Proofs.YtlmolloallhclaaW.PrintWords Go.Proofs.YtlmolloallhclaaW.PrintLast Go.Proofs.YtlmolloallhclaaW.PrintMore
attribute [local go_sem] max2_int min2_int max_two min_two max_three min_three max_four min_four   -- for this text's walks alone
set_option linter.unusedVariables false
set_option linter.unusedSimpArgs false
set_option maxHeartbeats 8000000 in
set_option maxRecDepth 100000 in
theorem laws_FnExactCharacteristicPoly.calls (k : Nat) (a0 : Int) (A1 : Option Addr) (c1 : Nat) (l1 : List (List Int)) (rl rm : List Int) (z : List (List Int)) (er left m0 m1 : Int) (w : World)
  (hr1 : Kd.C (Kd.slice 2 (Kd.int .i64)) w A1 l1.length l1) (hc1 : l1.length ≤ c1) (hz : laws_szInt64SS.f k l1 1048576 = some left) (hz' : ¬ left < 0) (hels : ∀ x ∈ l1, x.length ≤ 1000000000)
  (t1 : laws_toInt64SS.f k l1 = some l1) (hs : chA a0 l1 = (rl, er)) (q0 : laws_eqInt64S.f k rl rl = some true) (q2 : laws_eqInt64SS.f k l1 l1 = some true)
  (hm0 : laws_markInt64SS.f k l1 1 = some (m0, z)) (hm0' : ¬ m0 < 0) (hm1 : laws_markInt64S.f k rl 1 = some (m1, rm)) (hh1 : laws_heldInt64S.f k rm 1 = some m1) (hm1' : ¬ m1 < 0) :
  Calls Try.prog 7 #[.int .i64 a0, .slice A1 l1.length c1] w fun e w' => e = .returned (.bool true) ∧ Below w.heap.size w w' := by
 have hik : ChOk a0 l1 → ∃ k, impl_field_characteristic.f k a0 l1 = some rl := fun hok => by
  rw [chA_yes hok] at hs
  injection hs with h1 h2
  obtain ⟨K, hK⟩ := impl_char hok.1 hok.2.2 hok.2.1
  exact ⟨K, by rw [← h1]; exact hK K (Nat.le_refl _)⟩
 have d1 : decide (left < 0) = false := decide_eq_false hz'
 have d2 : decide (m0 < 0) = false := decide_eq_false hm0'
 have d3 : decide (m1 < 0) = false := decide_eq_false hm1'
 have HIK := as0 hik
 have HR1 := as0 hr1
 have HC1 := as0 hc1
 have Z1 := as0 hz
 have HE := as0 hels
 have T1 := as0 t1
 have HS := as0 hs
 have Q0 := as0 q0
 have Q2 := as0 q2
 have M0 := as0 hm0
 have M1 := as0 hm1
 have HH1 := as0 hh1
 clear hr1 hc1 hz hels t1 hs q0 q2 hm0 hm1 hh1 hz' hm0' hm1' hik
 go_enter Try.func7, Try.ntmps7
 go_wp2_with fail
 go_at_call 17
 refine (laws_szInt64SS.calls k A1 c1 l1 1048576 left _ HR1.out HC1.out Z1.out).mono ?_
 rintro e w' ⟨rfl, dr⟩
 have b0 := dr.below
 have HB := as0 b0
 clear dr b0
 go_wp2_with fail
 go_at_call 19
 refine (laws_toInt64SS.calls k A1 c1 l1 l1 _ (Kd.C_below HR1.out HB.out) HC1.out T1.out).mono ?_
 rintro e w1 ⟨v1, rfl, o1, b1⟩
 have HB := as0 (below_step HB.out b1)
 have O1 := as0 o1
 clear o1 b1
 obtain ⟨Av1, cv1, ev1⟩ := Kd.S_slice O1.out
 subst ev1
 go_wp2_with fail
 go_at_call 25
 refine (spec_CharacteristicPoly.calls a0 Av1 cv1 l1 rl er _ (Kd.S_reads' O1.out).2.2 (Kd.S_reads' O1.out).2.1 HE.out HS.out).mono ?_
 rintro e w3 ⟨vs, rfl, os, bs⟩
 have HB := as0 (below_step HB.out bs)
 have S03 := as0 HB.out.size
 obtain ⟨As, cs', es, ls, rs⟩ := Kd.R_reads os
 subst es
 have FS := as0 (Kd.C_F (Kd.heap_int .i64) rs)
 have LS := as0 ls
 clear os bs rs ls O1
 go_wp2_with fail
 go_at_call 19
 refine (laws_toInt64SS.calls k A1 c1 l1 l1 _ (Kd.C_below HR1.out HB.out) HC1.out T1.out).mono ?_
 rintro e w4 ⟨v4, rfl, o4, b4⟩
 have FS := as0 (Kd.F_below FS.out b4)
 have O4 := as0 (Kd.S_mono (ok' := fun k => w3.heap.size ≤ k ∧ k < w4.heap.size) (Kd.S_bound o4) (fun k hk => ⟨hk.2.1, hk.2.2.1⟩))
 have S34 := as0 b4.size
 have HB := as0 (below_step HB.out b4)
 clear o4 b4
 obtain ⟨Av4, cv4, ev4⟩ := Kd.S_slice O4.out
 subst ev4
 go_wp2_with fail
 go_at_call 26
 refine (impl_CharacteristicPoly.calls a0 Av4 cv4 l1 rl er _ (Kd.S_reads' O4.out).2.2 (Kd.S_reads' O4.out).2.1 HS.out HIK.out).mono ?_
 rintro e w6 ⟨vg, rfl, og, bg⟩
 have FS := as0 (Kd.F_below FS.out bg)
 have O4 := as0 (Kd.S_below O4.out bg)
 have OG := as0 (Kd.R_mono (ok' := fun k => w4.heap.size ≤ k) (Kd.R_bound og) (fun k hk => hk.2.1))
 have HB := as0 (below_step HB.out bg)
 clear og bg
 obtain ⟨Ag, cg, eg⟩ := Kd.R_slice OG.out
 subst eg
 go_wp2_with fail
 go_at_call 13
 refine (laws_eqInt64S.calls k Ag cg rl As cs' rl true _ (Kd.R_reads' OG.out).2.2 (Kd.R_reads' OG.out).2.1 (Kd.F_now FS.out) LS.out Q0.out).mono ?_
 rintro e w' ⟨rfl, dr⟩
 have b7 := dr.below
 clear dr
 have FS := as0 (Kd.F_below FS.out b7)
 have O4 := as0 (Kd.S_below O4.out b7)
 have OG := as0 (Kd.R_below OG.out b7)
 have HB := as0 (below_step HB.out b7)
 clear b7
 go_wp2_with fail
 go_at_call 19
 refine (laws_toInt64SS.calls k A1 c1 l1 l1 _ (Kd.C_below HR1.out HB.out) HC1.out T1.out).mono ?_
 rintro e w9 ⟨v9, rfl, o9, b9⟩
 have FS := as0 (Kd.F_below FS.out b9)
 have O4 := as0 (Kd.S_below O4.out b9)
 have OG := as0 (Kd.R_below OG.out b9)
 have O9 := as0 o9
 have HB := as0 (below_step HB.out b9)
 clear o9 b9
 obtain ⟨Av9, cv9, ev9⟩ := Kd.S_slice O9.out
 subst ev9
 go_wp2_with fail
 go_at_call 12
 refine (laws_eqInt64SS.calls k Av4 cv4 l1 Av9 cv9 l1 true _ (Kd.S_reads' O4.out).2.2 (Kd.S_reads' O4.out).2.1 (Kd.S_reads' O9.out).2.2 (Kd.S_reads' O9.out).2.1 Q2.out).mono ?_
 rintro e w' ⟨rfl, dr⟩
 have b10 := dr.below
 clear dr
 have FS := as0 (Kd.F_below FS.out b10)
 have O4 := as0 (Kd.S_below O4.out b10)
 have OG := as0 (Kd.R_below OG.out b10)
 have HB := as0 (below_step HB.out b10)
 clear b10 O9
 go_wp2_with fail
 go_at_call 15
 refine (laws_markInt64SS.calls k _ _ l1 1 m0 z w _ HB.out (Kd.S_lower O4.out S03.out) M0.out).mono ?_
 rintro e w12 ⟨rfl, _, hb, hk⟩
 have FS := as0 (Kd.F_kept FS.out hk fun k_ h1 h2 => Nat.lt_irrefl _ (Nat.lt_of_lt_of_le h1 h2.1))
 have OG := as0 (Kd.R_kept OG.out hk fun k_ h1 h2 => Nat.lt_irrefl _ (Nat.lt_of_lt_of_le h2.2 h1))
 have HB := as0 hb
 clear hk hb O4
 go_wp2_with fail
 go_at_call 13
 refine (laws_eqInt64S.calls k Ag cg rl As cs' rl true _ (Kd.R_reads' OG.out).2.2 (Kd.R_reads' OG.out).2.1 (Kd.F_now FS.out) LS.out Q0.out).mono ?_
 rintro e w' ⟨rfl, dr⟩
 have b13 := dr.below
 clear dr
 have FS := as0 (Kd.F_below FS.out b13)
 have OG := as0 (Kd.R_below OG.out b13)
 have HB := as0 (below_step HB.out b13)
 clear b13
 go_wp2_with fail
 go_at_call 14
 refine (laws_markInt64S.calls k _ _ rl 1 m1 rm w _ HB.out (Kd.R_lower OG.out (Nat.le_trans S03.out S34.out)) M1.out).mono ?_
 rintro e w15 ⟨rfl, og, hb, hk⟩
 have FS := as0 (Kd.F_kept FS.out hk fun k_ h1 h2 => Nat.lt_irrefl _ (Nat.lt_of_lt_of_le h1 (Nat.le_trans S34.out h2)))
 have NG := as0 (Kd.R_reads' og).1
 have CG := as0 (Kd.R_reads' og).2.1
 have RG := as0 (Kd.R_reads' og).2.2
 have HB := as0 hb
 clear hk hb og OG
 go_wp2_with fail
 go_at_call 27
 refine (NG.out ▸ laws_heldInt64S.calls k Ag cg rm 1 m1 _ RG.out (NG.out ▸ CG.out) HH1.out : Calls Try.prog 27 #[.slice Ag rl.length cg, .int .i64 1] _ _).mono ?_
 rintro e w' ⟨rfl, dr⟩
 have b17 := dr.below
 clear dr
 have FS := as0 (Kd.F_below FS.out b17)
 have RG := as0 (Kd.C_below RG.out b17)
 have HB := as0 (below_step HB.out b17)
 clear b17
 go_wp2_with fail
 go_at_call 19
 refine (laws_toInt64SS.calls k A1 c1 l1 l1 _ (Kd.C_below HR1.out HB.out) HC1.out T1.out).mono ?_
 rintro e w19 ⟨v19, rfl, o19, b19⟩
 have FS := as0 (Kd.F_below FS.out b19)
 have RG := as0 (Kd.C_below RG.out b19)
 have O19 := as0 o19
 have HB := as0 (below_step HB.out b19)
 clear o19 b19
 obtain ⟨Av19, cv19, ev19⟩ := Kd.S_slice O19.out
 subst ev19
 go_wp2_with fail
 go_at_call 26
 refine (impl_CharacteristicPoly.calls a0 Av19 cv19 l1 rl er _ (Kd.S_reads' O19.out).2.2 (Kd.S_reads' O19.out).2.1 HS.out HIK.out).mono ?_
 rintro e w20 ⟨vi, rfl, oi, bg⟩
 have FS := as0 (Kd.F_below FS.out bg)
 have RG := as0 (Kd.C_below RG.out bg)
 have OI := as0 oi
 have HB := as0 (below_step HB.out bg)
 clear oi bg O19
 obtain ⟨Ai, ci, ei⟩ := Kd.R_slice OI.out
 subst ei
 go_wp2_with fail
 go_at_call 13
 refine (laws_eqInt64S.calls k Ai ci rl As cs' rl true _ (Kd.R_reads' OI.out).2.2 (Kd.R_reads' OI.out).2.1 (Kd.F_now FS.out) LS.out Q0.out).mono ?_
 rintro e w' ⟨rfl, dr⟩
 have b21 := dr.below
 clear dr
 have RG := as0 (Kd.C_below RG.out b21)
 have HB := as0 (below_step HB.out b21)
 clear b21 FS OI
 go_wp2_with fail
 go_at_call 27
 refine (NG.out ▸ laws_heldInt64S.calls k Ag cg rm 1 m1 _ RG.out (NG.out ▸ CG.out) HH1.out : Calls Try.prog 27 #[.slice Ag rl.length cg, .int .i64 1] _ _).mono ?_
 rintro e w' ⟨rfl, dr⟩
 have b23 := dr.below
 clear dr
 have HB := as0 (below_step HB.out b23)
 clear b23
 go_wp2_with fail
 go_ret
 exact ⟨rfl, HB.out⟩
def laws_FnExactCharacteristicPoly.Pure : Prop := ∀ (a0 : Int) (l1 : List (List Int)), l1.length ≤ 9223372036854775807 → (∀ x ∈ l1, x.length ≤ 9223372036854775807) →
 ∃ (k : Nat) (left : Int), laws_szInt64SS.f k l1 1048576 = some left ∧ (left < 0 ∨ (¬ left < 0 ∧ ∃ (rl rm : List Int) (z : List (List Int)) (er m0 m1 : Int), (∀ x ∈ l1, x.length ≤ 1000000000) ∧ laws_toInt64SS.f k l1 = some l1 ∧ chA a0 l1 = (rl, er) ∧ laws_eqInt64S.f k rl rl = some true ∧ laws_eqInt64SS.f k l1 l1 = some true ∧
  laws_markInt64SS.f k l1 1 = some (m0, z) ∧ ¬ m0 < 0 ∧ laws_markInt64S.f k rl 1 = some (m1, rm) ∧ laws_heldInt64S.f k rm 1 = some m1 ∧ ¬ m1 < 0))
set_option maxHeartbeats 8000000 in
set_option maxRecDepth 100000 in
theorem laws_FnExactCharacteristicPoly.walk (P : laws_FnExactCharacteristicPoly.Pure) (a0 : Int) (a1 : Option Addr) (len1 cap1 : Nat) (z1 : List (List Int)) (w : World) (w0 : (Lit.int .i64 a0).wf = true) (w1 : z1.length = len1 ∧ Kd.C (Kd.slice 2 (Kd.int .i64)) w a1 len1 z1) (y1 : len1 ≤ cap1) :
  Calls Try.prog 7 #[.int .i64 a0, .slice a1 len1 cap1] w fun e w' => e = .returned (.bool true) ∧ Below w.heap.size w w' := by
 obtain ⟨rfl, hr⟩ := w1
 have hm := hr.2.1
 have hels : ∀ x ∈ z1, x.length ≤ 9223372036854775807 := by
  intro x hx
  obtain ⟨j, hj, rfl⟩ := List.getElem_of_mem hx
  obtain ⟨ad, A, c, e, hc, hl, hC⟩ := at_L1 hr (j : Int) (by omega) (by omega)
  have hrd : rd_L1 z1 (j : Int) = z1[j] := by
   unfold rd_L1
   rw [Int.toNat_natCast, List.getD_eq_getElem?_getD, List.getElem?_eq_getElem hj]; rfl
  rw [← hrd]
  exact hC.2.1
 obtain ⟨k, left, h1, h2⟩ := P a0 z1 hm hels
 rcases h2 with h2 | ⟨h2, rl, rm, z, er, m0, m1, h3, h4, h5, h6, h7, h8, h9, h10, h11, h12⟩
 ·
  have d1 : decide (left < 0) = true := decide_eq_true h2
  have HR := as0 hr
  have HZ := as0 h1
  have HY := as0 y1
  clear hr h1 y1 h2 hels hm w0
  go_enter Try.func7, Try.ntmps7
  go_wp2_with fail
  go_at_call 17
  refine (laws_szInt64SS.calls k a1 cap1 z1 1048576 left _ HR.out HY.out HZ.out).mono ?_
  rintro e w' ⟨rfl, dr⟩
  have b0 := dr.below
  have HB := as0 b0
  clear dr b0
  go_wp2_with fail
  go_ret
  exact ⟨rfl, HB.out⟩
 ·
  exact laws_FnExactCharacteristicPoly.calls k a0 a1 cap1 z1 rl rm z er left m0 m1 w hr y1 h1 h2 h3 h4 h5 h6 h7 h8 h9 h10 h11 h12
end Go.Proofs.Ytlmolloallhclaa.H
