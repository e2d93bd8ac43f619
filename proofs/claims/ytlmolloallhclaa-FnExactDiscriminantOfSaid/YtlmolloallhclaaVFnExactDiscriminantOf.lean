/- Plain laws that the claim of FnExactDiscriminantOf reaches: numbers modulo a prime, lists, and what the printed functions answer. -/
import Derived.Test.YtlmolloallhclaaYWWords
import Derived.Test.YtlmolloallhclaaYWMore
import Derived.Test.YtlmolloallhclaaMab1
import Derived.Test.YtlmolloallhclaaMab7
import Derived.Test.YtlmolloallhclaaMab2
import Derived.Test.YtlmolloallhclaaMab3
import Derived.Test.YtlmolloallhclaaMab4
import Derived.Test.YtlmolloallhclaaMab5
import Derived.Test.YtlmolloallhclaaMab8
import Derived.Test.YtlmolloallhclaaYHx0
import Derived.Test.YtlmolloallhclaaMb2
import Derived.Test.YtlmolloallhclaaMb1
import Derived.Test.YtlmolloallhclaaMab9
import Derived.Test.YtlmolloallhclaaMab10
import Derived.Test.YtlmolloallhclaaMb3
import Derived.Test.YtlmolloallhclaaMab11
set_option linter.unusedVariables false
set_option linter.unusedSimpArgs false
namespace Go.Proofs.Ytlmolloallhclaa.H
open Go.RowKit Go.Proofs.YtlmolloallhclaaW.PrintWords Go.Proofs.YtlmolloallhclaaW.PrintLast Go.Proofs.YtlmolloallhclaaW.PrintMore Go.Proofs.Ytlmolloallhclaa.Num
theorem impl_deg (l : List Int) (h : l.length ≤ 1000000000000) : impl_degree.f l = some ((l.length : Int) - 1) := by
 simp (disch := omega) only [impl_degree.f, impl_length_int64.f, Option.bind_some, w64]
def fillL (c : Int) (ls : List (List Int)) : Int := if c = 0 then (if ls.all (fun l => decide (0 < l.length)) = true then 0 else 5) else c
theorem fill_loop (ls : List (List Int)) (hl : ls.length ≤ 1000000) : ∀ (d i : Nat), i + d = ls.length → Ev (fun k => spec_l06Code.l0 k ls (i : Int)) (if (ls.drop i).all (fun l => decide (0 < l.length)) = true then 0 else 5) := by
 intro d
 induction d with
 | zero => intro i h; refine Ev.succ ?_; simp (disch := omega) only [spec_l06Code.l0, if_neg, List.drop_of_length_le]; exact Ev.now _
 | succ d ih =>
  intro i h
  have hi := ih (i + 1) (by omega)
  have hrd : rd_L1 ls (i : Int) = ls[i]'(by omega) := by simp [rd_L1, List.getD_eq_getElem?_getD, show i < ls.length by omega]
  refine Ev.succ ?_
  rw [List.drop_eq_getElem_cons (show i < ls.length by omega)]
  simp (disch := omega) only [spec_l06Code.l0, if_pos, hrd, wp1, List.all_cons]
  by_cases h0 : (ls[i]'(by omega)).length = 0
  ·
   have h1 : (((ls[i]'(by omega)).length : Nat) : Int) = 0 := by omega
   simp only [h1, if_true, h0, Nat.lt_irrefl, decide_false, Bool.false_and, Bool.false_eq_true, if_false]
   exact Ev.now _
  ·
   have h1 : ¬ (((ls[i]'(by omega)).length : Nat) : Int) = 0 := by omega
   simp only [if_neg h1, decide_eq_true (show 0 < (ls[i]'(by omega)).length by omega), Bool.true_and]
   exact hi
theorem spec_code6 (p : Int) (ls : List (List Int)) (hl : ls.length ≤ 1000000) (hls : ∀ l ∈ ls, l.length ≤ 1000000000) : Ev (fun k => spec_l06Code.f k p ls) (fillL (codeL p true ls) ls) := by
 have h1 := spec_code p ls hl hls
 have h2 := fill_loop ls hl ls.length 0 (by omega)
 simp only [spec_l06Code.f, fillL]
 refine Ev.bind h1 ?_
 by_cases h : codeL p true ls = 0
 ·
  simp only [h, if_true]; exact h2
 ·
  simp only [if_neg h]; exact Ev.now _
theorem impl_fill1 (p : Int) (b : Bool) (l : List Int) : Ev (fun k => impl_filledCode_1.f k p b l) (fillL (codeL p b [l]) [l]) := by
 simp only [impl_filledCode_1.f]
 refine Ev.bind (impl_code1 p b l) ?_
 simp only [fillL, List.all_cons, List.all_nil, Bool.and_true]
 exact Ev.now _
theorem fillL_0 {p : Int} {b : Bool} {ls : List (List Int)} (h : fillL (codeL p b ls) ls = 0) : IsP p ∧ b = true ∧ ∀ l ∈ ls, Po p l ∧ 0 < l.length := by
 unfold fillL at h
 split at h
 ·
  rename_i hc
  split at h
  ·
   rename_i ha
   obtain ⟨h1, h2, h3⟩ := codeL_0 hc
   exact ⟨h1, h2, fun l hl => ⟨h3 l hl, of_decide_eq_true (List.all_eq_true.1 ha l hl)⟩⟩
  ·
   cases h
 ·
  rename_i hc; exact absurd h hc
theorem co_ext {l l' : List Int} (hl : l.length = l'.length) (he : ∀ i, i < l.length → co l i = co l' i) : l = l' :=
 List.ext_getElem hl fun i a b => by
  have := he i a
  unfold co at this
  rwa [List.getD_eq_getElem?_getD, List.getD_eq_getElem?_getD, List.getElem?_eq_getElem a, List.getElem?_eq_getElem b] at this
theorem co_reverse (l : List Int) (i : Nat) (h : i < l.length) : co l.reverse i = co l (l.length - 1 - i) := by
 unfold co
 rw [List.getD_eq_getElem?_getD, List.getD_eq_getElem?_getD, List.getElem?_reverse h]
theorem impl_reverse (l : List Int) (hl : l.length ≤ 1000000) : Ev (fun k => slices_Reverse_int64_int64.f k l) l.reverse := by
 have loop : ∀ (d i : Nat) (xs : List Int), xs.length = l.length → i + d = l.length → (∀ t, t < l.length → co xs t = if t < i ∨ l.length - i ≤ t then co l (l.length - 1 - t) else co l t) →
   Ev (fun k => slices_Reverse_int64_int64.l0 k xs (i : Int) ((l.length : Int) - 1 - i)) l.reverse := by
  intro d
  induction d with
  | zero =>
   intro i xs h1 h2 h3
   refine Ev.succ ?_
   simp (disch := omega) only [slices_Reverse_int64_int64.l0, if_neg]
   refine Ev_to (Ev.now _) (co_ext (by simpa using h1) fun t ht => ?_)
   rw [h3 t (by omega), co_reverse l t (by omega), if_pos (by omega)]
  | succ d ih =>
   intro i xs h1 h2 h3
   refine Ev.succ ?_
   by_cases hlt : (i : Int) < (l.length : Int) - 1 - i
   ·
    have hj : (l.length : Int) - 1 - i = ((l.length - 1 - i : Nat) : Int) := by omega
    have hi := ih (i + 1) ((xs.set i (xs.getD (l.length - 1 - i) 0)).set (l.length - 1 - i) (xs.getD i 0)) (by simpa using h1) (by omega) (fun t ht => by
     rw [co_set _ _ _ _ (by simpa using by omega)]
     by_cases e1 : t = l.length - 1 - i
     ·
      rw [if_pos e1, if_pos (by omega)]
      have := h3 i (by omega)
      unfold co at this
      rw [this, if_neg (by omega), e1]
      show co l i = _
      rw [show l.length - 1 - (l.length - 1 - i) = i by omega]
     ·
      rw [if_neg e1, co_set _ _ _ _ (by omega)]
      by_cases e2 : t = i
      ·
       rw [if_pos e2, if_pos (by omega)]
       have := h3 (l.length - 1 - i) (by omega)
       unfold co at this
       rw [this, if_neg (by omega), e2]
       rfl
      ·
       rw [if_neg e2, h3 t ht]
       by_cases e3 : t < i ∨ l.length - i ≤ t
       ·
        rw [if_pos e3, if_pos (by omega)]
       ·
        rw [if_neg e3, if_neg (by omega)])
    rw [hj] at hlt ⊢
    simp (disch := omega) only [slices_Reverse_int64_int64.l0, if_pos hlt, if_pos, rd_n, Int.toNat_natCast, wp1, wm1]
    rw [show ((l.length - 1 - i : Nat) : Int) - 1 = (l.length : Int) - 1 - ((i + 1 : Nat) : Int) by omega]
    exact hi
   ·
    simp only [slices_Reverse_int64_int64.l0, if_neg hlt]
    refine Ev_to (Ev.now _) (co_ext (by simpa using h1) fun t ht => ?_)
    rw [h3 t (by omega), co_reverse l t (by omega)]
    by_cases e3 : t < i ∨ l.length - i ≤ t
    ·
     rw [if_pos e3]
    ·
     rw [if_neg e3, show l.length - 1 - t = t by omega]
 have h := loop l.length 0 l rfl (by omega) (fun t ht => by rw [if_neg (by omega)])
 simp only [slices_Reverse_int64_int64.f, wm1 (show l.length ≤ 1000000000000 by omega)]
 simpa using h
theorem clone_some (l : List Int) (h : l.length < 17592186044416) : slices_Clone_int64_int64.f l = some l := by
 simp [slices_Clone_int64_int64.f, h]
theorem impl_reversed_ (l : List Int) (hl : l.length ≤ 1000000) : Ev (fun k => impl_reversed.f k l) l.reverse := by
 simp only [impl_reversed.f, clone_some l (by omega), Option.bind_some]
 exact Ev.bind (impl_reverse l hl) (Ev.now _)
theorem dl_inR {p : Int} (hp : 0 < p) (l : List Int) : ∀ d i, InR p (dl p l i d)
 | 0, _ => InR.nil
 | d + 1, i => fun x hx => by
  rcases List.mem_cons.1 hx with rfl | hx
  ·
   exact emod_bd hp
  ·
   exact dl_inR hp l d (i + 1) x hx
theorem derivL_po {p : Int} {f : List Int} (hp : 0 < p) (pf : Po p f) : Po p (derivL p f) := Po.of (by have := derivL_len p f; have := pf.len; omega) (dl_inR hp f _ _).trim (Nz.trim _)
def ls (p : Int) (V : Nat → Int) (N : Nat) : List Int := trimL ((List.range N).map fun i => V i % p)
theorem co_shl0 (N i : Nat) (l : List Int) (t : Nat) : co (shl0 N i l) t = if i ≤ t then co l (t - i) else 0 := by
 unfold co shl0
 rw [List.getD_eq_getElem?_getD, List.getD_eq_getElem?_getD]
 by_cases h : i ≤ t
 ·
  rw [if_pos h]
  by_cases h2 : t < i + l.length
  ·
   rw [List.getElem?_append_left (by simp; omega), List.getElem?_append_right (by simp; omega), List.length_replicate]
  ·
   rw [List.getElem?_append_right (by simp; omega), List.getElem?_replicate, List.getElem?_eq_none (show l.length ≤ t - i by omega)]
   split <;> rfl
 ·
  rw [if_neg h, List.append_assoc, List.getElem?_append_left (by simp; omega), List.getElem?_replicate]
  split <;> rfl
theorem shl0_set {N i k : Nat} {l : List Int} (hk : k < l.length) (hN : i + l.length ≤ N) : (shl0 N i (l.take k)).set (i + k) (co l k) = shl0 N i (l.take (k + 1)) := by
 have e1 : (shl0 N i (l.take k)).length = N := shl0_length (by rw [List.length_take]; omega)
 have e2 : (shl0 N i (l.take (k + 1))).length = N := shl0_length (by rw [List.length_take]; omega)
 refine co_ext (by rw [List.length_set, e1, e2]) fun t _ => ?_
 rw [co_set _ _ _ _ (by rw [e1]; omega), co_shl0, co_shl0]
 by_cases h : t = i + k
 ·
  rw [if_pos h, if_pos (by omega), co_take, if_pos (by omega), show t - i = k by omega]
 ·
  rw [if_neg h]
  by_cases h2 : i ≤ t
  ·
   rw [if_pos h2, if_pos h2, co_take, co_take]
   by_cases h3 : t - i < k
   ·
    rw [if_pos h3, if_pos (by omega)]
   ·
    rw [if_neg h3, if_neg (by omega)]
  ·
   rw [if_neg h2, if_neg h2]
theorem shl0_nil {N i : Nat} (h : i ≤ N) (l : List Int) : List.replicate N (0 : Int) = shl0 N i (l.take 0) := by
 unfold shl0
 simp
 omega
theorem spec_syl1 (p : Int) {f g : List Int} {n m i : Nat} (hf : f.length = n + 1) (hm : m ≤ 1000) (hn : n ≤ 1000) (hi : i < m) (rows : List (List Int)) (hr : rows.length ≤ 1000) {r : Int}
  (h : Ev (fun q => spec_l06Sylvester.l0 q p f g (n : Int) (m : Int) (rows ++ [shl0 (n + m) i f.reverse]) ((i + 1 : Nat) : Int)) r) :
  ∀ d k, k + d = n + 1 → Ev (fun q => spec_l06Sylvester.l1 q p f g (n : Int) (m : Int) rows (i : Int) (shl0 (n + m) i (f.reverse.take k)) (k : Int)) r := by
 intro d
 induction d with
 | zero =>
  intro k hk
  refine Ev.succ ?_
  have q1 : ¬ (k : Int) ≤ (n : Int) := by omega
  have q2 : rows.length < 5864062014805 := by omega
  simp only [spec_l06Sylvester.l1, if_neg q1, if_pos q2, wp1 (show i ≤ 1000000000000 by omega)]
  rw [List.take_of_length_le (by rw [List.length_reverse]; omega)]
  exact h
 | succ d ih =>
  intro k hk
  refine Ev.succ ?_
  have k1 : k < f.reverse.length := by rw [List.length_reverse]; omega
  have k2 : i + f.reverse.length ≤ n + m := by rw [List.length_reverse]; omega
  have w1 : wrap64 ((k : Int) + 1) = ((k + 1 : Nat) : Int) := wp1 (by omega)
  have hl : (shl0 (n + m) i (f.reverse.take k)).length = n + m := shl0_length (by rw [List.length_take, List.length_reverse]; omega)
  have q1 : (k : Int) ≤ (n : Int) := by omega
  have q2 : (0 : Int) ≤ ((n - k : Nat) : Int) := Int.natCast_nonneg _
  have q3 : ((n - k : Nat) : Int) < (f.length : Int) := by omega
  have q4 : (0 : Int) ≤ ((i + k : Nat) : Int) := Int.natCast_nonneg _
  have q5 : ((i + k : Nat) : Int) < ((shl0 (n + m) i (f.reverse.take k)).length : Int) := by rw [hl]; omega
  have e1 : wrap64 ((n : Int) - (k : Int)) = ((n - k : Nat) : Int) := by rw [w64 (by omega) (by omega)]; omega
  have e2 : wrap64 ((i : Int) + (k : Int)) = ((i + k : Nat) : Int) := by rw [w64 (by omega) (by omega)]; omega
  have hx : f.getD (n - k) 0 = co f.reverse k := by
   rw [co_reverse f k (by omega), show f.length - 1 - k = n - k by omega]; rfl
  simp only [spec_l06Sylvester.l1, if_pos q1, e1, e2, if_pos q2, if_pos q3, if_pos q4, if_pos q5, rd_n, Int.toNat_natCast, w1]
  rw [hx, shl0_set k1 k2]
  exact ih (k + 1) (by omega)
theorem spec_syl3 (p : Int) {g : List Int} {n m i : Nat} (hg : g.length = m + 1) (hm : m ≤ 1000) (hn : n ≤ 1000) (hi : i < n) (rows : List (List Int)) (hr : rows.length ≤ 2000) {r : Int}
  (h : Ev (fun q => spec_l06Sylvester.l2 q p g (n : Int) (m : Int) (rows ++ [shl0 (n + m) i g.reverse]) ((i + 1 : Nat) : Int)) r) :
  ∀ d k, k + d = m + 1 → Ev (fun q => spec_l06Sylvester.l3 q p g (n : Int) (m : Int) rows (i : Int) (shl0 (n + m) i (g.reverse.take k)) (k : Int)) r := by
 intro d
 induction d with
 | zero =>
  intro k hk
  refine Ev.succ ?_
  have q1 : ¬ (k : Int) ≤ (m : Int) := by omega
  have q2 : rows.length < 5864062014805 := by omega
  simp only [spec_l06Sylvester.l3, if_neg q1, if_pos q2, wp1 (show i ≤ 1000000000000 by omega)]
  rw [List.take_of_length_le (by rw [List.length_reverse]; omega)]
  exact h
 | succ d ih =>
  intro k hk
  refine Ev.succ ?_
  have k1 : k < g.reverse.length := by rw [List.length_reverse]; omega
  have k2 : i + g.reverse.length ≤ n + m := by rw [List.length_reverse]; omega
  have w1 : wrap64 ((k : Int) + 1) = ((k + 1 : Nat) : Int) := wp1 (by omega)
  have hl : (shl0 (n + m) i (g.reverse.take k)).length = n + m := shl0_length (by rw [List.length_take, List.length_reverse]; omega)
  have q1 : (k : Int) ≤ (m : Int) := by omega
  have q2 : (0 : Int) ≤ ((m - k : Nat) : Int) := Int.natCast_nonneg _
  have q3 : ((m - k : Nat) : Int) < (g.length : Int) := by omega
  have q4 : (0 : Int) ≤ ((i + k : Nat) : Int) := Int.natCast_nonneg _
  have q5 : ((i + k : Nat) : Int) < ((shl0 (n + m) i (g.reverse.take k)).length : Int) := by rw [hl]; omega
  have e1 : wrap64 ((m : Int) - (k : Int)) = ((m - k : Nat) : Int) := by rw [w64 (by omega) (by omega)]; omega
  have e2 : wrap64 ((i : Int) + (k : Int)) = ((i + k : Nat) : Int) := by rw [w64 (by omega) (by omega)]; omega
  have hx : g.getD (m - k) 0 = co g.reverse k := by
   rw [co_reverse g k (by omega), show g.length - 1 - k = m - k by omega]; rfl
  simp only [spec_l06Sylvester.l3, if_pos q1, e1, e2, if_pos q2, if_pos q3, if_pos q4, if_pos q5, rd_n, Int.toNat_natCast, w1]
  rw [hx, shl0_set k1 k2]
  exact ih (k + 1) (by omega)
theorem spec_syl2 (p : Int) {g : List Int} {n m : Nat} (hg : g.length = m + 1) (hm : m ≤ 100) (hn : n ≤ 100) (rows : List (List Int)) (hr : rows.length ≤ 1000) {r : Int} (h : spec_l02Det.f p (rows ++ shls (n + m) n g.reverse) = some r) :
  ∀ d i, i + d = n → Ev (fun q => spec_l06Sylvester.l2 q p g (n : Int) (m : Int) (rows ++ shls (n + m) i g.reverse) (i : Int)) r := by
 intro d
 induction d with
 | zero =>
  intro i hi
  refine Ev.succ ?_
  have q1 : ¬ (i : Int) < (n : Int) := by omega
  obtain rfl : i = n := by omega
  simp only [spec_l06Sylvester.l2, if_neg q1, h, Option.bind_some]
  exact Ev.now _
 | succ d ih =>
  intro i hi
  refine Ev.succ ?_
  have q1 : (i : Int) < (n : Int) := by omega
  have e1 : wrap64 ((n : Int) + (m : Int)) = ((n + m : Nat) : Int) := by rw [w64 (by omega) (by omega)]; omega
  have q2 : (0 : Int) ≤ ((n + m : Nat) : Int) := Int.natCast_nonneg _
  have q3 : n + m ≤ 35184372088832 := by omega
  simp only [spec_l06Sylvester.l2, if_pos q1, e1, if_pos q2, Int.toNat_natCast, if_pos q3]
  rw [shl0_nil (show i ≤ n + m by omega) g.reverse]
  refine spec_syl3 p hg (by omega) (by omega) (by omega) _ (by rw [List.length_append, shls_length]; omega) ?_ (m + 1) 0 (by omega)
  rw [List.append_assoc, ← shls_succ]
  exact ih (i + 1) (by omega)
theorem spec_syl0 (p : Int) {f g : List Int} {n m : Nat} (hf : f.length = n + 1) (hg : g.length = m + 1) (hm : m ≤ 100) (hn : n ≤ 100) {r : Int} (h : spec_l02Det.f p (shls (n + m) m f.reverse ++ shls (n + m) n g.reverse) = some r) :
  ∀ d i, i + d = m → Ev (fun q => spec_l06Sylvester.l0 q p f g (n : Int) (m : Int) (shls (n + m) i f.reverse) (i : Int)) r := by
 intro d
 induction d with
 | zero =>
  intro i hi
  refine Ev.succ ?_
  have q1 : ¬ (i : Int) < (m : Int) := by omega
  obtain rfl : i = m := by omega
  simp only [spec_l06Sylvester.l0, if_neg q1]
  have := spec_syl2 p hg hm hn (shls (n + i) i f.reverse) (by rw [shls_length]; omega) h n 0 (by omega)
  rwa [show shls (n + i) 0 g.reverse = [] from rfl, List.append_nil] at this
 | succ d ih =>
  intro i hi
  refine Ev.succ ?_
  have q1 : (i : Int) < (m : Int) := by omega
  have e1 : wrap64 ((n : Int) + (m : Int)) = ((n + m : Nat) : Int) := by rw [w64 (by omega) (by omega)]; omega
  have q2 : (0 : Int) ≤ ((n + m : Nat) : Int) := Int.natCast_nonneg _
  have q3 : n + m ≤ 35184372088832 := by omega
  simp only [spec_l06Sylvester.l0, if_pos q1, e1, if_pos q2, Int.toNat_natCast, if_pos q3]
  rw [shl0_nil (show i ≤ n + m by omega) f.reverse]
  refine spec_syl1 p hf (by omega) (by omega) (by omega) _ (by rw [shls_length]; omega) ?_ (n + 1) 0 (by omega)
  rw [← shls_succ]
  exact ih (i + 1) (by omega)
def resR (p : Int) (f g : List Int) : Int := zdt (f.length - 1 + (g.length - 1)) (sb (sylL f.reverse g.reverse) 0) % p
theorem shl0_inR {p : Int} (hp : 0 < p) {N i : Nat} {l : List Int} (hr : InR p l) : InR p (shl0 N i l) := by
 intro x hx
 unfold shl0 at hx
 simp only [List.mem_append, List.mem_replicate] at hx
 rcases hx with (⟨_, rfl⟩ | h) | ⟨_, rfl⟩
 ·
  exact ⟨Int.le_refl _, hp⟩
 ·
  exact hr x h
 ·
  exact ⟨Int.le_refl _, hp⟩
theorem ro_shls {N k i : Nat} {l : List Int} (h : i < k) : ro (shls N k l) i = shl0 N i l := by
 unfold ro shls
 rw [List.getD_eq_getElem?_getD, List.getElem?_map, List.getElem?_range h]; rfl
theorem ro_app (a b : List (List Int)) (i : Nat) : ro (a ++ b) i = if i < a.length then ro a i else ro b (i - a.length) := by
 unfold ro
 rw [List.getD_eq_getElem?_getD]
 split
 ·
  rw [List.getElem?_append_left ‹_›, List.getD_eq_getElem?_getD]
 ·
  rw [List.getElem?_append_right (by omega), List.getD_eq_getElem?_getD]
theorem ro_syl {l1 l2 : List Int} {n m : Nat} (h1 : l1.length = n + 1) (h2 : l2.length = m + 1) {i : Nat} (hi : i < n + m) : ro (sylL l1 l2) i = if i < m then shl0 (n + m) i l1 else shl0 (n + m) (i - m) l2 := by
 unfold sylL
 rw [h1, h2, Nat.add_sub_cancel, Nat.add_sub_cancel, ro_app, shls_length]
 by_cases h : i < m
 ·
  rw [if_pos h, if_pos h, ro_shls h]
 ·
  rw [if_neg h, if_neg h, ro_shls (by omega)]
theorem syl_sq {p : Int} (hp : 0 < p) {l1 l2 : List Int} {n m : Nat} (h1 : l1.length = n + 1) (h2 : l2.length = m + 1) (r1 : InR p l1) (r2 : InR p l2) : Sq p (n + m) (sylL l1 l2) := by
 refine ⟨?_, fun i hi => ?_, fun i hi => ?_⟩
 ·
  unfold sylL
  rw [List.length_append, shls_length, shls_length]; omega
 ·
  rw [ro_syl h1 h2 hi]
  split
  ·
   exact shl0_length (by omega)
  ·
   exact shl0_length (by omega)
 ·
  rw [ro_syl h1 h2 hi]
  split
  ·
   exact shl0_inR hp r1
  ·
   exact shl0_inR hp r2
theorem InR.rev {p : Int} {l : List Int} (h : InR p l) : InR p l.reverse := fun x hx => h x (List.mem_reverse.1 hx)
theorem det_both {p : Int} (hp : IsP p) {f g : List Int} {n m : Nat} (hf : f.length = n + 1) (hg : g.length = m + 1) (hn : n ≤ 100) (hm : m ≤ 100) (rf : InR p f) (rg : InR p g) :
  spec_l02Det.f p (sylL f.reverse g.reverse) = some (resR p f g) ∧ impl_field_determinant.f p (sylL f.reverse g.reverse) = some (resR p f g) := by
 have hs := syl_sq hp.p0 (show f.reverse.length = n + 1 by simpa using hf) (show g.reverse.length = m + 1 by simpa using hg) rf.rev rg.rev
 have hl := hs.len
 have hc : IsP p ∧ Sq p (sylL f.reverse g.reverse).length (sylL f.reverse g.reverse) ∧ (sylL f.reverse g.reverse).length ≤ 1000 := ⟨hp, by rw [hl]; exact hs, by rw [hl]; omega⟩
 have e : zdt (sylL f.reverse g.reverse).length (sb (sylL f.reverse g.reverse) 0) % p = resR p f g := by unfold resR; rw [hl, hf, hg]; rfl
 constructor
 ·
  unfold spec_l02Det.f; rw [if_pos hc, e]
 ·
  unfold impl_field_determinant.f; rw [if_pos hc, e]
theorem spec_syl {p : Int} (hp : IsP p) {f g : List Int} {n m : Nat} (hf : f.length = n + 1) (hg : g.length = m + 1) (hn : n ≤ 100) (hm : m ≤ 100) (rf : InR p f) (rg : InR p g) : Ev (fun q => spec_l06Sylvester.f q p f g) (resR p f g) := by
 have h := (det_both hp hf hg hn hm rf rg).1
 have e : sylL f.reverse g.reverse = shls (n + m) m f.reverse ++ shls (n + m) n g.reverse := by
  unfold sylL
  rw [List.length_reverse, List.length_reverse, hf, hg]; rfl
 rw [e] at h
 have := spec_syl0 p hf hg hm hn h m 0 (by omega)
 simp only [spec_l06Sylvester.f, hf, hg]
 rw [show wrap64 (((n + 1 : Nat) : Int) - 1) = (n : Int) by rw [w64 (by omega) (by omega)]; omega, show wrap64 (((m + 1 : Nat) : Int) - 1) = (m : Int) by rw [w64 (by omega) (by omega)]; omega]
 exact this
theorem impl_syl {p : Int} (hp : IsP p) {f g : List Int} {n m : Nat} (hf : f.length = n + 1) (hg : g.length = m + 1) (hn : n ≤ 25) (hm : m ≤ 25) (rf : InR p f) (rg : InR p g) : impl_field_sylvester.f p f.reverse g.reverse = some (resR p f g) := by
 unfold impl_field_sylvester.f
 rw [if_pos (by rw [List.length_reverse, List.length_reverse]; omega)]
 exact (det_both hp hf hg (by omega) (by omega) rf rg).2
def wideD (p : Int) (f : List Int) : List Int := pad (derivL p f) (f.length - 1)
theorem derivL_len1 (p : Int) (l : List Int) : (derivL p l).length ≤ l.length - 1 := by
 have := trimL_len (dl p l 1 (l.length - 1)); unfold derivL; rw [dl_len] at this; exact this
theorem wideD_len (p : Int) (f : List Int) : (wideD p f).length = f.length - 1 := by
 have := derivL_len1 p f
 unfold wideD pad
 simp; omega
theorem wideD_inR {p : Int} (hp : 0 < p) {f : List Int} (pf : Po p f) : InR p (wideD p f) := by
 intro x hx
 unfold wideD pad at hx
 simp only [List.mem_append, List.mem_replicate] at hx
 rcases hx with h | ⟨_, rfl⟩
 ·
  exact (derivL_po hp pf).inR x h
 ·
  exact ⟨Int.le_refl _, hp⟩
def sgnT (n : Int) : Int := Int.tmod (wrap64 (Int.tdiv (wrap64 (n * (wrap64 (n - 1)))) 2)) 2
def dscQ (p : Int) (f : List Int) : Int := resR p f (wideD p f) * inv p (co f (f.length - 1)) % p
def dscR (p : Int) (f : List Int) : Int := if sgnT ((f.length : Int) - 1) = 1 then (-dscQ p f) % p else dscQ p f
noncomputable def dscA (p : Int) (f : List Int) : Int × Int := if fillL (codeL p true [f]) [f] = 0 then (if f.length = 1 then (0, 5) else (dscR p f, 0)) else (0, fillL (codeL p true [f]) [f])
theorem resR_bd {p : Int} (hp : 0 < p) (f g : List Int) : 0 ≤ resR p f g ∧ resR p f g < p := emod_bd hp
theorem copy_loop {p : Int} {f d : List Int} {n : Nat} {x7 : Int} {r : Int × Int} (hd : d.length ≤ n) (hn : n ≤ 1000)
  (h : Ev (fun q => spec_DiscriminantOf.l0 q p f x7 (pad d n) d (d.length : Int)) r) :
  ∀ e i, i + e = d.length → Ev (fun q => spec_DiscriminantOf.l0 q p f x7 (d.take i ++ List.replicate (n - i) 0) d (i : Int)) r := by
 intro e
 induction e with
 | zero =>
  intro i hi
  have : i = d.length := by omega
  subst this
  rw [List.take_length]
  exact h
 | succ e ih =>
  intro i hi
  refine Ev.succ ?_
  have q1 : (i : Int) < (d.length : Int) := by omega
  have q2 : (0 : Int) ≤ (i : Int) := Int.natCast_nonneg _
  have w1 : wrap64 ((i : Int) + 1) = ((i + 1 : Nat) : Int) := wp1 (by omega)
  have hl : (d.take i ++ List.replicate (n - i) (0 : Int)).length = n := by simp; omega
  have q3 : (i : Int) < ((d.take i ++ List.replicate (n - i) (0 : Int)).length : Int) := by rw [hl]; omega
  have e1 : (d.take i ++ List.replicate (n - i) (0 : Int)).set i (d.getD i 0) = d.take (i + 1) ++ List.replicate (n - (i + 1)) 0 := by
   rw [List.set_append_right _ _ (by rw [List.length_take]; omega), List.length_take, Nat.min_eq_left (by omega), Nat.sub_self, show n - i = n - (i + 1) + 1 by omega, List.replicate_succ, List.set_cons_zero, List.take_succ_eq_append_getElem (by omega), List.append_assoc]
   rw [List.getD_eq_getElem?_getD, List.getElem?_eq_getElem (by omega)]; rfl
  simp only [spec_DiscriminantOf.l0, if_pos q1, if_pos q2, if_pos q3, rd_n, Int.toNat_natCast, w1, e1]
  exact ih (i + 1) (by omega)
theorem dsc_spec (p : Int) (f : List Int) (hf : f.length ≤ 1048576) : Ev (fun k => spec_DiscriminantOf.f k p f) (dscA p f) := by
 have h1 := spec_code6 p [f] (by simp) (by simp; omega)
 unfold dscA
 simp only [spec_DiscriminantOf.f]
 refine Ev.bind h1 ?_
 by_cases hc : fillL (codeL p true [f]) [f] = 0
 ·
  obtain ⟨hp, _, hq⟩ := fillL_0 hc
  obtain ⟨pf, h0⟩ := hq f (by simp)
  have lf := pf.len
  rw [hc]
  simp only [eq_self, if_true]
  by_cases h5 : f.length = 1
  ·
   rw [if_pos h5]
   have b1 : ((f.length : Int) == 1) = true := by rw [h5]; rfl
   rw [b1]
   refine Ev.succ ?_
   simp only [spec_DiscriminantOf.j0, eq_self, if_true]
   refine Ev.succ ?_
   simp only [spec_DiscriminantOf.j1, if_neg (show ¬ (5 : Int) = 0 by omega)]
   exact Ev.now _
  ·
   rw [if_neg h5]
   have b1 : ((f.length : Int) == 1) = false := beq_eq_false_iff_ne.mpr (by omega)
   rw [b1]
   obtain ⟨m, hm⟩ : ∃ m, f.length = m + 2 := ⟨f.length - 2, by omega⟩
   have hn : f.length = (m + 1) + 1 := hm
   have hw : (wideD p f).length = m + 1 := by rw [wideD_len, hm]; rfl
   have hw1 : wrap64 ((f.length : Int) - 1) = ((m + 1 : Nat) : Int) := by rw [w64 (by omega) (by omega)]; omega
   refine Ev.succ ?_
   simp only [spec_DiscriminantOf.j0, Bool.false_eq_true, if_false]
   refine Ev.succ ?_
   have q1 : (0 : Int) ≤ ((m + 1 : Nat) : Int) := Int.natCast_nonneg _
   have q2 : m + 1 ≤ 35184372088832 := by omega
   simp only [spec_DiscriminantOf.j1, eq_self, if_true, hw1, if_pos q1, Int.toNat_natCast, if_pos q2]
   refine Ev.bind (spec_derive hp.p2 hp.pm (by omega) pf.inR) ?_
   have hd : (derivL p f).length ≤ m + 1 := by have := derivL_len1 p f; omega
   have hloop := copy_loop (p := p) (f := f) (d := derivL p f) (n := m + 1) (x7 := ((m + 1 : Nat) : Int)) (r := (dscR p f, 0)) hd (by omega) ?_ (derivL p f).length 0 (by omega)
   ·
    simpa using hloop
   ·
    have ew : pad (derivL p f) (m + 1) = wideD p f := by unfold wideD; rw [hm]; rfl
    rw [ew]
    refine Ev.succ ?_
    have q3 : ¬ ((derivL p f).length : Int) < ((derivL p f).length : Int) := Int.lt_irrefl _
    simp only [spec_DiscriminantOf.l0, if_neg q3]
    refine Ev.bind (spec_syl hp hn hw (by omega) (by omega) pf.inR (wideD_inR hp.p0 pf)) ?_
    have q4 : ((m + 1 : Nat) : Int) < (f.length : Int) := by omega
    simp only [if_pos q1, if_pos q4, rd_n]
    refine Ev.bind (spec_inverse hp.p2 hp.pm) ?_
    have hb := mul_bd2 hp.pm (resR_bd hp.p0 f (wideD p f)) (y := inv p (co f (m + 1))) (by have := inv_bd hp.p0 (co f (m + 1)); have := hp.pm; omega)
    have e1 : Int.tmod (wrap64 (resR p f (wideD p f) * (f.getD (m + 1) 0 ^ (p - 2).toNat % p))) p = dscQ p f := by
     have : f.getD (m + 1) 0 ^ (p - 2).toNat % p = inv p (co f (m + 1)) := rfl
     rw [this, w64 (by omega) (by omega), tmod_nn hb.1]
     unfold dscQ
     rw [show f.length - 1 = m + 1 by omega]
    have hp0 : ¬ p = 0 := by have := hp.p0; omega
    have hdb : 0 ≤ dscQ p f ∧ dscQ p f < p := emod_bd hp.p0
    have hw2 : wrap64 (-dscQ p f) = -dscQ p f := w64 (by have := hp.pm; omega) (by have := hp.pm; omega)
    have es : Int.tmod (wrap64 (Int.tdiv (wrap64 (((m + 1 : Nat) : Int) * (wrap64 (((m + 1 : Nat) : Int) - 1)))) 2)) 2 = sgnT ((f.length : Int) - 1) := by unfold sgnT; rw [show (f.length : Int) - 1 = ((m + 1 : Nat) : Int) by omega]
    simp only [e1, if_neg hp0, es]
    by_cases hs : sgnT ((f.length : Int) - 1) = 1
    ·
     simp only [if_pos hs, hw2, spec_mod hp.p0 (show p ≤ 1000000000 by have := hp.pm; omega), Option.bind_some]
     unfold dscR
     rw [if_pos hs]
     exact Ev.now _
    ·
     simp only [if_neg hs]
     unfold dscR
     rw [if_neg hs]
     exact Ev.now _
 ·
  simp only [if_neg hc]
  refine Ev.succ ?_
  simp only [spec_DiscriminantOf.j0, Bool.false_eq_true, if_false]
  refine Ev.succ ?_
  simp only [spec_DiscriminantOf.j1, if_neg hc]
  exact Ev.now _
theorem dsc_impl (p : Int) (f : List Int) : Ev (fun k => impl_DiscriminantOf.f k p f) (dscA p f) := by
 have h2 := impl_fill1 p true f
 unfold dscA
 simp only [impl_DiscriminantOf.f]
 refine Ev.bind h2 ?_
 by_cases hc : fillL (codeL p true [f]) [f] = 0
 ·
  obtain ⟨hp, _, hq⟩ := fillL_0 hc
  obtain ⟨pf, h0⟩ := hq f (by simp)
  have lf := pf.len
  rw [hc]
  simp only [eq_self, if_true, impl_deg f (by omega), Option.bind_some]
  by_cases h5 : f.length = 1
  ·
   have q1 : (f.length : Int) - 1 = 0 := by omega
   simp only [if_pos q1, if_pos h5]
   exact Ev.now _
  ·
   rw [if_neg h5]
   obtain ⟨m, hm⟩ : ∃ m, f.length = m + 2 := ⟨f.length - 2, by omega⟩
   have hn : f.length = (m + 1) + 1 := hm
   have hw : (wideD p f).length = m + 1 := by rw [wideD_len, hm]; rfl
   have hw1 : (f.length : Int) - 1 = ((m + 1 : Nat) : Int) := by omega
   have q0 : ¬ ((m + 1 : Nat) : Int) = 0 := by omega
   have q1 : (0 : Int) ≤ ((m + 1 : Nat) : Int) := Int.natCast_nonneg _
   have q2 : m + 1 ≤ 35184372088832 := by omega
   have q4 : ((m + 1 : Nat) : Int) < (f.length : Int) := by omega
   have es : Int.tmod (wrap64 (Int.tdiv (wrap64 (((m + 1 : Nat) : Int) * (wrap64 (((m + 1 : Nat) : Int) - 1)))) 2)) 2 = sgnT ((f.length : Int) - 1) := by unfold sgnT; rw [hw1]
   have hd : (derivL p f).length ≤ m + 1 := by have := derivL_len1 p f; omega
   have ec : cpInto (List.replicate (m + 1) (0 : Int)) (derivL p f) = wideD p f := by
    unfold cpInto wideD pad
    rw [List.drop_replicate, hm]; rfl
   simp only [hw1, if_neg q0, if_pos q1, Int.toNat_natCast, if_pos q2]
   refine Ev.bind (impl_derive hp.p2 hp.pm (by omega) pf.inR) ?_
   simp only [if_pos hd, ec]
   refine Ev.bind (impl_reversed_ f (by omega)) (Ev.bind (impl_reversed_ (wideD p f) (by omega)) ?_)
   simp only [impl_syl hp hn hw (by omega) (by omega) pf.inR (wideD_inR hp.p0 pf), Option.bind_some, if_pos q4, rd_n, es]
   refine Ev.bind (impl_div hp.p2 hp.pm (resR_bd hp.p0 _ _) (pf.inR.get hp.p0 (m + 1))) ?_
   have e1 : resR p f (wideD p f) * inv p (f.getD (m + 1) 0) % p = dscQ p f := by
    unfold dscQ
    rw [show f.length - 1 = m + 1 by omega]; rfl
   have hdb : 0 ≤ dscQ p f ∧ dscQ p f < p := emod_bd hp.p0
   have hw2 : wrap64 (-dscQ p f) = -dscQ p f := w64 (by have := hp.pm; omega) (by have := hp.pm; omega)
   simp only [e1]
   by_cases hs : sgnT ((f.length : Int) - 1) = 1
   ·
    simp only [if_pos hs, hw2, impl_mod hp.p0 (show p ≤ 1000000000 by have := hp.pm; omega), Option.bind_some]
    unfold dscR
    rw [if_pos hs]
    exact Ev.now _
   ·
    simp only [if_neg hs]
    unfold dscR
    rw [if_neg hs]
    exact Ev.now _
 ·
  simp only [if_neg hc]
  exact Ev.now _
end Go.Proofs.Ytlmolloallhclaa.H
