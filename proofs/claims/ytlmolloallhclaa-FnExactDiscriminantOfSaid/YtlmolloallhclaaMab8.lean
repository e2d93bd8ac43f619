/- Joined texts of a claim: the printed functions and what is proved of them. -/
import Derived.Test.YtlmolloallhclaaMab5
import Derived.Test.YtlmolloallhclaaMab7
import Derived.Test.YtlmolloallhclaaMab1
import Derived.Test.YtlmolloallhclaaMab2
import Derived.Test.YtlmolloallhclaaYHx0
import Derived.Test.YtlmolloallhclaaMab6
import Derived.Test.YtlmolloallhclaaMab3
import Derived.Test.YtlmolloallhclaaMab4
set_option linter.unusedVariables false
set_option linter.unusedSimpArgs false
namespace Go.Proofs.Ytlmolloallhclaa.H
open Go.RowKit Go.Proofs.YtlmolloallhclaaW.PrintWords Go.Proofs.YtlmolloallhclaaW.PrintLast Go.Proofs.YtlmolloallhclaaW.PrintMore Go.Proofs.Ytlmolloallhclaa.Num
theorem _root_.Go.Proofs.Ytlmolloallhclaa.Num.IsP.p2 {p : Int} (h : IsP p) : 2 ≤ p := h.1
theorem _root_.Go.Proofs.Ytlmolloallhclaa.Num.IsP.pm {p : Int} (h : IsP p) : p ≤ 10007 := h.2.1
theorem _root_.Go.Proofs.Ytlmolloallhclaa.Num.IsP.p0 {p : Int} (h : IsP p) : 0 < p := by have := h.1; omega
end Go.Proofs.Ytlmolloallhclaa.H
namespace Go.Proofs.Ytlmolloallhclaa.H
open Go.RowKit Go.Proofs.YtlmolloallhclaaW.PrintWords Go.Proofs.YtlmolloallhclaaW.PrintLast Go.Proofs.YtlmolloallhclaaW.PrintMore
attribute [local go_sem] max2_int min2_int max_two min_two max_three min_three max_four min_four   -- for this text's walks alone
set_option linter.unusedVariables false
set_option linter.unusedSimpArgs false
end Go.Proofs.Ytlmolloallhclaa.H
namespace Go.Proofs.Ytlmolloallhclaa.H
open Go.RowKit Go.Proofs.YtlmolloallhclaaW.PrintWords Go.Proofs.YtlmolloallhclaaW.PrintLast Go.Proofs.YtlmolloallhclaaW.PrintMore
attribute [local go_sem] max2_int min2_int max_two min_two max_three min_three max_four min_four   -- for this text's walks alone
set_option linter.unusedVariables false
set_option linter.unusedSimpArgs false
end Go.Proofs.Ytlmolloallhclaa.H
set_option linter.unusedVariables false
set_option linter.unusedSimpArgs false
namespace Go.Proofs.Ytlmolloallhclaa.H
open Go.RowKit Go.Proofs.YtlmolloallhclaaW.PrintWords Go.Proofs.YtlmolloallhclaaW.PrintLast Go.Proofs.YtlmolloallhclaaW.PrintMore Go.Proofs.Ytlmolloallhclaa.Num
def co (l : List Int) (i : Nat) : Int := l.getD i 0
theorem co_ge {l : List Int} {i : Nat} (h : l.length ≤ i) : co l i = 0 := by simp [co, List.getD_eq_getElem?_getD, h]
theorem co_set (l : List Int) (i j : Nat) (x : Int) (h : i < l.length) : co (l.set i x) j = if j = i then x else co l j := by
 unfold co
 simp only [List.getD_eq_getElem?_getD]
 by_cases e : j = i
 ·
  subst e; rw [List.getElem?_set_self h, if_pos rfl]; rfl
 ·
  rw [List.getElem?_set_ne (Ne.symm e), if_neg e]
theorem co_take {l : List Int} {n i : Nat} : co (l.take n) i = if i < n then co l i else 0 := by
 unfold co
 simp only [List.getD_eq_getElem?_getD, List.getElem?_take]
 split <;> rfl
theorem InR.co {p : Int} {l : List Int} (h : InR p l) (hp : 0 < p) (i : Nat) : 0 ≤ co l i ∧ co l i < p := h.get hp i
theorem tlen_zero (l : List Int) : ∀ n i, tlen l n ≤ i → i < n → l.getD i 0 = 0
 | 0, i, _, h => by omega
 | n + 1, i, h1, h2 => by
  unfold tlen at h1
  split at h1
  ·
   rename_i h0
   by_cases e : i = n
   ·
    subst e; exact h0
   ·
    exact tlen_zero l n i h1 (by omega)
  ·
   omega
theorem tlen_last (l : List Int) : ∀ n, tlen l n = 0 ∨ l.getD (tlen l n - 1) 0 ≠ 0
 | 0 => .inl rfl
 | n + 1 => by
  unfold tlen
  split
  ·
   exact tlen_last l n
  ·
   right; simpa using ‹_›
theorem trimL_length (l : List Int) : (trimL l).length = tlen l l.length := by
 unfold trimL; rw [List.length_take, Nat.min_eq_left (tlen_le _ _)]
theorem co_trim (l : List Int) (i : Nat) : co (trimL l) i = co l i := by
 unfold trimL
 rw [co_take]
 split
 ·
  rfl
 ·
  rename_i h
  by_cases hi : i < l.length
  ·
   exact (tlen_zero l l.length i (by omega) hi).symm
  ·
   exact (co_ge (by omega)).symm
def Nz (l : List Int) : Prop := l.length = 0 ∨ co l (l.length - 1) ≠ 0
theorem Nz.trim (l : List Int) : Nz (trimL l) := by
 unfold Nz
 rw [co_trim, trimL_length]
 exact tlen_last l l.length
theorem Po.of {p : Int} {l : List Int} (hl : l.length ≤ 25) (hr : InR p l) (hz : Nz l) : Po p l := by
 refine ⟨hl, hr, ?_⟩
 rcases hz with h | h
 ·
  exact .inl h
 ·
  by_cases h0 : l.length = 0
  ·
   exact .inl h0
  ·
   right
   unfold co at h
   rwa [← rd_nat, show ((l.length - 1 : Nat) : Int) = (l.length : Int) - 1 by omega] at h
theorem Nz.top {p : Int} {l : List Int} (h : Nz l) (hr : InR p l) (hp : 0 < p) (h0 : 0 < l.length) : 0 < co l (l.length - 1) ∧ co l (l.length - 1) < p := by
 have h1 := hr.co hp (l.length - 1)
 rcases h with h2 | h2
 ·
  omega
 ·
  omega
end Go.Proofs.Ytlmolloallhclaa.H
set_option linter.unusedVariables false
set_option linter.unusedSimpArgs false
namespace Go.Proofs.Ytlmolloallhclaa.H
open Go.RowKit Go.Proofs.YtlmolloallhclaaW.PrintWords Go.Proofs.YtlmolloallhclaaW.PrintLast Go.Proofs.YtlmolloallhclaaW.PrintMore Go.Proofs.Ytlmolloallhclaa.Num
def ro (rows : List (List Int)) (i : Nat) : List Int := rows.getD i []
theorem ro_set (rows : List (List Int)) (b i : Nat) (x : List Int) (h : b < rows.length) : ro (rows.set b x) i = if i = b then x else ro rows i := by
 unfold ro
 rw [List.getD_eq_getElem?_getD, List.getD_eq_getElem?_getD]
 by_cases e : i = b
 ·
  subst e; rw [if_pos rfl, List.getElem?_set_self h]; rfl
 ·
  rw [if_neg e, List.getElem?_set_ne (fun h => e h.symm)]
theorem co_app1 (l : List Int) (x : Int) (j : Nat) (h : j < l.length + 1) : co (l ++ [x]) j = if j < l.length then co l j else x := by
 unfold co
 rw [List.getD_eq_getElem?_getD, List.getD_eq_getElem?_getD]
 by_cases e : j < l.length
 ·
  rw [if_pos e, List.getElem?_append_left e]
 ·
  rw [if_neg e, List.getElem?_append_right (by omega), show j - l.length = 0 by omega]; rfl
structure Sq (p : Int) (n : Nat) (rows : List (List Int)) : Prop where
 len : rows.length = n
 row : ∀ i, i < n → (ro rows i).length = n
 inR : ∀ i, i < n → InR p (ro rows i)
theorem Sq.set {p : Int} {n : Nat} {rows : List (List Int)} (h : Sq p n rows) {b : Nat} (hb : b < n) {x : List Int} (hx : x.length = n) (hr : InR p x) : Sq p n (rows.set b x) := by
 refine ⟨by rw [List.length_set, h.len], fun i hi => ?_, fun i hi => ?_⟩
 ·
  rw [ro_set _ _ _ _ (by rw [h.len]; exact hb)]
  split
  ·
   exact hx
  ·
   exact h.row i hi
 ·
  rw [ro_set _ _ _ _ (by rw [h.len]; exact hb)]
  split
  ·
   exact hr
  ·
   exact h.inR i hi
def sb (rows : List (List Int)) (c : Nat) : Nat → Nat → Int := fun i j => co (ro rows (c + i)) (c + j)
theorem sb_zero {p : Int} {n c : Nat} {rows : List (List Int)} (hc : c < n) (h : ∀ i, c ≤ i → i < n → co (ro rows i) c = 0) : cg p (zdt (n - c) (sb rows c)) 0 := by
 obtain ⟨m, hm⟩ : ∃ m, n - c = m + 1 := ⟨n - c - 1, by omega⟩
 rw [hm]
 refine zdt_zcol fun i hi => ?_
 show cg p (co (ro rows (c + i)) (c + 0)) 0
 rw [Nat.add_zero, h (c + i) (by omega) (by omega)]; exact cg.refl 0
theorem sb_swap {n c b : Nat} {rows : List (List Int)} (hl : rows.length = n) (hc : c < b) (hb : b < n) : zdt (n - c) (sb ((rows.set b (ro rows c)).set c (ro rows b)) c) = - zdt (n - c) (sb rows c) := by
 rw [← zdt_swap (r := 0) (s := b - c) (by omega) (by omega) (by omega)]
 refine zdt_congr fun i j hi _ => ?_
 unfold sb Rin.xc Rin.up
 rw [ro_set _ _ _ _ (by rw [List.length_set, hl]; omega), ro_set _ _ _ _ (by rw [hl]; exact hb)]
 by_cases e : i = b - c
 ·
  rw [if_pos e, if_neg (by omega), if_pos (by omega)]
  show _ = co (ro rows (c + 0)) (c + j)
  rw [Nat.add_zero]
 ·
  rw [if_neg e]
  by_cases e2 : i = 0
  ·
   rw [if_pos e2, if_pos (by omega)]
   show _ = co (ro rows (c + (b - c))) (c + j)
   rw [show c + (b - c) = b by omega]
  ·
   rw [if_neg e2, if_neg (by omega), if_neg (by omega)]
theorem sb_elim {p : Int} {n c : Nat} {R R2 : List (List Int)} (hc : c < n) {iv : Int} (hiv : cg p (co (ro R c) c * iv) 1) (f : Nat → Int) (hf : ∀ i, c < i → i < n → cg p (f i) (co (ro R i) c * iv))
  (h : ∀ i, c < i → i < n → ∀ j, j < n → cg p (co (ro R2 i) j) (co (ro R i) j - f i * co (ro R c) j)) : cg p (zdt (n - c) (sb R c)) (co (ro R c) c * zdt (n - (c + 1)) (sb R2 (c + 1))) := by
 obtain ⟨m, hm⟩ : ∃ m, n - c = m + 1 := ⟨n - c - 1, by omega⟩
 rw [hm, show n - (c + 1) = m by omega]
 have h1 := zdt_elim (p := p) (n := m) (sb R c) (fun i => - f (c + i)) fun i h1 h2 => by
  show cg p (co (ro R (c + i)) (c + 0) + - f (c + i) * co (ro R (c + 0)) (c + 0)) 0
  rw [Nat.add_zero]
  have a := ((hf (c + i) (by omega) (by omega)).neg.mul (cg.refl (co (ro R c) c)))
  have b := (cg.refl (co (ro R (c + i)) c)).add a
  refine b.trans ?_
  have e : co (ro R (c + i)) c + -(co (ro R (c + i)) c * iv) * co (ro R c) c = co (ro R (c + i)) c - co (ro R (c + i)) c * (co (ro R c) c * iv) := by grind
  rw [e]
  have := (cg.refl (co (ro R (c + i)) c)).sub ((cg.refl (co (ro R (c + i)) c)).mul hiv)
  rwa [Int.mul_one, Int.sub_self] at this
 refine h1.trans ?_
 show cg p (co (ro R (c + 0)) (c + 0) * _) _
 rw [Nat.add_zero]
 refine (cg.refl _).mul (zdt_cg fun i j hi hj => ?_)
 show cg p (co (ro R (c + (i + 1))) (c + (j + 1)) + - f (c + (i + 1)) * co (ro R (c + 0)) (c + (j + 1))) (co (ro R2 (c + 1 + i)) (c + 1 + j))
 rw [Nat.add_zero, show c + (i + 1) = c + 1 + i by omega, show c + (j + 1) = c + 1 + j by omega]
 have := (h (c + 1 + i) (by omega) (by omega) (c + 1 + j) (by omega)).symm
 refine cg.trans (cg.of_eq ?_) this
 grind
end Go.Proofs.Ytlmolloallhclaa.H
