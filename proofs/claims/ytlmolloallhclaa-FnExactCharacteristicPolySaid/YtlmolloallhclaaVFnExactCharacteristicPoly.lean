/- Plain laws that the claim of FnExactCharacteristicPoly reaches: numbers modulo a prime, lists, and what the printed functions answer. -/
import Derived.Test.YtlmolloallhclaaYWWords
import Derived.Test.YtlmolloallhclaaYWMore
import Derived.Test.YtlmolloallhclaaMa1
import Derived.Test.YtlmolloallhclaaMa5
import Derived.Test.YtlmolloallhclaaMa2
import Derived.Test.YtlmolloallhclaaMa3
import Derived.Test.YtlmolloallhclaaMa4
import Derived.Test.YtlmolloallhclaaMa6
import Derived.Test.YtlmolloallhclaaMa7
import Derived.Test.YtlmolloallhclaaYHx0
import Derived.Test.YtlmolloallhclaaMa8
set_option linter.unusedVariables false
set_option linter.unusedSimpArgs false
namespace Go.Proofs.Ytlmolloallhclaa.H
open Go.RowKit Go.Proofs.YtlmolloallhclaaW.PrintWords Go.Proofs.YtlmolloallhclaaW.PrintLast Go.Proofs.YtlmolloallhclaaW.PrintMore Go.Proofs.Ytlmolloallhclaa.Num
def tot : List (List Int) → Nat
 | [] => 0
 | l :: ls => l.length + tot ls
def upS : Int → List (List Int) → List (List Int)
 | _, [] => []
 | n, l :: ls => up n l.length :: upS (n + l.length) ls
theorem get_mid (pre : List (List Int)) (l : List Int) (post : List (List Int)) : (pre ++ l :: post).getD pre.length [] = l := by
 rw [List.getD_eq_getElem?_getD, List.getElem?_append_right (Nat.le_refl _), Nat.sub_self]; rfl
theorem rd_mid (pre : List (List Int)) (l : List Int) (post : List (List Int)) : rd_L1 (pre ++ l :: post) (pre.length : Int) = l := by
 unfold rd_L1; rw [Int.toNat_natCast]; exact get_mid pre l post
theorem set_mid (pre : List (List Int)) (l l' : List Int) (post : List (List Int)) : (pre ++ l :: post).set pre.length l' = (pre ++ [l']) ++ post := by
 rw [List.set_append_right _ _ (Nat.le_refl _), Nat.sub_self]; simp
theorem markS_loop : ∀ (todo pre : List (List Int)) (n : Int), (∀ l ∈ todo, l.length ≤ 2000000) → 0 ≤ n → n + tot todo ≤ 100000000 → pre.length + todo.length ≤ 2000000 →
  Ev (fun k => laws_markInt64SS.l0 k (pre ++ todo) n (pre.length : Int)) (n + tot todo, pre ++ upS n todo)
 | [], pre, n, _, _, _, hl => by
  have q1 : ¬ ((pre.length : Int) < ((pre ++ ([] : List (List Int))).length : Int)) := by simp
  refine Ev.succ ?_
  simp only [laws_markInt64SS.l0, if_neg q1, upS, tot]
  exact Ev_to (Ev.now _) (by simp)
 | l :: todo, pre, n, hb, h0, ht, hl => by
  have hbl := hb l (by simp)
  have e1 : (tot (l :: todo) : Int) = l.length + tot todo := by rw [tot]; omega
  simp only [List.length_cons] at hl
  have q1 : ((pre.length : Int) < ((pre ++ l :: todo).length : Int)) := by simp; omega
  have q2 : (0 : Int) ≤ (pre.length : Int) := by omega
  have hm := mark_up l hbl n h0 (by omega)
  have ih := markS_loop todo (pre ++ [up n l.length]) (n + l.length) (fun x hx => hb x (by simp [hx])) (by omega) (by omega) (by simp; omega)
  refine Ev.succ ?_
  simp only [laws_markInt64SS.l0, if_pos q1, if_pos q2, Int.toNat_natCast, get_mid, set_mid]
  refine Ev.bind hm ?_
  simp only [set_mid, wp1 (show pre.length ≤ 1000000000000 by omega)]
  rw [show ((pre ++ [up n l.length]).length : Int) = ((pre.length + 1 : Nat) : Int) by simp] at ih
  refine Ev_to ih ?_
  rw [upS, e1]
  simp only [List.append_assoc, List.singleton_append, Int.add_assoc]
theorem markS_up (ls : List (List Int)) (hb : ∀ l ∈ ls, l.length ≤ 2000000) (n : Int) (h0 : 0 ≤ n) (ht : n + tot ls ≤ 100000000) (hl : ls.length ≤ 2000000) : Ev (fun k => laws_markInt64SS.f k ls n) (n + tot ls, upS n ls) := by
 simp only [laws_markInt64SS.f]
 exact markS_loop ls [] n hb h0 ht (by simpa using hl)
theorem eqS_same (ls : List (List Int)) (hb : ∀ l ∈ ls, l.length ≤ 2000000) (hl : ls.length ≤ 2000000) : Ev (fun k => laws_eqInt64SS.f k ls ls) true := by
 have loop : ∀ d i, i + d = ls.length → Ev (fun k => laws_eqInt64SS.l0 k ls ls (i : Int)) true := by
  intro d
  induction d with
  | zero =>
   intro i hi
   have q1 : ¬ ((i : Int) < (ls.length : Int)) := by omega
   refine Ev.succ ?_
   simp only [laws_eqInt64SS.l0, if_neg q1]; exact Ev.now _
  | succ d ih =>
   intro i hi
   have q1 : (i : Int) < (ls.length : Int) := by omega
   have q2 : (0 : Int) ≤ (i : Int) := by omega
   have hrd : rd_L1 ls (i : Int) = ls[i]'(by omega) := by simp [rd_L1, List.getD_eq_getElem?_getD, show i < ls.length by omega]
   have he : Ev (fun k => laws_eqInt64S.f k (rd_L1 ls (i : Int)) (rd_L1 ls (i : Int))) true := eqI_same _ (by rw [hrd]; exact hb _ (List.getElem_mem _))
   refine Ev.succ ?_
   simp only [laws_eqInt64SS.l0, if_pos q1, if_pos q2]
   refine Ev.bind he ?_
   simp only [if_true, wp1 (show i ≤ 1000000000000 by omega)]
   exact ih (i + 1) (by omega)
 simp only [laws_eqInt64SS.f, if_true]
 exact loop ls.length 0 (by omega)
def ls (p : Int) (V : Nat → Int) (N : Nat) : List Int := trimL ((List.range N).map fun i => V i % p)
end Go.Proofs.Ytlmolloallhclaa.H
