/- Joined texts of a claim: the printed functions and what is proved of them. -/
import Derived.Test.YtlmolloallhclaaMa8
import Derived.Test.YtlmolloallhclaaMa2
import Derived.Test.YtlmolloallhclaaYHx0
import Derived.Test.YtlmolloallhclaaMa4
import Derived.Test.YtlmolloallhclaaMa1
namespace Go.Proofs.Ytlmolloallhclaa.H
open Go.RowKit Go.Proofs.YtlmolloallhclaaW.PrintWords Go.Proofs.YtlmolloallhclaaW.PrintLast Go.Proofs.YtlmolloallhclaaW.PrintMore
attribute [local go_sem] max2_int min2_int max_two min_two max_three min_three max_four min_four   -- for this text's walks alone
set_option linter.unusedVariables false
set_option linter.unusedSimpArgs false
structure DM (W : World) (base g n : Nat) (b cp : Nat → Nat) (rows : List (List Int)) : Prop where
 lg : base ≤ g
 lb : ∀ i, i < rows.length → base ≤ b i
 ne : ∀ i, i < rows.length → b i ≠ g
 inj : ∀ i j, i < rows.length → j < rows.length → b i = b j → i = j
 cap : ∀ i, i < rows.length → n ≤ cp i
 top : ∃ cs : Array Value, W.heap[g]? = some (.cells cs 22 (0, 0)) ∧ n ≤ cs.size ∧ ∀ i, i < rows.length → cs[i]? = some (.slice (some ⟨b i, 0, none⟩) n (cp i))
 row : ∀ i, i < rows.length → ∃ cs : Array Value, W.heap[b i]? = some (.cells cs 2 (0, 0)) ∧ ∀ k, k < n → cs[k]? = some (.int .i64 (co (ro rows i) k))
section
variable {W W1 : World} {base g n : Nat} {b cp : Nat → Nat} {rows : List (List Int)}
theorem blk_lt' {W : World} {g : Nat} {o : Obj} (h : W.heap[g]? = some o) : g < W.heap.size := by
 rcases Nat.lt_or_ge g W.heap.size with h' | h'
 ·
  exact h'
 ·
  rw [Array.getElem?_eq_none h'] at h; cases h
theorem DM.step (h : DM W base g n b cp rows) (hm : ∀ k, k < W.heap.size → (k = g ∨ ∃ i, i < rows.length ∧ k = b i) → W1.heap[k]? = W.heap[k]?) : DM W1 base g n b cp rows := by
 refine ⟨h.lg, h.lb, h.ne, h.inj, h.cap, ?_, fun i hi => ?_⟩
 ·
  obtain ⟨cs, hc, h1, h2⟩ := h.top
  exact ⟨cs, (hm g (blk_lt' hc) (.inl rfl)).trans hc, h1, h2⟩
 ·
  obtain ⟨cs, hc, h1⟩ := h.row i hi
  exact ⟨cs, (hm (b i) (blk_lt' hc) (.inr ⟨i, hi, rfl⟩)).trans hc, h1⟩
theorem DM.below (h : DM W base g n b cp rows) (hb : Below W.heap.size W W1) : DM W1 base g n b cp rows := h.step fun k hk _ => hb.block k hk
theorem DM.drewN (h : DM W base g n b cp rows) (m : Nat) : DM (W.drewN m) base g n b cp rows := h.below (pw_below_drewN (Below.refl _ _) m)
theorem DM.drew (h : DM W base g n b cp rows) : DM W.drew base g n b cp rows := h.below (below_drew (Below.refl _ _))
theorem DM.cell (h : DM W base g n b cp rows) {i k : Nat} (hi : i < rows.length) (hk : k < n) : W.cell? ⟨b i, k, none⟩ = some (.int .i64 (co (ro rows i) k)) := by
 obtain ⟨cs, hc, h1⟩ := h.row i hi
 rw [blk_cell hc]; exact h1 k hk
theorem DM.fr (h : DM W base g n b cp rows) {i : Nat} (hi : i < rows.length) (k : Nat) : W.frozen? ⟨b i, k, none⟩ = false := by
 obtain ⟨cs, hc, _⟩ := h.row i hi
 exact blk_frozen hc k
theorem DM.snoc (h : DM W base g n b cp rows) {q c : Nat} {x : List Int} {cur : Array Value} (hl : rows.length < n) (hq : W.heap[q]? = some (.cells cur 2 (0, 0))) (hbq : base ≤ q) (hqg : q ≠ g) (hqb : ∀ i, i < rows.length → b i ≠ q) (hnc : n ≤ c) (hx : ∀ k, k < n → cur[k]? = some (.int .i64 (co x k))) :
  DM (W.setCell ⟨g, rows.length, none⟩ (.slice (some ⟨q, 0, none⟩) n c)) base g n (fun i => if i = rows.length then q else b i) (fun i => if i = rows.length then c else cp i) (rows ++ [x]) := by
 have e : (rows ++ [x]).length = rows.length + 1 := by simp
 have hro : ∀ i, i < rows.length → ro (rows ++ [x]) i = ro rows i := fun i hi => by
  unfold ro
  rw [List.getD_eq_getElem?_getD, List.getD_eq_getElem?_getD, List.getElem?_append_left hi]
 have hrl : ro (rows ++ [x]) rows.length = x := by
  unfold ro
  rw [List.getD_eq_getElem?_getD, List.getElem?_append_right (Nat.le_refl _), Nat.sub_self]; rfl
 refine ⟨h.lg, fun i hi => ?_, fun i hi => ?_, fun i j hi hj he => ?_, fun i hi => ?_, ?_, fun i hi => ?_⟩
 ·
  show base ≤ if i = rows.length then q else b i
  split
  ·
   exact hbq
  ·
   exact h.lb i (by omega)
 ·
  show (if i = rows.length then q else b i) ≠ g
  split
  ·
   exact hqg
  ·
   exact h.ne i (by omega)
 ·
  replace he : (if i = rows.length then q else b i) = if j = rows.length then q else b j := he
  by_cases h1 : i = rows.length
  ·
   by_cases h2 : j = rows.length
   ·
    omega
   ·
    rw [if_pos h1, if_neg h2] at he
    exact absurd he.symm (hqb j (by omega))
  ·
   by_cases h2 : j = rows.length
   ·
    rw [if_neg h1, if_pos h2] at he
    exact absurd he (hqb i (by omega))
   ·
    rw [if_neg h1, if_neg h2] at he
    exact h.inj i j (by omega) (by omega) he
 ·
  show n ≤ if i = rows.length then c else cp i
  split
  ·
   exact hnc
  ·
   exact h.cap i (by omega)
 ·
  obtain ⟨cs, hc, h1, h2⟩ := h.top
  refine ⟨_, blk_set hc rows.length _, by simpa using h1, fun i hi => ?_⟩
  show _ = some (Value.slice (some ⟨if i = rows.length then q else b i, 0, none⟩) n (if i = rows.length then c else cp i))
  by_cases h3 : i = rows.length
  ·
   subst h3
   rw [if_pos rfl, if_pos rfl, Array.getElem?_setIfInBounds_self_of_lt (by omega)]
  ·
   rw [if_neg h3, if_neg h3, Array.getElem?_setIfInBounds_ne (by omega)]
   exact h2 i (by omega)
 ·
  show ∃ cs : Array Value, (W.setCell ⟨g, rows.length, none⟩ (.slice (some ⟨q, 0, none⟩) n c)).heap[if i = rows.length then q else b i]? = _ ∧ _
  by_cases h3 : i = rows.length
  ·
   subst h3
   rw [if_pos rfl, hrl]
   exact ⟨cur, blk_far hq hqg _, hx⟩
  ·
   rw [if_neg h3, hro i (by omega)]
   obtain ⟨cs, hc, h1⟩ := h.row i (by omega)
   exact ⟨cs, blk_far hc (h.ne i (by omega)) _, h1⟩
theorem DM.put (h : DM W base g n b cp rows) {i k : Nat} {x : Int} {R2 : List (List Int)} (hi : i < rows.length) (hk : k < n) (hl : R2.length = rows.length) (ho : ∀ j, j ≠ i → ro R2 j = ro rows j) (hx : ∀ t, t < n → co (ro R2 i) t = if t = k then x else co (ro rows i) t) :
  DM (W.setCell ⟨b i, k, none⟩ (.int .i64 x)) base g n b cp R2 := by
 refine ⟨h.lg, fun j hj => h.lb j (by omega), fun j hj => h.ne j (by omega), fun j m hj hm => h.inj j m (by omega) (by omega), fun j hj => h.cap j (by omega), ?_, fun j hj => ?_⟩
 ·
  obtain ⟨cs, hc, h1, h2⟩ := h.top
  exact ⟨cs, blk_far hc (fun e => h.ne i hi e.symm) _, h1, fun j hj => h2 j (by omega)⟩
 ·
  obtain ⟨cs, hc, h1⟩ := h.row j (by omega)
  by_cases e : j = i
  ·
   subst e
   refine ⟨_, blk_set hc k _, fun t ht => ?_⟩
   rw [hx t ht]
   by_cases e2 : t = k
   ·
    subst e2
    have : t < cs.size := by
     rcases Nat.lt_or_ge t cs.size with h' | h'
     ·
      exact h'
     ·
      have := h1 t ht; rw [Array.getElem?_eq_none h'] at this; cases this
    rw [if_pos rfl, Array.getElem?_setIfInBounds_self_of_lt this]
   ·
    rw [if_neg e2, Array.getElem?_setIfInBounds_ne (by omega)]
    exact h1 t ht
  ·
   rw [ho j e]
   exact ⟨cs, blk_far hc (fun e2 => e (h.inj j i (by omega) hi e2)) _, h1⟩
end
end Go.Proofs.Ytlmolloallhclaa.H
