/- Joined texts of a claim: the printed functions and what is proved of them. -/
import Derived.Test.YtlmolloallhclaaMa4
import Derived.Test.YtlmolloallhclaaMa1
import Derived.Test.YtlmolloallhclaaMa2
import Derived.Test.YtlmolloallhclaaYWWords
import Derived.Test.YtlmolloallhclaaYHx0
import Derived.Test.YtlmolloallhclaaMa3
set_option linter.unusedVariables false
set_option linter.unusedSimpArgs false
namespace Go.Proofs.Ytlmolloallhclaa.H
open Go.RowKit Go.Proofs.YtlmolloallhclaaW.PrintWords Go.Proofs.YtlmolloallhclaaW.PrintLast Go.Proofs.Ytlmolloallhclaa.Num
end Go.Proofs.Ytlmolloallhclaa.H
set_option linter.unusedVariables false
set_option linter.unusedSimpArgs false
namespace Go.Proofs.Ytlmolloallhclaa.H
open Go.RowKit Go.Proofs.YtlmolloallhclaaW.PrintWords Go.Proofs.Ytlmolloallhclaa.Num
theorem Ev.succ {α : Type} {g : Nat → Option α} {r : α} (h : Ev (fun k => g (k + 1)) r) : Ev g r := by
 obtain ⟨K, h⟩ := h
 refine ⟨K + 1, fun k hk => ?_⟩
 obtain ⟨m, rfl⟩ : ∃ m, k = m + 1 := ⟨k - 1, by omega⟩
 exact h m (by omega)
theorem Ev_to {α : Type} {g : Nat → Option α} {r r' : α} (h : Ev g r) (e : r = r') : Ev g r' := e ▸ h
theorem wp1 {i : Nat} (h : i ≤ 1000000000000) : wrap64 ((i : Int) + 1) = ((i + 1 : Nat) : Int) := by rw [w64 (by omega) (by omega)]; omega
theorem wm1 {i : Nat} (h : i ≤ 1000000000000) : wrap64 ((i : Int) - 1) = (i : Int) - 1 := w64 (by omega) (by omega)
theorem ws1 {i : Nat} : ((i + 1 : Nat) : Int) - 1 = (i : Int) := by omega
theorem rd_n (l : List Int) (i : Nat) : rd l (i : Int) = l.getD i 0 := by simp [rd]
end Go.Proofs.Ytlmolloallhclaa.H
namespace Go.Proofs.Ytlmolloallhclaa.H
open Go.RowKit Go.Proofs.YtlmolloallhclaaW.PrintWords Go.Proofs.YtlmolloallhclaaW.PrintLast Go.Proofs.YtlmolloallhclaaW.PrintMore
attribute [local go_sem] max2_int min2_int max_two min_two max_three min_three max_four min_four   -- for this text's walks alone
set_option linter.unusedVariables false
set_option linter.unusedSimpArgs false
attribute [local go_sem] Oper.semAt_some
open Go.Shelf
def KpB (n₀ Bs : Nat) (W W' : World) : Prop := Below n₀ W W' ∧ W'.heap[Bs]? = W.heap[Bs]?
theorem KpB.refl (n₀ Bs : Nat) (W : World) : KpB n₀ Bs W W := ⟨Below.refl _ _, rfl⟩
theorem KpB.trans {n₀ Bs : Nat} {X Y Z : World} (h : KpB n₀ Bs X Y) (k : KpB n₀ Bs Y Z) : KpB n₀ Bs X Z := ⟨h.1.trans k.1, k.2.trans h.2⟩
theorem KpB.put {n₀ Bs : Nat} {w : World} (hn : n₀ ≤ w.heap.size) (hB : Bs < w.heap.size) (W : World) (l : Nat) (o o' : Obj) (hl : w.heap.size ≤ l) (h : W.heap[l]? = some o) (hc : o.isCells = false) (hw : o.isWalk = false) : KpB n₀ Bs W (W.putObj l o') :=
 ⟨belowK_b hn W l o o' hl h hc hw, (belowK_b (n₀ := Bs + 1) (w := w) hB W l o o' hl h hc hw).block Bs (Nat.lt_succ_self _)⟩
end Go.Proofs.Ytlmolloallhclaa.H
namespace Go.Proofs.Ytlmolloallhclaa.H
open Go.RowKit Go.Proofs.YtlmolloallhclaaW.PrintWords Go.Proofs.YtlmolloallhclaaW.PrintLast Go.Proofs.YtlmolloallhclaaW.PrintMore
attribute [local go_sem] max2_int min2_int max_two min_two max_three min_three max_four min_four   -- for this text's walks alone
set_option linter.unusedVariables false
set_option linter.unusedSimpArgs false
end Go.Proofs.Ytlmolloallhclaa.H
set_option linter.unusedVariables false
set_option linter.unusedSimpArgs false
namespace Go.Proofs.Ytlmolloallhclaa.H
open Go.RowKit Go.Proofs.YtlmolloallhclaaW.PrintWords Go.Proofs.YtlmolloallhclaaW.PrintLast Go.Proofs.YtlmolloallhclaaW.PrintMore Go.Proofs.Ytlmolloallhclaa.Num
theorem in_any (x a b : Int) : spec_l01In.f x a b = some (decide (a ≤ x) && decide (x ≤ b)) := by
 unfold spec_l01In.f; by_cases h : x ≥ a
 ·
  rw [if_pos h, decide_eq_true h, Bool.true_and]
 ·
  rw [if_neg h, decide_eq_false h, Bool.false_and]
theorem in_has {p : Int} (hp : IsP p) (x : Int) : spec_l01In.f x 0 (wrap64 (p - 1)) = some (hasB p x) := by
 rw [in_any, w64 (by have := hp.1; omega) (by have := hp.2.1; omega)]; unfold hasB; congr 2; exact decide_eq_decide.2 (by omega)
theorem _root_.Go.Proofs.Ytlmolloallhclaa.Num.IsP.p2 {p : Int} (h : IsP p) : 2 ≤ p := h.1
theorem _root_.Go.Proofs.Ytlmolloallhclaa.Num.IsP.p0 {p : Int} (h : IsP p) : 0 < p := by have := h.1; omega
end Go.Proofs.Ytlmolloallhclaa.H
namespace Go.Proofs.Ytlmolloallhclaa.H
open Go.RowKit Go.Proofs.YtlmolloallhclaaW.PrintWords Go.Proofs.YtlmolloallhclaaW.PrintLast Go.Proofs.YtlmolloallhclaaW.PrintMore
attribute [local go_sem] max2_int min2_int max_two min_two max_three min_three max_four min_four   -- for this text's walks alone
set_option linter.unusedVariables false
set_option linter.unusedSimpArgs false
end Go.Proofs.Ytlmolloallhclaa.H
set_option linter.unusedVariables false
set_option linter.unusedSimpArgs false
namespace Go.Proofs.Ytlmolloallhclaa.H
open Go.RowKit Go.Proofs.YtlmolloallhclaaW.PrintWords Go.Proofs.YtlmolloallhclaaW.PrintLast Go.Proofs.YtlmolloallhclaaW.PrintMore Go.Proofs.Ytlmolloallhclaa.Num
def co (l : List Int) (i : Nat) : Int := l.getD i 0
theorem co_ge {l : List Int} {i : Nat} (h : l.length ≤ i) : co l i = 0 := by simp [co, List.getD_eq_getElem?_getD, h]
theorem co_set (l : List Int) (i j : Nat) (x : Int) (h : i < l.length) : co (l.set i x) j = if j = i then x else co l j := by
 unfold co
 simp only [List.getD_eq_getElem?_getD]
 by_cases e : j = i
 ·
  subst e; rw [List.getElem?_set_self h, if_pos rfl]; rfl
 ·
  rw [List.getElem?_set_ne (Ne.symm e), if_neg e]
theorem co_take {l : List Int} {n i : Nat} : co (l.take n) i = if i < n then co l i else 0 := by
 unfold co
 simp only [List.getD_eq_getElem?_getD, List.getElem?_take]
 split <;> rfl
theorem InR.co {p : Int} {l : List Int} (h : InR p l) (hp : 0 < p) (i : Nat) : 0 ≤ co l i ∧ co l i < p := h.get hp i
theorem tlen_zero (l : List Int) : ∀ n i, tlen l n ≤ i → i < n → l.getD i 0 = 0
 | 0, i, _, h => by omega
 | n + 1, i, h1, h2 => by
  unfold tlen at h1
  split at h1
  ·
   rename_i h0
   by_cases e : i = n
   ·
    subst e; exact h0
   ·
    exact tlen_zero l n i h1 (by omega)
  ·
   omega
theorem tlen_last (l : List Int) : ∀ n, tlen l n = 0 ∨ l.getD (tlen l n - 1) 0 ≠ 0
 | 0 => .inl rfl
 | n + 1 => by
  unfold tlen
  split
  ·
   exact tlen_last l n
  ·
   right; simpa using ‹_›
theorem trimL_length (l : List Int) : (trimL l).length = tlen l l.length := by
 unfold trimL; rw [List.length_take, Nat.min_eq_left (tlen_le _ _)]
theorem co_trim (l : List Int) (i : Nat) : co (trimL l) i = co l i := by
 unfold trimL
 rw [co_take]
 split
 ·
  rfl
 ·
  rename_i h
  by_cases hi : i < l.length
  ·
   exact (tlen_zero l l.length i (by omega) hi).symm
  ·
   exact (co_ge (by omega)).symm
def Nz (l : List Int) : Prop := l.length = 0 ∨ co l (l.length - 1) ≠ 0
theorem Nz.trim (l : List Int) : Nz (trimL l) := by
 unfold Nz
 rw [co_trim, trimL_length]
 exact tlen_last l l.length
theorem Nz.len_le {l : List Int} (h : Nz l) {n : Nat} (hz : ∀ i, n ≤ i → co l i = 0) : l.length ≤ n := by
 rcases h with h | h
 ·
  omega
 ·
  rcases Nat.lt_or_ge n l.length with hl | hl
  ·
   exact absurd (hz _ (by omega)) h
  ·
   exact hl
theorem Nz.ext {l l' : List Int} (h : Nz l) (h' : Nz l') (he : ∀ i, co l i = co l' i) : l = l' := by
 have h1 : l.length ≤ l'.length := h.len_le fun i hi => by rw [he]; exact co_ge hi
 have h2 : l'.length ≤ l.length := h'.len_le fun i hi => by rw [← he]; exact co_ge hi
 refine List.ext_getElem (by omega) fun i a b => ?_
 have := he i
 unfold co at this
 rwa [List.getD_eq_getElem?_getD, List.getD_eq_getElem?_getD, List.getElem?_eq_getElem a, List.getElem?_eq_getElem b] at this
theorem Po.of {p : Int} {l : List Int} (hl : l.length ≤ 25) (hr : InR p l) (hz : Nz l) : Po p l := by
 refine ⟨hl, hr, ?_⟩
 rcases hz with h | h
 ·
  exact .inl h
 ·
  by_cases h0 : l.length = 0
  ·
   exact .inl h0
  ·
   right
   unfold co at h
   rwa [← rd_nat, show ((l.length - 1 : Nat) : Int) = (l.length : Int) - 1 by omega] at h
theorem Nz.top {p : Int} {l : List Int} (h : Nz l) (hr : InR p l) (hp : 0 < p) (h0 : 0 < l.length) : 0 < co l (l.length - 1) ∧ co l (l.length - 1) < p := by
 have h1 := hr.co hp (l.length - 1)
 rcases h with h2 | h2
 ·
  omega
 ·
  omega
end Go.Proofs.Ytlmolloallhclaa.H
set_option linter.unusedVariables false
set_option linter.unusedSimpArgs false
namespace Go.Proofs.Ytlmolloallhclaa.H
open Go.RowKit Go.Proofs.YtlmolloallhclaaW.PrintWords Go.Proofs.YtlmolloallhclaaW.PrintLast Go.Proofs.YtlmolloallhclaaW.PrintMore Go.Proofs.Ytlmolloallhclaa.Num
def ro (rows : List (List Int)) (i : Nat) : List Int := rows.getD i []
theorem ro_set (rows : List (List Int)) (b i : Nat) (x : List Int) (h : b < rows.length) : ro (rows.set b x) i = if i = b then x else ro rows i := by
 unfold ro
 rw [List.getD_eq_getElem?_getD, List.getD_eq_getElem?_getD]
 by_cases e : i = b
 ·
  subst e; rw [if_pos rfl, List.getElem?_set_self h]; rfl
 ·
  rw [if_neg e, List.getElem?_set_ne (fun h => e h.symm)]
structure Sq (p : Int) (n : Nat) (rows : List (List Int)) : Prop where
 len : rows.length = n
 row : ∀ i, i < n → (ro rows i).length = n
 inR : ∀ i, i < n → InR p (ro rows i)
theorem Sq.set {p : Int} {n : Nat} {rows : List (List Int)} (h : Sq p n rows) {b : Nat} (hb : b < n) {x : List Int} (hx : x.length = n) (hr : InR p x) : Sq p n (rows.set b x) := by
 refine ⟨by rw [List.length_set, h.len], fun i hi => ?_, fun i hi => ?_⟩
 ·
  rw [ro_set _ _ _ _ (by rw [h.len]; exact hb)]
  split
  ·
   exact hx
  ·
   exact h.row i hi
 ·
  rw [ro_set _ _ _ _ (by rw [h.len]; exact hb)]
  split
  ·
   exact hr
  ·
   exact h.inR i hi
end Go.Proofs.Ytlmolloallhclaa.H
set_option linter.unusedVariables false
set_option linter.unusedSimpArgs false
namespace Go.Proofs.Ytlmolloallhclaa.H
open Go.RowKit Go.Proofs.Ytlmolloallhclaa.Num
theorem ch_lt {α : Type} [Inhabited α] {n : Nat} {P : Nat → α → Prop} (h : ∀ i, i < n → ∃ y, P i y) : ∃ f : Nat → α, ∀ i, i < n → P i (f i) := by
 classical
 exact ⟨fun i => if hi : i < n then (h i hi).choose else default, fun i hi => by simp only [dif_pos hi]; exact (h i hi).choose_spec⟩
def mx (rows : List (List Int)) : Nat → Nat → Int := fun i j => co (ro rows i) j
def pt (rows : List (List Int)) (i k : Nat) (v : Int) : List (List Int) := rows.set i ((ro rows i).set k v)
theorem pt_len (rows : List (List Int)) (i k : Nat) (v : Int) : (pt rows i k v).length = rows.length := by simp [pt]
theorem pt_ro (rows : List (List Int)) (i k : Nat) (v : Int) {a : Nat} (h : a ≠ i) : ro (pt rows i k v) a = ro rows a := by
 unfold ro pt
 rw [List.getD_eq_getElem?_getD, List.getD_eq_getElem?_getD, List.getElem?_set_ne (fun e => h e.symm)]
theorem pt_ro_self {rows : List (List Int)} {i : Nat} (k : Nat) (v : Int) (hi : i < rows.length) : ro (pt rows i k v) i = (ro rows i).set k v := by
 unfold pt
 show (rows.set i ((ro rows i).set k v)).getD i [] = _
 rw [List.getD_eq_getElem?_getD, List.getElem?_set_self hi]; rfl
theorem pt_mx {rows : List (List Int)} {i k : Nat} (v : Int) (hi : i < rows.length) (hk : k < (ro rows i).length) (a b : Nat) : mx (pt rows i k v) a b = if a = i ∧ b = k then v else mx rows a b := by
 unfold mx
 by_cases ha : a = i
 ·
  subst ha
  rw [pt_ro_self k v hi]
  unfold co
  rw [List.getD_eq_getElem?_getD, List.getD_eq_getElem?_getD]
  by_cases hb : b = k
  ·
   subst hb; rw [if_pos ⟨rfl, rfl⟩, List.getElem?_set_self hk]; rfl
  ·
   rw [if_neg (fun h => hb h.2), List.getElem?_set_ne (fun e => hb e.symm)]
 ·
  rw [pt_ro _ _ _ _ ha, if_neg (fun h => ha h.1)]
theorem Sq.rol {p : Int} {n : Nat} {rows : List (List Int)} (h : Sq p n rows) {i : Nat} (hi : i < n) : (ro rows i).length = n ∧ InR p (ro rows i) := ⟨h.row i hi, h.inR i hi⟩
theorem Sq.bd {p : Int} {n : Nat} {rows : List (List Int)} (h : Sq p n rows) {i j : Nat} (hi : i < n) (hj : j < n) : 0 ≤ mx rows i j ∧ mx rows i j < p := by
 obtain ⟨h1, h2⟩ := h.rol hi
 unfold mx co
 rw [List.getD_eq_getElem?_getD, List.getElem?_eq_getElem (by omega : j < (ro rows i).length)]
 exact h2 _ (List.getElem_mem _)
theorem Sq.pt {p : Int} {n : Nat} {rows : List (List Int)} (h : Sq p n rows) {i k : Nat} {v : Int} (hi : i < n) (hv : 0 ≤ v ∧ v < p) : Sq p n (pt rows i k v) := by
 obtain ⟨h1, h2⟩ := h.rol hi
 refine h.set hi (by rw [List.length_set]; exact h1) fun x hx => ?_
 rcases List.mem_or_eq_of_mem_set hx with hx | rfl
 ·
  exact h2 x hx
 ·
  exact hv
structure HI (p : Int) (n : Nat) (D : Nat → Int) (c : Nat) (rows : List (List Int)) : Prop where
 sq : Sq p n rows
 z : ∀ j i, j < c → j + 1 < i → i < n → mx rows i j = 0
 d : ∀ t, cg p (Dy n (mx rows) t) (D t)
section
variable {p : Int} {n c : Nat} {D : Nat → Int} {rows R2 : List (List Int)}
theorem HI.start (h : Sq p n rows) : HI p n (Dy n (mx rows)) 0 rows := ⟨h, fun _ _ h => by omega, fun t => cg.refl _⟩
theorem HI.next (h : HI p n D c rows) (hz : ∀ i, c + 1 < i → i < n → mx rows i c = 0) : HI p n D (c + 1) rows :=
 ⟨h.sq, fun j i hj hi hn => by
  by_cases e : j = c
  ·
   subst e; exact hz i hi hn
  ·
   exact h.z j i (by omega) hi hn, h.d⟩
theorem HI.swap (h : HI p n D c rows) {r s : Nat} (hs : c < s) (hsr : s < r) (hr : r < n) (sq : Sq p n R2) (he : ∀ a b, a < n → b < n → mx R2 a b = mx rows (trx r s a) (trx r s b)) : HI p n D c R2 :=
 ⟨sq, fun j i hj hi hn => by
  rw [he i j hn (by omega)]
  have e1 : trx r s j = j := by unfold trx; rw [if_neg (by omega), if_neg (by omega)]
  rw [e1]
  unfold trx
  split
  ·
   exact h.z j s hj (by omega) (by omega)
  ·
   split
   ·
    exact h.z j r hj (by omega) hr
   ·
    exact h.z j i hj hi hn, fun t => by
  rw [Dy_congr he, Dy_swap hr (by omega) (by omega)]
  exact h.d t⟩
theorem HI.elim (h : HI p n D c rows) {r s : Nat} {k : Int} (hs : c < s) (hsr : s < r) (hr : r < n) (sq : Sq p n R2) (he : ∀ a b, a < n → b < n → cg p (mx R2 a b) (sim2 (mx rows) r s k a b)) : HI p n D c R2 :=
 ⟨sq, fun j i hj hi hn => by
  have h1 := he i j hn (by omega)
  have e : sim2 (mx rows) r s k i j = 0 := by
   unfold sim2
   rw [if_neg (show ¬ j = s by omega)]
   unfold sim1
   split
   ·
    rw [h.z j r hj (by omega) hr, h.z j s hj (by omega) (by omega)]; simp
   ·
    exact h.z j i hj hi hn
  rw [e] at h1
  have h2 := sq.bd hn (show j < n by omega)
  exact cg.eq h1 h2 ⟨by omega, by omega⟩, fun t => by
  refine (Dy_cg he t).trans ?_
  rw [Dy_sim hr (by omega) (by omega)]
  exact h.d t⟩
theorem elim_zero (sq : Sq p n R2) {r s : Nat} {k inv : Int} (hcs : c < s) (hsr : s < r) (hr : r < n) (he : ∀ a b, a < n → b < n → cg p (mx R2 a b) (sim2 (mx rows) r s k a b)) (hk : cg p k (mx rows r c * inv)) (hinv : cg p (mx rows s c * inv) 1) : mx R2 r c = 0 := by
 have h1 := he r c hr (by omega)
 have e : sim2 (mx rows) r s k r c = mx rows r c - k * mx rows s c := by
  unfold sim2
  rw [if_neg (show ¬ c = s by omega)]
  unfold sim1
  rw [if_pos rfl]
 rw [e] at h1
 have h2 : cg p (k * mx rows s c) (mx rows r c) := by
  refine (hk.mul (cg.refl _)).trans ?_
  have e2 : mx rows r c * inv * mx rows s c = mx rows r c * (mx rows s c * inv) := by grind
  rw [e2]
  have := (cg.refl (p := p) (mx rows r c)).mul hinv
  rwa [Int.mul_one] at this
 have h3 := h1.trans ((cg.refl (mx rows r c)).sub h2)
 rw [Int.sub_self] at h3
 have h4 := sq.bd hr (show c < n by omega)
 exact cg.eq h3 h4 ⟨by omega, by omega⟩
theorem elim_keep {r s i : Nat} {k : Int} (sq : Sq p n R2) (sq0 : Sq p n rows) (hcs : c < s) (hn : s < n) (hi : i < n) (hir : i ≠ r) (he : ∀ a b, a < n → b < n → cg p (mx R2 a b) (sim2 (mx rows) r s k a b)) : mx R2 i c = mx rows i c := by
 have h1 := he i c hi (by omega)
 have e : sim2 (mx rows) r s k i c = mx rows i c := by
  unfold sim2
  rw [if_neg (show ¬ c = s by omega)]
  unfold sim1
  rw [if_neg hir]
 rw [e] at h1
 exact cg.eq h1 (sq.bd hi (by omega)) (sq0.bd hi (by omega))
end
end Go.Proofs.Ytlmolloallhclaa.H
namespace Go.Proofs.Ytlmolloallhclaa.H
open Go.RowKit Go.Proofs.YtlmolloallhclaaW.PrintWords Go.Proofs.YtlmolloallhclaaW.PrintLast Go.Proofs.YtlmolloallhclaaW.PrintMore
attribute [local go_sem] max2_int min2_int max_two min_two max_three min_three max_four min_four   -- for this text's walks alone
set_option linter.unusedVariables false
set_option linter.unusedSimpArgs false
end Go.Proofs.Ytlmolloallhclaa.H
set_option linter.unusedVariables false
set_option linter.unusedSimpArgs false
namespace Go.Proofs.Ytlmolloallhclaa.H
open Go.RowKit Go.Proofs.YtlmolloallhclaaW.PrintWords Go.Proofs.YtlmolloallhclaaW.PrintLast Go.Proofs.YtlmolloallhclaaW.PrintMore Go.Proofs.Ytlmolloallhclaa.Num
end Go.Proofs.Ytlmolloallhclaa.H
namespace Go.Proofs.Ytlmolloallhclaa.H
open Go.RowKit Go.Proofs.YtlmolloallhclaaW.PrintWords Go.Proofs.YtlmolloallhclaaW.PrintLast Go.Proofs.YtlmolloallhclaaW.PrintMore
attribute [local go_sem] max2_int min2_int max_two min_two max_three min_three max_four min_four   -- for this text's walks alone
set_option linter.unusedVariables false
set_option linter.unusedSimpArgs false
def slices_Reverse_int64_int64.l0 : Nat → List Int → Int → Int → Option (List Int)
 | 0, _, _, _ => none
 | k + 1, x0, x2, x3 => if x2 < x3 then (if 0 ≤ x3 then (if x3 < (x0.length : Int) then (if 0 ≤ x2 then (if x2 < (x0.length : Int) then (slices_Reverse_int64_int64.l0 k ((x0.set (x2 : Int).toNat (rd x0 x3)).set (x3 : Int).toNat (rd x0 x2)) (wrap64 (x2 + 1)) (wrap64 (x3 - 1))) else (none)) else (none)) else (none)) else (none)) else (some x0)
def slices_Reverse_int64_int64.f (k : Nat) (l0 : List Int) : Option (List Int) := slices_Reverse_int64_int64.l0 k l0 0 (wrap64 ((l0.length : Int) - 1))
def slices_Reverse_int64_int64.T3 : Bool × List (List Nat × List Nat) := (true, [([], []), ([], []), ([], []), ([], []), ([], []), ([], []), ([4, 5], [4, 5]), ([6], [6]), ([], []), ([], []), ([8, 9], [8, 9]), ([10], [10]), ([0, 1, 0, 1, 4, 5, 6, 7, 11], [0, 1]), ([12, 7, 0, 1, 4, 5, 6, 7, 11], [7, 12]), ([2, 3, 0, 1, 2, 3, 4, 5, 6, 7, 8, 9, 10, 11, 12, 13], [2, 3]), ([14, 11, 13, 0, 1, 2, 3, 4, 5, 6, 7, 8, 9, 10, 11, 12, 13], [11, 14])])
def slices_Reverse_int64_int64.B3 : List Nat := [0, 0, 0, 0, 0, 0, 48, 112, 0, 0, 768, 1792, 4083, 8179, 16383, 32767]
theorem slices_Reverse_int64_int64.tab3 : rtab .any (opsOf Try.f94 3) = slices_Reverse_int64_int64.T3 := by kernel_rfl
theorem slices_Reverse_int64_int64.bits3 : waitsOk slices_Reverse_int64_int64.T3.2 slices_Reverse_int64_int64.B3 = true := by kernel_rfl
set_option maxHeartbeats 8000000 in
set_option maxRecDepth 100000 in
theorem slices_Reverse_int64_int64.calls (k : Nat) (P0_ : Nat → Prop) (u9000_ : Value) (l0 : List Int) (r : List Int) (w0 w : World) (hB : Below w0.heap.size w0 w) (ho0 : Kd.R (Kd.int .i64) 2 w w0.heap.size P0_ u9000_ l0) (h : slices_Reverse_int64_int64.f k l0 = some r) :
  Calls Try.prog 94 #[u9000_] w fun e w' => e = .returned (.tuple #[]) ∧ Kd.R (Kd.int .i64) 2 w' w0.heap.size (fun k_ => (P0_ k_ ∨ w.heap.size ≤ k_)) u9000_ r ∧ Below w0.heap.size w0 w' ∧ Kept w w' (fun k_ => P0_ k_) := by
 have HO0 := as0 (show Kd.R (Kd.int .i64) 2 w w0.heap.size (fun k_ => (P0_ k_ ∨ w.heap.size ≤ k_)) u9000_ l0 from Kd.R_mono ho0 (fun k_ hk => (.inl hk)))
 have HK := as0 (Kept.refl w (fun k_ => P0_ k_))
 have HW0 := as0 hB.size
 have HB := as0 hB
 clear hB
 have H : (slices_Reverse_int64_int64.l0 k l0 0 (wrap64 ((l0.length : Int) - 1))) = some r := h
 clear h
 have H' := as0 H
 clear H
 obtain ⟨Ao2, co2, eo2⟩ := Kd.R_slice HO0.out
 subst eo2
 go_enter Try.func94, Try.ntmps94
 go_wp2
 go_loopg [2, 3] k (fun kq v2 v3 w' => ∃ (x0_1 : List Int) (x2_1 : Int) (x3_1 : Int), v2 = .int .i64 x2_1 ∧ v3 = .int .i64 x3_1 ∧ Aside0 (slices_Reverse_int64_int64.l0 kq x0_1 x2_1 x3_1 = some r) ∧ Aside0 (kq ≤ k) ∧ Aside0 (Kd.R (Kd.int .i64) 2 w' w0.heap.size (fun k_ => (P0_ k_ ∨ w.heap.size ≤ k_)) (.slice Ao2 l0.length co2) x0_1) ∧ Aside0 (Kept w w' (fun k_ => P0_ k_)) ∧ Aside0 (Below w0.heap.size w0 w'))
 case atStart => exact ⟨(l0), (0), (wrap64 ((l0.length : Int) - 1)), ea_, ea_, H', ⟨Nat.le_refl _⟩, ⟨rs HO0⟩, ⟨by repeat (first | (with_reducible first | exact HK.out | apply Kept.alloc | apply Kept.drewN | apply Kept.drew) | exact HK.out)⟩, ⟨bs HB⟩⟩
 case round =>
  clear H'
  try clear p2
  obtain ⟨x0_1, x2_1, x3_1, rfl, rfl, HA, HK1, HO_0, HK, HB⟩ := hrel
  have hl0_1 := (Kd.R_reads' HO_0.out).1
  rw [hl0_1] at HO_0
  (try simp only [hl0_1])
  cases gk with
  | zero => exact absurd HA.out (by simp [slices_Reverse_int64_int64.l0])
  | succ k1 =>
   have H := HA.out
   clear HA
   simp only [slices_Reverse_int64_int64.l0] at H
   by_cases c3 : x2_1 < x3_1
   ·
    rw [if_pos c3] at H
    have c3b0 : decide (x2_1 < x3_1) = true := decide_eq_true c3
    clear c3
    by_cases c4 : 0 ≤ x3_1
    ·
     rw [if_pos c4] at H
     have c4b0 : decide (0 ≤ x3_1) = true := decide_eq_true c4
     clear c4
     by_cases c5 : x3_1 < (x0_1.length : Int)
     ·
      rw [if_pos c5] at H
      have c5b0 : decide (x3_1 < (x0_1.length : Int)) = true := decide_eq_true c5
      clear c5
      by_cases c6 : 0 ≤ x2_1
      ·
       rw [if_pos c6] at H
       have c6b0 : decide (0 ≤ x2_1) = true := decide_eq_true c6
       clear c6
       by_cases c7 : x2_1 < (x0_1.length : Int)
       ·
        rw [if_pos c7] at H
        have c7b0 : decide (x2_1 < (x0_1.length : Int)) = true := decide_eq_true c7
        clear c7
        obtain ⟨y316, hy316⟩ : ∃ y_ : List Int, y_ = (x0_1.set (x2_1 : Int).toNat (rd x0_1 x3_1)) := ⟨_, rfl⟩
        replace H : (slices_Reverse_int64_int64.l0 k1 (y316.set (x3_1 : Int).toNat (rd x0_1 x2_1)) (wrap64 (x2_1 + 1)) (wrap64 (x3_1 - 1))) = some r := by first | (rw [hy316]; with_reducible exact H) | (have H2_ := (Option.bind_some _ _).symm.trans H; rw [hy316]; with_reducible exact H2_) | (have H2_ := (Option.bind_some _ _).symm.trans H; with_reducible exact H2_) | with_reducible exact H | (rw [hy316]; exact H) | exact H
        have Ny316 := as0 hy316
        clear hy316
        obtain ⟨y317, hy317⟩ : ∃ y_ : List Int, y_ = (y316.set (x3_1 : Int).toNat (rd x0_1 x2_1)) := ⟨_, rfl⟩
        replace H : (slices_Reverse_int64_int64.l0 k1 y317 (wrap64 (x2_1 + 1)) (wrap64 (x3_1 - 1))) = some r := by first | (rw [hy317]; with_reducible exact H) | (have H2_ := (Option.bind_some _ _).symm.trans H; rw [hy317]; with_reducible exact H2_) | (have H2_ := (Option.bind_some _ _).symm.trans H; with_reducible exact H2_) | with_reducible exact H | (rw [hy317]; exact H) | exact H
        have Ny317 := as0 hy317
        clear hy317
        have H' := as0 H
        clear H
        try go_wp2
        have n0_ := as0 (Kd.R_drew HO_0.out)
        have n1_ := as0 (Kept.drew HK.out)
        have n2_ := as0 (below_drew1 HB.out)
        clear HO_0
        clear HK
        clear HB
        have HO_0 := n0_
        have HK := n1_
        have HB := n2_
        clear n0_ n1_ n2_
        have p314 : 0 ≤ (x3_1 : Int) := oa_
        have q314 : x3_1 < (x0_1.length : Int) := oa_
        obtain ⟨ad314, e314, hx314_0⟩ := Kd.at_int (Kd.R_reads' HO_0.out).2.2 x3_1 p314 q314
        cases e314
        replace p314 := eq_true p314
        replace q314 := eq_true q314
        have p315 : 0 ≤ (x2_1 : Int) := oa_
        have q315 : x2_1 < (x0_1.length : Int) := oa_
        obtain ⟨ad315, e315, hx315_0⟩ := Kd.at_int (Kd.R_reads' HO_0.out).2.2 x2_1 p315 q315
        obtain rfl : ad314 = ad315 := (by injection e315)
        replace p315 := eq_true p315
        replace q315 := eq_true q315
        have p8 : 0 ≤ (x2_1 : Int) := oa_
        have q8 : (x2_1 : Int) < ((x0_1.length : Int) : Int) := oa_
        obtain ⟨go8, co8, eo8, gb8, gl8, cl8, HG8⟩ := Kd.R_form HO_0.out (by omega)
        (first | cases eo8 | (injection eo8 with ea_ en_ ec_; (first | subst ea_ | (injection ea_ with ea_; subst ea_)); subst ec_; clear en_))
        have GB8 := as0 gb8
        have GG8 := as0 HG8
        clear gb8 gl8 HG8
        have HMgo8 := as0 (show (P0_ go8 ∨ w.heap.size ≤ go8) from (HO_0.out.1 _ rfl))
        (first | simp only [add_plain] at hx314_0 | skip)
        (first | simp only [add_plain] at hx315_0 | skip)
        obtain ⟨hx8_0, hf8_0⟩ := Kd.R_celln 0 HO_0.out (x2_1 : Int) p8 q8
        replace p8 := eq_true p8
        replace q8 := eq_true q8
        have HP11 := Kd.R_putn HO_0.out (x2_1 : Int) (rd x0_1 x3_1)
        rw [← Ny316.out] at HP11
        have HQ11 := as0 HP11
        clear HP11
        have p9 : 0 ≤ (x3_1 : Int) := oa_
        have q9 : (x3_1 : Int) < ((x0_1.length : Int) : Int) := oa_
        obtain ⟨hx9_0, hf9_0⟩ := Kd.R_celln 0 HQ11.out (x3_1 : Int) p9 q9
        replace p9 := eq_true p9
        replace q9 := eq_true q9
        have HP12 := Kd.R_putn HQ11.out (x3_1 : Int) (rd x0_1 x2_1)
        rw [← Ny317.out] at HP12
        have HQ12 := as0 HP12
        clear HP12
        refine start_ (n := 16) (S := fun w' => w'.cell? ⟨go8, (x3_1).toNat, none⟩ = some (.int .i64 (rd x0_1 x3_1)) ∧ w'.cell? ⟨go8, (x2_1).toNat, none⟩ = some (.int .i64 (rd x0_1 x2_1))) (ds := [13, 15]) #[false, false, false, false, false, false, false, false, false, false, false, false, false, false, false, false] (by kernel_rfl) rfl rfl ⟨hx314_0, hx315_0⟩ (fun hHeld => ?_); refine with_tabW slices_Reverse_int64_int64.tab3 slices_Reverse_int64_int64.bits3 (fun HT_ HW_ => ?_)
        generalize wr.drew = w10 at HO_0 HK HB GG8 HQ11 HQ12 hf8_0 hf9_0 hx314_0 hx315_0 hx8_0 hx9_0 hHeld ⊢
        refine pm_ HT_ (i := 0) (N := some 14) ?_
        refine pm_ HT_ (i := 1) (N := some 15) ?_
        refine pm_ HT_ (i := 2) (N := some 16) ?_
        refine pm_ HT_ (i := 3) (N := some 17) ?_
        refine pm_ HT_ (i := 4) (N := some 18) ?_
        refine pm_ HT_ (i := 5) (N := some 19) ?_
        refine pm_ HT_ (i := 6) (N := some 20) ?_
        refine pm_ HT_ (i := 8) (N := some 22) ?_
        refine pm_ HT_ (i := 9) (N := some 23) ?_
        refine pm_ HT_ (i := 10) (N := some 24) ?_
        refine tm2_ HT_ HW_ (i := 7) (N := some 21) hHeld ?_
        refine tm2_ HT_ HW_ (i := 11) (N := some 25) hHeld ?_
        refine pm_ HT_ (i := 12) (N := some 26) ?_
        refine last_ (i := 13) (N := none) #[true, true, true, true, true, true, true, true, true, true, true, true, true, true, false, false] rfl rfl (one_of HT_.out (by kernel_rfl)) (by decide) (fun K hK => ?_)
        refine skip_ (w1 := ?_) (by rfl) rfl ?_ ?_
        rotate_left
        ·
         go_simp
         rfl
        refine hK.out _ _ ?_
        clear hK K
        refine pm_ HT_ (i := 14) (N := some 27) ?_
        refine last_ (i := 15) (N := none) #[true, true, true, true, true, true, true, true, true, true, true, true, true, true, true, true] rfl rfl (one_of HT_.out (by kernel_rfl)) (by decide) (fun K hK => ?_)
        refine skip_ (w1 := ?_) (by rfl) rfl ?_ ?_
        rotate_left
        ·
         go_simp
         rfl
        refine hK.out _ _ ?_
        clear hK K
        refine done_ (done_of HT_.out (by kernel_rfl)) ?_
        try go_wp2
        (try simp only [← hl0_1])
        go_roundg k1
        case measure => have := HK1.out; omega
        case rel => exact ⟨(y317), (wrap64 (x2_1 + 1)), (wrap64 (x3_1 - 1)), ea_, ea_, H', ⟨by have := HK1.out; omega⟩, ⟨by (try simp only [hl0_1]); (with_reducible repeat (first | apply Kd.R_alloc | apply Kd.R_drewN | apply Kd.R_drew)); exact HQ12.out⟩, ⟨by repeat (first | (with_reducible first | exact HK.out | apply Kept.alloc | apply Kept.drewN | apply Kept.drew | refine Kept.setCell ?_ HMgo8.out _ | refine Kept.setCell ?_ HMgo8.out _) | exact HK.out)⟩, ⟨by repeat (first | (with_reducible first | exact HB.out | apply below_alloc | apply pw_below_drewN | apply below_drew1 | refine below_set ?_ GB8.out | refine below_set ?_ GB8.out) | exact HB.out)⟩⟩
       ·
        rw [if_neg c7] at H
        exact absurd H (by simp)
      ·
       rw [if_neg c6] at H
       exact absurd H (by simp)
     ·
      rw [if_neg c5] at H
      exact absurd H (by simp)
    ·
     rw [if_neg c4] at H
     exact absurd H (by simp)
   ·
    rw [if_neg c3] at H
    have c3b0 : decide (x2_1 < x3_1) = false := decide_eq_false c3
    clear c3
    obtain rfl := Option.some.inj H
    go_wp2
    first | go_end0 | ((try simp only [Exit.inBlock, Exit.then]); refine bodyPost_ret (results_none rfl _ _ _) rfl ?_)
    exact ⟨er_, (by first | exact (rs HO_0) | (simp only [hl0_1]; exact (rs HO_0))), by repeat (first | (with_reducible first | exact HB.out | apply below_alloc | apply pw_below_drewN | apply below_drew1) | exact HB.out), by repeat (first | (with_reducible first | exact HK.out | apply Kept.alloc | apply Kept.drewN | apply Kept.drew) | exact HK.out)⟩
end Go.Proofs.Ytlmolloallhclaa.H
