/- Joined texts of a claim: the printed functions and what is proved of them. -/
import Derived.Test.YtlmolloallhclaaMa4
import Derived.Test.YtlmolloallhclaaMa3
import Derived.Test.YtlmolloallhclaaYHx0
import Derived.Test.YtlmolloallhclaaMa1
import Derived.Test.YtlmolloallhclaaMa2
namespace Go.Proofs.Ytlmolloallhclaa.H
open Go.RowKit Go.Proofs.YtlmolloallhclaaW.PrintWords Go.Proofs.YtlmolloallhclaaW.PrintLast Go.Proofs.YtlmolloallhclaaW.PrintMore
attribute [local go_sem] max2_int min2_int max_two min_two max_three min_three max_four min_four   -- for this text's walks alone
set_option linter.unusedVariables false
set_option linter.unusedSimpArgs false
structure DM (W : World) (base g n : Nat) (b cp : Nat → Nat) (rows : List (List Int)) : Prop where
 lg : base ≤ g
 lb : ∀ i, i < rows.length → base ≤ b i
 ne : ∀ i, i < rows.length → b i ≠ g
 inj : ∀ i j, i < rows.length → j < rows.length → b i = b j → i = j
 cap : ∀ i, i < rows.length → n ≤ cp i
 top : ∃ cs : Array Value, W.heap[g]? = some (.cells cs 22 (0, 0)) ∧ n ≤ cs.size ∧ ∀ i, i < rows.length → cs[i]? = some (.slice (some ⟨b i, 0, none⟩) n (cp i))
 row : ∀ i, i < rows.length → ∃ cs : Array Value, W.heap[b i]? = some (.cells cs 2 (0, 0)) ∧ ∀ k, k < n → cs[k]? = some (.int .i64 (co (ro rows i) k))
section
variable {W W1 : World} {base g n : Nat} {b cp : Nat → Nat} {rows : List (List Int)}
theorem blk_lt' {W : World} {g : Nat} {o : Obj} (h : W.heap[g]? = some o) : g < W.heap.size := by
 rcases Nat.lt_or_ge g W.heap.size with h' | h'
 ·
  exact h'
 ·
  rw [Array.getElem?_eq_none h'] at h; cases h
theorem DM.lt_g (h : DM W base g n b cp rows) : g < W.heap.size := by
 obtain ⟨cs, hc, _⟩ := h.top
 exact blk_lt' hc
theorem DM.lt_b (h : DM W base g n b cp rows) {i : Nat} (hi : i < rows.length) : b i < W.heap.size := by
 obtain ⟨cs, hc, _⟩ := h.row i hi
 exact blk_lt' hc
theorem DM.step (h : DM W base g n b cp rows) (hm : ∀ k, k < W.heap.size → (k = g ∨ ∃ i, i < rows.length ∧ k = b i) → W1.heap[k]? = W.heap[k]?) : DM W1 base g n b cp rows := by
 refine ⟨h.lg, h.lb, h.ne, h.inj, h.cap, ?_, fun i hi => ?_⟩
 ·
  obtain ⟨cs, hc, h1, h2⟩ := h.top
  exact ⟨cs, (hm g (blk_lt' hc) (.inl rfl)).trans hc, h1, h2⟩
 ·
  obtain ⟨cs, hc, h1⟩ := h.row i hi
  exact ⟨cs, (hm (b i) (blk_lt' hc) (.inr ⟨i, hi, rfl⟩)).trans hc, h1⟩
theorem DM.below (h : DM W base g n b cp rows) (hb : Below W.heap.size W W1) : DM W1 base g n b cp rows := h.step fun k hk _ => hb.block k hk
theorem DM.drewN (h : DM W base g n b cp rows) (m : Nat) : DM (W.drewN m) base g n b cp rows := h.below (pw_below_drewN (Below.refl _ _) m)
theorem DM.drew (h : DM W base g n b cp rows) : DM W.drew base g n b cp rows := h.below (below_drew (Below.refl _ _))
theorem DM.cellg (h : DM W base g n b cp rows) {i : Nat} (hi : i < rows.length) : W.cell? ⟨g, i, none⟩ = some (.slice (some ⟨b i, 0, none⟩) n (cp i)) := by
 obtain ⟨cs, hc, _, h2⟩ := h.top
 rw [blk_cell hc]; exact h2 i hi
theorem DM.anyg (h : DM W base g n b cp rows) {i : Nat} (hi : i < n) : ∃ v, W.cell? ⟨g, i, none⟩ = some v := by
 obtain ⟨cs, hc, h1, _⟩ := h.top
 exact ⟨cs[i], by rw [blk_cell hc]; exact Array.getElem?_eq_getElem (by omega)⟩
theorem DM.frg (h : DM W base g n b cp rows) (i : Nat) : W.frozen? ⟨g, i, none⟩ = false := by
 obtain ⟨cs, hc, _⟩ := h.top
 exact blk_frozen hc i
theorem DM.cell (h : DM W base g n b cp rows) {i k : Nat} (hi : i < rows.length) (hk : k < n) : W.cell? ⟨b i, k, none⟩ = some (.int .i64 (co (ro rows i) k)) := by
 obtain ⟨cs, hc, h1⟩ := h.row i hi
 rw [blk_cell hc]; exact h1 k hk
theorem DM.fr (h : DM W base g n b cp rows) {i : Nat} (hi : i < rows.length) (k : Nat) : W.frozen? ⟨b i, k, none⟩ = false := by
 obtain ⟨cs, hc, _⟩ := h.row i hi
 exact blk_frozen hc k
theorem DM.cellg2 (h : DM W base g n b cp rows) {c j : Nat} (hj : j < rows.length) (hne : j ≠ c) (v : Value) : (W.setCell ⟨g, c, none⟩ v).cell? ⟨g, j, none⟩ = some (.slice (some ⟨b j, 0, none⟩) n (cp j)) := by
 obtain ⟨cs, hc, _, h2⟩ := h.top
 rw [blk_cell (blk_set hc c v), Array.getElem?_setIfInBounds_ne (by omega)]; exact h2 j hj
theorem DM.frg2 (h : DM W base g n b cp rows) (c j : Nat) (v : Value) : (W.setCell ⟨g, c, none⟩ v).frozen? ⟨g, j, none⟩ = false := by
 obtain ⟨cs, hc, _⟩ := h.top
 exact blk_frozen (blk_set hc c v) j
theorem DM.snoc (h : DM W base g n b cp rows) {q c : Nat} {x : List Int} {cur : Array Value} (hl : rows.length < n) (hq : W.heap[q]? = some (.cells cur 2 (0, 0))) (hbq : base ≤ q) (hqg : q ≠ g) (hqb : ∀ i, i < rows.length → b i ≠ q) (hnc : n ≤ c) (hx : ∀ k, k < n → cur[k]? = some (.int .i64 (co x k))) :
  DM (W.setCell ⟨g, rows.length, none⟩ (.slice (some ⟨q, 0, none⟩) n c)) base g n (fun i => if i = rows.length then q else b i) (fun i => if i = rows.length then c else cp i) (rows ++ [x]) := by
 have e : (rows ++ [x]).length = rows.length + 1 := by simp
 have hro : ∀ i, i < rows.length → ro (rows ++ [x]) i = ro rows i := fun i hi => by
  unfold ro
  rw [List.getD_eq_getElem?_getD, List.getD_eq_getElem?_getD, List.getElem?_append_left hi]
 have hrl : ro (rows ++ [x]) rows.length = x := by
  unfold ro
  rw [List.getD_eq_getElem?_getD, List.getElem?_append_right (Nat.le_refl _), Nat.sub_self]; rfl
 refine ⟨h.lg, fun i hi => ?_, fun i hi => ?_, fun i j hi hj he => ?_, fun i hi => ?_, ?_, fun i hi => ?_⟩
 ·
  show base ≤ if i = rows.length then q else b i
  split
  ·
   exact hbq
  ·
   exact h.lb i (by omega)
 ·
  show (if i = rows.length then q else b i) ≠ g
  split
  ·
   exact hqg
  ·
   exact h.ne i (by omega)
 ·
  replace he : (if i = rows.length then q else b i) = if j = rows.length then q else b j := he
  by_cases h1 : i = rows.length
  ·
   by_cases h2 : j = rows.length
   ·
    omega
   ·
    rw [if_pos h1, if_neg h2] at he
    exact absurd he.symm (hqb j (by omega))
  ·
   by_cases h2 : j = rows.length
   ·
    rw [if_neg h1, if_pos h2] at he
    exact absurd he (hqb i (by omega))
   ·
    rw [if_neg h1, if_neg h2] at he
    exact h.inj i j (by omega) (by omega) he
 ·
  show n ≤ if i = rows.length then c else cp i
  split
  ·
   exact hnc
  ·
   exact h.cap i (by omega)
 ·
  obtain ⟨cs, hc, h1, h2⟩ := h.top
  refine ⟨_, blk_set hc rows.length _, by simpa using h1, fun i hi => ?_⟩
  show _ = some (Value.slice (some ⟨if i = rows.length then q else b i, 0, none⟩) n (if i = rows.length then c else cp i))
  by_cases h3 : i = rows.length
  ·
   subst h3
   rw [if_pos rfl, if_pos rfl, Array.getElem?_setIfInBounds_self_of_lt (by omega)]
  ·
   rw [if_neg h3, if_neg h3, Array.getElem?_setIfInBounds_ne (by omega)]
   exact h2 i (by omega)
 ·
  show ∃ cs : Array Value, (W.setCell ⟨g, rows.length, none⟩ (.slice (some ⟨q, 0, none⟩) n c)).heap[if i = rows.length then q else b i]? = _ ∧ _
  by_cases h3 : i = rows.length
  ·
   subst h3
   rw [if_pos rfl, hrl]
   exact ⟨cur, blk_far hq hqg _, hx⟩
  ·
   rw [if_neg h3, hro i (by omega)]
   obtain ⟨cs, hc, h1⟩ := h.row i (by omega)
   exact ⟨cs, blk_far hc (h.ne i (by omega)) _, h1⟩
theorem DM.put (h : DM W base g n b cp rows) {i k : Nat} {x : Int} {R2 : List (List Int)} (hi : i < rows.length) (hk : k < n) (hl : R2.length = rows.length) (ho : ∀ j, j ≠ i → ro R2 j = ro rows j) (hx : ∀ t, t < n → co (ro R2 i) t = if t = k then x else co (ro rows i) t) :
  DM (W.setCell ⟨b i, k, none⟩ (.int .i64 x)) base g n b cp R2 := by
 refine ⟨h.lg, fun j hj => h.lb j (by omega), fun j hj => h.ne j (by omega), fun j m hj hm => h.inj j m (by omega) (by omega), fun j hj => h.cap j (by omega), ?_, fun j hj => ?_⟩
 ·
  obtain ⟨cs, hc, h1, h2⟩ := h.top
  exact ⟨cs, blk_far hc (fun e => h.ne i hi e.symm) _, h1, fun j hj => h2 j (by omega)⟩
 ·
  obtain ⟨cs, hc, h1⟩ := h.row j (by omega)
  by_cases e : j = i
  ·
   subst e
   refine ⟨_, blk_set hc k _, fun t ht => ?_⟩
   rw [hx t ht]
   by_cases e2 : t = k
   ·
    subst e2
    have : t < cs.size := by
     rcases Nat.lt_or_ge t cs.size with h' | h'
     ·
      exact h'
     ·
      have := h1 t ht; rw [Array.getElem?_eq_none h'] at this; cases this
    rw [if_pos rfl, Array.getElem?_setIfInBounds_self_of_lt this]
   ·
    rw [if_neg e2, Array.getElem?_setIfInBounds_ne (by omega)]
    exact h1 t ht
  ·
   rw [ho j e]
   exact ⟨cs, blk_far hc (fun e2 => e (h.inj j i (by omega) hi e2)) _, h1⟩
theorem co_set1 (l : List Int) (s q : Nat) (x : Int) (hs : s < l.length) : co (l.set s x) q = if q = s then x else co l q := by
 unfold co
 rw [List.getD_eq_getElem?_getD, List.getD_eq_getElem?_getD]
 by_cases e : q = s
 ·
  subst e; rw [if_pos rfl, List.getElem?_set_self hs]; rfl
 ·
  rw [if_neg e, List.getElem?_set_ne (fun h => e h.symm)]
theorem set_ro (rows : List (List Int)) {j : Nat} (hj : j < rows.length) : rows.set j (ro rows j) = rows := by
 have : ro rows j = rows[j] := by unfold ro; rw [List.getD_eq_getElem?_getD, List.getElem?_eq_getElem hj]; rfl
 rw [this]; exact List.set_getElem_self hj
def sw2 (c d : Nat) (f : Nat → Nat) : Nat → Nat := fun i => f (if i = c then d else if i = d then c else i)
theorem DM.swap (h : DM W base g n b cp rows) {c d : Nat} {R2 : List (List Int)} (hn : rows.length ≤ n) (hc : c < rows.length) (hd : d < rows.length) (hcd : c ≠ d) (hl : R2.length = rows.length) (ho : ∀ j, j < rows.length → ro R2 j = ro rows (if j = c then d else if j = d then c else j)) :
  DM ((W.setCell ⟨g, c, none⟩ (.slice (some ⟨b d, 0, none⟩) n (cp d))).setCell ⟨g, d, none⟩ (.slice (some ⟨b c, 0, none⟩) n (cp c))) base g n (sw2 c d b) (sw2 c d cp) R2 := by
 have hs : ∀ j, j < rows.length → (if j = c then d else if j = d then c else j) < rows.length := fun j hj => by split; exact hd; split; exact hc; exact hj
 refine ⟨h.lg, fun j hj => h.lb _ (hs j (by omega)), fun j hj => h.ne _ (hs j (by omega)), fun j m hj hm he => ?_, fun j hj => h.cap _ (hs j (by omega)), ?_, fun j hj => ?_⟩
 ·
  have := h.inj _ _ (hs j (by omega)) (hs m (by omega)) he
  split at this <;> split at this <;> (try split at this) <;> (try split at this) <;> omega
 ·
  obtain ⟨cs, hcs, h1, h2⟩ := h.top
  refine ⟨_, blk_set (blk_set hcs c _) d _, by simpa using h1, fun j hj => ?_⟩
  show _ = some (Value.slice (some ⟨b (if j = c then d else if j = d then c else j), 0, none⟩) n (cp (if j = c then d else if j = d then c else j)))
  by_cases e : j = d
  ·
   subst e
   rw [Array.getElem?_setIfInBounds_self_of_lt (by simp; omega), if_neg (by omega), if_pos rfl]
  ·
   rw [Array.getElem?_setIfInBounds_ne (by omega)]
   by_cases e2 : j = c
   ·
    subst e2
    rw [Array.getElem?_setIfInBounds_self_of_lt (by omega), if_pos rfl]
   ·
    rw [Array.getElem?_setIfInBounds_ne (by omega), if_neg e2, if_neg e]
    exact h2 j (by omega)
 ·
  show ∃ cs : Array Value, _ = some (Obj.cells cs 2 (0, 0)) ∧ _
  rw [ho j (by omega)]
  obtain ⟨cs, hcs, h1⟩ := h.row _ (hs j (by omega))
  have hne := h.ne _ (hs j (by omega))
  exact ⟨cs, blk_far (blk_far hcs hne _) hne _, h1⟩
end
set_option maxHeartbeats 4000000 in
set_option maxRecDepth 100000 in
theorem indexFunc2_first (A : Option Addr) (n c : Nat) (q : Nat → Bool) (g : Nat) (lb : Array Value) (eg : ∀ args w, (callFunc g args).run Try.prog w = .ok (.enter g args) w) (w : World)
  (hn : n ≤ 9223372036854775807) (h : ∀ j, j < n → ∃ ad v, A = some ad ∧ w.cell? (ad.add j) = some v ∧ Gives g lb v (q j) w) :
  Calls Try.prog 115 #[.slice A n c, .func (.func g) #[] lb] w fun e w' => (∃ i : Int, e = .returned (.int .i64 i) ∧ ((i = -1 ∧ ∀ j, j < n → q j = false) ∨ ∃ kk : Nat, i = (kk : Int) ∧ kk < n ∧ q kk = true ∧ ∀ j, j < kk → q j = false)) ∧ Below w.heap.size w w' := by
 have HH := as0 h
 clear h
 go_enter Try.func115, Try.ntmps115
 go_wp2
 go_loopg [5, 8] n (fun gg _ s8 wr => ∃ kk : Nat, kk ≤ n ∧ n - kk ≤ gg ∧ s8 = .int .i64 kk ∧ Aside0 (∀ j, j < kk → q j = false) ∧ Aside0 (Below w.heap.size w wr))
 case atStart => exact ⟨0, Nat.zero_le _, by omega, rfl, ⟨fun j hj => absurd hj (Nat.not_lt_zero _)⟩, ⟨Below.refl _ _⟩⟩
 case round =>
  obtain ⟨kk, hkk, hg, rfl, HA, HB⟩ := hrel
  by_cases hlt : kk < n
  ·
   have hltz : (kk : Int) < (n : Int) := by omega
   obtain ⟨ad, v, rfl, hc, hcall⟩ := HH.out kk hlt
   have hcall' := hcall wr HB.out
   have hc' := pw_cell_below HB.out hc
   clear hcall hc
   cases hq : q kk with
   | true =>
    rw [hq] at hcall'
    have Hq := as0 hq
    clear hq HH
    go_wp2_with fail
    refine (hcall').mono ?_
    rintro e w' ⟨rfl, hb⟩
    have HB' := as0 (below_next HB.out hb)
    clear hcall' eg hb HB
    go_wp2
    go_ret
    exact ⟨⟨kk, rfl, .inr ⟨kk, rfl, hlt, Hq.out, HA.out⟩⟩, HB'.out⟩
   | false =>
    rw [hq] at hcall'
    have Hq := as0 hq
    clear hq HH
    go_wp2_with fail
    refine (hcall').mono ?_
    rintro e w' ⟨rfl, hb⟩
    have HB' := as0 (below_next HB.out hb)
    clear hcall' eg hb HB
    go_wp2
    go_roundg (n - (kk + 1))
    case measure => omega
    case rel =>
     refine ⟨kk + 1, by omega, by omega, by go_num, ⟨fun j hj => ?_⟩, HB'⟩
     by_cases e : j = kk
     ·
      subst e; exact Hq.out
     ·
      exact HA.out j (by omega)
  ·
   have hltz : ¬ (kk : Int) < (n : Int) := by omega
   have : kk = n := by omega
   subst this
   go_wp2
   go_ret
   exact ⟨⟨-1, rfl, .inl ⟨rfl, HA.out⟩⟩, HB.out⟩
theorem det1_gives (B : Nat) (c n cap : Nat) (ad : Addr) (x : Int) (w : World) (hc : c < n) (hB : w.cell? ⟨B, 0, none⟩ = some (.int .i64 (c : Int))) (hx : w.cell? (ad.add c) = some (.int .i64 x)) :
  Gives 116 #[.pointer (some ⟨B, 0, none⟩)] (.slice (some ad) n cap) (x != 0) w := by
 intro W hW
 have hB' := pw_cell_below hW hB
 have hx' := pw_cell_below hW hx
 have p1 := eq_true (show (0 : Int) ≤ (c : Int) by omega)
 have p2 := eq_true (show (c : Int) < (n : Int) by omega)
 clear hB hx hW
 show Calls Try.prog 116 #[.slice (some ad) n cap, .pointer (some ⟨B, 0, none⟩)] W _
 go_enter Try.func116, Try.ntmps116
 go_wp2
 go_ret
 exact ⟨rfl, Below.refl _ _⟩
def impl_field_determinant.T15 : Bool × List (List Nat × List Nat) := (true, [([], []), ([], []), ([], []), ([], []), ([], []), ([3, 4], [3, 4]), ([], []), ([], []), ([], []), ([7, 8], [7, 8]), ([6, 9], [6, 9]), ([10], [10]), ([], []), ([], []), ([12, 13], [12, 13]), ([14], [14]), ([0, 1, 0, 1, 6, 7, 8, 9, 10, 11, 15], [0, 1]), ([16, 11, 0, 1, 6, 7, 8, 9, 10, 11, 15], [11, 16]), ([2, 5, 0, 1, 2, 3, 4, 5, 6, 7, 8, 9, 10, 11, 12, 13, 14, 15, 16, 17], [2, 5]), ([18, 15, 17, 0, 1, 2, 3, 4, 5, 6, 7, 8, 9, 10, 11, 12, 13, 14, 15, 16, 17], [15, 18])])
def impl_field_determinant.B15 : List Nat := [0, 0, 0, 0, 0, 24, 0, 0, 0, 384, 960, 1984, 0, 0, 12288, 28672, 65475, 131011, 262143, 524287]
theorem impl_field_determinant.tab15 : rtab .any (opsOf Try.f93 15) = impl_field_determinant.T15 := by kernel_rfl
theorem impl_field_determinant.bits15 : waitsOk impl_field_determinant.T15.2 impl_field_determinant.B15 = true := by kernel_rfl
def impl_field_determinant.T17 : Bool × List (List Nat × List Nat) := (true, [([], []), ([], []), ([], []), ([], []), ([2, 3], [2, 3]), ([4], [4]), ([], []), ([5, 6], [5, 6]), ([7], [7]), ([0, 1, 8], [0, 1, 8]), ([9, 9, 0, 1, 2, 3, 4, 5, 6, 7, 8, 9], [1, 9])])
def impl_field_determinant.B17 : List Nat := [0, 0, 0, 0, 12, 28, 0, 124, 252, 511, 1023]
theorem impl_field_determinant.tab17 : rtab .any (opsOf Try.f93 17) = impl_field_determinant.T17 := by kernel_rfl
theorem impl_field_determinant.bits17 : waitsOk impl_field_determinant.T17.2 impl_field_determinant.B17 = true := by kernel_rfl
def impl_field_determinant.T21 : Bool × List (List Nat × List Nat) := (true, [([], []), ([], []), ([], []), ([1, 2], [1, 2]), ([3], [3]), ([], []), ([], []), ([5, 6], [5, 6]), ([7], [7]), ([], []), ([8, 9], [8, 9]), ([10], [10]), ([0, 4, 11], [0, 4, 11]), ([12, 12, 0, 1, 2, 3, 4, 5, 6, 7, 8, 9, 10, 11, 12], [12])])
def impl_field_determinant.B21 : List Nat := [0, 0, 0, 6, 14, 0, 0, 96, 224, 0, 992, 2016, 4095, 8191]
theorem impl_field_determinant.tab21 : rtab .any (opsOf Try.f93 21) = impl_field_determinant.T21 := by kernel_rfl
theorem impl_field_determinant.bits21 : waitsOk impl_field_determinant.T21.2 impl_field_determinant.B21 = true := by kernel_rfl
def impl_field_determinant.T25 : Bool × List (List Nat × List Nat) := (true, [([], []), ([], []), ([], []), ([], []), ([], []), ([3, 4], [3, 4]), ([5], [5]), ([], []), ([], []), ([], []), ([8, 9], [8, 9]), ([10], [10]), ([], []), ([11, 12], [11, 12]), ([13], [13]), ([7, 14], [7, 14]), ([6, 15], [6, 15]), ([2, 16], [2, 16]), ([0, 1, 0, 1, 2, 3, 4, 5, 6, 7, 8, 9, 10, 11, 12, 13, 14, 15, 16, 17], [0, 1]), ([18, 17, 17, 0, 1, 2, 3, 4, 5, 6, 7, 8, 9, 10, 11, 12, 13, 14, 15, 16, 17], [17, 18])])
def impl_field_determinant.B25 : List Nat := [0, 0, 0, 0, 0, 24, 56, 0, 0, 0, 768, 1792, 0, 7936, 16128, 32640, 65528, 131068, 262143, 524287]
theorem impl_field_determinant.tab25 : rtab .any (opsOf Try.f93 25) = impl_field_determinant.T25 := by kernel_rfl
theorem impl_field_determinant.bits25 : waitsOk impl_field_determinant.T25.2 impl_field_determinant.B25 = true := by kernel_rfl
open Classical in
noncomputable def impl_field_determinant.f (a0 : Int) (l1 : List (List Int)) : Option Int := if Num.IsP a0 ∧ Sq a0 l1.length l1 ∧ l1.length ≤ 1000 then some (zdt l1.length (sb l1 0) % a0) else none
set_option maxHeartbeats 8000000 in
set_option maxRecDepth 100000 in
theorem impl_field_determinant.calls (a0 : Int) (A1 : Option Addr) (c1 : Nat) (l1 : List (List Int)) (r : Int) (w : World) (hr1 : Kd.C (Kd.slice 2 (Kd.int .i64)) w A1 l1.length l1) (hc1 : l1.length ≤ c1) (h : impl_field_determinant.f a0 l1 = some r) :
  Calls Try.prog 93 #[.int .i64 a0, .slice A1 l1.length c1] w fun e w' => e = .returned (.int .i64 r) ∧ Below w.heap.size w w' := by
 unfold impl_field_determinant.f at h
 split at h
 case isFalse => cases h
 rename_i hcond
 obtain ⟨hp, hsq, hn⟩ := hcond
 have hr := Option.some.inj h
 clear h
 obtain ⟨D, hD⟩ : ∃ D, D = zdt l1.length (sb l1 0) := ⟨_, rfl⟩
 rw [← hD] at hr
 obtain ⟨n, hnl⟩ : ∃ n, n = l1.length := ⟨_, rfl⟩
 have HR := as0 hr
 have HC := as0 hr1
 rw [← hnl] at hsq hn hD HC ⊢
 have hp2 := hp.1
 have hpm := hp.2.1
 have HP := as0 hp
 have HDD := as0 hD
 have HSQ := as0 hsq
 have HN := as0 hn
 have HNL := as0 hnl
 have HC1 := as0 hc1
 clear hr hr1 hD hsq hn hnl hp hc1
 have hn1 := HN.out
 go_enter Try.func93, Try.ntmps93
 go_wp2_with ((with_reducible refine gate_dst (N := 17) rfl ?_); refine Kd.R_make (Kd.slice 2 (Kd.int .i64)) _ 22 rfl (N := 17) rfl 23 _ _ rfl (n : Int) rfl rfl Try.underlying23 (.slice none 0 0) 24 info22 rfl (by decide) (by omega) [] (ok := fun _ => True) (okp := fun _ => True) ⟨_, rfl, Kd.R_nil _ _ _ _ _⟩ (fun _ hk => hk) trivial (by omega) (by omega) (Below.refl _ _) (Nat.le_refl _) ?_; intro v3 w3 ho hb hg_ hnew_; clear hg_ hnew_; have HV := as0 ho; have HB := as0 hb; clear ho hb)
 have hnn : (n : Int).toNat = n := Int.toNat_natCast n
 rw [hnn] at HV
 clear hnn
 obtain ⟨Aw, cw, ew⟩ := Kd.R_slice HV.out
 have HCW := as0 (show n ≤ cw by
  have := HV.out
  rw [ew] at this
  have h2 := (Kd.R_reads' this).2.1
  rwa [List.length_replicate] at h2)
 rw [List.length_replicate] at ew
 rcases Nat.eq_zero_or_pos n with n0 | npos
 ·
  subst n0
  subst ew
  have hone : (1 : Int) % a0 = 1 := Int.emod_eq_of_lt (by omega) (by omega)
  have HM : ∀ W, Calls Try.prog 64 #[.int .i64 a0, .int .i64 1] W fun e w' => e = .returned (.int .i64 1) ∧ Drawn0 W w' := fun W => impl_field_mod.calls a0 1 1 W ((impl_mod (by omega) (by omega)).trans (by rw [hone]))
  have HR1 := as0 (show r = 1 by rw [← HR.out, HDD.out, show zdt 0 (sb l1 0) = 1 from rfl, hone])
  clear hone
  go_loopg [20] 1 (fun kq v20 w' => v20 = .int .i64 0 ∧ Aside0 (Below w.heap.size w w'))
  case atStart => exact ⟨rfl, HB⟩
  case round =>
   clear HB
   obtain ⟨rfl, HB⟩ := hrel
   go_wp2_with (go_at_call 64; refine (HM _).mono ?_; rintro e w' ⟨rfl, ⟨nd, rfl⟩⟩)
   clear HM
   go_loopg [8, 35] 1 (fun kq v8 v35 w' => v8 = .int .i64 1 ∧ v35 = .int .i64 0 ∧ Aside0 (Below w.heap.size w w'))
   case atStart => exact ⟨rfl, rfl, ⟨pw_below_drewN HB.out _⟩⟩
   case round =>
    clear HB
    obtain ⟨rfl, rfl, HB⟩ := hrel
    go_wp2
    go_ret
    refine ⟨?_, HB.out⟩
    show Ending.returned (.int .i64 1) = _
    rw [HR1.out]
 obtain ⟨g, b0, HDM⟩ : ∃ g b0, (Aw = some ⟨g, 0, none⟩) ∧ DM w3 w.heap.size g n b0 b0 [] := by
  obtain ⟨inner, ho⟩ := Kd.R_own HV.out
  rw [List.length_replicate] at ho
  obtain ⟨_, h2⟩ := ho
  rcases h2 with ⟨_, h0⟩ | ⟨g, cap, cur, e, hb, hh, hnc, _, hcs, _⟩
  ·
   omega
  ·
   rw [ew] at e
   injection e with e1 e2 e3
   refine ⟨g, fun _ => 0, e1, hb, fun i hi => absurd hi (Nat.not_lt_zero _), fun i hi => absurd hi (Nat.not_lt_zero _), fun i j hi => absurd hi (Nat.not_lt_zero _), fun i hi => absurd hi (Nat.not_lt_zero _), ⟨cur, hh, ?_, fun i hi => absurd hi (Nat.not_lt_zero _)⟩, fun i hi => absurd hi (Nat.not_lt_zero _)⟩
   rw [hcs]; simp [Kd.slice]; exact hnc
 obtain ⟨eA, hdm⟩ := HDM
 subst eA
 subst ew
 have HDM := as0 hdm
 have HNP := as0 npos
 clear hdm npos HV
 go_loopg [20] n (fun kq v20 w' => ∃ (i : Nat) (b cp : Nat → Nat), v20 = .int .i64 (i : Int) ∧ Aside0 (i + kq = n) ∧ Aside0 (DM w' w.heap.size g n b cp (l1.take i)) ∧ Aside0 (Below w.heap.size w w'))
 case atStart => exact ⟨0, b0, b0, rfl, ⟨by omega⟩, HDM, HB⟩
 case round =>
  clear HDM HB
  obtain ⟨i, b, cp, rfl, HG, HDM, HB⟩ := hrel
  have hg := HG.out
  by_cases hi : i < n
  ·
   have d1 : decide (i < n) = true := decide_eq_true hi
   have hrd : rd_L1 l1 (i : Int) = ro l1 i := by unfold rd_L1 ro; rw [Int.toNat_natCast]
   have hrl := HSQ.out.row i hi
   obtain ⟨adi, Ai, ci, ei, hcelli, hli, hCi⟩ := at_L1 HC.out (i : Int) (by omega) (by omega)
   rw [hrd, hrl] at hcelli hCi hli
   rw [Int.toNat_natCast] at hcelli
   subst ei
   replace hcelli := pw_cell_below HB.out hcelli
   have HCI := as0 hCi
   have HLI := as0 hli
   have HRL := as0 hrl
   have p1 := eq_true (show (0 : Int) ≤ (i : Int) by omega)
   have p2 := eq_true (show (i : Int) < (n : Int) by omega)
   have HI := as0 hi
   obtain ⟨m, rfl⟩ : ∃ m, gk = m + 1 := ⟨gk - 1, by omega⟩
   have hcl : slices_Clone_int64_int64.f (ro l1 i) = some (ro l1 i) := by
    have : (ro l1 i).length < 17592186044416 := by omega
    simp [slices_Clone_int64_int64.f, this]
   have HCL := as0 hcl
   clear hrd hrl hCi hli hg hi hcl
   go_wp2_with fail
   have hCl : Calls Try.prog 87 #[.slice Ai n ci] wr fun e w' => ∃ v0_ : Value, e = .returned v0_ ∧ Kd.R (Kd.int .i64) 2 w' wr.heap.size (fun _ => True) v0_ (ro l1 i) ∧ Below wr.heap.size wr w' := by
    have := slices_Clone_int64_int64.calls Ai ci (ro l1 i) (ro l1 i) wr (by rw [HRL.out]; exact Kd.C_below HCI.out HB.out) (by rw [HRL.out]; exact HLI.out) HCL.out
    rwa [HRL.out] at this
   refine hCl.mono ?_
   clear hCl
   rintro e w4 ⟨v4, rfl, o4, b4⟩
   have hown := Kd.own_of_R o4
   rw [HRL.out] at hown
   obtain ⟨_, h2⟩ := hown
   rcases h2 with ⟨_, h0⟩ | ⟨q, cap, cur, ev, hbq, hhq, hnc, _, hcs, hct⟩
   ·
    have := HNP.out; omega
   subst ev
   have hdm4 := HDM.out.below b4
   have hlen : (l1.take i).length = i := by rw [List.length_take]; have := HNL.out; have := HI.out; omega
   have hlg := hdm4.lt_g
   obtain ⟨old, hold⟩ := hdm4.anyg HI.out
   have hfr := hdm4.frg i
   have HS := as0 (hdm4.snoc (q := q) (c := cap) (x := ro l1 i) (cur := cur) (by rw [hlen]; exact HI.out) hhq (Nat.le_trans HB.out.size hbq) (fun e => by have := HDM.out.lt_g; omega) (fun j hj => fun e => by have := HDM.out.lt_b hj; omega) hnc (fun k hk => by
    have h3 : (cur.toList.take (n * 1))[k]? = ((ro l1 i).map (Value.int .i64))[k]? := by rw [hct]; rfl
    have hkl : k < (ro l1 i).length := by rw [HRL.out]; exact hk
    rw [List.getElem?_take_of_lt (by omega), List.getElem?_map, List.getElem?_eq_getElem hkl] at h3
    rw [← Array.getElem?_toList, h3]
    unfold co
    rw [List.getD_eq_getElem?_getD, List.getElem?_eq_getElem hkl]; rfl))
   rw [hlen] at HS
   have HB4 := as0 (below_step HB.out b4)
   clear o4 b4 hbq hhq hnc hcs hct hdm4 hlen hlg
   go_wp2
   go_roundg m
   case measure => omega
   case rel =>
    refine ⟨i + 1, (fun j => if j = i then q else b j), (fun j => if j = i then cap else cp j), ?_, ⟨by have := HG.out; omega⟩, ⟨?_⟩, ⟨below_set HB4.out HDM.out.lg⟩⟩
    ·
     rw [wp1 (show i ≤ 1000000000000 by have := HI.out; have := HN.out; omega)]
    ·
     rw [List.take_succ_eq_append_getElem (by have := HI.out; have := HNL.out; omega)]
     have : l1[i]'(by have := HI.out; have := HNL.out; omega) = ro l1 i := by unfold ro; rw [List.getD_eq_getElem?_getD, List.getElem?_eq_getElem]; rfl
     rw [this]
     exact HS.out
  ·
   obtain rfl : i = n := by omega
   have d1 : decide (i < i) = false := decide_eq_false (by omega)
   have hlen : l1.take i = l1 := List.take_of_length_le (by have := HNL.out; omega)
   rw [hlen] at HDM
   clear hi hg hlen
   have hone : (1 : Int) % a0 = 1 := Int.emod_eq_of_lt (by omega) (by omega)
   have HM : ∀ W, Calls Try.prog 64 #[.int .i64 a0, .int .i64 1] W fun e w' => e = .returned (.int .i64 1) ∧ Drawn0 W w' := fun W => impl_field_mod.calls a0 1 1 W ((impl_mod (by omega) (by omega)).trans (by rw [hone]))
   clear hone
   go_wp2_with (go_at_call 64; refine (HM _).mono ?_; rintro e w' ⟨rfl, ⟨nd, rfl⟩⟩)
   have HD0 := as0 (show Num.cg a0 (1 * zdt (i - 0) (sb l1 0)) D by rw [Int.one_mul, Nat.sub_zero, HDD.out]; exact Num.cg.refl _)
   clear HM
   go_loopg [8, 35] i (fun kq v8 v35 w' => ∃ (out : Int) (c : Nat) (b cp : Nat → Nat) (rows : List (List Int)), v8 = .int .i64 out ∧ v35 = .int .i64 (c : Int) ∧ Aside0 (c + kq = i) ∧ Aside0 (0 ≤ out ∧ out < a0) ∧ Aside0 (Sq a0 i rows) ∧ Aside0 (Num.cg a0 (out * zdt (i - c) (sb rows c)) D) ∧ Aside0 (DM w' w.heap.size g i b cp rows) ∧ Aside0 (Below w.heap.size w w'))
   case atStart => exact ⟨1, 0, b, cp, l1, rfl, rfl, ⟨by omega⟩, ⟨by omega⟩, HSQ, HD0, ⟨HDM.out.drewN _⟩, ⟨pw_below_drewN HB.out _⟩⟩
   case round =>
    clear HD0 HSQ HDM HB
    obtain ⟨out, c, b, cp, rows, rfl, rfl, HG, HOUT, HSQ, HD, HDM, HB⟩ := hrel
    have hg := HG.out
    by_cases hc : c < i
    ·
     have d1 : decide (c < i) = true := decide_eq_true hc
     have p1 := eq_true (show (0 : Int) ≤ (c : Int) by omega)
     have p2 := eq_true (show (c : Int) < (i : Int) by omega)
     have p3 := eq_true (show (c : Int) ≤ (i : Int) by omega)
     have HC0 := as0 hc
     obtain ⟨G, rfl⟩ : ∃ G, gk = G + 1 := ⟨gk - 1, by omega⟩
     have d3 : (cw = c) = False := eq_false (by have := HCW.out; omega)
     clear hc hg
     obtain ⟨B, hBe⟩ : ∃ B, B = wr.heap.size := ⟨_, rfl⟩
     have hcell : (wr.alloc (.cells #[.int .i64 (c : Int)] 3)).cell? ⟨wr.heap.size, 0, none⟩ = some (.int .i64 (c : Int)) := by simp
     have hba : Below wr.heap.size wr (wr.alloc (.cells #[.int .i64 (c : Int)] 3)) := (Below.refl _ wr).alloc (Nat.le_refl _) _
     have eg : ∀ args w, (callFunc 116 args).run Try.prog w = .ok (.enter 116 args) w := enters_of Try.func116 (by kernel_rfl) rfl
     have HIX := indexFunc2_first (some ⟨g, c, none⟩) (i - c) (cw - c) (fun j => co (ro rows (c + j)) c != 0) 116 #[.pointer (some ⟨wr.heap.size, 0, none⟩)] eg (wr.alloc (.cells #[.int .i64 (c : Int)] 3)) (by have := HN.out; omega)
      (fun j hj => ⟨⟨g, c, none⟩, .slice (some ⟨b (c + j), 0, none⟩) i (cp (c + j)), rfl, by
       have := HDM.out.cellg (i := c + j) (by rw [HSQ.out.len]; omega)
       rw [add_at]; exact pw_cell_below hba this, det1_gives _ c i _ _ _ _ HC0.out hcell (pw_cell_below hba (by
        have := HDM.out.cell (i := c + j) (k := c) (by rw [HSQ.out.len]; omega) HC0.out
        rw [add_at, Nat.zero_add]; exact this))⟩)
     have HIX := as0 HIX
     clear eg hcell
     have hbk : (wr.alloc (.cells #[.int .i64 (c : Int)] 3)).heap[wr.heap.size]? = some (.cells #[.int .i64 (c : Int)] 3 (0, 0)) := World.alloc_heap_new wr _
     have HBA := as0 hba
     have HBK := as0 hbk
     clear hba hbk
     go_wp2_with fail
     refine (HIX.out).mono ?_
     rintro e w5 ⟨⟨i0, rfl, hi0⟩, b5⟩
     have hbl : Below wr.heap.size wr w5 := below_next HBA.out b5
     have HDM5 := as0 (HDM.out.below hbl)
     have HBX := as0 (show w5.heap[B]? = some (.cells #[.int .i64 (c : Int)] 3 (0, 0)) by rw [hBe, ← HBK.out]; exact b5.block _ (blk_lt' HBK.out))
     have HB5 := as0 (below_step HB.out hbl)
     have HBg := as0 (show B ≠ g by have := HDM.out.lt_g; omega)
     have HBb := as0 (show ∀ j, j < i → b j ≠ B from fun j hj => by have := HDM.out.lt_b (i := j) (by rw [HSQ.out.len]; exact hj); omega)
     have HBs := as0 (show w.heap.size ≤ B by rw [hBe]; exact HB.out.size)
     rw [← hBe]
     clear hBe b5 hbl HBA HBK HIX HB HDM
     rcases hi0 with ⟨hm1, hz⟩ | ⟨kk, hk1, hk2, hk3, hk4⟩
     ·
      subst hm1
      have HZ := as0 hz
      clear hz
      go_wp2
      go_ret
      refine ⟨?_, HB5.out⟩
      have hz := sb_zero (p := a0) HC0.out (rows := rows) fun j h1 h2 => by
       have := HZ.out (j - c) (by omega)
       rw [show c + (j - c) = j by omega] at this
       exact bne_eq_false_iff_eq.mp this
      have h1 := (Num.cg.refl (p := a0) out).mul hz
      rw [Int.mul_zero] at h1
      have h2 := Num.cg.zero.1 (HD.out.symm.trans h1)
      show Ending.returned (.int .i64 0) = _
      rw [← HR.out, h2]
     ·
      subst hk1
      have hkn : c + kk < i := by omega
      have hxz : co (ro rows (c + kk)) c ≠ 0 := bne_iff_ne.mp hk3
      have HKN := as0 hkn
      have HXZ := as0 hxz
      have d4 : decide ((kk : Int) < 0) = false := decide_eq_false (by omega)
      clear hk2 hk3 hk4 hkn hxz
      go_upto_if 46 with (fail)
      go_cut [8] (fun v8 wc => ∃ (out1 : Int) (b1 cp1 : Nat → Nat) (rows1 : List (List Int)), v8 = .int .i64 out1 ∧ Aside0 (0 ≤ out1 ∧ out1 < a0) ∧ Aside0 (Sq a0 i rows1) ∧ Aside0 (co (ro rows1 c) c ≠ 0) ∧ Aside0 (Num.cg a0 (out1 * zdt (i - c) (sb rows1 c)) D) ∧ Aside0 (DM wc w.heap.size g i b1 cp1 rows1) ∧ Aside0 (wc.heap[B]? = some (.cells #[.int .i64 (c : Int)] 3 (0, 0))) ∧ Aside0 (∀ j, j < i → b1 j ≠ B) ∧ Aside0 (Below w.heap.size w wc))
      case first =>
       by_cases hk0 : kk = 0
       ·
        subst hk0
        have d5 : decide (0 < 0) = false := rfl
        go_wp2
        go_meet
        case rel => exact ⟨out, b, cp, rows, rfl, HOUT, HSQ, HXZ, HD, HDM5, HBX, HBb, HB5⟩
       ·
        have d5 : decide (0 < kk) = true := decide_eq_true (by omega)
        have HK0 := as0 hk0
        have hbx := blk_cell1 HBX.out
        have hcd := HDM5.out.cellg (i := c + kk) (by rw [HSQ.out.len]; exact HKN.out)
        have hcc := HDM5.out.cellg (i := c) (by rw [HSQ.out.len]; exact HC0.out)
        have hfd := HDM5.out.frg (c + kk)
        have hfc := HDM5.out.frg c
        have hkp : 0 < kk := by omega
        clear hk0
        have p5 := eq_true (show (0 : Int) ≤ (c : Int) + (kk : Int) by omega)
        have p6 := eq_true (show (c : Int) + (kk : Int) < (i : Int) by have := HKN.out; omega)
        have hwk : IntKind.i64.wrap ((c : Int) + (kk : Int)) = (c : Int) + (kk : Int) := by
         rw [i64_w, Num.w64 (by omega) (by have := HKN.out; have := HN.out; omega)]
        have hwt : ((c : Int) + (kk : Int)).toNat = c + kk := by omega
        go_wp2_with fail
        have HDM6 := as0 HDM5.out.drew
        have HBX6 := as0 (show w5.drew.heap[B]? = some (.cells #[.int .i64 (c : Int)] 3 (0, 0)) from HBX.out)
        have HB6 := as0 (below_drew HB5.out)
        refine start_ (n := 20) (S := fun w' => w'.cell? ⟨B, 0, none⟩ = some (.int .i64 (c : Int)) ∧ w'.cell? ⟨g, c + kk, none⟩ = some (.slice (some ⟨b (c + kk), 0, none⟩) i (cp (c + kk)))) (ds := [19]) #[false, false, false, false, false, false, false, false, false, false, false, false, false, false, false, false, false, false, false, false] (by kernel_rfl) rfl rfl ⟨hbx, hcd⟩ (fun hHeld => ?_)
        refine with_tabW impl_field_determinant.tab15 impl_field_determinant.bits15 (fun HT_ HW_ => ?_)
        generalize w5.drew = wd at HDM6 HBX6 HB6 hHeld ⊢
        clear hbx hcd hcc HDM5 HBX HB5
        refine pm_ HT_ (i := 0) (N := some 47) ?_
        refine pm_ HT_ (i := 2) (N := some 49) ?_
        refine pm_ HT_ (i := 4) (N := some 51) ?_
        refine pm_ HT_ (i := 6) (N := some 53) ?_
        refine pm_ HT_ (i := 8) (N := some 55) ?_
        refine pm_ HT_ (i := 12) (N := some 59) ?_
        refine tm2_ HT_ HW_ (i := 1) (N := some 48) hHeld ?_
        refine tm2_ HT_ HW_ (i := 3) (N := some 50) hHeld ?_
        refine tm2_ HT_ HW_ (i := 7) (N := some 54) hHeld ?_
        refine tm2_ HT_ HW_ (i := 13) (N := some 60) hHeld ?_
        refine pm_ HT_ (i := 5) (N := some 52) ?_
        refine pm_ HT_ (i := 9) (N := some 56) ?_
        refine pm_ HT_ (i := 10) (N := some 57) ?_
        refine pm_ HT_ (i := 14) (N := some 61) ?_
        refine tm2_ HT_ HW_ (i := 11) (N := some 58) hHeld ?_
        have hcc := HDM6.out.cellg (i := c) (by rw [HSQ.out.len]; exact HC0.out)
        have hfc := HDM6.out.frg c
        refine one_ (i := 15) (N := (some 62)) #[true, true, true, true, true, true, true, true, true, true, true, true, true, true, true, true, false, false, false, false] rfl rfl (one_of HT_.out (by kernel_rfl)) (by decide) (fun K hK => ?_)
        refine value_ (w1 := ?_) (v := ?_) (by rfl) rfl ?_ ?_
        rotate_left 2
        ·
         go_simp
         constructor
         ·
          rfl
         ·
          rfl
        refine hK.out _ _ hHeld (fun hHeld => ?_)
        clear hK K
        refine nm_ (some 62) ?_
        refine pm_ HT_ (i := 16) (N := some 63) ?_
        refine one_ (i := 17) (N := none) #[true, true, true, true, true, true, true, true, true, true, true, true, true, true, true, true, true, true, false, false] rfl rfl (one_of HT_.out (by kernel_rfl)) (by decide) (fun K hK => ?_)
        refine skip_ (w1 := ?_) (by rfl) rfl ?_ ?_
        rotate_left
        ·
         go_simp
         rfl
        have hcd6 := HDM6.out.cellg2 (c := c) (j := c + kk) (by rw [HSQ.out.len]; exact HKN.out) (by omega) (.slice (some ⟨b (c + kk), 0, none⟩) i (cp (c + kk)))
        have hbx6 : (wd.setCell ⟨g, c, none⟩ (.slice (some ⟨b (c + kk), 0, none⟩) i (cp (c + kk)))).cell? ⟨B, 0, none⟩ = some (.int .i64 (c : Int)) := blk_cell1 (blk_far HBX6.out HBg.out _)
        have hfd6 := HDM6.out.frg2 c (c + kk) (.slice (some ⟨b (c + kk), 0, none⟩) i (cp (c + kk)))
        obtain ⟨w6, hw6⟩ : ∃ w6, w6 = wd.setCell ⟨g, c, none⟩ (.slice (some ⟨b (c + kk), 0, none⟩) i (cp (c + kk))) := ⟨_, rfl⟩
        rw [← hw6] at hcd6 hfd6 hbx6 ⊢
        refine hK.out _ _ ⟨hbx6, hcd6⟩ (fun hHeld => ?_)
        clear hK K
        have HW6 := as0 hw6
        clear hw6 hcc hfc hbx6
        refine pm_ HT_ (i := 18) (N := some 64) ?_
        refine last_ (i := 19) (N := none) #[true, true, true, true, true, true, true, true, true, true, true, true, true, true, true, true, true, true, true, true] rfl rfl (one_of HT_.out (by kernel_rfl)) (by decide) (fun K hK => ?_)
        refine skip_ (w1 := ?_) (by rfl) rfl ?_ ?_
        rotate_left
        ·
         go_simp
         rfl
        refine hK.out _ _ ?_
        clear hK K
        refine done_ (done_of HT_.out (by kernel_rfl)) ?_
        clear HT_ HW_ hHeld
        have HS7 := HDM6.out.swap (c := c) (d := c + kk) (R2 := (rows.set (c + kk) (ro rows c)).set c (ro rows (c + kk))) (by rw [HSQ.out.len]; exact Nat.le_refl _) (by rw [HSQ.out.len]; exact HC0.out) (by rw [HSQ.out.len]; exact HKN.out) (by omega) (by rw [List.length_set, List.length_set]) (fun j hj => by
         rw [ro_set _ _ _ _ (by rw [List.length_set, HSQ.out.len]; exact HC0.out), ro_set _ _ _ _ (by rw [HSQ.out.len]; exact HKN.out)]
         by_cases e1 : j = c
         ·
          rw [if_pos e1, if_pos e1]
         ·
          rw [if_neg e1, if_neg e1]
          by_cases e2 : j = c + kk
          ·
           rw [if_pos e2, if_pos e2]
          ·
           rw [if_neg e2, if_neg e2])
        rw [← HW6.out] at HS7
        have HX7 : (w6.setCell ⟨g, c + kk, none⟩ (.slice (some ⟨b c, 0, none⟩) i (cp c))).heap[B]? = some (.cells #[.int .i64 (c : Int)] 3 (0, 0)) := by
         rw [HW6.out]; exact blk_far (blk_far HBX6.out HBg.out _) HBg.out _
        have HB7 : Below w.heap.size w (w6.setCell ⟨g, c + kk, none⟩ (.slice (some ⟨b c, 0, none⟩) i (cp c))) := by
         rw [HW6.out]; exact below_set (below_set HB6.out HDM6.out.lg) HDM6.out.lg
        generalize w6.setCell ⟨g, c + kk, none⟩ (.slice (some ⟨b c, 0, none⟩) i (cp c)) = w7 at HS7 HX7 HB7 ⊢
        have HS7 := as0 HS7
        have HX7 := as0 HX7
        have HB7 := as0 HB7
        clear HW6 HDM6 HBX6 HB6 p5 p6 hwk hwt hfd hcd6 hfd6
        have hwn : wrap64 (-out) = -out := Num.w64 (by have := HOUT.out; omega) (by have := HOUT.out; omega)
        have HMN : ∀ W, Calls Try.prog 64 #[.int .i64 a0, .int .i64 (wrap64 (-out))] W fun e w' => e = .returned (.int .i64 ((-out) % a0)) ∧ Drawn0 W w' := fun W => by
         rw [hwn]; exact impl_field_mod.calls a0 (-out) ((-out) % a0) W (impl_mod (by omega) (by omega))
        clear hwn
        go_wp2_with (go_at_call 64; refine (HMN _).mono ?_; rintro e w' ⟨rfl, ⟨nd, rfl⟩⟩)
        go_meet
        case rel =>
         refine ⟨(-out) % a0, _, _, _, rfl, ⟨Num.emod_bd (by omega)⟩, ⟨?_⟩, ⟨?_⟩, ⟨?_⟩, ⟨HS7.out.drewN _⟩, ⟨HX7.out⟩, ⟨fun j hj => ?_⟩, ⟨pw_below_drewN HB7.out _⟩⟩
         ·
          exact (HSQ.out.set HKN.out (HSQ.out.row c HC0.out) (HSQ.out.inR c HC0.out)).set HC0.out (HSQ.out.row _ HKN.out) (HSQ.out.inR _ HKN.out)
         ·
          rw [ro_set _ _ _ _ (by rw [List.length_set, HSQ.out.len]; exact HC0.out), if_pos rfl]; exact HXZ.out
         ·
          have h1 := sb_swap (c := c) HSQ.out.len (show c < c + kk by omega) HKN.out
          rw [h1]
          have h2 := (Num.cg.mod a0 (-out)).mul (Num.cg.refl (p := a0) (-zdt (i - c) (sb rows c)))
          rw [Int.neg_mul_neg] at h2
          exact h2.trans HD.out
         ·
          show b (if j = c then c + kk else if j = c + kk then c else j) ≠ B
          refine HBb.out _ ?_
          have := HC0.out
          have := HKN.out
          split
          ·
           omega
          ·
           split <;> omega
      case rest =>
       obtain ⟨out1, b1, cp1, rows1, rfl, HOUT1, HSQ1, HXZ1, HD1, HDM1, HBX1, HBb1, HB1⟩ := hcut
       clear HOUT HSQ HXZ HD HDM5 HBX HBb HB5 d4
       obtain ⟨x, hxe⟩ : ∃ x, x = co (ro rows1 c) c := ⟨_, rfl⟩
       have hbx := blk_cell1 HBX1.out
       have hcc := HDM1.out.cellg (i := c) (by rw [HSQ1.out.len]; exact HC0.out)
       have hpx := HDM1.out.cell (i := c) (k := c) (by rw [HSQ1.out.len]; exact HC0.out) HC0.out
       rw [← hxe] at hpx
       have hxb : 0 ≤ x ∧ x < a0 := by rw [hxe]; exact (HSQ1.out.inR c HC0.out).get (by omega) c
       have hmb := mul_bd2 hpm HOUT1.out (y := x) (by omega)
       have HML : ∀ W, Calls Try.prog 96 #[.int .i64 a0, .int .i64 out1, .int .i64 x] W fun e w' => e = .returned (.int .i64 (out1 * x % a0)) ∧ Drawn0 W w' := fun W => impl_field_mul.calls a0 out1 x (out1 * x % a0) W (impl_mul (by omega) (by omega) (by omega) (by omega))
       have HXE := as0 hxe
       have HXB := as0 hxb
       clear hxe hxb hmb
       go_wp2_with fail
       have HDM2 := as0 HDM1.out.drew
       have HBX2 := as0 (show wc.drew.heap[B]? = some (.cells #[.int .i64 (c : Int)] 3 (0, 0)) from HBX1.out)
       have HB2 := as0 (below_drew HB1.out)
       refine start_ (n := 11) (S := fun w' => w'.cell? ⟨B, 0, none⟩ = some (.int .i64 (c : Int)) ∧ w'.cell? ⟨g, c, none⟩ = some (.slice (some ⟨b1 c, 0, none⟩) i (cp1 c)) ∧ w'.cell? ⟨b1 c, c, none⟩ = some (.int .i64 x)) (ds := []) #[false, false, false, false, false, false, false, false, false, false, false] (by kernel_rfl) rfl rfl ⟨hbx, hcc, hpx⟩ (fun hHeld => ?_)
       refine with_tabW impl_field_determinant.tab17 impl_field_determinant.bits17 (fun HT_ HW_ => ?_)
       generalize wc.drew = wd at HDM2 HBX2 HB2 hHeld ⊢
       clear hbx hcc hpx HDM1 HBX1 HB1
       refine pm_ HT_ (i := 0) (N := some 69) ?_
       refine pm_ HT_ (i := 1) (N := some 70) ?_
       refine pm_ HT_ (i := 2) (N := some 71) ?_
       refine tm3_ HT_ HW_ (i := 3) (N := some 72) hHeld ?_
       refine tm3_ HT_ HW_ (i := 6) (N := some 75) hHeld ?_
       refine pm_ HT_ (i := 4) (N := some 73) ?_
       refine tm3_ HT_ HW_ (i := 5) (N := some 74) hHeld ?_
       refine pm_ HT_ (i := 7) (N := some 76) ?_
       refine tm3_ HT_ HW_ (i := 8) (N := some 77) hHeld ?_
       refine one_ (i := 9) (N := (some 78)) #[true, true, true, true, true, true, true, true, true, true, false] rfl rfl (one_of HT_.out (by kernel_rfl)) (by decide) (fun K hK => ?_)
       refine goes_ Try.func96 (by kernel_rfl) rfl #[.int .i64 a0, .int .i64 out1, .int .i64 x] (by rfl) rfl rfl (by (try simp only [List.map_toArray, List.map_cons, List.map_nil]); first | done | rfl) ?_
       refine (HML _).mono ?_
       rintro e w' ⟨rfl, ⟨nd, rfl⟩⟩
       refine ⟨_, rfl, ?_⟩
       refine hK.out _ _ hHeld (fun hHeld => ?_)
       clear hK K
       refine nm_ (some 78) ?_
       refine pm_ HT_ (i := 10) (N := some 8) ?_
       refine done_ (done_of HT_.out (by kernel_rfl)) ?_
       clear HT_ HW_ hHeld
       clear HML
       have q1 : (c : Int) + 1 ≤ (i : Int) := by have := HC0.out; omega
       have q2 : (c : Int) ≤ 1000 := by have := HC0.out; have := HN.out; omega
       have q3 := eq_true (show (0 : Int) ≤ (c : Int) + 1 by omega)
       have HCWN := as0 (show i ≤ cw from HCW.out)
       obtain ⟨wd2, hwd2⟩ : ∃ wd2, wd2 = wd.drewN nd := ⟨_, rfl⟩
       have HDM3 := as0 (show DM wd2 w.heap.size g i b1 cp1 rows1 by rw [hwd2]; exact HDM2.out.drewN _)
       have HBX3 := as0 (show wd2.heap[B]? = some (.cells #[.int .i64 (c : Int)] 3 (0, 0)) by rw [hwd2]; exact HBX2.out)
       have HB3 := as0 (show Below w.heap.size w wd2 by rw [hwd2]; exact pw_below_drewN HB2.out _)
       rw [← hwd2]
       have hbx := blk_cell1 HBX3.out
       clear hwd2 HDM2 HBX2 HB2
       clear nd
       go_upto_region 18 with (fail)
       go_cut [82, 83, 84] (fun v82 v83 v84 wq => ∃ (Ax : Addr) (cx : Nat), v82 = .slice (some Ax) (i - (c + 1)) cx ∧ v83 = .int .i64 ((i - (c + 1) : Nat) : Int) ∧ v84 = .int .i64 0 ∧ Aside0 (c + 1 < i → Ax = ⟨g, c + 1, none⟩) ∧ wq = wd2)
       case first =>
        by_cases hcw : cw = c + 1
        ·
         go_wp2
         go_meet
         case rel => exact ⟨_, _, rfl, rfl, rfl, ⟨fun h => by have := HCWN.out; omega⟩, rfl⟩
        ·
         go_wp2
         go_meet
         case rel => exact ⟨_, _, rfl, rfl, rfl, ⟨fun _ => rfl⟩, rfl⟩
       case rest =>
        obtain ⟨Ax, cx, rfl, rfl, rfl, HAX, rfl⟩ := hcut
        clear hbx q1 q2 q3
        have HUN := as0 (show Num.cg a0 (co (ro rows1 c) c * inv a0 x) 1 by
         have h2 : x % a0 ≠ 0 := by rw [Int.emod_eq_of_lt HXB.out.1 HXB.out.2, HXE.out]; exact HXZ1.out
         have := Num.inv_cg HP.out h2
         rw [← HXE.out]; exact this)
        obtain ⟨iv, hiv⟩ : ∃ iv, iv = inv a0 x := ⟨_, rfl⟩
        rw [← hiv] at HUN
        have HIV := as0 hiv
        clear hiv
        go_wp2
        go_loopg [84] (i - (c + 1)) (fun kq v84 w' => ∃ (t : Nat) (rows2 : List (List Int)), v84 = .int .i64 (t : Int) ∧ Aside0 (t + kq = i - (c + 1)) ∧ Aside0 (Sq a0 i rows2) ∧ Aside0 (∀ j, j ≤ c ∨ c + 1 + t ≤ j → ro rows2 j = ro rows1 j) ∧ Aside0 (∀ j, c < j → j < c + 1 + t → ∀ s, s < i → Num.cg a0 (co (ro rows2 j) s) (co (ro rows1 j) s - co (ro rows1 j) c * iv % a0 * co (ro rows1 c) s)) ∧ Aside0 (DM w' w.heap.size g i b1 cp1 rows2) ∧ Aside0 (w'.heap[B]? = some (.cells #[.int .i64 (c : Int)] 3 (0, 0))) ∧ Aside0 (Below w.heap.size w w'))
        case atStart => exact ⟨0, rows1, rfl, ⟨by omega⟩, HSQ1, ⟨fun _ _ => rfl⟩, ⟨fun j h1 h2 => by omega⟩, HDM3, HBX3, HB3⟩
        case round =>
         clear HDM3 HBX3 HB3
         obtain ⟨t, rows2, rfl, HGt, HSQ2, HEQ, HEL, HDM2, HBX2, HB2⟩ := hrel
         have hgt := HGt.out
         by_cases ht : t < i - (c + 1)
         ·
          obtain ⟨j, hj⟩ : ∃ j, j = c + 1 + t := ⟨_, rfl⟩
          have hji : j < i := by omega
          have d6 : decide (t < i - (c + 1)) = true := decide_eq_true ht
          have p5 := eq_true (show (0 : Int) ≤ (t : Int) by omega)
          have p6 := eq_true (show (t : Int) < ((i - (c + 1) : Nat) : Int) by omega)
          have hAx := HAX.out (by omega)
          subst hAx
          have hcj := HDM2.out.cellg (i := j) (by rw [HSQ2.out.len]; exact hji)
          have hcj2 : wr.cell? ⟨g, c + 1 + t, none⟩ = some (.slice (some ⟨b1 j, 0, none⟩) i (cp1 j)) := by
           rw [← hj]; exact hcj
          have HJ := as0 hj
          have HJI := as0 hji
          have HT := as0 ht
          obtain ⟨y, hy⟩ : ∃ y, y = co (ro rows1 j) c := ⟨_, rfl⟩
          have hpy := HDM2.out.cell (i := j) (k := c) (by rw [HSQ2.out.len]; exact hji) HC0.out
          rw [HEQ.out j (.inr (by omega)), ← hy] at hpy
          have hpx := HDM2.out.cell (i := c) (k := c) (by rw [HSQ2.out.len]; exact HC0.out) HC0.out
          rw [HEQ.out c (.inl (Nat.le_refl _)), ← HXE.out] at hpx
          have hyb : 0 ≤ y ∧ y < a0 := by rw [hy]; exact (HSQ1.out.inR j hji).get (by omega) c
          have HY := as0 hy
          have HYB := as0 hyb
          obtain ⟨K, hK⟩ := impl_div (p := a0) (x := y) (y := x) hp2 hpm hyb HXB.out
          have HDV : ∀ W, Calls Try.prog 63 #[.int .i64 a0, .int .i64 y, .int .i64 x] W fun e w' => e = .returned (.int .i64 (y * iv % a0)) ∧ Drawn0 W w' := fun W => by
           have := impl_field_div.calls K a0 y x _ W (hK K (Nat.le_refl _))
           rwa [← HIV.out] at this
          have hbx := blk_cell1 HBX2.out
          have hcc := HDM2.out.cellg (i := c) (by rw [HSQ2.out.len]; exact HC0.out)
          obtain ⟨m, rfl⟩ : ∃ m, gk = m + 1 := ⟨gk - 1, by omega⟩
          clear hK hyb hy hcj hj hji hgt ht
          go_wp2_with fail
          have HDM4 := as0 HDM2.out.drew
          have HBX4 := as0 (show wr.drew.heap[B]? = some (.cells #[.int .i64 (c : Int)] 3 (0, 0)) from HBX2.out)
          have HB4 := as0 (below_drew HB2.out)
          refine start_ (n := 14) (S := fun w' => w'.cell? ⟨B, 0, none⟩ = some (.int .i64 (c : Int)) ∧ w'.cell? ⟨g, c, none⟩ = some (.slice (some ⟨b1 c, 0, none⟩) i (cp1 c)) ∧ w'.cell? ⟨b1 c, c, none⟩ = some (.int .i64 x) ∧ w'.cell? ⟨b1 j, c, none⟩ = some (.int .i64 y)) (ds := []) #[false, false, false, false, false, false, false, false, false, false, false, false, false, false] (by kernel_rfl) rfl rfl ⟨hbx, hcc, hpx, hpy⟩ (fun hHeld => ?_)
          refine with_tabW impl_field_determinant.tab21 impl_field_determinant.bits21 (fun HT_ HW_ => ?_)
          generalize wr.drew = wd at HDM4 HBX4 HB4 hHeld ⊢
          clear hbx hcc hpx hpy hcj2 HDM2 HBX2 HB2
          refine pm_ HT_ (i := 0) (N := some 88) ?_
          refine pm_ HT_ (i := 1) (N := some 89) ?_
          refine pm_ HT_ (i := 5) (N := some 93) ?_
          refine tm4_ HT_ HW_ (i := 2) (N := some 90) hHeld ?_
          refine tm4_ HT_ HW_ (i := 6) (N := some 94) hHeld ?_
          refine tm4_ HT_ HW_ (i := 9) (N := some 97) hHeld ?_
          refine pm_ HT_ (i := 3) (N := some 91) ?_
          refine pm_ HT_ (i := 7) (N := some 95) ?_
          refine tm4_ HT_ HW_ (i := 4) (N := some 92) hHeld ?_
          refine tm4_ HT_ HW_ (i := 8) (N := some 96) hHeld ?_
          refine pm_ HT_ (i := 10) (N := some 98) ?_
          refine tm4_ HT_ HW_ (i := 11) (N := some 99) hHeld ?_
          refine one_ (i := 12) (N := (some 100)) #[true, true, true, true, true, true, true, true, true, true, true, true, true, false] rfl rfl (one_of HT_.out (by kernel_rfl)) (by decide) (fun K hK => ?_)
          refine goes_ Try.func63 (by kernel_rfl) rfl #[.int .i64 a0, .int .i64 y, .int .i64 x] (by rfl) rfl rfl (by (try simp only [List.map_toArray, List.map_cons, List.map_nil]); first | done | rfl) ?_
          refine (HDV _).mono ?_
          rintro e w' ⟨rfl, ⟨nd, rfl⟩⟩
          refine ⟨_, rfl, ?_⟩
          refine hK.out _ _ hHeld (fun hHeld => ?_)
          clear hK K
          refine nm_ (some 100) ?_
          refine pm_ HT_ (i := 13) (N := some 13) ?_
          refine done_ (done_of HT_.out (by kernel_rfl)) ?_
          clear HT_ HW_ hHeld
          clear HDV
          obtain ⟨fa, hfa⟩ : ∃ fa, fa = y * iv % a0 := ⟨_, rfl⟩
          rw [← hfa]
          have HFA := as0 hfa
          have HFB := as0 (show 0 ≤ fa ∧ fa < a0 by rw [hfa]; exact Num.emod_bd (by omega))
          have HSR := as0 (set_ro rows2 (j := j) (by rw [HSQ2.out.len]; exact HJI.out))
          have HEJ := as0 (HEQ.out j (.inr (by have := HJ.out; omega)))
          clear hfa hHeld p5 p6 d6
          go_wp2
          go_loopg [103] i (fun kq v103 w' => ∃ (s : Nat) (rj : List Int), v103 = .int .i64 (s : Int) ∧ Aside0 (s + kq = i) ∧ Aside0 (rj.length = i) ∧ Aside0 (∀ q, q < s → co rj q = (co (ro rows1 j) q - fa * co (ro rows1 c) q) % a0) ∧ Aside0 (∀ q, s ≤ q → co rj q = co (ro rows1 j) q) ∧ Aside0 (DM w' w.heap.size g i b1 cp1 (rows2.set j rj)) ∧ Aside0 (w'.heap[B]? = some (.cells #[.int .i64 (c : Int)] 3 (0, 0))) ∧ Aside0 (Below w.heap.size w w'))
          case atStart => exact ⟨0, ro rows1 j, rfl, ⟨by omega⟩, ⟨HSQ1.out.row j HJI.out⟩, ⟨fun q h => by omega⟩, ⟨fun _ _ => rfl⟩, ⟨by rw [← HEJ.out, HSR.out]; exact HDM4.out.drewN _⟩, HBX4, ⟨pw_below_drewN HB4.out _⟩⟩
          case round =>
           clear HDM4 HBX4 HB4
           obtain ⟨s, rj, rfl, HGs, HRL, HLO, HHI, HDM5, HBX5, HB5⟩ := hrel
           have hgs := HGs.out
           by_cases hs : s < i
           ·
            have d6 : decide (s < i) = true := decide_eq_true hs
            have p5 := eq_true (show (0 : Int) ≤ (s : Int) by omega)
            have p6 := eq_true (show (s : Int) < (i : Int) by omega)
            have HS := as0 hs
            have hrj : ro (rows2.set j rj) j = rj := by rw [ro_set _ _ _ _ (by rw [HSQ2.out.len]; exact HJI.out), if_pos rfl]
            have hrc : ro (rows2.set j rj) c = ro rows1 c := by
             rw [ro_set _ _ _ _ (by rw [HSQ2.out.len]; exact HJI.out), if_neg (by have := HJ.out; omega)]
             exact HEQ.out c (.inl (Nat.le_refl _))
            have hjl : j < (rows2.set j rj).length := by rw [List.length_set, HSQ2.out.len]; exact HJI.out
            have hcl : c < (rows2.set j rj).length := by rw [List.length_set, HSQ2.out.len]; exact HC0.out
            have hpr := HDM5.out.cell (i := j) (k := s) hjl hs
            have hpo := HDM5.out.cell (i := c) (k := s) hcl hs
            have hcc := HDM5.out.cellg (i := c) hcl
            have hbx := blk_cell1 HBX5.out
            rw [hrj, HHI.out s (Nat.le_refl _)] at hpr
            rw [hrc] at hpo
            obtain ⟨rt, hrt⟩ : ∃ rt, rt = co (ro rows1 j) s := ⟨_, rfl⟩
            obtain ⟨ot, hot⟩ : ∃ ot, ot = co (ro rows1 c) s := ⟨_, rfl⟩
            rw [← hrt] at hpr
            rw [← hot] at hpo
            have hrb : 0 ≤ rt ∧ rt < a0 := by rw [hrt]; exact (HSQ1.out.inR j HJI.out).get (by omega) s
            have hob : 0 ≤ ot ∧ ot < a0 := by rw [hot]; exact (HSQ1.out.inR c HC0.out).get (by omega) s
            have hmb := mul_bd2 hpm HFB.out (y := ot) (by omega)
            have hw1 : wrap64 (rt - wrap64 (fa * ot)) = rt - fa * ot := by rw [Num.w64 (x := fa * ot) (by omega) (by omega), Num.w64 (by omega) (by omega)]
            have HMD : ∀ W, Calls Try.prog 64 #[.int .i64 a0, .int .i64 (wrap64 (rt - wrap64 (fa * ot)))] W fun e w' => e = .returned (.int .i64 ((rt - fa * ot) % a0)) ∧ Drawn0 W w' := fun W => by
             rw [hw1]; exact impl_field_mod.calls a0 (rt - fa * ot) _ W (impl_mod (by omega) (by omega))
            have RT := as0 hrt
            have OT := as0 hot
            have HRJ := as0 hrj
            obtain ⟨m2, rfl⟩ : ∃ m2, gk = m2 + 1 := ⟨gk - 1, by omega⟩
            clear hrt hot hrj hrc hjl hcl hrb hob hmb hw1 hgs hs
            go_wp2_with fail
            have HDM6 := as0 HDM5.out.drew
            have HBX6 := as0 (show wr.drew.heap[B]? = some (.cells #[.int .i64 (c : Int)] 3 (0, 0)) from HBX5.out)
            have HB6 := as0 (below_drew HB5.out)
            refine start_ (n := 20) (S := fun w' => w'.cell? ⟨B, 0, none⟩ = some (.int .i64 (c : Int)) ∧ w'.cell? ⟨g, c, none⟩ = some (.slice (some ⟨b1 c, 0, none⟩) i (cp1 c)) ∧ w'.cell? ⟨b1 c, s, none⟩ = some (.int .i64 ot) ∧ w'.cell? ⟨b1 j, s, none⟩ = some (.int .i64 rt)) (ds := [19]) #[false, false, false, false, false, false, false, false, false, false, false, false, false, false, false, false, false, false, false, false] (by kernel_rfl) rfl rfl ⟨hbx, hcc, hpo, hpr⟩ (fun hHeld => ?_)
            refine with_tabW impl_field_determinant.tab25 impl_field_determinant.bits25 (fun HT_ HW_ => ?_)
            generalize wr.drew = wd at HDM6 HBX6 HB6 hHeld ⊢
            clear hbx hcc hpo hpr HDM5 HBX5 HB5
            refine pm_ HT_ (i := 0) (N := some 106) ?_
            refine pm_ HT_ (i := 1) (N := some 107) ?_
            refine pm_ HT_ (i := 2) (N := some 108) ?_
            refine pm_ HT_ (i := 3) (N := some 109) ?_
            refine pm_ HT_ (i := 4) (N := some 110) ?_
            refine pm_ HT_ (i := 7) (N := some 113) ?_
            refine pm_ HT_ (i := 8) (N := some 114) ?_
            refine pm_ HT_ (i := 12) (N := some 118) ?_
            refine pm_ HT_ (i := 5) (N := some 111) ?_
            refine tm4_ HT_ HW_ (i := 6) (N := some 112) hHeld ?_
            refine tm4_ HT_ HW_ (i := 9) (N := some 115) hHeld ?_
            refine pm_ HT_ (i := 10) (N := some 116) ?_
            refine tm4_ HT_ HW_ (i := 11) (N := some 117) hHeld ?_
            refine pm_ HT_ (i := 13) (N := some 119) ?_
            refine tm4_ HT_ HW_ (i := 14) (N := some 120) hHeld ?_
            refine pm_ HT_ (i := 15) (N := some 121) ?_
            refine pm_ HT_ (i := 16) (N := some 122) ?_
            refine one_ (i := 17) (N := (some 123)) #[true, true, true, true, true, true, true, true, true, true, true, true, true, true, true, true, true, true, false, false] rfl rfl (one_of HT_.out (by kernel_rfl)) (by decide) (fun K hK => ?_)
            refine goes_ Try.func64 (by kernel_rfl) rfl #[.int .i64 a0, .int .i64 (wrap64 (rt - wrap64 (fa * ot)))] (by rfl) rfl rfl (by (try simp only [List.map_toArray, List.map_cons, List.map_nil]); first | done | rfl) ?_
            refine (HMD _).mono ?_
            rintro e w' ⟨rfl, ⟨nd, rfl⟩⟩
            refine ⟨_, rfl, ?_⟩
            refine hK.out _ _ hHeld (fun hHeld => ?_)
            clear hK K
            refine nm_ (some 123) ?_
            have hpr := hHeld.2.2.2
            have hfr := HDM6.out.fr (i := j) (by rw [List.length_set, HSQ2.out.len]; exact HJI.out) s
            refine pm_ HT_ (i := 18) (N := some 124) ?_
            refine last_ (i := 19) (N := none) #[true, true, true, true, true, true, true, true, true, true, true, true, true, true, true, true, true, true, true, true] rfl rfl (one_of HT_.out (by kernel_rfl)) (by decide) (fun K hK => ?_)
            refine skip_ (w1 := ?_) (by rfl) rfl ?_ ?_
            rotate_left
            ·
             go_simp
             rfl
            refine hK.out _ _ ?_
            clear hK K
            refine done_ (done_of HT_.out (by kernel_rfl)) ?_
            clear HT_ HW_ hHeld
            clear hpr hfr
            have HP7 := as0 ((HDM6.out.drewN nd).put (i := j) (k := s) (x := (rt - fa * ot) % a0) (R2 := rows2.set j (rj.set s ((rt - fa * ot) % a0))) (by rw [List.length_set, HSQ2.out.len]; exact HJI.out) HS.out (by rw [List.length_set, List.length_set]) (fun q hq => by rw [ro_set _ _ _ _ (by rw [HSQ2.out.len]; exact HJI.out), ro_set _ _ _ _ (by rw [HSQ2.out.len]; exact HJI.out), if_neg hq, if_neg hq]) (fun q hq => by rw [ro_set _ _ _ _ (by rw [HSQ2.out.len]; exact HJI.out), if_pos rfl, HRJ.out, co_set1 _ _ _ _ (by rw [HRL.out]; exact HS.out)]))
            have HX7 := as0 (show ((wd.drewN nd).setCell ⟨b1 j, s, none⟩ (.int .i64 ((rt - fa * ot) % a0))).heap[B]? = some (.cells #[.int .i64 (c : Int)] 3 (0, 0)) from blk_far (show (wd.drewN nd).heap[B]? = _ from HBX6.out) (fun e => HBb1.out j HJI.out e.symm) _)
            have HB7 := as0 (below_set (j := s) (v := .int .i64 ((rt - fa * ot) % a0)) (pw_below_drewN HB6.out nd) (HDM6.out.lb j (by rw [List.length_set, HSQ2.out.len]; exact HJI.out)))
            generalize (wd.drewN nd).setCell ⟨b1 j, s, none⟩ (.int .i64 ((rt - fa * ot) % a0)) = w7 at HP7 HX7 HB7 ⊢
            clear HMD HDM6 HBX6 HB6
            go_wp2
            go_roundg m2
            case measure => omega
            case rel =>
             refine ⟨s + 1, rj.set s ((rt - fa * ot) % a0), ?_, ⟨by have := HGs.out; omega⟩, ⟨by rw [List.length_set]; exact HRL.out⟩, ⟨fun q hq => ?_⟩, ⟨fun q hq => ?_⟩, HP7, HX7, HB7⟩
             ·
              rw [wp1 (show s ≤ 1000000000000 by have := HS.out; have := HN.out; omega)]
             ·
              rw [co_set1 _ _ _ _ (by rw [HRL.out]; exact HS.out)]
              by_cases e : q = s
              ·
               rw [if_pos e, e, RT.out, OT.out]
              ·
               rw [if_neg e]; exact HLO.out q (by omega)
             ·
              rw [co_set1 _ _ _ _ (by rw [HRL.out]; exact HS.out), if_neg (by omega)]; exact HHI.out q (by omega)
           ·
            have hsi : s = i := by omega
            have d6 : decide (s < i) = false := decide_eq_false hs
            have HSI := as0 hsi
            clear hsi hs hgs
            go_wp2
            go_roundg m
            case measure => omega
            case rel =>
             refine ⟨t + 1, rows2.set j rj, ?_, ⟨by have := HGt.out; omega⟩, ⟨?_⟩, ⟨fun q hq => ?_⟩, ⟨fun q h1 h2 u hu => ?_⟩, HDM5, HBX5, HB5⟩
             ·
              rw [wp1 (show t ≤ 1000000000000 by have := HT.out; have := HN.out; omega)]
             ·
              refine HSQ2.out.set HJI.out HRL.out fun z hz => ?_
              obtain ⟨u, hu, e⟩ := List.getElem_of_mem hz
              have := HLO.out u (by rw [HSI.out, ← HRL.out]; exact hu)
              unfold co at this
              rw [List.getD_eq_getElem?_getD, List.getElem?_eq_getElem hu] at this
              rw [← e, show rj[u] = _ from this]
              exact Num.emod_bd (by omega)
             ·
              rw [ro_set _ _ _ _ (by rw [HSQ2.out.len]; exact HJI.out), if_neg (by have := HJ.out; omega)]
              exact HEQ.out q (by omega)
             ·
              rw [ro_set _ _ _ _ (by rw [HSQ2.out.len]; exact HJI.out)]
              by_cases e : q = j
              ·
               rw [if_pos e, HLO.out u (by rw [HSI.out]; exact hu), e, ← HY.out, ← HFA.out]
               exact Num.cg.mod _ _
              ·
               rw [if_neg e]; exact HEL.out q h1 (by have := HJ.out; omega) u hu
         ·
          have hti : t = i - (c + 1) := by omega
          have d6 : decide (t < i - (c + 1)) = false := decide_eq_false ht
          have HTI := as0 hti
          clear hti ht hgt
          go_wp2
          go_roundg G
          case measure => omega
          case rel =>
           refine ⟨out1 * x % a0, c + 1, b1, cp1, rows2, rfl, ?_, ⟨by have := HG.out; omega⟩, ⟨Num.emod_bd (by omega)⟩, HSQ2, ⟨?_⟩, HDM2, HB2⟩
           ·
            rw [wp1 (show c ≤ 1000000000000 by have := HC0.out; have := HN.out; omega)]
           ·
            have h1 := sb_elim (p := a0) (n := i) (c := c) (R := rows1) (R2 := rows2) HC0.out HUN.out (fun q => co (ro rows1 q) c * iv % a0) (fun q _ _ => Num.cg.mod _ _) (fun q h1 h2 u hu => HEL.out q h1 (by have := HTI.out; omega) u hu)
            rw [← HXE.out] at h1
            have h2 := (Num.cg.refl (p := a0) out1).mul h1
            have h3 := (Num.cg.mod a0 (out1 * x)).mul (Num.cg.refl (p := a0) (zdt (i - (c + 1)) (sb rows2 (c + 1))))
            rw [Int.mul_assoc] at h3
            exact h3.trans (h2.symm.trans HD1.out)
    ·
     have hci : c = i := by omega
     have d1 : decide (c < i) = false := decide_eq_false hc
     have HCI := as0 hci
     clear hc hci hg
     go_wp2
     go_ret
     refine ⟨?_, HB.out⟩
     have h1 := HD.out
     rw [HCI.out, Nat.sub_self, show zdt 0 (sb rows i) = 1 from rfl, Int.mul_one] at h1
     have h2 := h1.emod
     rw [Int.emod_eq_of_lt HOUT.out.1 HOUT.out.2] at h2
     show Ending.returned (.int .i64 out) = _
     rw [h2, HR.out]
def shl0 (N i : Nat) (l : List Int) : List Int := List.replicate i 0 ++ l ++ List.replicate (N - i - l.length) 0
def shls (N k : Nat) (l : List Int) : List (List Int) := (List.range k).map fun i => shl0 N i l
theorem shls_succ (N k : Nat) (l : List Int) : shls N (k + 1) l = shls N k l ++ [shl0 N k l] := by unfold shls; rw [List.range_succ, List.map_append]; rfl
theorem shls_length (N k : Nat) (l : List Int) : (shls N k l).length = k := by unfold shls; simp
theorem shl0_length {N i : Nat} {l : List Int} (h : i + l.length ≤ N) : (shl0 N i l).length = N := by unfold shl0; simp; omega
theorem made_own {w : World} {base e N : Nat} {ok : Nat → Prop} {v : Value} {z : Int} (h : Kd.R (Kd.int .i64) e w base ok v (List.replicate z.toNat 0)) (hz : z.toNat = N) (hN : 0 < N) :
  ∃ q cap cur, v = .slice (some ⟨q, 0, none⟩) N cap ∧ base ≤ q ∧ w.heap[q]? = some (.cells cur e (0, 0)) ∧ N ≤ cap ∧ cap ≤ maxLen ∧ cur.size = cap ∧ cur.toList.take N = (List.replicate N (0 : Int)).map (Value.int .i64) := by
 rw [hz] at h
 have ho := Kd.own_of_R h
 rw [List.length_replicate] at ho
 obtain ⟨_, h2⟩ := ho
 rcases h2 with ⟨_, h0⟩ | ⟨q, cap, cur, e1, hb, hh, hnc, hcm, hcs, hct⟩
 ·
  omega
 ·
  exact ⟨q, cap, cur, e1, hb, hh, hnc, hcm, by rw [hcs, Nat.mul_one], by rw [Nat.mul_one] at hct; rw [hct]; rfl⟩
theorem spliced {w : World} {q N cap i : Nat} {cur : Array Value} {l : List Int} (hh : w.heap[q]? = some (.cells (splice cur.toList i (l.map (Value.int .i64))).toArray 2 (0, 0))) (hnc : N ≤ cap) (hcm : cap ≤ maxLen) (hcs : cur.size = cap)
  (hct : cur.toList.take N = (List.replicate N (0 : Int)).map (Value.int .i64)) (hil : i + l.length ≤ N) : Kd.F (Kd.int .i64) w (fun k => k = q) (some ⟨q, 0, none⟩) N (shl0 N i l) := by
 have hlen : (shl0 N i l).length = N := shl0_length hil
 have e : (splice cur.toList i (l.map (Value.int .i64))).take N = (shl0 N i l).map (Value.int .i64) := by
  have hC : cur.toList.length = cap := by rw [Array.length_toList, hcs]
  have hti : cur.toList.take i = (List.replicate i (0 : Int)).map (Value.int .i64) := by
   have := congrArg (List.take i) hct
   rw [List.take_take, Nat.min_eq_left (by omega), ← List.map_take, List.take_replicate, Nat.min_eq_left (by omega)] at this
   exact this
  have hdr : (cur.toList.drop (i + l.length)).take (N - i - l.length) = (List.replicate (N - i - l.length) (0 : Int)).map (Value.int .i64) := by
   have := congrArg (List.drop (i + l.length)) hct
   rw [List.drop_take, ← List.map_drop, List.drop_replicate, show N - (i + l.length) = N - i - l.length by omega] at this
   exact this
  have hli : (cur.toList.take i).length = i := by rw [List.length_take]; omega
  unfold splice shl0
  rw [List.take_append, List.take_append, hli, List.length_map, hdr, List.take_take, Nat.min_eq_right (by omega), hti, List.take_of_length_le (by rw [List.length_map]; omega), List.map_append, List.map_append, List.append_assoc]
 have ho : w.ownsRow q 2 1 (.slice (some ⟨q, 0, none⟩) N cap) N ((shl0 N i l).map (Value.int .i64)) :=
  ⟨by simp [hlen], .inr ⟨q, cap, _, rfl, Nat.le_refl _, hh, hnc, hcm, by simp [splice]; omega, by rw [Nat.mul_one]; simpa using e⟩⟩
 have hR : Kd.R (Kd.int .i64) 2 w q (fun k => k = q) (.slice (some ⟨q, 0, none⟩) N cap) (shl0 N i l) := Kd.R_of_own (by rw [hlen]; exact ho) (fun k hk => by simpa [Value.ownBlock] using hk.symm)
 exact Kd.R_F hR
set_option maxHeartbeats 8000000 in
set_option maxRecDepth 100000 in
theorem syl1_calls (Z Bn Bm Br n m : Nat) (A : Option Addr) (c : Nat) (list : List Int) (many : Nat) (rows : List (List Int)) (v : Value) (w0 W : World) (hB : Below w0.heap.size w0 W) (hz : w0.heap.size ≤ Br) (hbr : Br < Z) (hnr : Bn ≠ Br) (hmr : Bm ≠ Br) (hbn : Bn < Z) (hbm : Bm < Z) (hZ : Z ≤ W.heap.size)
  (h1 : W.heap[Bn]? = some (.cells #[.int .i64 (n : Int)] 3 (0, 0))) (h2 : W.heap[Bm]? = some (.cells #[.int .i64 (m : Int)] 3 (0, 0))) (h3 : W.heap[Br]? = some (.cells #[v] 23 (0, 0)))
  (hl : Kd.C (Kd.int .i64) w0 A list.length list) (hc : list.length ≤ c) (hN : Kd.N (Kd.slice 2 (Kd.int .i64)) 22 W w0.heap.size (fun k => Z ≤ k) v rows)
  (hsz : list.length + many ≤ n + m + 1) (h0 : 0 < list.length) (hnm : n + m ≤ 1000) (hr : rows.length + many ≤ 1000) :
  Calls Try.prog 92 #[.slice A list.length c, .int .i64 (many : Int), .pointer (some ⟨Bn, 0, none⟩), .pointer (some ⟨Bm, 0, none⟩), .pointer (some ⟨Br, 0, none⟩)] W fun e w' => (∃ u, e = .returned u) ∧ (∃ v', w'.heap[Br]? = some (.cells #[v'] 23 (0, 0)) ∧ Kd.N (Kd.slice 2 (Kd.int .i64)) 22 w' w0.heap.size (fun k => Z ≤ k) v' (rows ++ shls (n + m) many list)) ∧ w'.heap[Bn]? = some (.cells #[.int .i64 (n : Int)] 3 (0, 0)) ∧ w'.heap[Bm]? = some (.cells #[.int .i64 (m : Int)] 3 (0, 0)) ∧ Z ≤ w'.heap.size ∧ Below w0.heap.size w0 w' := by
 have H1 := as0 h1
 have H2 := as0 h2
 have H3 := as0 h3
 have HL := as0 hl
 have HLC := as0 hc
 have HN := as0 (show Kd.N (Kd.slice 2 (Kd.int .i64)) 22 W w0.heap.size (fun k => Z ≤ k) v (rows ++ shls (n + m) 0 list) by rw [show shls (n + m) 0 list = [] from rfl, List.append_nil]; exact hN)
 have HB := as0 hB
 have HZ := as0 hZ
 have HZ0 := as0 hz
 have HSZ := as0 hsz
 have HL0 := as0 h0
 have HNM := as0 hnm
 have HR := as0 hr
 have HBR := as0 hbr
 have HNR := as0 hnr
 have HMR := as0 hmr
 have HBN := as0 hbn
 have HBM := as0 hbm
 clear h1 h2 h3 hl hc hN hB hZ hz hsz h0 hnm hr hbr hnr hmr hbn hbm
 go_enter Try.func92, Try.ntmps92
 go_wp2
 go_loopg [10] many (fun kq v10 w' => ∃ (i : Nat) (vr : Value), v10 = .int .i64 (i : Int) ∧ Aside0 (i + kq = many) ∧ Aside0 (w'.heap[Br]? = some (.cells #[vr] 23 (0, 0))) ∧ Aside0 (Kd.N (Kd.slice 2 (Kd.int .i64)) 22 w' w0.heap.size (fun k => Z ≤ k) vr (rows ++ shls (n + m) i list)) ∧ Aside0 (w'.heap[Bn]? = some (.cells #[.int .i64 (n : Int)] 3 (0, 0))) ∧ Aside0 (w'.heap[Bm]? = some (.cells #[.int .i64 (m : Int)] 3 (0, 0))) ∧ Aside0 (Z ≤ w'.heap.size) ∧ Aside0 (Below w0.heap.size w0 w'))
 case atStart => exact ⟨0, v, rfl, ⟨by omega⟩, H3, HN, H1, H2, HZ, HB⟩
 case round =>
  clear H1 H2 H3 HN HZ HB
  obtain ⟨i, vr, rfl, HG, H3, HN, H1, H2, HZ, HB⟩ := hrel
  have hg := HG.out
  by_cases hi : i < many
  ·
   have d1 : decide (i < many) = true := decide_eq_true hi
   obtain ⟨k1, rfl⟩ : ∃ k1, gk = k1 + 1 := ⟨gk - 1, by omega⟩
   have HI := as0 hi
   have hx1 := blk_cell1 H1.out
   have hx2 := blk_cell1 H2.out
   have hnmz : (n : Int) + (m : Int) ≤ 1000 := by have := HNM.out; omega
   have hin : i < n + m := by have := HSZ.out; have := HL0.out; omega
   have HIN := as0 hin
   have hni : i + list.length ≤ n + m := by have := HSZ.out; omega
   have HNI := as0 hni
   have p1 := eq_true (show (0 : Int) ≤ (i : Int) by omega)
   have p2 := eq_true (show (i : Int) ≤ (n : Int) + (m : Int) by omega)
   have HCP := as0 (show ∀ (q : Nat) (w' : World), Below wr.heap.size wr w' → 0 < (list.map (Value.int .i64)).length → some (⟨q, i, none⟩ : Addr) = some ⟨q, i, none⟩ ∧ ∃ ad, A = some ad ∧ ∀ j v, (list.map (Value.int .i64))[j]? = some v → w'.cell? (ad.add j) = some v by
    intro q w' hw hp
    rw [List.length_map] at hp
    refine ⟨rfl, ?_⟩
    obtain ⟨ad, rfl, _⟩ := Kd.at_int HL.out 0 (by omega) (by omega)
    refine ⟨ad, rfl, fun j u hj => ?_⟩
    obtain ⟨hl, hv⟩ := List.getElem?_eq_some_iff.1 hj
    rw [List.length_map] at hl
    obtain ⟨ad', e', hc⟩ := Kd.at_int HL.out j (by omega) (by omega)
    injection e' with e'
    subst e'
    rw [← hv]
    have := pw_cell_below hw (pw_cell_below HB.out hc)
    simpa [rd, List.getD_eq_getElem?_getD, hl] using this)
   clear hg hi hin hni
   go_wp2_with (first | ((with_reducible refine gate_dst (N := 16) rfl ?_); refine Kd.R_make (Kd.int .i64) _ 2 rfl (N := 16) rfl 22 _ _ rfl ((n : Int) + (m : Int)) rfl rfl Try.underlying22 (.int .i64 0) 8 info2 rfl (by decide) (by omega) 0 (ok := fun _ => True) (okp := fun _ => True) rfl (fun _ hk => hk) trivial (by omega) (by omega) (Below.refl _ _) (Nat.le_refl _) ?_; intro v3 w3 ho hb hg_ hnew_; clear hg_ hnew_; obtain ⟨q, cap, cur, ev, hbq, hhq, hnc, hcm, hcs, hct⟩ := made_own (N := n + m) ho (by omega) (by have := HIN.out; omega); subst ev; have d3 : (cap = i) = False := eq_false (by have := HIN.out; omega); have HBQ := as0 hbq; have HHQ := as0 hhq; have HNC := as0 hnc; have HCM := as0 hcm; have HCS := as0 hcs; have HCT := as0 hct; have HBV := as0 hb; clear ho hb hbq hhq hnc hcm hcs hct) | ((with_reducible refine gate_builtin (b := .copy) rfl ?_); refine wpList_copy_splice rfl (.tmp 19) (.tmp 20) 22 22 rfl 2 Try.underlying22 (by kernel_rfl) (some ⟨q, i, none⟩) A (n + m - i) (cap - i) list.length c rfl rfl q i cur.toList 2 ?cpg (list.map (Value.int .i64)) ?cpn ?cpp ?cpf ?cp1 wr.heap.size wr ?cpb ?cpq ?_; (case cpg => simpa using HHQ.out); (case cpn => rw [List.length_map]; exact (Nat.min_eq_left (by have := HNI.out; omega)).symm); (case cpp => exact HCP.out q _ HBV.out); (case cpf => have h9 := Array.length_toList (xs := cur); rw [List.length_map]; have := HNI.out; have := HNC.out; have := HCS.out; omega); (case cp1 => intro v_ hv_; simp only [List.mem_map] at hv_; obtain ⟨x_, _, rfl⟩ := hv_; rfl); (case cpb => exact HBV.out); (case cpq => exact HBQ.out); intro w4 hw4 hb4; have FQ := as0 (spliced hw4.out HNC.out HCM.out HCS.out HCT.out HNI.out); have HB4 := as0 hb4; have hx3 := blk_cell1 ((hb4.block Br (blk_lt' H3.out)).trans H3.out); clear hw4 hb4 HHQ HBV) | ((with_reducible refine gate_builtin (b := .append) (xs := #[.tmp 22, .tmp 24]) rfl ?_); at_builtin; refine Kd.N_append (Kd.slice 2 (Kd.int .i64)) (w0 := w0) w0.heap.size rfl (.tmp 22) (.tmp 24) 23 22 (.slice none 0 0) 24 rfl Try.underlying23 info22 rfl (by decide) (by omega) vr (rows ++ shls (n + m) i list) (shl0 (n + m) i list) [.slice (some ⟨q, 0, none⟩) (n + m) cap] (fun k => Z ≤ k) (fun k => k = q) rfl rfl ?aP ?aK ?aF ?aO ?aB ?aS ?aL ?_; (case aP => exact fun W' hW => ⟨some ⟨q, 0, none⟩, cap, by rw [shl0_length HNI.out], by rw [shl0_length HNI.out]; exact HNC.out, by rw [shl0_length HNI.out]; exact FQ.out W' hW⟩); (case aK => intro k hk; subst hk; exact ⟨Nat.le_trans HZ.out HBQ.out, fun e => by have := Kd.N_lt HN.out _ e.symm; have := HBQ.out; omega⟩); (case aF => intro k hk; exact Nat.le_trans (Nat.le_trans HZ.out HB4.out.size) hk); (case aO => exact Kd.N_below HN.out HB4.out); (case aB => exact below_step HB.out HB4.out); (case aS => exact (below_step HB.out HB4.out).size); (case aL => rw [List.length_append, shls_length]; have := HR.out; have := HI.out; omega); intro v1 w5 ho hb hg hat; obtain ⟨Av, cv, ev⟩ := Kd.N_slice ho; obtain ⟨L, hL⟩ : ∃ L, L = (rows ++ shls (n + m) i list ++ [shl0 (n + m) i list]).length := ⟨_, rfl⟩; rw [← hL] at ev; clear hL; subst ev; have HN5 := as0 ho; have HB5 := as0 hb; have HO5 := as0 (show ∀ X, X < Z → w5.heap[X]? = wr.heap[X]? from fun X hX => (hg.block X (Nat.lt_of_lt_of_le hX (Nat.le_trans HZ.out HB4.out.size)) (fun e => by have := HN.out.1 X e.symm; omega)).trans (HB4.out.block X (Nat.lt_of_lt_of_le hX HZ.out))); have HS5 := as0 (Nat.le_trans (Nat.le_trans HZ.out HB4.out.size) hg.size); have h35 := (HO5.out Br HBR.out).trans H3.out; have hx5 := blk_cell1 h35; have hf5 := blk_frozen h35 0; have H35 := as0 h35; clear ho hb hg hat h35 hx3))
   go_roundg k1
   case measure => omega
   case rel =>
    refine ⟨i + 1, .slice Av L cv, ?_, ⟨by have := HG.out; omega⟩, ⟨?_⟩, ⟨?_⟩, ⟨?_⟩, ⟨?_⟩, ⟨?_⟩, ⟨below_set HB5.out HZ0.out⟩⟩
    ·
     rw [wp1 (show i ≤ 1000000000000 by have := HI.out; have := HR.out; omega)]
    ·
     exact blk_set H35.out 0 _
    ·
     rw [shls_succ, ← List.append_assoc]
     exact Kd.N_far (p := ⟨Br, 0, none⟩) HN5.out (fun k hk e => by have := HBR.out; have e2 : k = Br := e; omega) _
    ·
     exact blk_far ((HO5.out Bn HBN.out).trans H1.out) HNR.out _
    ·
     exact blk_far ((HO5.out Bm HBM.out).trans H2.out) HMR.out _
    ·
     exact Nat.le_trans HS5.out (Kept.setCell (Kept.refl w5 (fun _ => True)) (.inl trivial) _).1
  ·
   have him : i = many := by omega
   have d1 : decide (i < many) = false := decide_eq_false hi
   have HIM := as0 him
   clear hg hi him
   go_wp2
   refine ⟨rfl, _, results_none rfl _ _ _, ⟨_, rfl⟩, ⟨vr, H3.out, by rw [← HIM.out]; exact HN.out⟩, H1.out, H2.out, HZ.out, HB.out⟩
def sylL (l1 l2 : List Int) : List (List Int) := shls (l1.length - 1 + (l2.length - 1)) (l2.length - 1) l1 ++ shls (l1.length - 1 + (l2.length - 1)) (l1.length - 1) l2
noncomputable def impl_field_sylvester.f (a0 : Int) (l1 l2 : List Int) : Option Int := if 0 < l1.length ∧ 0 < l2.length ∧ l1.length + l2.length ≤ 102 then impl_field_determinant.f a0 (sylL l1 l2) else none
set_option maxHeartbeats 8000000 in
set_option maxRecDepth 100000 in
theorem impl_field_sylvester.calls (a0 : Int) (A1 : Option Addr) (c1 : Nat) (l1 : List Int) (A2 : Option Addr) (c2 : Nat) (l2 : List Int) (r : Int) (w : World) (hr1 : Kd.C (Kd.int .i64) w A1 l1.length l1) (hc1 : l1.length ≤ c1) (hr2 : Kd.C (Kd.int .i64) w A2 l2.length l2) (hc2 : l2.length ≤ c2) (h : impl_field_sylvester.f a0 l1 l2 = some r) :
  Calls Try.prog 57 #[.int .i64 a0, .slice A1 l1.length c1, .slice A2 l2.length c2] w fun e w' => e = .returned (.int .i64 r) ∧ Below w.heap.size w w' := by
 unfold impl_field_sylvester.f at h
 split at h
 case isFalse => cases h
 rename_i hcond
 obtain ⟨h1, h2, h3⟩ := hcond
 obtain ⟨n, hn⟩ : ∃ n, l1.length = n + 1 := ⟨l1.length - 1, by omega⟩
 obtain ⟨m, hm⟩ : ∃ m, l2.length = m + 1 := ⟨l2.length - 1, by omega⟩
 have HR := as0 h
 have HL1 := as0 hr1
 have HL2 := as0 hr2
 have HC1 := as0 hc1
 have HC2 := as0 hc2
 have HN := as0 hn
 have HM := as0 hm
 have H3 := as0 h3
 obtain ⟨n1, hn1⟩ : ∃ n1 : Nat, n1 = n + 1 := ⟨_, rfl⟩
 obtain ⟨m1, hm1⟩ : ∃ m1 : Nat, m1 = m + 1 := ⟨_, rfl⟩
 have e1 : (n1 : Int) - 1 = (n : Int) := by omega
 have e2 : (m1 : Int) - 1 = (m : Int) := by omega
 have b1 : (n1 : Int) ≤ 1000 := by omega
 have b2 : (m1 : Int) ≤ 1000 := by omega
 rw [hn, hm, ← hn1, ← hm1]
 have HN1 := as0 hn1
 have HM1 := as0 hm1
 clear h hr1 hr2 hc1 hc2 h1 h2 h3 hn hm hn1 hm1
 go_enter Try.func57, Try.ntmps57
 go_wp2_with fail
 obtain ⟨W1, hW1⟩ : ∃ W1, W1 = ((w.alloc (.cells #[.int .i64 (n : Int)] 3)).alloc (.cells #[.int .i64 (m : Int)] 3)).alloc (.cells #[.slice none 0 0] 23) := ⟨_, rfl⟩
 have hb1 : Below w.heap.size w W1 := by rw [hW1]; exact below_alloc (below_alloc (below_alloc (Below.refl _ _) _) _) _
 have hs1 : W1.heap.size = w.heap.size + 3 := by rw [hW1]; simp
 have k1 : W1.heap[w.heap.size]? = some (.cells #[.int .i64 (n : Int)] 3 (0, 0)) := by
  rw [hW1, Below.heap_alloc _ _ _ (by simp; omega), Below.heap_alloc _ _ _ (by simp)]; exact World.alloc_heap_new w _
 have k2 : W1.heap[w.heap.size + 1]? = some (.cells #[.int .i64 (m : Int)] 3 (0, 0)) := by
  rw [hW1, Below.heap_alloc _ _ _ (by simp)]
  have := World.alloc_heap_new (w.alloc (.cells #[.int .i64 (n : Int)] 3)) (.cells #[.int .i64 (m : Int)] 3)
  simpa using this
 have k3 : W1.heap[w.heap.size + 1 + 1]? = some (.cells #[.slice none 0 0] 23 (0, 0)) := by
  rw [hW1]
  have := World.alloc_heap_new ((w.alloc (.cells #[.int .i64 (n : Int)] 3)).alloc (.cells #[.int .i64 (m : Int)] 3)) (.cells #[.slice none 0 0] 23)
  simpa using this
 rw [← hW1]
 have HS1 := syl1_calls (w.heap.size + 3) w.heap.size (w.heap.size + 1) (w.heap.size + 1 + 1) n m A1 c1 l1 m [] (.slice none 0 0) w W1 hb1 (by omega) (by omega) (by omega) (by omega) (by omega) (by omega) (by omega) k1 k2 k3 HL1.out HC1.out (Kd.N_nil _ _ _ _ _) (by rw [HN.out]; omega) (by rw [HN.out]; omega) (by have := H3.out; have := HN.out; have := HM.out; omega) (by have := H3.out; have := HN.out; have := HM.out; simp; omega)
 rw [HN.out, ← HN1.out] at HS1
 refine HS1.mono ?_
 clear HS1 hW1 hb1 hs1 k1 k2 k3
 rintro e w2 ⟨⟨u, rfl⟩, ⟨v2, k3, hn2⟩, k1, k2, hz2, hb2⟩
 have K1 := as0 k1
 have K2 := as0 k2
 have K3 := as0 k3
 have HN2 := as0 hn2
 have HZ2 := as0 hz2
 have HB2 := as0 hb2
 have hx1 := blk_cell1 k1
 clear k1 k2 k3 hn2 hz2 hb2
 go_wp2_with fail
 have HS2 := syl1_calls (w.heap.size + 3) w.heap.size (w.heap.size + 1) (w.heap.size + 1 + 1) n m A2 c2 l2 n _ v2 w w2 HB2.out (by omega) (by omega) (by omega) (by omega) (by omega) (by omega) HZ2.out K1.out K2.out K3.out HL2.out HC2.out HN2.out (by rw [HM.out]; omega) (by rw [HM.out]; omega) (by have := H3.out; have := HN.out; have := HM.out; omega) (by have := H3.out; have := HN.out; have := HM.out; rw [List.length_append, shls_length]; simp; omega)
 rw [HM.out, ← HM1.out] at HS2
 refine HS2.mono ?_
 clear HS2 hx1 K1 K2 K3 HN2 HZ2 HB2
 rintro e w3 ⟨⟨u, rfl⟩, ⟨v3, k3, hn3⟩, k1, k2, hz3, hb3⟩
 have hx3 := blk_cell1 k3
 obtain ⟨A3, c3, e3⟩ := Kd.N_slice hn3
 subst e3
 have hs : [] ++ shls (n + m) m l1 ++ shls (n + m) n l2 = sylL l1 l2 := by
  unfold sylL
  rw [HN.out, HM.out, Nat.add_sub_cancel, Nat.add_sub_cancel]; rfl
 rw [hs] at hn3 hx3
 have HB3 := as0 hb3
 have HD : Calls Try.prog 93 #[.int .i64 a0, .slice A3 (sylL l1 l2).length c3] w3 fun e w' => e = .returned (.int .i64 r) ∧ Below w3.heap.size w3 w' := impl_field_determinant.calls a0 A3 c3 (sylL l1 l2) r w3 (Kd.N_reads' hn3).2.2 (Kd.N_reads' hn3).2.1 HR.out
 clear k1 k2 k3 hn3 hz3 hb3 hs
 generalize (sylL l1 l2).length = L at HD hx3
 have HD := as0 HD
 go_wp2_with fail
 refine HD.out.mono ?_
 rintro e w4 ⟨rfl, hb4⟩
 have HB4 := as0 (below_step HB3.out hb4)
 clear hb4 HD
 go_wp2
 go_ret
 exact ⟨rfl, HB4.out⟩
def slices_Reverse_int64_int64.l0 : Nat → List Int → Int → Int → Option (List Int)
 | 0, _, _, _ => none
 | k + 1, x0, x2, x3 => if x2 < x3 then (if 0 ≤ x3 then (if x3 < (x0.length : Int) then (if 0 ≤ x2 then (if x2 < (x0.length : Int) then (slices_Reverse_int64_int64.l0 k ((x0.set (x2 : Int).toNat (rd x0 x3)).set (x3 : Int).toNat (rd x0 x2)) (wrap64 (x2 + 1)) (wrap64 (x3 - 1))) else (none)) else (none)) else (none)) else (none)) else (some x0)
def slices_Reverse_int64_int64.f (k : Nat) (l0 : List Int) : Option (List Int) := slices_Reverse_int64_int64.l0 k l0 0 (wrap64 ((l0.length : Int) - 1))
def slices_Reverse_int64_int64.T3 : Bool × List (List Nat × List Nat) := (true, [([], []), ([], []), ([], []), ([], []), ([], []), ([], []), ([4, 5], [4, 5]), ([6], [6]), ([], []), ([], []), ([8, 9], [8, 9]), ([10], [10]), ([0, 1, 0, 1, 4, 5, 6, 7, 11], [0, 1]), ([12, 7, 0, 1, 4, 5, 6, 7, 11], [7, 12]), ([2, 3, 0, 1, 2, 3, 4, 5, 6, 7, 8, 9, 10, 11, 12, 13], [2, 3]), ([14, 11, 13, 0, 1, 2, 3, 4, 5, 6, 7, 8, 9, 10, 11, 12, 13], [11, 14])])
def slices_Reverse_int64_int64.B3 : List Nat := [0, 0, 0, 0, 0, 0, 48, 112, 0, 0, 768, 1792, 4083, 8179, 16383, 32767]
theorem slices_Reverse_int64_int64.tab3 : rtab .any (opsOf Try.f94 3) = slices_Reverse_int64_int64.T3 := by kernel_rfl
theorem slices_Reverse_int64_int64.bits3 : waitsOk slices_Reverse_int64_int64.T3.2 slices_Reverse_int64_int64.B3 = true := by kernel_rfl
set_option maxHeartbeats 8000000 in
set_option maxRecDepth 100000 in
theorem slices_Reverse_int64_int64.calls (k : Nat) (P0_ : Nat → Prop) (u9000_ : Value) (l0 : List Int) (r : List Int) (w0 w : World) (hB : Below w0.heap.size w0 w) (ho0 : Kd.R (Kd.int .i64) 2 w w0.heap.size P0_ u9000_ l0) (h : slices_Reverse_int64_int64.f k l0 = some r) :
  Calls Try.prog 94 #[u9000_] w fun e w' => e = .returned (.tuple #[]) ∧ Kd.R (Kd.int .i64) 2 w' w0.heap.size (fun k_ => (P0_ k_ ∨ w.heap.size ≤ k_)) u9000_ r ∧ Below w0.heap.size w0 w' ∧ Kept w w' (fun k_ => P0_ k_) := by
 have HO0 := as0 (show Kd.R (Kd.int .i64) 2 w w0.heap.size (fun k_ => (P0_ k_ ∨ w.heap.size ≤ k_)) u9000_ l0 from Kd.R_mono ho0 (fun k_ hk => (.inl hk)))
 have HK := as0 (Kept.refl w (fun k_ => P0_ k_))
 have HW0 := as0 hB.size
 have HB := as0 hB
 clear hB
 have H : (slices_Reverse_int64_int64.l0 k l0 0 (wrap64 ((l0.length : Int) - 1))) = some r := h
 clear h
 have H' := as0 H
 clear H
 obtain ⟨Ao2, co2, eo2⟩ := Kd.R_slice HO0.out
 subst eo2
 go_enter Try.func94, Try.ntmps94
 go_wp2
 go_loopg [2, 3] k (fun kq v2 v3 w' => ∃ (x0_1 : List Int) (x2_1 : Int) (x3_1 : Int), v2 = .int .i64 x2_1 ∧ v3 = .int .i64 x3_1 ∧ Aside0 (slices_Reverse_int64_int64.l0 kq x0_1 x2_1 x3_1 = some r) ∧ Aside0 (kq ≤ k) ∧ Aside0 (Kd.R (Kd.int .i64) 2 w' w0.heap.size (fun k_ => (P0_ k_ ∨ w.heap.size ≤ k_)) (.slice Ao2 l0.length co2) x0_1) ∧ Aside0 (Kept w w' (fun k_ => P0_ k_)) ∧ Aside0 (Below w0.heap.size w0 w'))
 case atStart => exact ⟨(l0), (0), (wrap64 ((l0.length : Int) - 1)), ea_, ea_, H', ⟨Nat.le_refl _⟩, ⟨rs HO0⟩, ⟨by repeat (first | (with_reducible first | exact HK.out | apply Kept.alloc | apply Kept.drewN | apply Kept.drew) | exact HK.out)⟩, ⟨bs HB⟩⟩
 case round =>
  clear H'
  try clear p2
  obtain ⟨x0_1, x2_1, x3_1, rfl, rfl, HA, HK1, HO_0, HK, HB⟩ := hrel
  have hl0_1 := (Kd.R_reads' HO_0.out).1
  rw [hl0_1] at HO_0
  (try simp only [hl0_1])
  cases gk with
  | zero => exact absurd HA.out (by simp [slices_Reverse_int64_int64.l0])
  | succ k1 =>
   have H := HA.out
   clear HA
   simp only [slices_Reverse_int64_int64.l0] at H
   by_cases c3 : x2_1 < x3_1
   ·
    rw [if_pos c3] at H
    have c3b0 : decide (x2_1 < x3_1) = true := decide_eq_true c3
    clear c3
    by_cases c4 : 0 ≤ x3_1
    ·
     rw [if_pos c4] at H
     have c4b0 : decide (0 ≤ x3_1) = true := decide_eq_true c4
     clear c4
     by_cases c5 : x3_1 < (x0_1.length : Int)
     ·
      rw [if_pos c5] at H
      have c5b0 : decide (x3_1 < (x0_1.length : Int)) = true := decide_eq_true c5
      clear c5
      by_cases c6 : 0 ≤ x2_1
      ·
       rw [if_pos c6] at H
       have c6b0 : decide (0 ≤ x2_1) = true := decide_eq_true c6
       clear c6
       by_cases c7 : x2_1 < (x0_1.length : Int)
       ·
        rw [if_pos c7] at H
        have c7b0 : decide (x2_1 < (x0_1.length : Int)) = true := decide_eq_true c7
        clear c7
        obtain ⟨y329, hy329⟩ : ∃ y_ : List Int, y_ = (x0_1.set (x2_1 : Int).toNat (rd x0_1 x3_1)) := ⟨_, rfl⟩
        replace H : (slices_Reverse_int64_int64.l0 k1 (y329.set (x3_1 : Int).toNat (rd x0_1 x2_1)) (wrap64 (x2_1 + 1)) (wrap64 (x3_1 - 1))) = some r := by first | (rw [hy329]; with_reducible exact H) | (have H2_ := (Option.bind_some _ _).symm.trans H; rw [hy329]; with_reducible exact H2_) | (have H2_ := (Option.bind_some _ _).symm.trans H; with_reducible exact H2_) | with_reducible exact H | (rw [hy329]; exact H) | exact H
        have Ny329 := as0 hy329
        clear hy329
        obtain ⟨y330, hy330⟩ : ∃ y_ : List Int, y_ = (y329.set (x3_1 : Int).toNat (rd x0_1 x2_1)) := ⟨_, rfl⟩
        replace H : (slices_Reverse_int64_int64.l0 k1 y330 (wrap64 (x2_1 + 1)) (wrap64 (x3_1 - 1))) = some r := by first | (rw [hy330]; with_reducible exact H) | (have H2_ := (Option.bind_some _ _).symm.trans H; rw [hy330]; with_reducible exact H2_) | (have H2_ := (Option.bind_some _ _).symm.trans H; with_reducible exact H2_) | with_reducible exact H | (rw [hy330]; exact H) | exact H
        have Ny330 := as0 hy330
        clear hy330
        have H' := as0 H
        clear H
        try go_wp2
        have n0_ := as0 (Kd.R_drew HO_0.out)
        have n1_ := as0 (Kept.drew HK.out)
        have n2_ := as0 (below_drew1 HB.out)
        clear HO_0
        clear HK
        clear HB
        have HO_0 := n0_
        have HK := n1_
        have HB := n2_
        clear n0_ n1_ n2_
        have p327 : 0 ≤ (x3_1 : Int) := oa_
        have q327 : x3_1 < (x0_1.length : Int) := oa_
        obtain ⟨ad327, e327, hx327_0⟩ := Kd.at_int (Kd.R_reads' HO_0.out).2.2 x3_1 p327 q327
        cases e327
        replace p327 := eq_true p327
        replace q327 := eq_true q327
        have p328 : 0 ≤ (x2_1 : Int) := oa_
        have q328 : x2_1 < (x0_1.length : Int) := oa_
        obtain ⟨ad328, e328, hx328_0⟩ := Kd.at_int (Kd.R_reads' HO_0.out).2.2 x2_1 p328 q328
        obtain rfl : ad327 = ad328 := (by injection e328)
        replace p328 := eq_true p328
        replace q328 := eq_true q328
        have p8 : 0 ≤ (x2_1 : Int) := oa_
        have q8 : (x2_1 : Int) < ((x0_1.length : Int) : Int) := oa_
        obtain ⟨go8, co8, eo8, gb8, gl8, cl8, HG8⟩ := Kd.R_form HO_0.out (by omega)
        (first | cases eo8 | (injection eo8 with ea_ en_ ec_; (first | subst ea_ | (injection ea_ with ea_; subst ea_)); subst ec_; clear en_))
        have GB8 := as0 gb8
        have GG8 := as0 HG8
        clear gb8 gl8 HG8
        have HMgo8 := as0 (show (P0_ go8 ∨ w.heap.size ≤ go8) from (HO_0.out.1 _ rfl))
        (first | simp only [add_plain] at hx327_0 | skip)
        (first | simp only [add_plain] at hx328_0 | skip)
        obtain ⟨hx8_0, hf8_0⟩ := Kd.R_celln 0 HO_0.out (x2_1 : Int) p8 q8
        replace p8 := eq_true p8
        replace q8 := eq_true q8
        have HP11 := Kd.R_putn HO_0.out (x2_1 : Int) (rd x0_1 x3_1)
        rw [← Ny329.out] at HP11
        have HQ11 := as0 HP11
        clear HP11
        have p9 : 0 ≤ (x3_1 : Int) := oa_
        have q9 : (x3_1 : Int) < ((x0_1.length : Int) : Int) := oa_
        obtain ⟨hx9_0, hf9_0⟩ := Kd.R_celln 0 HQ11.out (x3_1 : Int) p9 q9
        replace p9 := eq_true p9
        replace q9 := eq_true q9
        have HP12 := Kd.R_putn HQ11.out (x3_1 : Int) (rd x0_1 x2_1)
        rw [← Ny330.out] at HP12
        have HQ12 := as0 HP12
        clear HP12
        refine start_ (n := 16) (S := fun w' => w'.cell? ⟨go8, (x3_1).toNat, none⟩ = some (.int .i64 (rd x0_1 x3_1)) ∧ w'.cell? ⟨go8, (x2_1).toNat, none⟩ = some (.int .i64 (rd x0_1 x2_1))) (ds := [13, 15]) #[false, false, false, false, false, false, false, false, false, false, false, false, false, false, false, false] (by kernel_rfl) rfl rfl ⟨hx327_0, hx328_0⟩ (fun hHeld => ?_); refine with_tabW slices_Reverse_int64_int64.tab3 slices_Reverse_int64_int64.bits3 (fun HT_ HW_ => ?_)
        generalize wr.drew = w10 at HO_0 HK HB GG8 HQ11 HQ12 hf8_0 hf9_0 hx327_0 hx328_0 hx8_0 hx9_0 hHeld ⊢
        refine pm_ HT_ (i := 0) (N := some 14) ?_
        refine pm_ HT_ (i := 1) (N := some 15) ?_
        refine pm_ HT_ (i := 2) (N := some 16) ?_
        refine pm_ HT_ (i := 3) (N := some 17) ?_
        refine pm_ HT_ (i := 4) (N := some 18) ?_
        refine pm_ HT_ (i := 5) (N := some 19) ?_
        refine pm_ HT_ (i := 6) (N := some 20) ?_
        refine pm_ HT_ (i := 8) (N := some 22) ?_
        refine pm_ HT_ (i := 9) (N := some 23) ?_
        refine pm_ HT_ (i := 10) (N := some 24) ?_
        refine tm2_ HT_ HW_ (i := 7) (N := some 21) hHeld ?_
        refine tm2_ HT_ HW_ (i := 11) (N := some 25) hHeld ?_
        refine pm_ HT_ (i := 12) (N := some 26) ?_
        refine last_ (i := 13) (N := none) #[true, true, true, true, true, true, true, true, true, true, true, true, true, true, false, false] rfl rfl (one_of HT_.out (by kernel_rfl)) (by decide) (fun K hK => ?_)
        refine skip_ (w1 := ?_) (by rfl) rfl ?_ ?_
        rotate_left
        ·
         go_simp
         rfl
        refine hK.out _ _ ?_
        clear hK K
        refine pm_ HT_ (i := 14) (N := some 27) ?_
        refine last_ (i := 15) (N := none) #[true, true, true, true, true, true, true, true, true, true, true, true, true, true, true, true] rfl rfl (one_of HT_.out (by kernel_rfl)) (by decide) (fun K hK => ?_)
        refine skip_ (w1 := ?_) (by rfl) rfl ?_ ?_
        rotate_left
        ·
         go_simp
         rfl
        refine hK.out _ _ ?_
        clear hK K
        refine done_ (done_of HT_.out (by kernel_rfl)) ?_
        try go_wp2
        (try simp only [← hl0_1])
        go_roundg k1
        case measure => have := HK1.out; omega
        case rel => exact ⟨(y330), (wrap64 (x2_1 + 1)), (wrap64 (x3_1 - 1)), ea_, ea_, H', ⟨by have := HK1.out; omega⟩, ⟨by (try simp only [hl0_1]); (with_reducible repeat (first | apply Kd.R_alloc | apply Kd.R_drewN | apply Kd.R_drew)); exact HQ12.out⟩, ⟨by repeat (first | (with_reducible first | exact HK.out | apply Kept.alloc | apply Kept.drewN | apply Kept.drew | refine Kept.setCell ?_ HMgo8.out _ | refine Kept.setCell ?_ HMgo8.out _) | exact HK.out)⟩, ⟨by repeat (first | (with_reducible first | exact HB.out | apply below_alloc | apply pw_below_drewN | apply below_drew1 | refine below_set ?_ GB8.out | refine below_set ?_ GB8.out) | exact HB.out)⟩⟩
       ·
        rw [if_neg c7] at H
        exact absurd H (by simp)
      ·
       rw [if_neg c6] at H
       exact absurd H (by simp)
     ·
      rw [if_neg c5] at H
      exact absurd H (by simp)
    ·
     rw [if_neg c4] at H
     exact absurd H (by simp)
   ·
    rw [if_neg c3] at H
    have c3b0 : decide (x2_1 < x3_1) = false := decide_eq_false c3
    clear c3
    obtain rfl := Option.some.inj H
    go_wp2
    first | go_end0 | ((try simp only [Exit.inBlock, Exit.then]); refine bodyPost_ret (results_none rfl _ _ _) rfl ?_)
    exact ⟨er_, (by first | exact (rs HO_0) | (simp only [hl0_1]; exact (rs HO_0))), by repeat (first | (with_reducible first | exact HB.out | apply below_alloc | apply pw_below_drewN | apply below_drew1) | exact HB.out), by repeat (first | (with_reducible first | exact HK.out | apply Kept.alloc | apply Kept.drewN | apply Kept.drew) | exact HK.out)⟩
def impl_reversed.f (k : Nat) (l0 : List Int) : Option (List Int) := (slices_Clone_int64_int64.f l0).bind fun t331 => ((slices_Reverse_int64_int64.f k t331).bind fun t334 => (some t334))
set_option maxHeartbeats 8000000 in
set_option maxRecDepth 100000 in
theorem impl_reversed.calls (k : Nat) (A0 : Option Addr) (c0 : Nat) (l0 : List Int) (r : List Int) (w : World) (hr0 : Kd.C (Kd.int .i64) w A0 l0.length l0) (hc0 : l0.length ≤ c0) (h : impl_reversed.f k l0 = some r) :
  Calls Try.prog 58 #[.slice A0 l0.length c0] w fun e w' => ∃ v0_ : Value, e = .returned (v0_) ∧ Kd.R (Kd.int .i64) 2 w' w.heap.size (fun _ => True) v0_ r ∧ Below w.heap.size w w' := by
 have HR0 := as0 hr0
 have HC0 := as0 hc0
 clear hr0 hc0
 have HB := as0 (Below.refl w.heap.size w)
 have H : ((slices_Clone_int64_int64.f l0).bind fun t331 => ((slices_Reverse_int64_int64.f k t331).bind fun t334 => (some t334))) = some r := h
 clear h
 replace H := Option.bind_eq_some_iff.mp H
 obtain ⟨t331, A20, H⟩ := H
 have A2 := as0 A20
 clear A20
 replace H := Option.bind_eq_some_iff.mp H
 obtain ⟨t334, A30, H⟩ := H
 have A3 := as0 A30
 clear A30
 obtain rfl := Option.some.inj H
 go_enter Try.func58, Try.ntmps58
 go_wp2_with (first | ((with_reducible refine gate_callee (f := 87) rfl ?_); refine goesM_ (some 5) rfl rfl Try.func87 #[.slice A0 l0.length c0] rfl ?_; (with_reducible refine (slices_Clone_int64_int64.calls _ _ l0 t331 _ ?side1 ?side2 A2.out).mono ?_); (case side1 => exact cs (HR0.out)); (case side2 => exact HC0.out); rintro e w4 ⟨v332, rfl, ho0, hb⟩; refine ⟨_, rfl, ?_⟩; have n0_ := as0 (Kd.R_lower ho0 (below_size (bs HB))); have n1_ := as0 (below_step (bs HB) hb); clear HB; have HO333 := n0_; have HB := n1_; clear n0_ n1_; (try clear hb); (try clear hb2); (try clear hk); (try clear hi); (try clear ho0); obtain ⟨Ao5, co5, eo5⟩ := Kd.R_slice HO333.out; subst eo5) | ((with_reducible refine gate_callee (f := 94) rfl ?_); refine goesM_ (some 7) rfl rfl Try.func94 #[.slice Ao5 t331.length co5] rfl ?_; (with_reducible refine (slices_Reverse_int64_int64.calls k (fun k_ => some k_ = (.slice Ao5 t331.length co5 : Value).ownBlock) (.slice Ao5 t331.length co5) t331 t334 w _ ?side1 ?side2 A3.out).mono ?_); (case side1 => exact bs HB); (case side2 => exact Kd.R_tight rfl HO333.out); rintro e w6 ⟨rfl, hy0, hb, hkp⟩; refine ⟨_, rfl, ?_⟩; have n0_ := as0 (Kd.R_reok rfl hy0 (fun k_ e_ => HO333.out.1 k_ e_)); have n1_ := as0 (hb); clear HO333; clear HB; have HO333 := n0_; have HB := n1_; clear n0_ n1_; (try clear hb); (try clear hkp); (try clear hy0)))
 go_ret
 exact ⟨_, er_, rs HO333, bs HB⟩
noncomputable section
noncomputable def impl_DiscriminantOf.f (k : Nat) (a0 : Int) (l1 : List Int) : Option (Int × Int) := (impl_filledCode_1.f k a0 true l1).bind fun t440 => (if t440 = 0 then ((impl_degree.f l1).bind fun t441 => (if t441 = 0 then (some (0, 5)) else (if 0 ≤ t441 then (if (t441 : Int).toNat ≤ 35184372088832 then ((impl_field_derivative.f k a0 l1).bind fun t445 => (if t445.length ≤ (t441 : Int).toNat then ((impl_reversed.f k l1).bind fun t448 => ((impl_reversed.f k (cpInto (List.replicate (t441 : Int).toNat 0) t445)).bind fun t451 => ((impl_field_sylvester.f a0 t448 t451).bind fun t454 => (if t441 < (l1.length : Int) then ((impl_field_div.f k a0 t454 (rd l1 t441)).bind fun t456 => (if (Int.tmod (wrap64 (Int.tdiv (wrap64 (t441 * (wrap64 (t441 - 1)))) 2)) 2) = 1 then ((impl_field_mod.f a0 (wrap64 (-t456))).bind fun t457 => (some (t457, 0))) else (some (t456, 0)))) else (none))))) else (none))) else (none)) else (none)))) else (some (0, t440)))
def impl_DiscriminantOf.T10 : Bool × List (List Nat × List Nat) := (true, [([], []), ([], []), ([], []), ([2], [2]), ([], []), ([4, 3], [4]), ([1, 3, 5, 5], [1, 3, 5]), ([], []), ([], []), ([7, 8], [7, 8]), ([9], [9]), ([0, 6, 10, 6], [0, 6, 10]), ([11, 11, 0, 1, 2, 3, 4, 5, 6, 7, 8, 9, 10, 11], [11])])
def impl_DiscriminantOf.B10 : List Nat := [0, 0, 0, 4, 0, 28, 62, 0, 0, 384, 896, 2047, 4095]
theorem impl_DiscriminantOf.tab10 : rtab .any (opsOf Try.f24 10) = impl_DiscriminantOf.T10 := by kernel_rfl
theorem impl_DiscriminantOf.bits10 : waitsOk impl_DiscriminantOf.T10.2 impl_DiscriminantOf.B10 = true := by kernel_rfl
set_option maxHeartbeats 8000000 in
set_option maxRecDepth 100000 in
theorem impl_DiscriminantOf.calls (k : Nat) (a0 : Int) (A1 : Option Addr) (c1 : Nat) (l1 : List Int) (r1 : Int) (r2 : Int) (w : World) (hr1 : Kd.C (Kd.int .i64) w A1 l1.length l1) (hc1 : l1.length ≤ c1) (h : impl_DiscriminantOf.f k a0 l1 = some (r1, r2)) :
  Calls Try.prog 24 #[.int .i64 a0, .slice A1 l1.length c1] w fun e w' => e = .returned (.tuple #[.int .i64 r1, .int .i64 r2]) ∧ Below w.heap.size w w' := by
 have HR1 := as0 hr1
 have HC1 := as0 hc1
 clear hr1 hc1
 have HB := as0 (Below.refl w.heap.size w)
 have H : ((impl_filledCode_1.f k a0 true l1).bind fun t440 => (if t440 = 0 then ((impl_degree.f l1).bind fun t441 => (if t441 = 0 then (some (0, 5)) else (if 0 ≤ t441 then (if (t441 : Int).toNat ≤ 35184372088832 then ((impl_field_derivative.f k a0 l1).bind fun t445 => (if t445.length ≤ (t441 : Int).toNat then ((impl_reversed.f k l1).bind fun t448 => ((impl_reversed.f k (cpInto (List.replicate (t441 : Int).toNat 0) t445)).bind fun t451 => ((impl_field_sylvester.f a0 t448 t451).bind fun t454 => (if t441 < (l1.length : Int) then ((impl_field_div.f k a0 t454 (rd l1 t441)).bind fun t456 => (if (Int.tmod (wrap64 (Int.tdiv (wrap64 (t441 * (wrap64 (t441 - 1)))) 2)) 2) = 1 then ((impl_field_mod.f a0 (wrap64 (-t456))).bind fun t457 => (some (t457, 0))) else (some (t456, 0)))) else (none))))) else (none))) else (none)) else (none)))) else (some (0, t440)))) = some (r1, r2) := h
 clear h
 replace H := Option.bind_eq_some_iff.mp H
 obtain ⟨t440, A30, H⟩ := H
 have A3 := as0 A30
 clear A30
 by_cases c4 : t440 = 0
 ·
  rw [if_pos c4] at H
  have c4b0 : (t440 == 0) = true := beq_iff_eq.mpr c4
  have c4b1 : (t440 != 0) = false := bne_eq_false_iff_eq.mpr c4
  clear c4
  replace H := Option.bind_eq_some_iff.mp H
  obtain ⟨t441, A50, H⟩ := H
  have A5 := as0 A50
  clear A50
  by_cases c6 : t441 = 0
  ·
   rw [if_pos c6] at H
   have c6b0 : (t441 == 0) = true := beq_iff_eq.mpr c6
   have c6b1 : (t441 != 0) = false := bne_eq_false_iff_eq.mpr c6
   clear c6
   simp only [Option.some.injEq, Prod.mk.injEq] at H
   obtain ⟨rfl, rfl⟩ := H
   go_enter Try.func24, Try.ntmps24
   go_wp2_with (first | (go_at_call 56; (with_reducible refine (impl_filledCode_1.calls k a0 true A1 c1 l1 t440 _ ?side1 ?side2 A3.out ?sideE ?sideG ?sideP).mono ?_); (case side1 => exact cs (HR1.out)); (case side2 => exact HC1.out); (case sideE => (first | exact enters_of Try.func44 (by kernel_rfl) rfl)); (case sideG => (first | exact always_gives _)); (case sideP => (first | (simp; done) | (simp [*]; done))); rintro e w7 ⟨rfl, hb⟩; have n0_ := as0 (below_step (bs HB) hb); clear HB; have HB := n0_; clear n0_; (try clear hb); (try clear hb2); (try clear hk); (try clear hi)) | ((with_reducible refine gate_callee (f := 52) rfl ?_); refine goesM_ (some 19) rfl rfl Try.func52 #[.slice A1 l1.length c1] rfl ?_; (with_reducible refine (impl_degree.calls _ _ l1 t441 _ ?side1 ?side2 A5.out).mono ?_); (case side1 => exact cs ((Kd.C_below HR1.out HB.out))); (case side2 => exact HC1.out); rintro e w' ⟨rfl, ⟨nd, rfl⟩⟩; refine ⟨_, rfl, ?_⟩))
   go_ret2
   exact ⟨er_, bs HB⟩
  ·
   rw [if_neg c6] at H
   have c6b0 : (t441 == 0) = false := beq_eq_false_iff_ne.mpr c6
   have c6b1 : (t441 != 0) = true := bne_iff_ne.mpr c6
   by_cases c8 : 0 ≤ t441
   ·
    rw [if_pos c8] at H
    have c8b0 := eq_true c8
    have c8b1 : decide (0 ≤ t441) = true := decide_eq_true c8
    clear c8
    by_cases c9 : (t441 : Int).toNat ≤ 35184372088832
    ·
     rw [if_pos c9] at H
     have c9b0 := eq_true c9
     have c9b1 : decide ((t441 : Int).toNat ≤ 35184372088832) = true := decide_eq_true c9
     clear c9
     replace H := Option.bind_eq_some_iff.mp H
     obtain ⟨t445, A100, H⟩ := H
     have A10 := as0 A100
     clear A100
     by_cases cLen : t445.length ≤ (t441 : Int).toNat
     rotate_left
     ·
      rw [if_neg cLen] at H
      exact absurd H (by simp)
     rw [if_pos cLen] at H
     have CLEN := as0 cLen
     clear cLen
     obtain ⟨y442, hy442⟩ : ∃ y_ : List Int, y_ = (cpInto (List.replicate (t441 : Int).toNat 0) t445) := ⟨_, rfl⟩
     replace H : ((impl_reversed.f k l1).bind fun t448 => ((impl_reversed.f k y442).bind fun t451 => ((impl_field_sylvester.f a0 t448 t451).bind fun t454 => (if t441 < (l1.length : Int) then ((impl_field_div.f k a0 t454 (rd l1 t441)).bind fun t456 => (if (Int.tmod (wrap64 (Int.tdiv (wrap64 (t441 * (wrap64 (t441 - 1)))) 2)) 2) = 1 then ((impl_field_mod.f a0 (wrap64 (-t456))).bind fun t457 => (some (t457, 0))) else (some (t456, 0)))) else (none))))) = some (r1, r2) := by first | (rw [hy442]; with_reducible exact H) | (have H2_ := (Option.bind_some _ _).symm.trans H; rw [hy442]; with_reducible exact H2_) | (have H2_ := (Option.bind_some _ _).symm.trans H; with_reducible exact H2_) | with_reducible exact H | (rw [hy442]; exact H) | exact H
     have Ny442 := as0 hy442
     clear hy442
     replace H := Option.bind_eq_some_iff.mp H
     obtain ⟨t448, A110, H⟩ := H
     have A11 := as0 A110
     clear A110
     replace H := Option.bind_eq_some_iff.mp H
     obtain ⟨t451, A120, H⟩ := H
     have A12 := as0 A120
     clear A120
     replace H := Option.bind_eq_some_iff.mp H
     obtain ⟨t454, A130, H⟩ := H
     have A13 := as0 A130
     clear A130
     by_cases c14 : t441 < (l1.length : Int)
     ·
      rw [if_pos c14] at H
      have c14b0 : decide (t441 < (l1.length : Int)) = true := decide_eq_true c14
      clear c14
      replace H := Option.bind_eq_some_iff.mp H
      obtain ⟨t456, A150, H⟩ := H
      have A15 := as0 A150
      clear A150
      by_cases c16 : (Int.tmod (wrap64 (Int.tdiv (wrap64 (t441 * (wrap64 (t441 - 1)))) 2)) 2) = 1
      ·
       rw [if_pos c16] at H
       have c16b0 : ((Int.tmod (wrap64 (Int.tdiv (wrap64 (t441 * (wrap64 (t441 - 1)))) 2)) 2) == 1) = true := beq_iff_eq.mpr c16
       have c16b1 : ((Int.tmod (wrap64 (Int.tdiv (wrap64 (t441 * (wrap64 (t441 - 1)))) 2)) 2) != 1) = false := bne_eq_false_iff_eq.mpr c16
       clear c16
       replace H := Option.bind_eq_some_iff.mp H
       obtain ⟨t457, A170, H⟩ := H
       have A17 := as0 A170
       clear A170
       simp only [Option.some.injEq, Prod.mk.injEq] at H
       obtain ⟨rfl, rfl⟩ := H
       go_enter Try.func24, Try.ntmps24
       try go_wp2_with (first | (go_at_call 56; (with_reducible refine (impl_filledCode_1.calls k a0 true A1 c1 l1 t440 _ ?side1 ?side2 A3.out ?sideE ?sideG ?sideP).mono ?_); (case side1 => exact cs (HR1.out)); (case side2 => exact HC1.out); (case sideE => (first | exact enters_of Try.func44 (by kernel_rfl) rfl)); (case sideG => (first | exact always_gives _)); (case sideP => (first | (simp; done) | (simp [*]; done))); rintro e w18 ⟨rfl, hb⟩; have n0_ := as0 (below_step (bs HB) hb); clear HB; have HB := n0_; clear n0_; (try clear hb); (try clear hb2); (try clear hk); (try clear hi)) | ((with_reducible refine gate_callee (f := 52) rfl ?_); refine goesM_ (some 19) rfl rfl Try.func52 #[.slice A1 l1.length c1] rfl ?_; (with_reducible refine (impl_degree.calls _ _ l1 t441 _ ?side1 ?side2 A5.out).mono ?_); (case side1 => exact cs ((Kd.C_below HR1.out HB.out))); (case side2 => exact HC1.out); rintro e w' ⟨rfl, ⟨nd, rfl⟩⟩; refine ⟨_, rfl, ?_⟩) | ((with_reducible refine gate_dst (N := 24) rfl ?_); refine Kd.R_make (Kd.int .i64) _ 2 rfl (N := 24) rfl 22 _ _ rfl t441 rfl rfl Try.underlying22 (.int .i64 0) 8 info2 rfl (by decide) (by omega) 0 (ok := fun _ => True) (okp := fun _ => True) rfl (fun _ hk => hk) trivial (oa_) (Nat.le_trans (Nat.mul_le_mul_right _ (oa_ : t441.toNat ≤ 35184372088832)) (by omega)) (Below.refl _ _) (Nat.le_refl _) ?_; intro v443 w19 ho20 hb hg_ hnew_; clear hg_ hnew_; have n0_ := as0 (Kd.R_lower ho20 (below_size (bs HB))); have n1_ := as0 (below_step (bs HB) hb); clear HB; have HPy442 := n0_; have HB := n1_; clear n0_ n1_; clear hb ho20) | ((with_reducible refine gate_builtin (b := .copy) rfl ?_); refine copy_into rfl _ _ _ rfl Try.underlying22 (by kernel_rfl) t445 rfl rfl HPy442.out ?cpR ?cpM HB.out ?_; (case cpR => exact (Kd.R_reads' HO447.out).2.2); (case cpM => (rw [List.length_replicate]; exact CLEN.out)); intro wcp hcp hbb; have HO444 := as0 hcp; (rw [← Ny442.out] at HO444); clear HB; have HB := as0 hbb; clear hcp hbb HPy442 HO447; have HO447 := as0 (Kd.R_nil (Kd.int .i64) 2 wcp w.heap.size (fun _ => True))) | ((with_reducible refine gate_callee (f := 62) rfl ?_); refine goesM_ (some 28) rfl rfl Try.func62 #[.int .i64 a0, .slice A1 l1.length c1] rfl ?_; (with_reducible refine (impl_field_derivative.calls k a0 _ _ l1 t445 _ ?side1 ?side2 A10.out).mono ?_); (case side1 => exact cs ((Kd.C_below HR1.out HB.out))); (case side2 => exact HC1.out); rintro e w21 ⟨v446, rfl, ho0, hb⟩; refine ⟨_, rfl, ?_⟩; have n0_ := as0 (Kd.R_elder' (rs HPy442) (Kd.R_base ho0) hb); have n1_ := as0 (Kd.R_lower (Kd.R_new' ho0 (Kd.R_lt (rs HPy442))) (below_size (bs HB))); have n2_ := as0 (below_step (bs HB) hb); clear HPy442; clear HB; have HPy442 := n0_; have HO447 := n1_; have HB := n2_; clear n0_ n1_ n2_; (try clear hb); (try clear hb2); (try clear hk); (try clear hi); (try clear ho0); obtain ⟨Ao447, co447, eo447⟩ := Kd.R_slice HO447.out; subst eo447))
       have n0_ := as0 (Kd.R_drew HO444.out)
       have n1_ := as0 (Kd.R_drew HO447.out)
       have n2_ := as0 (below_drew1 HB.out)
       clear HO444
       clear HO447
       clear HB
       have HO444 := n0_
       have HO447 := n1_
       have HB := n2_
       clear n0_ n1_ n2_
       have p455 : 0 ≤ (t441 : Int) := oa_
       have q455 : t441 < (l1.length : Int) := oa_
       obtain ⟨ad455, e455, hx455_0⟩ := Kd.at_int HR1.out t441 p455 q455
       have hw455_0 := hx455_0
       cases e455
       replace hx455_0 := (HB.out.cell (World.block_lt_of_cell? w _ hx455_0)).trans hx455_0
       replace p455 := eq_true p455
       replace q455 := eq_true q455
       refine start_ (n := 13) (S := fun w' => w'.cell? (ad455.add (t441).toNat) = some (.int .i64 (rd l1 t441))) (ds := []) #[false, false, false, false, false, false, false, false, false, false, false, false, false] (by kernel_rfl) rfl rfl (((HB.out.cell (World.block_lt_of_cell? w _ hw455_0)).trans hw455_0)) (fun hHeld => ?_); refine with_tabW impl_DiscriminantOf.tab10 impl_DiscriminantOf.bits10 (fun HT_ HW_ => ?_)
       generalize w21.drew = w22 at HO444 HO447 HB hx455_0 hHeld ⊢
       refine pm_ HT_ (i := 0) (N := some 30) ?_
       refine pm_ HT_ (i := 1) (N := some 31) ?_
       refine pm_ HT_ (i := 2) (N := some 32) ?_
       refine pm_ HT_ (i := 4) (N := some 34) ?_
       refine pm_ HT_ (i := 7) (N := some 37) ?_
       refine pm_ HT_ (i := 8) (N := some 38) ?_
       refine pm_ HT_ (i := 9) (N := some 39) ?_
       refine take_ (i := 10) (N := some 40) (v := ?_) (a' := ?_) #[true, true, true, false, true, false, false, true, true, true, true, false, false] rfl rfl (take_ofW HT_.out HW_.out (by kernel_rfl)) (fun _ _ _ h => h) (Or.inl ⟨by rfl, ?_⟩) hHeld ?_ ?_
       rotate_left
       ·
        intro w' s0
        go_simp
        with_reducible rfl
       rotate_left
       ·
        simp only [Act.put, List.setIfInBounds_toArray, List.set_cons_zero, List.set_cons_succ, i64_w, i32_w]
        rfl
       refine one_ (i := 3) (N := some 33) #[true, true, true, true, true, false, false, true, true, true, true, false, false] rfl rfl (one_of HT_.out (by kernel_rfl)) (by decide) (fun K hK => ?_)
       refine goes_ Try.func58 (by kernel_rfl) rfl #[.slice (some ad455) l1.length c1] (by rfl) rfl rfl (by (try simp only [List.map_toArray, List.map_cons, List.map_nil]); first | done | rfl | (simp only [List.length_drop, List.length_take]; rfl)) ?_
       with_reducible refine (impl_reversed.calls k _ _ l1 t448 _ ?side1 ?side2 A11.out).mono ?_
       (case side1 => exact cs ((Kd.C_below HR1.out HB.out)))
       (case side2 => exact HC1.out)
       rintro e w23 ⟨v449, rfl, ho0, hb⟩
       refine ⟨_, rfl, ?_⟩
       have n0_ := as0 (Kd.R_elder' (rs HO444) (Kd.R_base ho0) hb)
       have n1_ := as0 (Kd.R_elder' (rs HO447) (Kd.R_base ho0) hb)
       have n2_ := as0 (Kd.R_lower (Kd.R_new' (Kd.R_new' ho0 (Kd.R_lt (rs HO444))) (Kd.R_lt (rs HO447))) (below_size (bs HB)))
       have n3_ := as0 (below_step (bs HB) hb)
       clear HO444
       clear HO447
       clear HB
       have HO444 := n0_
       have HO447 := n1_
       have HO450 := n2_
       have HB := n3_
       clear n0_ n1_ n2_ n3_
       (try clear hb)
       (try clear hb2)
       (try clear hk)
       (try clear hi)
       (try clear ho0)
       obtain ⟨Ao24, co24, eo24⟩ := Kd.R_slice HO444.out
       (first | subst eo24 | (injection eo24 with f1_ f2_ f3_; have f4_ := f1_.symm; have f5_ := f3_.symm; clear f1_ f2_ f3_; subst f4_; subst f5_))
       refine hK.out _ _ (((HB.out.cell (World.block_lt_of_cell? w _ hw455_0)).trans hw455_0)) (fun hHeld => ?_)
       clear hK K
       refine nm_ (some 33) ?_
       refine one_ (i := 5) (N := some 35) #[true, true, true, true, true, true, false, true, true, true, true, false, false] rfl rfl (one_of HT_.out (by kernel_rfl)) (by decide) (fun K hK => ?_)
       refine goes_ Try.func58 (by kernel_rfl) rfl #[.slice Ao24 y442.length co24] (by rfl) rfl rfl (by (try simp only [List.map_toArray, List.map_cons, List.map_nil]); first | done | rfl | (simp only [List.length_drop, List.length_take]; rfl)) ?_
       with_reducible refine (impl_reversed.calls k _ _ y442 t451 _ ?side1 ?side2 A12.out).mono ?_
       (case side1 => exact cs ((Kd.R_reads' HO444.out).2.2))
       (case side2 => exact (Kd.R_reads' HO444.out).2.1)
       rintro e w25 ⟨v452, rfl, ho0, hb⟩
       refine ⟨_, rfl, ?_⟩
       have n0_ := as0 (Kd.R_elder' (rs HO444) (Kd.R_base ho0) hb)
       have n1_ := as0 (Kd.R_elder' (rs HO447) (Kd.R_base ho0) hb)
       have n2_ := as0 (Kd.R_elder' (rs HO450) (Kd.R_base ho0) hb)
       have n3_ := as0 (Kd.R_lower (Kd.R_new' (Kd.R_new' (Kd.R_new' ho0 (Kd.R_lt (rs HO444))) (Kd.R_lt (rs HO447))) (Kd.R_lt (rs HO450))) (below_size (bs HB)))
       have n4_ := as0 (below_step (bs HB) hb)
       clear HO444
       clear HO447
       clear HO450
       clear HB
       have HO444 := n0_
       have HO447 := n1_
       have HO450 := n2_
       have HO453 := n3_
       have HB := n4_
       clear n0_ n1_ n2_ n3_ n4_
       (try clear hb)
       (try clear hb2)
       (try clear hk)
       (try clear hi)
       (try clear ho0)
       obtain ⟨Ao26, co26, eo26⟩ := Kd.R_slice HO450.out
       (first | subst eo26 | (injection eo26 with f1_ f2_ f3_; have f4_ := f1_.symm; have f5_ := f3_.symm; clear f1_ f2_ f3_; subst f4_; subst f5_))
       obtain ⟨Ao27, co27, eo27⟩ := Kd.R_slice HO453.out
       (first | subst eo27 | (injection eo27 with f1_ f2_ f3_; have f4_ := f1_.symm; have f5_ := f3_.symm; clear f1_ f2_ f3_; subst f4_; subst f5_))
       refine hK.out _ _ (((HB.out.cell (World.block_lt_of_cell? w _ hw455_0)).trans hw455_0)) (fun hHeld => ?_)
       clear hK K
       refine nm_ (some 35) ?_
       refine one_ (i := 6) (N := some 36) #[true, true, true, true, true, true, true, true, true, true, true, false, false] rfl rfl (one_of HT_.out (by kernel_rfl)) (by decide) (fun K hK => ?_)
       refine goes_ Try.func57 (by kernel_rfl) rfl #[.int .i64 a0, .slice Ao26 t448.length co26, .slice Ao27 t451.length co27] (by rfl) rfl rfl (by (try simp only [List.map_toArray, List.map_cons, List.map_nil]); first | done | rfl | (simp only [List.length_drop, List.length_take]; rfl)) ?_
       with_reducible refine (impl_field_sylvester.calls a0 _ _ t448 _ _ t451 t454 _ ?side1 ?side2 ?side3 ?side4 A13.out).mono ?_
       (case side1 => exact cs ((Kd.R_reads' HO450.out).2.2))
       (case side2 => exact (Kd.R_reads' HO450.out).2.1)
       (case side3 => exact cs ((Kd.R_reads' HO453.out).2.2))
       (case side4 => exact (Kd.R_reads' HO453.out).2.1)
       rintro e w28 ⟨rfl, hb⟩
       refine ⟨_, rfl, ?_⟩
       have n0_ := as0 (Kd.R_below (rs HO444) hb)
       have n1_ := as0 (Kd.R_below (rs HO447) hb)
       have n2_ := as0 (Kd.R_below (rs HO450) hb)
       have n3_ := as0 (Kd.R_below (rs HO453) hb)
       have n4_ := as0 (below_step (bs HB) hb)
       clear HO444
       clear HO447
       clear HO450
       clear HO453
       clear HB
       have HO444 := n0_
       have HO447 := n1_
       have HO450 := n2_
       have HO453 := n3_
       have HB := n4_
       clear n0_ n1_ n2_ n3_ n4_
       (try clear hb)
       (try clear hb2)
       (try clear hk)
       (try clear hi)
       refine hK.out _ _ (((HB.out.cell (World.block_lt_of_cell? w _ hw455_0)).trans hw455_0)) (fun hHeld => ?_)
       clear hK K
       refine nm_ (some 36) ?_
       refine one_ (i := 11) (N := some 41) #[true, true, true, true, true, true, true, true, true, true, true, true, false] rfl rfl (one_of HT_.out (by kernel_rfl)) (by decide) (fun K hK => ?_)
       refine goes_ Try.func63 (by kernel_rfl) rfl #[.int .i64 a0, .int .i64 t454, .int .i64 (rd l1 t441)] (by rfl) rfl rfl (by (try simp only [List.map_toArray, List.map_cons, List.map_nil]); first | done | rfl | (simp only [List.length_drop, List.length_take]; rfl)) ?_
       with_reducible refine (impl_field_div.calls k a0 t454 (rd l1 t441) t456 _ A15.out).mono ?_
       rintro e w' ⟨rfl, ⟨nd, rfl⟩⟩
       refine ⟨_, rfl, ?_⟩
       refine hK.out _ _ (((HB.out.cell (World.block_lt_of_cell? w _ hw455_0)).trans hw455_0)) (fun hHeld => ?_)
       clear hK K
       refine nm_ (some 41) ?_
       refine pm_ HT_ (i := 12) (N := some 10) ?_
       refine done_ (done_of HT_.out (by kernel_rfl)) ?_
       try go_wp2_with (first | ((with_reducible refine gate_callee (f := 64) rfl ?_); refine goesM_ (some 52) rfl rfl Try.func64 #[.int .i64 a0, .int .i64 (wrap64 (-t456))] rfl ?_; (with_reducible refine (impl_field_mod.calls a0 (wrap64 (-t456)) t457 _ A17.out).mono ?_); rintro e w' ⟨rfl, ⟨nd, rfl⟩⟩; refine ⟨_, rfl, ?_⟩))
       go_ret2
       exact ⟨er_, bs HB⟩
      ·
       rw [if_neg c16] at H
       have c16b0 : ((Int.tmod (wrap64 (Int.tdiv (wrap64 (t441 * (wrap64 (t441 - 1)))) 2)) 2) == 1) = false := beq_eq_false_iff_ne.mpr c16
       have c16b1 : ((Int.tmod (wrap64 (Int.tdiv (wrap64 (t441 * (wrap64 (t441 - 1)))) 2)) 2) != 1) = true := bne_iff_ne.mpr c16
       simp only [Option.some.injEq, Prod.mk.injEq] at H
       obtain ⟨rfl, rfl⟩ := H
       go_enter Try.func24, Try.ntmps24
       try go_wp2_with (first | (go_at_call 56; (with_reducible refine (impl_filledCode_1.calls k a0 true A1 c1 l1 t440 _ ?side1 ?side2 A3.out ?sideE ?sideG ?sideP).mono ?_); (case side1 => exact cs (HR1.out)); (case side2 => exact HC1.out); (case sideE => (first | exact enters_of Try.func44 (by kernel_rfl) rfl)); (case sideG => (first | exact always_gives _)); (case sideP => (first | (simp; done) | (simp [*]; done))); rintro e w29 ⟨rfl, hb⟩; have n0_ := as0 (below_step (bs HB) hb); clear HB; have HB := n0_; clear n0_; (try clear hb); (try clear hb2); (try clear hk); (try clear hi)) | ((with_reducible refine gate_callee (f := 52) rfl ?_); refine goesM_ (some 19) rfl rfl Try.func52 #[.slice A1 l1.length c1] rfl ?_; (with_reducible refine (impl_degree.calls _ _ l1 t441 _ ?side1 ?side2 A5.out).mono ?_); (case side1 => exact cs ((Kd.C_below HR1.out HB.out))); (case side2 => exact HC1.out); rintro e w' ⟨rfl, ⟨nd, rfl⟩⟩; refine ⟨_, rfl, ?_⟩) | ((with_reducible refine gate_dst (N := 24) rfl ?_); refine Kd.R_make (Kd.int .i64) _ 2 rfl (N := 24) rfl 22 _ _ rfl t441 rfl rfl Try.underlying22 (.int .i64 0) 8 info2 rfl (by decide) (by omega) 0 (ok := fun _ => True) (okp := fun _ => True) rfl (fun _ hk => hk) trivial (oa_) (Nat.le_trans (Nat.mul_le_mul_right _ (oa_ : t441.toNat ≤ 35184372088832)) (by omega)) (Below.refl _ _) (Nat.le_refl _) ?_; intro v443 w30 ho31 hb hg_ hnew_; clear hg_ hnew_; have n0_ := as0 (Kd.R_lower ho31 (below_size (bs HB))); have n1_ := as0 (below_step (bs HB) hb); clear HB; have HPy442 := n0_; have HB := n1_; clear n0_ n1_; clear hb ho31) | ((with_reducible refine gate_builtin (b := .copy) rfl ?_); refine copy_into rfl _ _ _ rfl Try.underlying22 (by kernel_rfl) t445 rfl rfl HPy442.out ?cpR ?cpM HB.out ?_; (case cpR => exact (Kd.R_reads' HO447.out).2.2); (case cpM => (rw [List.length_replicate]; exact CLEN.out)); intro wcp hcp hbb; have HO444 := as0 hcp; (rw [← Ny442.out] at HO444); clear HB; have HB := as0 hbb; clear hcp hbb HPy442 HO447; have HO447 := as0 (Kd.R_nil (Kd.int .i64) 2 wcp w.heap.size (fun _ => True))) | ((with_reducible refine gate_callee (f := 62) rfl ?_); refine goesM_ (some 28) rfl rfl Try.func62 #[.int .i64 a0, .slice A1 l1.length c1] rfl ?_; (with_reducible refine (impl_field_derivative.calls k a0 _ _ l1 t445 _ ?side1 ?side2 A10.out).mono ?_); (case side1 => exact cs ((Kd.C_below HR1.out HB.out))); (case side2 => exact HC1.out); rintro e w32 ⟨v446, rfl, ho0, hb⟩; refine ⟨_, rfl, ?_⟩; have n0_ := as0 (Kd.R_elder' (rs HPy442) (Kd.R_base ho0) hb); have n1_ := as0 (Kd.R_lower (Kd.R_new' ho0 (Kd.R_lt (rs HPy442))) (below_size (bs HB))); have n2_ := as0 (below_step (bs HB) hb); clear HPy442; clear HB; have HPy442 := n0_; have HO447 := n1_; have HB := n2_; clear n0_ n1_ n2_; (try clear hb); (try clear hb2); (try clear hk); (try clear hi); (try clear ho0); obtain ⟨Ao447, co447, eo447⟩ := Kd.R_slice HO447.out; subst eo447))
       have n0_ := as0 (Kd.R_drew HO444.out)
       have n1_ := as0 (Kd.R_drew HO447.out)
       have n2_ := as0 (below_drew1 HB.out)
       clear HO444
       clear HO447
       clear HB
       have HO444 := n0_
       have HO447 := n1_
       have HB := n2_
       clear n0_ n1_ n2_
       have p455 : 0 ≤ (t441 : Int) := oa_
       have q455 : t441 < (l1.length : Int) := oa_
       obtain ⟨ad455, e455, hx455_0⟩ := Kd.at_int HR1.out t441 p455 q455
       have hw455_0 := hx455_0
       cases e455
       replace hx455_0 := (HB.out.cell (World.block_lt_of_cell? w _ hx455_0)).trans hx455_0
       replace p455 := eq_true p455
       replace q455 := eq_true q455
       refine start_ (n := 13) (S := fun w' => w'.cell? (ad455.add (t441).toNat) = some (.int .i64 (rd l1 t441))) (ds := []) #[false, false, false, false, false, false, false, false, false, false, false, false, false] (by kernel_rfl) rfl rfl (((HB.out.cell (World.block_lt_of_cell? w _ hw455_0)).trans hw455_0)) (fun hHeld => ?_); refine with_tabW impl_DiscriminantOf.tab10 impl_DiscriminantOf.bits10 (fun HT_ HW_ => ?_)
       generalize w32.drew = w33 at HO444 HO447 HB hx455_0 hHeld ⊢
       refine pm_ HT_ (i := 0) (N := some 30) ?_
       refine pm_ HT_ (i := 1) (N := some 31) ?_
       refine pm_ HT_ (i := 2) (N := some 32) ?_
       refine pm_ HT_ (i := 4) (N := some 34) ?_
       refine pm_ HT_ (i := 7) (N := some 37) ?_
       refine pm_ HT_ (i := 8) (N := some 38) ?_
       refine pm_ HT_ (i := 9) (N := some 39) ?_
       refine take_ (i := 10) (N := some 40) (v := ?_) (a' := ?_) #[true, true, true, false, true, false, false, true, true, true, true, false, false] rfl rfl (take_ofW HT_.out HW_.out (by kernel_rfl)) (fun _ _ _ h => h) (Or.inl ⟨by rfl, ?_⟩) hHeld ?_ ?_
       rotate_left
       ·
        intro w' s0
        go_simp
        with_reducible rfl
       rotate_left
       ·
        simp only [Act.put, List.setIfInBounds_toArray, List.set_cons_zero, List.set_cons_succ, i64_w, i32_w]
        rfl
       refine one_ (i := 3) (N := some 33) #[true, true, true, true, true, false, false, true, true, true, true, false, false] rfl rfl (one_of HT_.out (by kernel_rfl)) (by decide) (fun K hK => ?_)
       refine goes_ Try.func58 (by kernel_rfl) rfl #[.slice (some ad455) l1.length c1] (by rfl) rfl rfl (by (try simp only [List.map_toArray, List.map_cons, List.map_nil]); first | done | rfl | (simp only [List.length_drop, List.length_take]; rfl)) ?_
       with_reducible refine (impl_reversed.calls k _ _ l1 t448 _ ?side1 ?side2 A11.out).mono ?_
       (case side1 => exact cs ((Kd.C_below HR1.out HB.out)))
       (case side2 => exact HC1.out)
       rintro e w34 ⟨v449, rfl, ho0, hb⟩
       refine ⟨_, rfl, ?_⟩
       have n0_ := as0 (Kd.R_elder' (rs HO444) (Kd.R_base ho0) hb)
       have n1_ := as0 (Kd.R_elder' (rs HO447) (Kd.R_base ho0) hb)
       have n2_ := as0 (Kd.R_lower (Kd.R_new' (Kd.R_new' ho0 (Kd.R_lt (rs HO444))) (Kd.R_lt (rs HO447))) (below_size (bs HB)))
       have n3_ := as0 (below_step (bs HB) hb)
       clear HO444
       clear HO447
       clear HB
       have HO444 := n0_
       have HO447 := n1_
       have HO450 := n2_
       have HB := n3_
       clear n0_ n1_ n2_ n3_
       (try clear hb)
       (try clear hb2)
       (try clear hk)
       (try clear hi)
       (try clear ho0)
       obtain ⟨Ao35, co35, eo35⟩ := Kd.R_slice HO444.out
       (first | subst eo35 | (injection eo35 with f1_ f2_ f3_; have f4_ := f1_.symm; have f5_ := f3_.symm; clear f1_ f2_ f3_; subst f4_; subst f5_))
       refine hK.out _ _ (((HB.out.cell (World.block_lt_of_cell? w _ hw455_0)).trans hw455_0)) (fun hHeld => ?_)
       clear hK K
       refine nm_ (some 33) ?_
       refine one_ (i := 5) (N := some 35) #[true, true, true, true, true, true, false, true, true, true, true, false, false] rfl rfl (one_of HT_.out (by kernel_rfl)) (by decide) (fun K hK => ?_)
       refine goes_ Try.func58 (by kernel_rfl) rfl #[.slice Ao35 y442.length co35] (by rfl) rfl rfl (by (try simp only [List.map_toArray, List.map_cons, List.map_nil]); first | done | rfl | (simp only [List.length_drop, List.length_take]; rfl)) ?_
       with_reducible refine (impl_reversed.calls k _ _ y442 t451 _ ?side1 ?side2 A12.out).mono ?_
       (case side1 => exact cs ((Kd.R_reads' HO444.out).2.2))
       (case side2 => exact (Kd.R_reads' HO444.out).2.1)
       rintro e w36 ⟨v452, rfl, ho0, hb⟩
       refine ⟨_, rfl, ?_⟩
       have n0_ := as0 (Kd.R_elder' (rs HO444) (Kd.R_base ho0) hb)
       have n1_ := as0 (Kd.R_elder' (rs HO447) (Kd.R_base ho0) hb)
       have n2_ := as0 (Kd.R_elder' (rs HO450) (Kd.R_base ho0) hb)
       have n3_ := as0 (Kd.R_lower (Kd.R_new' (Kd.R_new' (Kd.R_new' ho0 (Kd.R_lt (rs HO444))) (Kd.R_lt (rs HO447))) (Kd.R_lt (rs HO450))) (below_size (bs HB)))
       have n4_ := as0 (below_step (bs HB) hb)
       clear HO444
       clear HO447
       clear HO450
       clear HB
       have HO444 := n0_
       have HO447 := n1_
       have HO450 := n2_
       have HO453 := n3_
       have HB := n4_
       clear n0_ n1_ n2_ n3_ n4_
       (try clear hb)
       (try clear hb2)
       (try clear hk)
       (try clear hi)
       (try clear ho0)
       obtain ⟨Ao37, co37, eo37⟩ := Kd.R_slice HO450.out
       (first | subst eo37 | (injection eo37 with f1_ f2_ f3_; have f4_ := f1_.symm; have f5_ := f3_.symm; clear f1_ f2_ f3_; subst f4_; subst f5_))
       obtain ⟨Ao38, co38, eo38⟩ := Kd.R_slice HO453.out
       (first | subst eo38 | (injection eo38 with f1_ f2_ f3_; have f4_ := f1_.symm; have f5_ := f3_.symm; clear f1_ f2_ f3_; subst f4_; subst f5_))
       refine hK.out _ _ (((HB.out.cell (World.block_lt_of_cell? w _ hw455_0)).trans hw455_0)) (fun hHeld => ?_)
       clear hK K
       refine nm_ (some 35) ?_
       refine one_ (i := 6) (N := some 36) #[true, true, true, true, true, true, true, true, true, true, true, false, false] rfl rfl (one_of HT_.out (by kernel_rfl)) (by decide) (fun K hK => ?_)
       refine goes_ Try.func57 (by kernel_rfl) rfl #[.int .i64 a0, .slice Ao37 t448.length co37, .slice Ao38 t451.length co38] (by rfl) rfl rfl (by (try simp only [List.map_toArray, List.map_cons, List.map_nil]); first | done | rfl | (simp only [List.length_drop, List.length_take]; rfl)) ?_
       with_reducible refine (impl_field_sylvester.calls a0 _ _ t448 _ _ t451 t454 _ ?side1 ?side2 ?side3 ?side4 A13.out).mono ?_
       (case side1 => exact cs ((Kd.R_reads' HO450.out).2.2))
       (case side2 => exact (Kd.R_reads' HO450.out).2.1)
       (case side3 => exact cs ((Kd.R_reads' HO453.out).2.2))
       (case side4 => exact (Kd.R_reads' HO453.out).2.1)
       rintro e w39 ⟨rfl, hb⟩
       refine ⟨_, rfl, ?_⟩
       have n0_ := as0 (Kd.R_below (rs HO444) hb)
       have n1_ := as0 (Kd.R_below (rs HO447) hb)
       have n2_ := as0 (Kd.R_below (rs HO450) hb)
       have n3_ := as0 (Kd.R_below (rs HO453) hb)
       have n4_ := as0 (below_step (bs HB) hb)
       clear HO444
       clear HO447
       clear HO450
       clear HO453
       clear HB
       have HO444 := n0_
       have HO447 := n1_
       have HO450 := n2_
       have HO453 := n3_
       have HB := n4_
       clear n0_ n1_ n2_ n3_ n4_
       (try clear hb)
       (try clear hb2)
       (try clear hk)
       (try clear hi)
       refine hK.out _ _ (((HB.out.cell (World.block_lt_of_cell? w _ hw455_0)).trans hw455_0)) (fun hHeld => ?_)
       clear hK K
       refine nm_ (some 36) ?_
       refine one_ (i := 11) (N := some 41) #[true, true, true, true, true, true, true, true, true, true, true, true, false] rfl rfl (one_of HT_.out (by kernel_rfl)) (by decide) (fun K hK => ?_)
       refine goes_ Try.func63 (by kernel_rfl) rfl #[.int .i64 a0, .int .i64 t454, .int .i64 (rd l1 t441)] (by rfl) rfl rfl (by (try simp only [List.map_toArray, List.map_cons, List.map_nil]); first | done | rfl | (simp only [List.length_drop, List.length_take]; rfl)) ?_
       with_reducible refine (impl_field_div.calls k a0 t454 (rd l1 t441) t456 _ A15.out).mono ?_
       rintro e w' ⟨rfl, ⟨nd, rfl⟩⟩
       refine ⟨_, rfl, ?_⟩
       refine hK.out _ _ (((HB.out.cell (World.block_lt_of_cell? w _ hw455_0)).trans hw455_0)) (fun hHeld => ?_)
       clear hK K
       refine nm_ (some 41) ?_
       refine pm_ HT_ (i := 12) (N := some 10) ?_
       refine done_ (done_of HT_.out (by kernel_rfl)) ?_
       try go_wp2
       go_ret2
       exact ⟨er_, bs HB⟩
     ·
      rw [if_neg c14] at H
      exact absurd H (by simp)
    ·
     rw [if_neg c9] at H
     exact absurd H (by simp)
   ·
    rw [if_neg c8] at H
    exact absurd H (by simp)
 ·
  rw [if_neg c4] at H
  have c4b0 : (t440 == 0) = false := beq_eq_false_iff_ne.mpr c4
  have c4b1 : (t440 != 0) = true := bne_iff_ne.mpr c4
  simp only [Option.some.injEq, Prod.mk.injEq] at H
  obtain ⟨rfl, rfl⟩ := H
  go_enter Try.func24, Try.ntmps24
  go_wp2_with (first | (go_at_call 56; (with_reducible refine (impl_filledCode_1.calls k a0 true A1 c1 l1 t440 _ ?side1 ?side2 A3.out ?sideE ?sideG ?sideP).mono ?_); (case side1 => exact cs (HR1.out)); (case side2 => exact HC1.out); (case sideE => (first | exact enters_of Try.func44 (by kernel_rfl) rfl)); (case sideG => (first | exact always_gives _)); (case sideP => (first | (simp; done) | (simp [*]; done))); rintro e w40 ⟨rfl, hb⟩; have n0_ := as0 (below_step (bs HB) hb); clear HB; have HB := n0_; clear n0_; (try clear hb); (try clear hb2); (try clear hk); (try clear hi)))
  go_ret2
  exact ⟨er_, bs HB⟩
end
def impl_GcdPolys.f (k : Nat) (a0 : Int) (l1 : List Int) (l2 : List Int) : Option (List Int × Int) := (impl_polyCode_2.f k a0 true l1 l2).bind fun t804 => (if t804 = 0 then ((impl_field_gcd.f k a0 l1 l2).bind fun t805 => (some (t805, 0))) else (some (([] : List Int), t804)))
set_option maxHeartbeats 8000000 in
set_option maxRecDepth 100000 in
theorem impl_GcdPolys.calls (k : Nat) (a0 : Int) (A1 : Option Addr) (c1 : Nat) (l1 : List Int) (A2 : Option Addr) (c2 : Nat) (l2 : List Int) (r1 : List Int) (r2 : Int) (w : World) (hr1 : Kd.C (Kd.int .i64) w A1 l1.length l1) (hc1 : l1.length ≤ c1) (hr2 : Kd.C (Kd.int .i64) w A2 l2.length l2) (hc2 : l2.length ≤ c2) (h : impl_GcdPolys.f k a0 l1 l2 = some (r1, r2)) :
  Calls Try.prog 40 #[.int .i64 a0, .slice A1 l1.length c1, .slice A2 l2.length c2] w fun e w' => ∃ v0_ : Value, e = .returned (.tuple #[v0_, .int .i64 r2]) ∧ Kd.R (Kd.int .i64) 2 w' w.heap.size (fun _ => True) v0_ r1 ∧ Below w.heap.size w w' := by
 have HR1 := as0 hr1
 have HC1 := as0 hc1
 clear hr1 hc1
 have HR2 := as0 hr2
 have HC2 := as0 hc2
 clear hr2 hc2
 have HB := as0 (Below.refl w.heap.size w)
 have H : ((impl_polyCode_2.f k a0 true l1 l2).bind fun t804 => (if t804 = 0 then ((impl_field_gcd.f k a0 l1 l2).bind fun t805 => (some (t805, 0))) else (some (([] : List Int), t804)))) = some (r1, r2) := h
 clear h
 replace H := Option.bind_eq_some_iff.mp H
 obtain ⟨t804, A40, H⟩ := H
 have A4 := as0 A40
 clear A40
 by_cases c5 : t804 = 0
 ·
  rw [if_pos c5] at H
  have c5b0 : (t804 == 0) = true := beq_iff_eq.mpr c5
  have c5b1 : (t804 != 0) = false := bne_eq_false_iff_eq.mpr c5
  clear c5
  replace H := Option.bind_eq_some_iff.mp H
  obtain ⟨t805, A60, H⟩ := H
  have A6 := as0 A60
  clear A60
  simp only [Option.some.injEq, Prod.mk.injEq] at H
  obtain ⟨rfl, rfl⟩ := H
  go_enter Try.func40, Try.ntmps40
  go_wp2_with (first | (go_at_call 43; (with_reducible refine (impl_polyCode_2.calls k a0 true A1 c1 l1 A2 c2 l2 t804 _ ?side1 ?side2 ?side3 ?side4 A4.out ?sideE ?sideG ?sideP ?sideQ).mono ?_); (case side1 => exact cs (HR1.out)); (case side2 => exact HC1.out); (case side3 => exact cs (HR2.out)); (case side4 => exact HC2.out); (case sideE => (first | exact enters_of Try.func44 (by kernel_rfl) rfl)); (case sideG => (first | exact always_gives _)); (case sideP => (first | (simp; done) | (simp [*]; done))); (case sideQ => (first | (simp; done) | (simp [*]; done))); rintro e w7 ⟨rfl, hb⟩; have n0_ := as0 (below_step (bs HB) hb); clear HB; have HB := n0_; clear n0_; (try clear hb); (try clear hb2); (try clear hk); (try clear hi)) | ((with_reducible refine gate_callee (f := 74) rfl ?_); refine goesM_ (some 20) rfl rfl Try.func74 #[.int .i64 a0, .slice A1 l1.length c1, .slice A2 l2.length c2] rfl ?_; (with_reducible refine (impl_field_gcd.calls k a0 (fun k_ => k_ < w.heap.size) _ _ l1 (fun k_ => k_ < w.heap.size) _ _ l2 t805 _ ?side1 ?side2 A6.out).mono ?_); (case side1 => exact Kd.V_mk HC1.out (Kd.F_below (Kd.C_F (Kd.heap_int .i64) HR1.out) (bs HB))); (case side2 => exact Kd.V_mk HC2.out (Kd.F_below (Kd.C_F (Kd.heap_int .i64) HR2.out) (bs HB))); rintro e w8 ⟨v806, rfl, ho0, hb⟩; refine ⟨_, rfl, ?_⟩; have n0_ := as0 (Kd.R_lower (Kd.R_mono (ok' := fun k_ => True) ho0 (fun _ hk_ => trivial)) (below_size (bs HB))); have n1_ := as0 (below_step (bs HB) hb); clear HB; have HO807 := n0_; have HB := n1_; clear n0_ n1_; (try clear hb); (try clear hb2); (try clear hk); (try clear hi); (try clear ho0)))
  go_ret2
  exact ⟨_, er_, rs HO807, bs HB⟩
 ·
  rw [if_neg c5] at H
  have c5b0 : (t804 == 0) = false := beq_eq_false_iff_ne.mpr c5
  have c5b1 : (t804 != 0) = true := bne_iff_ne.mpr c5
  simp only [Option.some.injEq, Prod.mk.injEq] at H
  obtain ⟨rfl, rfl⟩ := H
  go_enter Try.func40, Try.ntmps40
  go_wp2_with (first | (go_at_call 43; (with_reducible refine (impl_polyCode_2.calls k a0 true A1 c1 l1 A2 c2 l2 t804 _ ?side1 ?side2 ?side3 ?side4 A4.out ?sideE ?sideG ?sideP ?sideQ).mono ?_); (case side1 => exact cs (HR1.out)); (case side2 => exact HC1.out); (case side3 => exact cs (HR2.out)); (case side4 => exact HC2.out); (case sideE => (first | exact enters_of Try.func44 (by kernel_rfl) rfl)); (case sideG => (first | exact always_gives _)); (case sideP => (first | (simp; done) | (simp [*]; done))); (case sideQ => (first | (simp; done) | (simp [*]; done))); rintro e w9 ⟨rfl, hb⟩; have n0_ := as0 (below_step (bs HB) hb); clear HB; have HB := n0_; clear n0_; (try clear hb); (try clear hb2); (try clear hk); (try clear hi)))
  go_ret2
  exact ⟨_, er_, by first | exact Kd.R_nil _ _ _ _ _ | exact Kd.N_nil _ _ _ _ _ | exact Kd.V_nil _ _ _ _ _ | exact Kd.Q_nil _ _ _ _ _ | exact Kd.S_nil _ _ _ _ _, bs HB⟩
def impl_field_isSimple.f (k : Nat) (a0 : Int) (l1 : List Int) : Option (Bool) := (impl_field_derivative.f k a0 l1).bind fun t703 => ((impl_field_gcd.f k a0 l1 t703).bind fun t706 => (some ((t706.length : Int) == 1)))
set_option maxHeartbeats 8000000 in
set_option maxRecDepth 100000 in
theorem impl_field_isSimple.calls (k : Nat) (a0 : Int) (A1 : Option Addr) (c1 : Nat) (l1 : List Int) (r : Bool) (w : World) (hr1 : Kd.C (Kd.int .i64) w A1 l1.length l1) (hc1 : l1.length ≤ c1) (h : impl_field_isSimple.f k a0 l1 = some r) :
  Calls Try.prog 72 #[.int .i64 a0, .slice A1 l1.length c1] w fun e w' => e = .returned (.bool r) ∧ Below w.heap.size w w' := by
 have HR1 := as0 hr1
 have HC1 := as0 hc1
 clear hr1 hc1
 have HB := as0 (Below.refl w.heap.size w)
 have H : ((impl_field_derivative.f k a0 l1).bind fun t703 => ((impl_field_gcd.f k a0 l1 t703).bind fun t706 => (some ((t706.length : Int) == 1)))) = some r := h
 clear h
 replace H := Option.bind_eq_some_iff.mp H
 obtain ⟨t703, A30, H⟩ := H
 have A3 := as0 A30
 clear A30
 replace H := Option.bind_eq_some_iff.mp H
 obtain ⟨t706, A40, H⟩ := H
 have A4 := as0 A40
 clear A40
 obtain rfl := Option.some.inj H
 go_enter Try.func72, Try.ntmps72
 go_wp2_with (first | ((with_reducible refine gate_callee (f := 62) rfl ?_); refine goesM_ (some 9) rfl rfl Try.func62 #[.int .i64 a0, .slice A1 l1.length c1] rfl ?_; (with_reducible refine (impl_field_derivative.calls k a0 _ _ l1 t703 _ ?side1 ?side2 A3.out).mono ?_); (case side1 => exact cs (HR1.out)); (case side2 => exact HC1.out); rintro e w5 ⟨v704, rfl, ho0, hb⟩; refine ⟨_, rfl, ?_⟩; have n0_ := as0 (Kd.R_lower ho0 (below_size (bs HB))); have n1_ := as0 (below_step (bs HB) hb); clear HB; have HO705 := n0_; have HB := n1_; clear n0_ n1_; (try clear hb); (try clear hb2); (try clear hk); (try clear hi); (try clear ho0); obtain ⟨Ao6, co6, eo6⟩ := Kd.R_slice HO705.out; subst eo6) | ((with_reducible refine gate_callee (f := 74) rfl ?_); refine goesM_ (some 10) rfl rfl Try.func74 #[.int .i64 a0, .slice A1 l1.length c1, .slice Ao6 t703.length co6] rfl ?_; (with_reducible refine (impl_field_gcd.calls k a0 (fun k_ => k_ < w.heap.size) _ _ l1 (fun k_ => some k_ = (.slice Ao6 t703.length co6 : Value).ownBlock) _ _ t703 t706 _ ?side1 ?side2 A4.out).mono ?_); (case side1 => exact Kd.V_mk HC1.out (Kd.F_below (Kd.C_F (Kd.heap_int .i64) HR1.out) (bs HB))); (case side2 => exact Kd.R_V (Kd.R_tight rfl (HO705.out))); rintro e w7 ⟨v707, rfl, ho0, hb⟩; refine ⟨_, rfl, ?_⟩; have n0_ := as0 (Kd.R_elder' (rs HO705) (Kd.R_base ho0) hb); have n1_ := as0 (Kd.R_lower (Kd.R_new' (Kd.R_mono (ok' := fun k_ => True) ho0 (fun _ hk_ => trivial)) (Kd.R_lt (rs HO705))) (below_size (bs HB))); have n2_ := as0 (below_step (bs HB) hb); clear HO705; clear HB; have HO705 := n0_; have HO708 := n1_; have HB := n2_; clear n0_ n1_ n2_; (try clear hb); (try clear hb2); (try clear hk); (try clear hi); (try clear ho0); obtain ⟨Ao8, co8, eo8⟩ := Kd.R_slice HO708.out; subst eo8))
 go_ret
 exact ⟨er_, bs HB⟩
def impl_IsSimplePolynomial.f (k : Nat) (a0 : Int) (l1 : List Int) : Option (Bool × Int) := (impl_filledCode_1.f k a0 true l1).bind fun t709 => (if t709 = 0 then ((impl_field_isSimple.f k a0 l1).bind fun t710 => (some (t710, 0))) else (some (false, t709)))
set_option maxHeartbeats 8000000 in
set_option maxRecDepth 100000 in
theorem impl_IsSimplePolynomial.calls (k : Nat) (a0 : Int) (A1 : Option Addr) (c1 : Nat) (l1 : List Int) (r1 : Bool) (r2 : Int) (w : World) (hr1 : Kd.C (Kd.int .i64) w A1 l1.length l1) (hc1 : l1.length ≤ c1) (h : impl_IsSimplePolynomial.f k a0 l1 = some (r1, r2)) :
  Calls Try.prog 31 #[.int .i64 a0, .slice A1 l1.length c1] w fun e w' => e = .returned (.tuple #[.bool r1, .int .i64 r2]) ∧ Below w.heap.size w w' := by
 have HR1 := as0 hr1
 have HC1 := as0 hc1
 clear hr1 hc1
 have HB := as0 (Below.refl w.heap.size w)
 have H : ((impl_filledCode_1.f k a0 true l1).bind fun t709 => (if t709 = 0 then ((impl_field_isSimple.f k a0 l1).bind fun t710 => (some (t710, 0))) else (some (false, t709)))) = some (r1, r2) := h
 clear h
 replace H := Option.bind_eq_some_iff.mp H
 obtain ⟨t709, A30, H⟩ := H
 have A3 := as0 A30
 clear A30
 by_cases c4 : t709 = 0
 ·
  rw [if_pos c4] at H
  have c4b0 : (t709 == 0) = true := beq_iff_eq.mpr c4
  have c4b1 : (t709 != 0) = false := bne_eq_false_iff_eq.mpr c4
  clear c4
  replace H := Option.bind_eq_some_iff.mp H
  obtain ⟨t710, A50, H⟩ := H
  have A5 := as0 A50
  clear A50
  simp only [Option.some.injEq, Prod.mk.injEq] at H
  obtain ⟨rfl, rfl⟩ := H
  go_enter Try.func31, Try.ntmps31
  go_wp2_with (first | (go_at_call 56; (with_reducible refine (impl_filledCode_1.calls k a0 true A1 c1 l1 t709 _ ?side1 ?side2 A3.out ?sideE ?sideG ?sideP).mono ?_); (case side1 => exact cs (HR1.out)); (case side2 => exact HC1.out); (case sideE => (first | exact enters_of Try.func44 (by kernel_rfl) rfl)); (case sideG => (first | exact always_gives _)); (case sideP => (first | (simp; done) | (simp [*]; done))); rintro e w6 ⟨rfl, hb⟩; have n0_ := as0 (below_step (bs HB) hb); clear HB; have HB := n0_; clear n0_; (try clear hb); (try clear hb2); (try clear hk); (try clear hi)) | ((with_reducible refine gate_callee (f := 72) rfl ?_); refine goesM_ (some 16) rfl rfl Try.func72 #[.int .i64 a0, .slice A1 l1.length c1] rfl ?_; (with_reducible refine (impl_field_isSimple.calls k a0 _ _ l1 t710 _ ?side1 ?side2 A5.out).mono ?_); (case side1 => exact cs ((Kd.C_below HR1.out HB.out))); (case side2 => exact HC1.out); rintro e w7 ⟨rfl, hb⟩; refine ⟨_, rfl, ?_⟩; have n0_ := as0 (below_step (bs HB) hb); clear HB; have HB := n0_; clear n0_; (try clear hb); (try clear hb2); (try clear hk); (try clear hi)))
  go_ret2
  exact ⟨er_, bs HB⟩
 ·
  rw [if_neg c4] at H
  have c4b0 : (t709 == 0) = false := beq_eq_false_iff_ne.mpr c4
  have c4b1 : (t709 != 0) = true := bne_iff_ne.mpr c4
  simp only [Option.some.injEq, Prod.mk.injEq] at H
  obtain ⟨rfl, rfl⟩ := H
  go_enter Try.func31, Try.ntmps31
  go_wp2_with (first | (go_at_call 56; (with_reducible refine (impl_filledCode_1.calls k a0 true A1 c1 l1 t709 _ ?side1 ?side2 A3.out ?sideE ?sideG ?sideP).mono ?_); (case side1 => exact cs (HR1.out)); (case side2 => exact HC1.out); (case sideE => (first | exact enters_of Try.func44 (by kernel_rfl) rfl)); (case sideG => (first | exact always_gives _)); (case sideP => (first | (simp; done) | (simp [*]; done))); rintro e w8 ⟨rfl, hb⟩; have n0_ := as0 (below_step (bs HB) hb); clear HB; have HB := n0_; clear n0_; (try clear hb); (try clear hb2); (try clear hk); (try clear hi)))
  go_ret2
  exact ⟨er_, bs HB⟩
end Go.Proofs.Ytlmolloallhclaa.H
