/- Joined texts of a claim: the printed functions and what is proved of them. -/
import Derived.Test.YtmadpicanmjhhaaDoorShelf
import Derived.Test.YtmadpicanmjhhaaDoorMa4
import Derived.Test.YtmadpicanmjhhaaDoorMa7
import Derived.Test.YtmadpicanmjhhaaDoorYHx0
import Derived.Test.YtmadpicanmjhhaaDoorMa3
import Derived.Test.YtmadpicanmjhhaaDoorMa5
import Derived.Test.YtmadpicanmjhhaaDoorMa6
namespace Go.Proofs.YtmadpicanmjhhaaDoor.H
open Go.RowKit Go.Proofs.YtmadpicanmjhhaaDoorW.PrintWords Go.Proofs.YtmadpicanmjhhaaDoorW.PrintLast Go.Proofs.YtmadpicanmjhhaaDoorW.PrintMore
attribute [local go_sem] max2_int min2_int max_two min_two max_three min_three max_four min_four   -- for this text's walks alone
set_option linter.unusedVariables false
set_option linter.unusedSimpArgs false
attribute [local go_sem] Oper.semAt_some
def polyT (f : List Int) : List UInt8 := if f.length = 0 then [48] else Lib.join (f.reverse.map Lib.itoa) [44]
abbrev I64 := { c : Int // -9223372036854775808 ≤ c ∧ c ≤ 9223372036854775807 }
def txW (l : List (Int × I64)) : List ByteArray := l.map fun x => ⟨(Lib.itoa x.2.1).toArray⟩
theorem txW_snoc (l : List (Int × I64)) (x : Int × I64) : txW (l ++ [x]) = txW l ++ [⟨(Lib.itoa x.2.1).toArray⟩] := by simp [txW]
theorem txW_len (l : List (Int × I64)) : (txW l).length = l.length := by simp [txW]
theorem txW_all (f : List Int) (g : Nat → I64) (hg : ∀ j, j < f.length → (g j).1 = f.getD j 0) : (txW (bwUpto g f.length f.length)).map (·.data.toList) = f.reverse.map Lib.itoa := by
 refine List.ext_getElem? fun j => ?_
 rw [List.getElem?_map]
 by_cases hj : j < f.length
 ·
  unfold txW bwUpto
  rw [List.getElem?_map, List.getElem?_map, List.getElem?_range hj, List.getElem?_map, List.getElem?_reverse hj, List.getElem?_eq_getElem (show f.length - 1 - j < f.length by omega)]
  show some (Lib.itoa (g (f.length - 1 - j)).1) = some (Lib.itoa _)
  rw [hg _ (by omega), List.getD_eq_getElem?_getD, List.getElem?_eq_getElem (show f.length - 1 - j < f.length by omega)]
  rfl
 ·
  rw [List.getElem?_eq_none (by rw [txW_len, bwUpto_length]; omega), List.getElem?_eq_none (by rw [List.length_map, List.length_reverse]; omega)]
  rfl
theorem join_le : ∀ ws : List (List UInt8), (∀ w ∈ ws, w.length ≤ 21) → (Lib.join ws [44]).length ≤ 22 * ws.length
 | [], _ => by rw [Lib.join_nil]; simp
 | [w], h => by rw [Lib.join_one]; have := h w (by simp); simp; omega
 | w :: x :: r, h => by
  have ih := join_le (x :: r) (fun y hy => h y (List.mem_cons_of_mem _ hy))
  have hw := h w (by simp)
  rw [join_cons2, List.length_append, List.length_append]
  simp only [List.length_cons, List.length_nil] at ih ⊢
  omega
set_option maxRecDepth 100000 in
set_option maxHeartbeats 8000000 in
theorem impl_polyText.calls (A1 : Option Addr) (c1 : Nat) (l1 : List Int) (w : World) (hr1 : Kd.C (Kd.int .i64) w A1 l1.length l1) (hc1 : l1.length ≤ c1) (hel : ∀ x ∈ l1, -9223372036854775808 ≤ x ∧ x ≤ 9223372036854775807) (hlen : l1.length ≤ 1000) (htab : Lib.TabIs Tryd.prog w "internal/strconv.uint64pow10" .u64 Lib.pow10Tab) :
  Calls Tryd.prog 17 #[.slice A1 l1.length c1] w fun e w' => e = .returned (.string ⟨(polyT l1).toArray⟩) ∧ Below w.heap.size w w' := by
 have hgd : ∀ j, -9223372036854775808 ≤ l1.getD j 0 ∧ l1.getD j 0 ≤ 9223372036854775807 := fun j => by
  rw [List.getD_eq_getElem?_getD]
  cases h : l1[j]? with
  | none => exact ⟨by simp, by simp⟩
  | some x => exact hel x (List.mem_of_getElem? h)
 by_cases h0 : l1.length = 0
 ·
  have d0 : ((l1.length : Int) == 0) = true := by rw [h0]; rfl
  have e0 : polyT l1 = [48] := if_pos h0
  have HB := as0 (Below.refl w.heap.size w)
  rw [e0]
  clear e0 hgd hel hlen hr1 hc1 htab
  rw [h0]
  clear h0 d0
  go_enter Tryd.func17, Tryd.ntmps17
  go_wp2
  go_ret
  exact ⟨rfl, HB.out⟩
 ·
  have d0 : ((l1.length : Int) == 0) = false := beq_eq_false_iff_ne.mpr (by omega)
  have d0' : (l1.length == 0) = false := beq_eq_false_iff_ne.mpr h0
  have hpT : polyT l1 = Lib.join (l1.reverse.map Lib.itoa) [44] := if_neg h0
  have HEL := as0 hel
  refine (callsIn_wide (n := 3)).1 ?_
  refine callsIn_of_wp_marks Tryd.func17 rfl trivial ?_ rfl
  simp only [Tryd.ntmps17, List.size_toArray, List.length_cons, List.length_nil, Nat.reduceAdd, Nat.reduceSub, Array.replicate_succ, Array.replicate_zero, List.push_toArray, List.append_toArray, List.nil_append, List.cons_append]
  gi_wp2_with (refine ⟨trivial, ?_⟩; gi_at_call 29; refine (backward_in _ _ trivial rfl _ _ _ _).mono ?_; rintro e w' ⟨rfl, rfl⟩)
  have bO := (Boxed.new w 39 (.slice none 0 0)).alloc (.cells #[.slice A1 l1.length c1] 22)
  have bS := Boxed.new (w.alloc (.cells #[.slice none 0 0] 39)) 22 (.slice A1 l1.length c1)
  simp only [World.size_alloc] at bO bS
  have hB0 : Below w.heap.size w ((w.alloc (.cells #[.slice none 0 0] 39)).alloc (.cells #[.slice A1 l1.length c1] 22)) := by
   repeat (first | exact Below.refl _ _ | apply below_alloc)
  have hsz : ((w.alloc (.cells #[.slice none 0 0] 39)).alloc (.cells #[.slice A1 l1.length c1] 22)).heap.size = w.heap.size + 2 := by simp
  obtain ⟨W0, hW0⟩ : ∃ W0, ((w.alloc (.cells #[.slice none 0 0] 39)).alloc (.cells #[.slice A1 l1.length c1] 22)) = W0 := ⟨_, rfl⟩
  rw [hW0] at bO bS hB0 hsz ⊢
  clear hW0
  have hC : ∀ W', Below w.heap.size W0 W' → ∀ j, j < l1.length → ∃ ad, A1 = some ad ∧ W'.cell? (ad.add j) = some (.int .i64 ((⟨l1.getD j 0, hgd j⟩ : I64).1)) := fun W' hW' j hj => by
   obtain ⟨ad, e, h⟩ := Kd.at_int (Kd.C_below hr1 (hB0.trans hW')) (j : Int) (by omega) (by omega)
   exact ⟨ad, e, by simpa [rd] using h⟩
  refine wpIn_rangeFunc_ownG rfl (by omega) (gf := 43) (lb := #[.pointer (some ⟨w.heap.size + 1, 0, none⟩)]) rfl trivial (enters_of Tryd.func43 (by kernel_rfl) rfl)
   (backward_stops (α := I64) Subtype.val (fun j => ⟨l1.getD j 0, hgd j⟩) Fence.wide 2 trivial rfl (by omega) (w.heap.size + 1) w.heap.size l1.length c1 A1 (by omega) W0 (by omega) (by omega) bS hC) KpB.trans (KpB.put (by omega) (by omega)) (Below.refl _ _) (fun _ => rfl)
   (fun pre W => (W0.heap.size ≤ W.heap.size ∧ (∃ v, Boxed W w.heap.size 39 v ∧ W.ownsRow W0.heap.size 9 1 v (txW pre).length (encs Value.string (txW pre)) ∧ True)) ∧ Below w.heap.size w W)
   (fun _ _ _ => False)
   (OwnFrom.and (OwnFrom.and (Own.from (fun s A B row hs hg hr => Nat.le_trans hs hg.size) _) (Own.from (holdsRow_own _ _ _ _ _ (fun pre => (txW pre).length) (fun pre => encs Value.string (txW pre)) (fun _ _ => True)) _)) (ownFrom_below (Nat.le_refl _) (by omega)))
   (fun _ _ _ _ _ hs _ _ => hs)
   ⟨⟨Nat.le_refl _, _, bO, by simp [txW, encs, World.ownsRow], trivial⟩, hB0⟩
   (fun x => { tmps := #[.slice A1 l1.length c1, undef, .string ⟨#[]⟩, .pointer (some ⟨w.heap.size, 0, none⟩), undef, .int .i64 x.2.1, .slice A1 l1.length c1, .int .i64 l1.length, .bool false, .slice A1 l1.length c1, .func (.func 43) #[] #[.pointer (some ⟨w.heap.size + 1, 0, none⟩)], .int .i64 x.1, .int .i64 x.2.1, undef, undef, undef, undef, undef, undef, undef], defers := [] }) ?assign ?body ?done ?stop
  case assign =>
   intro l x W K hK
   gi_wp2
   exact hK
  case body =>
   rintro l pre x W ⟨⟨hsW, v, hO, hrow, _⟩, hB⟩ hlt
   have HR : Kd.R Kd.string 9 W W0.heap.size (fun _ => True) v (txW pre) := Kd.R_of_own hrow (fun _ _ => trivial)
   obtain ⟨A, c, rfl⟩ := Kd.R_slice HR
   have cO := hO.cell
   have fO := hO.frozen
   have hmx : Tryd.prog.follows .mixedOrders = true := by kernel_rfl
   have HS : ∀ W', Below W.heap.size W W' → W'.cell? ⟨w.heap.size, 0, none⟩ = some (.slice A (txW pre).length c) := fun W' h => Boxed.cell ((h.block _ hO.lt).trans hO)
   have hbD : Below W.heap.size W W.drew := (Below.refl _ _).drew
   have hD := fun W' (hW : Below W.heap.size W W') => impl_decimal.calls x.2.1 x.2.2.1 x.2.2.2 W' (tab_below htab (hB.trans (hW.mono hB.size)))
   gi_wp2
   refine startIn_ (n := 6) (S := fun w' => w'.cell? ⟨w.heap.size, 0, none⟩ = some (.slice A (txW pre).length c)) (ds := [5]) #[false, false, false, false, false, false] hmx (by kernel_rfl) (fun ⟨_, _, h⟩ => h) rfl rfl (HS _ hbD) (fun hHeld => ?_)
   refine take_ (i := 0) (N := some 13) (v := ?_) (a' := ?_) #[true, false, false, false, false, false] rfl rfl (by kernel_rfl) (fun _ _ _ h => h) (Or.inl ⟨by rfl, ?_⟩) hHeld ?_ ?_
   rotate_left
   ·
    rintro w' s0
    go_simp
    with_reducible rfl
   rotate_left
   ·
    simp only [Act.put, List.setIfInBounds_toArray, List.set_cons_zero, List.set_cons_succ, i64_w, i32_w]
    rfl
   refine pure_ (i := 1) (N := some 14) (v := ?_) (a' := ?_) #[true, true, false, false, false, false] rfl rfl (by kernel_rfl) (fun _ _ _ h => h) (Or.inl ⟨by rfl, ?_⟩) ?_ ?_
   rotate_left
   ·
    intro w'
    go_simp
    with_reducible rfl
   rotate_left
   ·
    simp only [Act.put, List.setIfInBounds_toArray, List.set_cons_zero, List.set_cons_succ, i64_w, i32_w]
    rfl
   refine one_ (i := 2) (N := some 15) #[true, true, true, false, false, false] rfl rfl (by kernel_rfl) (by decide) (fun K hK => ?_)
   refine goes_ Tryd.func30 (by kernel_rfl) rfl #[.int .i64 x.2.1] (by rfl) rfl rfl (by (try simp only [List.map_toArray, List.map_cons, List.map_nil]); first | done | rfl) ?_
   refine (hD _ hbD).mono ?_
   rintro e w3 ⟨rfl, hb3⟩
   have hb3' := below_step hbD hb3
   refine ⟨_, rfl, ?_⟩
   refine hK.out _ _ (HS _ hb3') (fun hHeld => ?_)
   clear hK K
   refine nm_ (some 15) ?_
   have HR3 : Kd.R Kd.string 9 w3 W0.heap.size (fun _ => True) (.slice A (txW pre).length c) (txW pre) := Kd.R_below HR hb3'
   refine one_ (i := 3) (N := some 16) #[true, true, true, true, false, false] rfl rfl (by kernel_rfl) (by decide) (fun K hK => ?_)
   refine value_ (w1 := ?_) (v := ?_) (by rfl) rfl ?_ ?_
   rotate_left 2
   ·
    go_simp
    constructor
    ·
     rfl
    ·
     rfl
   refine hK.out _ _ (pw_cell_below (below_alloc (Below.refl _ _) _) hHeld) (fun hHeld => ?_)
   clear hK K
   refine nm_ (some 16) ?_
   refine one_ (i := 4) (N := some 17) #[true, true, true, true, true, false] rfl rfl (by kernel_rfl) (by decide) (fun K hK => ?_)
   refine Kd.R_append_step Kd.string (w0 := w3) W0.heap.size (by rfl) (.tmp 13) (.tmp 16) 39 9 (.string ⟨#[]⟩) 16 rfl Tryd.underlying39 info9 rfl (by decide) (by omega) (.slice A (txW pre).length c) (txW pre) (⟨(Lib.itoa x.2.1).toArray⟩ : ByteArray) [.string ⟨(Lib.itoa x.2.1).toArray⟩] (fun _ => True) (fun _ => False) rfl rfl ?aP (fun _ hk => hk.elim) ?aF ?aO ?aB ?aS ?aL ?_
   case aP => exact rfl
   case aF => exact fun _ _ => trivial
   case aO => exact HR3
   case aB => exact Below.refl _ _
   case aS => exact Nat.le_trans hsW hb3'.size
   case aL => rw [txW_len]; omega
   intro v17 w5 ho hb5 hg hat
   rw [← txW_snoc] at ho
   obtain ⟨A5, c5, rfl⟩ := Kd.R_slice ho
   have hO3 : Boxed w3 w.heap.size 39 (.slice A (txW pre).length c) := (hb3'.block _ hO.lt).trans hO
   have hO5 : Boxed w5 w.heap.size 39 (.slice A (txW pre).length c) := (hb5.block _ (by omega)).trans hO3
   have cO5 := hO5.cell
   have fO5 := hO5.frozen
   refine hK.out _ _ cO5 (fun hHeld => ?_)
   clear hK K
   refine nm_ (some 17) ?_
   refine last_ (i := 5) (N := none) #[true, true, true, true, true, true] rfl rfl (by kernel_rfl) (by decide) (fun K hK => ?_)
   refine skip_ (w1 := w5.setCell ⟨w.heap.size, 0, none⟩ (.slice A5 (txW (pre ++ [x])).length c5)) (by rfl) rfl ?_ ?_
   ·
    first | (go_simp; done) | (go_simp; rfl)
   refine hK.out _ _ ?_
   clear hK K
   refine done_ (by kernel_rfl) ?_
   have hown := Kd.own_of_R ho
   have hrowc : ∀ (j : Nat) (o : Obj), (.slice A (txW pre).length c : Value).ownBlock = some j → w3.heap[j]? = some o → o.isCells = true := fun j o hj ho' => by
    obtain ⟨cells, hc'⟩ := Kd.R_typed HR3 j hj
    rw [hc'] at ho'
    cases ho'
    rfl
   have hKO : KeepsOthers W w5 := (keepsOthers_below hb3').trans (KeepsOthers.of_grownBy hg hrowc)
   have hbW : Below w.heap.size W w5 := (hb3'.mono hB.size).trans (hb5.mono (by omega))
   have hW1 := hO.lt
   refine ⟨(hKO.trans (KeepsOthers.setCell _ _ _)).from _, ⟨hbW.setCell (p := ⟨w.heap.size, 0, none⟩) (Nat.le_refl _) _, (Below.heap_setCell _ _ _ _ (by simp)).trans ((hb5.block _ (by omega)).trans (hb3'.block _ (by omega)))⟩, ⟨⟨Nat.le_trans (Nat.le_trans hsW hb3'.size) (Nat.le_trans hb5.size (KeepsOthers.setCell _ _ _).size), _, Boxed.set _ hO5, ?_, trivial⟩, (hB.trans hbW).setCell (p := ⟨w.heap.size, 0, none⟩) (Nat.le_refl _) _⟩⟩
   exact hown.kept (grownBy_setCell' w5 _ _) (.inr (hO5.not_row (by decide) hown).symm)
  case done =>
   rintro D ys W hD rfl ⟨⟨hsW, v, hO, hrow, _⟩, hB⟩ hK
   have hx := txW_all l1 (fun j => ⟨l1.getD j 0, hgd j⟩) (fun _ _ => rfl)
   have hxl : (txW (bwUpto (fun j => (⟨l1.getD j 0, hgd j⟩ : I64)) l1.length l1.length)).length = l1.length := by rw [txW_len, bwUpto_length]
   generalize txW (bwUpto (fun j => (⟨l1.getD j 0, hgd j⟩ : I64)) l1.length l1.length) = xs at hx hxl hrow
   have HR : Kd.R Kd.string 9 W W0.heap.size (fun _ => True) v xs := Kd.R_of_own hrow (fun _ _ => trivial)
   obtain ⟨q, cq, rfl, hbq, hql, _⟩ := Kd.R_form HR (by omega)
   have cO := hO.cell
   have hrd := Kd.R_reads' HR
   have hcells : ∀ (j : Nat) (x : ByteArray), xs[j]? = some x → W.cell? ⟨q, 0 + j, none⟩ = some (.string x) := fun j x hj => by
    have hjl : j < xs.length := by
     rcases Nat.lt_or_ge j xs.length with h | h
     ·
      exact h
     ·
      rw [List.getElem?_eq_none h] at hj; cases hj
    obtain ⟨ad, e, hc⟩ := Kd.at_string hrd.2.2 (j : Int) (by omega) (by omega)
    injection e with e
    subst e
    rw [add_at, Int.toNat_natCast] at hc
    rw [hc]
    unfold rdOf
    rw [Int.toNat_natCast, List.getD_eq_getElem?_getD, hj]
    rfl
   have HJ := Tryd.strings_Join q 0 cq xs ⟨#[44]⟩ W hcells hql (by omega) hrd.2.1 (by
    rw [hx]
    have := join_le (l1.reverse.map Lib.itoa) (fun y hy => by
     obtain ⟨c, hc, rfl⟩ := List.mem_map.1 hy
     have := HEL.out c (List.mem_reverse.1 hc)
     exact Lib.itoa_length_le c this.1 this.2)
    rw [List.length_map, List.length_reverse] at this
    exact Nat.le_trans this (by omega))
   rw [hx] at HJ
   have HJ2 : CallsIn Fence.wide 2 Tryd.prog 31 #[.slice (some ⟨q, 0, none⟩) l1.length cq, .string ⟨#[44]⟩] W fun e w' => e = .returned (.string ⟨(polyT l1).toArray⟩) ∧ Below W.heap.size W w' := by
    rw [hpT, ← hxl]
    exact (callsIn_wide (n := 2)).2 HJ
   rw [hxl] at cO
   clear HJ hcells hrd hx hrow HR hxl hpT
   gi_wp2_with fail
   refine ⟨trivial, ?_⟩
   refine HJ2.mono ?_
   rintro e w5 ⟨rfl, hb5⟩
   have hDl : D < W.heap.size := by
    rcases Nat.lt_or_ge D W.heap.size with h | h
    ·
     exact h
    ·
     have := hK; simp_all
   have hK5 := (hb5.block D hDl).trans hK
   gi_wp2
   refine ⟨by simp, .inl ⟨_, _, rfl, run_takeDeferred hK5, ?_⟩⟩
   exact ⟨_, results_tmp rfl _ _ _, rfl, (hB.trans (hb5.mono hB.size)).trans (belowK_b (w := w) (Nat.le_refl _) w5 D _ _ (by omega) hK5 rfl rfl)⟩
  case stop =>
   rintro D c pre W _ _ h _
   exact h.elim
end Go.Proofs.YtmadpicanmjhhaaDoor.H
namespace Go.Proofs.YtmadpicanmjhhaaDoor.H
open Go.RowKit Go.Proofs.YtmadpicanmjhhaaDoorW.PrintWords Go.Proofs.YtmadpicanmjhhaaDoorW.PrintLast Go.Proofs.YtmadpicanmjhhaaDoorW.PrintMore
attribute [local go_sem] max2_int min2_int max_two min_two max_three min_three max_four min_four   -- for this text's walks alone
set_option linter.unusedVariables false
set_option linter.unusedSimpArgs false
noncomputable def prA (p : Int) (t : List UInt8) : List Int × Int :=
 if Num.primeB p = true then
  match numsI (parts 44 t) with
  | none => ([], 6)
  | some ns => if polyB p (if t = [48] then [] else ns.reverse) = true ∧ polyT (if t = [48] then [] else ns.reverse) = t then ((if t = [48] then [] else ns.reverse), 0) else ([], 6)
 else ([], 2)
theorem var_below {P : Program} {w W : World} {name : String} {cs : Array Value} (h : w.var? P name = some cs) (hb : Below w.heap.size w W) : W.var? P name = some cs := by
 unfold World.var? at *
 cases hg : P.globalNamed name with
 | none => simp [hg] at h
 | some g =>
  simp only [hg, Option.bind_some] at h ⊢
  have hlt : g < w.heap.size := by
   rcases Nat.lt_or_ge g w.heap.size with h' | h'
   ·
    exact h'
   ·
    rw [Array.getElem?_eq_none h'] at h; simp at h
  rw [hb.block g hlt]
  exact h
theorem parseInt_calls (s : ByteArray) (hs : s.size ≤ 1048576) (tp1 tp2 : TypeId) (p1 p2 : Value) (w : World) (hsyn : w.var? Tryd.prog "strconv.ErrSyntax" = some #[.iface tp1 p1]) (hrng : w.var? Tryd.prog "strconv.ErrRange" = some #[.iface tp2 p2]) :
  Calls Tryd.prog 22 #[.string s, .int .i64 10, .int .i64 64] w fun e w' => ∃ (v : Int) (q : Value), e = .returned (.tuple #[.int .i64 v, q]) ∧ ((q = .nilIface ∧ Lib.parseIntB 64 s.data.toList = .ok v) ∨ ((∃ N, q = .iface 78 (.pointer (some ⟨N, 0, none⟩))) ∧ ∀ x, Lib.parseIntB 64 s.data.toList ≠ .ok x)) ∧ Below w.heap.size w w' := by
 cases h : Lib.parseIntB 64 s.data.toList with
 | ok v =>
  refine (Tryd.strconv_ParseInt_10_at64_ok s (by omega) v h w).mono ?_
  rintro e w' ⟨rfl, hw⟩
  refine ⟨v, _, rfl, .inl ⟨rfl, rfl⟩, ?_⟩
  rcases hw with rfl | ⟨t, rfl⟩
  ·
   exact Below.refl _ _
  ·
   exact Lib.bytesWorld_below _ _ _
 | range =>
  refine (Tryd.strconv_ParseInt_10_at64_range_var s (by omega) h tp2 p2 w hrng).mono ?_
  rintro e w' ⟨N, rfl, _, _, hb⟩
  exact ⟨_, _, rfl, .inr ⟨⟨N, rfl⟩, fun x hx => by cases hx⟩, hb⟩
 | _ =>
  refine (Tryd.strconv_ParseInt_10_at64_syntax_var s (by omega) (fun v hv => by rw [h] at hv; cases hv) (fun hv => by rw [h] at hv; cases hv) tp1 p1 w hsyn).mono ?_
  rintro e w' ⟨N, rfl, _, _, hb⟩
  exact ⟨0, _, rfl, .inr ⟨⟨N, rfl⟩, fun x hx => by cases hx⟩, hb⟩
theorem split_len (s : ByteArray) : (Lib.splitB ⟨#[44]⟩ 0 (Lib.countB s ⟨#[44]⟩) s).length = Lib.countB s ⟨#[44]⟩ + 1 := Lib.splitB_all ⟨#[44]⟩ (by decide) 0 _ s rfl
theorem split_data (s : ByteArray) : (Lib.splitB ⟨#[44]⟩ 0 (Lib.countB s ⟨#[44]⟩) s).map (·.data.toList) = parts 44 s.data.toList := by
 rw [Lib.splitB_data]
 exact split_parts 44 s.data.toList
theorem split_calls (s : ByteArray) (m : Int) (w w0 : World) (hs : s.size ≤ 1048576) (hm : w.cell? ⟨2, 0, none⟩ = some (.int .i64 m)) (hb : w0.heap.size ≤ w.heap.size) :
  Calls Tryd.prog 21 #[.string s, .string ⟨#[44]⟩] w fun e w' => ∃ (ws : List ByteArray) (A : Option Addr), e = .returned (.slice A ws.length ws.length) ∧ ws.map (·.data.toList) = parts 44 s.data.toList ∧ Kd.R Kd.string 9 w' w0.heap.size (fun _ => True) (.slice A ws.length ws.length) ws ∧ Below w.heap.size w w' := by
 have hl := split_len s
 have hd := split_data s
 refine (Tryd.strings_Split s ⟨#[44]⟩ m w (by omega) hm (by decide)).mono ?_
 rintro e w' ⟨rfl, rfl⟩
 generalize Lib.splitB ⟨#[44]⟩ 0 (Lib.countB s ⟨#[44]⟩) s = ws at hl hd ⊢
 rw [← hl]
 refine ⟨ws, _, rfl, hd, ?_, below_alloc (Below.refl _ _) _⟩
 refine Kd.R_of_own ?_ (fun _ _ => trivial)
 have hmx : ws.length ≤ maxLen := by
  have := parts_size 44 s.data.toList
  rw [← hd, List.length_map] at this
  have hs2 : s.data.toList.length = s.size := by rw [Array.length_toList]; rfl
  rw [hs2] at this
  have : (1048577 : Nat) ≤ maxLen := by decide
  omega
 have := World.ownsRow_lit (base := w0.heap.size) (e := 9) (size := 1) w (ws.map Value.string).toArray ws.length hb hmx (by simp)
 simpa [encs] using this
set_option maxRecDepth 100000 in
set_option maxHeartbeats 8000000 in
theorem impl_ParsePoly.calls (p : Int) (s : ByteArray) (r1 : List Int) (er : Int) (m : Int) (tp1 tp2 : TypeId) (p1 p2 : Value) (w : World) (hsz : s.size ≤ 1048576) (h : prA p s.data.toList = (r1, er)) (hm : w.cell? ⟨2, 0, none⟩ = some (.int .i64 m))
  (hsyn : w.var? Tryd.prog "strconv.ErrSyntax" = some #[.iface tp1 p1]) (hrng : w.var? Tryd.prog "strconv.ErrRange" = some #[.iface tp2 p2]) (htab : Lib.TabIs Tryd.prog w "internal/strconv.uint64pow10" .u64 Lib.pow10Tab) :
  Calls Tryd.prog 10 #[.int .i64 p, .string s] w fun e w' => ∃ v0_ : Value, e = .returned (.tuple #[v0_, .int .i64 er]) ∧ Kd.R (Kd.int .i64) 2 w' w.heap.size (fun _ => True) v0_ r1 ∧ Below w.heap.size w w' := by
 have HB := as0 (Below.refl w.heap.size w)
 obtain ⟨k0, hk0⟩ := impl_prime p
 have HP := as0 (hk0 k0 (Nat.le_refl _))
 clear hk0
 have HSP := as0 (fun W (hW : Below w.heap.size w W) => split_calls s m W w hsz (pw_cell_below hW hm) hW.size)
 have HPI := as0 (fun (u : ByteArray) (hu : u.size ≤ 1048576) W (hW : Below w.heap.size w W) => parseInt_calls u hu tp1 tp2 p1 p2 W (var_below hsyn hW) (var_below hrng hW))
 have HTB := as0 (fun W (hW : Below w.heap.size w W) => tab_below htab hW)
 have HSZ := as0 hsz
 clear hm hsyn hrng htab hsz
 unfold prA at h
 by_cases hp : Num.primeB p = true
 ·
  rw [if_pos hp] at h
  rw [hp] at HP
  have HPP := as0 (Num.primeB_iff.1 hp)
  have H := as0 h
  clear h hp
  go_enter Tryd.func10, Tryd.ntmps10
  go_wp2_with fail
  go_at_call 20
  refine (impl_IsPrime.calls k0 p true _ HP.out).mono ?_
  rintro e w1 ⟨rfl, hd⟩
  have HB := as0 (below_step HB.out hd.below)
  clear hd
  go_wp2_with fail
  go_at_call 21
  refine (HSP.out w1 HB.out).mono ?_
  rintro e w2 ⟨ws, A, rfl, hws, hR, b2⟩
  have HB := as0 (below_step HB.out b2)
  have HWS := as0 hws
  have HW := as0 hR
  clear b2 hws hR
  have HL : ws.length ≤ 1048577 := by
   have h1 := parts_size 44 s.data.toList
   have h2 : s.data.toList.length = s.size := by rw [Array.length_toList]; rfl
   rw [← HWS.out, List.length_map] at h1
   have := HSZ.out
   omega
  have HLE := as0 HL
  clear HL
  obtain ⟨W, hW⟩ : ∃ W, W = parts 44 s.data.toList := ⟨_, rfl⟩
  have HWL : W.length = ws.length := by rw [hW, ← HWS.out, List.length_map]
  have HWW := as0 hW
  have HWLE := as0 HWL
  clear hW HWL
  go_wp2_with fail
  go_loopg [6, 17] ws.length (fun kq v6 v17 w' => ∃ (x : List Int) (i : Nat), v17 = .int .i64 (i : Int) ∧ Aside0 (i + kq = ws.length) ∧ Aside0 (x.length = i) ∧ Aside0 (numsI W = (numsI (W.drop i)).map (x ++ ·)) ∧ Aside0 (Kd.R (Kd.int .i64) 2 w' w.heap.size (fun _ => True) v6 x) ∧ Aside0 (Kd.R Kd.string 9 w' w.heap.size (fun _ => True) (.slice A ws.length ws.length) ws) ∧ Aside0 (Below w.heap.size w w'))
  case atStart => exact ⟨[], 0, rfl, ⟨by omega⟩, ⟨rfl⟩, ⟨by simp⟩, ⟨Kd.R_nil _ _ _ _ _⟩, HW, HB⟩
  case round =>
   clear HW HB
   obtain ⟨x, i, rfl, HG, HXL, HN, HX, HW, HB⟩ := hrel
   have hg := HG.out
   by_cases hi : i < ws.length
   ·
    have d1 : decide ((i : Int) < (ws.length : Int)) = true := decide_eq_true (by omega)
    obtain ⟨q, rfl⟩ : ∃ q, gk = q + 1 := ⟨gk - 1, by omega⟩
    obtain ⟨ad, e1, hc⟩ := Kd.at_string (Kd.R_reads' HW.out).2.2 (i : Int) (by omega) (by omega)
    cases e1
    obtain ⟨u, hu⟩ : ∃ u, u = rdOf ByteArray.empty ws (i : Int) := ⟨_, rfl⟩
    rw [← hu, Int.toNat_natCast] at hc
    have HU := as0 hu
    clear hu
    have p1 : ((0 : Int) ≤ (i : Int)) = True := eq_true (by omega)
    have q1 : ((i : Int) < (ws.length : Int)) = True := eq_true (by omega)
    have hWi : W[i]? = some u.data.toList := by
     rw [HWW.out, ← HWS.out, List.getElem?_map, HU.out]
     unfold rdOf
     rw [Int.toNat_natCast, List.getD_eq_getElem?_getD, List.getElem?_eq_getElem hi]
     rfl
    have hus : u.size ≤ 1048576 := by
     have h1 := parts_len 44 s.data.toList u.data.toList (HWW.out ▸ List.mem_of_getElem? hWi)
     have h2 : s.data.toList.length = s.size := by rw [Array.length_toList]; rfl
     have h3 : u.data.toList.length = u.size := by rw [Array.length_toList]; rfl
     have := HSZ.out
     omega
    have HI := as0 hi
    have HWI := as0 hWi
    have HUS := as0 hus
    clear hi hg hWi hus
    go_wp2_with fail
    go_at_call 22
    refine (HPI.out u HUS.out _ HB.out).mono ?_
    rintro e w3 ⟨v, qv, rfl, hcase, hb3⟩
    have HX3 := as0 (Kd.R_below HX.out hb3)
    have HW3 := as0 (Kd.R_below HW.out hb3)
    have HB3 := as0 (below_step HB.out hb3)
    clear HX HW HB hb3
    rcases hcase with ⟨rfl, hv⟩ | ⟨⟨N, rfl⟩, hv⟩
    ·
     have HN1 := as0 (numsI_step HN.out HWI.out hv)
     clear hv HN
     obtain ⟨y, hy⟩ : ∃ y, y = x ++ [v] := ⟨_, rfl⟩
     rw [← hy] at HN1
     have HY := as0 hy
     clear hy
     go_wp2_with ((with_reducible refine gate_builtin (b := .append) (xs := #[.tmp 28, .tmp 30]) rfl ?_); at_builtin; refine Kd.R_append (Kd.int .i64) (w0 := w) w.heap.size rfl (.tmp 28) (.tmp 30) 22 2 (.int .i64 0) 8 rfl Tryd.underlying22 info2 rfl (by decide) (by omega) u6 x v [.int .i64 v] (fun _ => True) (fun _ => False) rfl rfl ?aP (fun _ hk => hk.elim) ?aF ?aO ?aB ?aS ?aL ?_; (case aP => exact rfl); (case aB => exact (bs HB3)); (case aF => exact (fun _ _ => trivial)); (case aO => exact (rs HX3)); (case aS => exact (below_size (bs HB3))); (case aL => have := HXL.out; have := HI.out; have := HLE.out; omega); intro v169 w16 ho hb hg hat; rw [← HY.out] at ho; have n0_ := as0 (Kd.R_over' (rs HW3) (Kd.R_typed (rs HX3)) (by decide) hg); have n1_ := as0 (hb); have n2_ := as0 (ho); clear HW3; clear HB3; clear HX3; have HW := n0_; have HB := n1_; have HX := n2_; clear n0_ n1_ n2_; clear ho hb hg hat)
     go_roundg q
     case measure => have := HG.out; omega
     case rel => exact ⟨y, i + 1, by first | (rw [wp1 (by have := HI.out; have := HLE.out; omega)]) | (show Value.int .i64 (wrap64 ((i : Int) + 1)) = _; rw [wp1 (by have := HI.out; have := HLE.out; omega)]), ⟨by have := HG.out; omega⟩, ⟨by rw [HY.out]; simp [HXL.out]⟩, HN1, HX, HW, HB⟩
    ·
     have HF := as0 (numsI_fail HN.out HWI.out hv)
     clear hv HN
     have hH := H.out
     rw [← HWW.out, HF.out] at hH
     dsimp only at hH
     injection hH with e1 e2
     subst e1 e2
     go_wp2_with fail
     go_ret2
     exact ⟨_, rfl, Kd.R_nil _ _ _ _ _, HB3.out⟩
   ·
    have hie : i = ws.length := by omega
    subst hie
    have d1 : decide ((ws.length : Int) < (ws.length : Int)) = false := decide_eq_false (by omega)
    have HNE : numsI W = some x := numsI_end (by have := HN.out; rw [← HWLE.out] at this; exact this)
    have hH := H.out
    rw [← HWW.out, HNE] at hH
    dsimp only at hH
    obtain ⟨k2, hk2⟩ := impl_reverse_ x (by have := HXL.out; have := HLE.out; omega)
    have HRV := slices_Reverse_int64_int64.calls k2 (fun _ => True) u6 x x.reverse w wr HB.out HX.out (hk2 k2 (Nat.le_refl _))
    have HH := as0 hH
    clear hk2 hH HNE hg hi HX HW HB HN HXL HG
    obtain ⟨f, hf⟩ : ∃ f, f = x.reverse := ⟨_, rfl⟩
    rw [← hf] at HRV HH
    clear hf
    go_wp2_with fail
    go_at_call 23
    refine HRV.mono ?_
    rintro e w4 ⟨rfl, o4, b4, _⟩
    have HB := as0 b4
    have HX := as0 (Kd.R_mono (ok' := fun _ => True) o4 (fun _ _ => trivial))
    clear o4 b4 HRV
    by_cases ht : s.data.toList = [48]
    ·
     have hH := HH.out
     simp only [if_pos ht] at hH
     have d2 : (s.toList == ([48] : List UInt8)) = true := beq_iff_eq.mpr (by rw [ByteArray.toList_eq]; exact ht)
     have d3 : (s.toList != ([48] : List UInt8)) = false := bne_eq_false_iff_eq.mpr (by rw [ByteArray.toList_eq]; exact ht)
     have hnil : Kd.R (Kd.int .i64) 2 w4 w.heap.size (fun _ => True) (.slice none ([] : List Int).length 0) [] := Kd.R_nil _ _ _ _ _
     clear ht HX HH
     have HIP : ∀ b, polyB p ([] : List Int) = b → ∀ W, Below w4.heap.size w4 W → Calls Tryd.prog 24 #[.int .i64 p, .slice none 0 0] W fun e w' => e = .returned (.bool b) ∧ Below W.heap.size W w' := fun b hb W hW =>
      impl_IsPoly.calls p none 0 ([] : List Int) b W (Kd.C_below (Kd.R_reads' hnil).2.2 hW) (Kd.R_reads' hnil).2.1 (by rw [← hb]; rfl)
     have HPT : polyB p ([] : List Int) = true → ∀ W, Below w4.heap.size w4 W → Calls Tryd.prog 17 #[.slice none 0 0] W fun e w' => e = .returned (.string ⟨(polyT ([] : List Int)).toArray⟩) ∧ Below W.heap.size W w' := fun hb W hW => by
      have hpo := polyB_iff.1 hb
      have hin := hpo.el
      have hle := hpo.len
      have hp2 := HPP.out.2.1
      exact impl_polyText.calls none 0 ([] : List Int) W (Kd.C_below (Kd.R_reads' hnil).2.2 hW) (Kd.R_reads' hnil).2.1 (fun x hx => by have := hin x hx; omega) (by omega) (HTB.out W (below_step HB.out hW))
     have HRX := as0 hnil
     by_cases hb : polyB p ([] : List Int) = true
     ·
      have HIP' := HIP true hb
      have HPT' := HPT hb
      clear HIP HPT
      obtain ⟨st, hst⟩ : ∃ st : ByteArray, st = ⟨(polyT ([] : List Int)).toArray⟩ := ⟨_, rfl⟩
      rw [← hst] at HPT'
      have hsd : st.toList = polyT ([] : List Int) := by rw [hst, ByteArray.toList_eq]
      by_cases he : polyT ([] : List Int) = s.data.toList
      ·
       rw [if_pos ⟨hb, he⟩] at hH
       injection hH with e1 e2
       subst e1 e2
       have g1 : st.toList = s.toList := by rw [hsd, he, ByteArray.toList_eq]
       have g2 : (st.toList == s.toList) = true := beq_iff_eq.mpr g1
       have g3 : (st.toList != s.toList) = false := bne_eq_false_iff_eq.mpr g1
       clear hst hsd he g1 hb
       go_wp2_with fail
       go_at_call 24
       refine (HIP' _ (Below.refl _ _)).mono ?_
       rintro e w5 ⟨rfl, b5⟩
       have HB5 := as0 b5
       clear b5 HIP'
       go_wp2_with fail
       go_at_call 17
       refine (HPT' _ HB5.out).mono ?_
       rintro e w6 ⟨rfl, b6⟩
       have HB6 := as0 (below_step HB5.out b6)
       clear b6 HPT' HB5
       go_wp2_with fail
       go_ret2
       exact ⟨_, rfl, Kd.R_below HRX.out HB6.out, below_step HB.out HB6.out⟩
      ·
       rw [if_neg (fun h => he h.2)] at hH
       injection hH with e1 e2
       subst e1 e2
       have g1 : ¬ st.toList = s.toList := by rw [hsd, ByteArray.toList_eq]; exact he
       have g2 : (st.toList == s.toList) = false := beq_eq_false_iff_ne.mpr g1
       have g3 : (st.toList != s.toList) = true := bne_iff_ne.mpr g1
       clear hst hsd he g1 hb
       go_wp2_with fail
       go_at_call 24
       refine (HIP' _ (Below.refl _ _)).mono ?_
       rintro e w5 ⟨rfl, b5⟩
       have HB5 := as0 b5
       clear b5 HIP'
       go_wp2_with fail
       go_at_call 17
       refine (HPT' _ HB5.out).mono ?_
       rintro e w6 ⟨rfl, b6⟩
       have HB6 := as0 (below_step HB5.out b6)
       clear b6 HPT' HB5
       go_wp2_with fail
       go_ret2
       exact ⟨_, rfl, Kd.R_nil _ _ _ _ _, below_step HB.out HB6.out⟩
     ·
      rw [if_neg (fun h => hb h.1)] at hH
      injection hH with e1 e2
      subst e1 e2
      have HIP' := HIP false (by simpa using hb)
      clear HIP HPT hb
      go_wp2_with fail
      go_at_call 24
      refine (HIP' _ (Below.refl _ _)).mono ?_
      rintro e w5 ⟨rfl, b5⟩
      have HB5 := as0 b5
      clear b5 HIP'
      go_wp2_with fail
      go_ret2
      exact ⟨_, rfl, Kd.R_nil _ _ _ _ _, below_step HB.out HB5.out⟩
    ·
     have hH := HH.out
     simp only [if_neg ht] at hH
     have d2 : (s.toList == ([48] : List UInt8)) = false := beq_eq_false_iff_ne.mpr (by rw [ByteArray.toList_eq]; exact ht)
     have d3 : (s.toList != ([48] : List UInt8)) = true := bne_iff_ne.mpr (by rw [ByteArray.toList_eq]; exact ht)
     obtain ⟨A6, c6, rfl⟩ := Kd.R_slice HX.out
     clear ht HH
     have HIP : ∀ b, polyB p f = b → ∀ W, Below w4.heap.size w4 W → Calls Tryd.prog 24 #[.int .i64 p, .slice A6 f.length c6] W fun e w' => e = .returned (.bool b) ∧ Below W.heap.size W w' := fun b hb W hW =>
      impl_IsPoly.calls p A6 c6 f b W (Kd.C_below (Kd.R_reads' HX.out).2.2 hW) (Kd.R_reads' HX.out).2.1 (by rw [← hb]; rfl)
     have HPT : polyB p f = true → ∀ W, Below w4.heap.size w4 W → Calls Tryd.prog 17 #[.slice A6 f.length c6] W fun e w' => e = .returned (.string ⟨(polyT f).toArray⟩) ∧ Below W.heap.size W w' := fun hb W hW => by
      have hpo := polyB_iff.1 hb
      have hin := hpo.el
      have hle := hpo.len
      have hp2 := HPP.out.2.1
      exact impl_polyText.calls A6 c6 f W (Kd.C_below (Kd.R_reads' HX.out).2.2 hW) (Kd.R_reads' HX.out).2.1 (fun x hx => by have := hin x hx; omega) (by omega) (HTB.out W (below_step HB.out hW))
     have HRX := as0 HX.out
     by_cases hb : polyB p f = true
     ·
      have HIP' := HIP true hb
      have HPT' := HPT hb
      clear HIP HPT
      obtain ⟨st, hst⟩ : ∃ st : ByteArray, st = ⟨(polyT f).toArray⟩ := ⟨_, rfl⟩
      rw [← hst] at HPT'
      have hsd : st.toList = polyT f := by rw [hst, ByteArray.toList_eq]
      by_cases he : polyT f = s.data.toList
      ·
       rw [if_pos ⟨hb, he⟩] at hH
       injection hH with e1 e2
       subst e1 e2
       have g1 : st.toList = s.toList := by rw [hsd, he, ByteArray.toList_eq]
       have g2 : (st.toList == s.toList) = true := beq_iff_eq.mpr g1
       have g3 : (st.toList != s.toList) = false := bne_eq_false_iff_eq.mpr g1
       clear hst hsd he g1 hb
       go_wp2_with fail
       go_at_call 24
       refine (HIP' _ (Below.refl _ _)).mono ?_
       rintro e w5 ⟨rfl, b5⟩
       have HB5 := as0 b5
       clear b5 HIP'
       go_wp2_with fail
       go_at_call 17
       refine (HPT' _ HB5.out).mono ?_
       rintro e w6 ⟨rfl, b6⟩
       have HB6 := as0 (below_step HB5.out b6)
       clear b6 HPT' HB5
       go_wp2_with fail
       go_ret2
       exact ⟨_, rfl, Kd.R_below HRX.out HB6.out, below_step HB.out HB6.out⟩
      ·
       rw [if_neg (fun h => he h.2)] at hH
       injection hH with e1 e2
       subst e1 e2
       have g1 : ¬ st.toList = s.toList := by rw [hsd, ByteArray.toList_eq]; exact he
       have g2 : (st.toList == s.toList) = false := beq_eq_false_iff_ne.mpr g1
       have g3 : (st.toList != s.toList) = true := bne_iff_ne.mpr g1
       clear hst hsd he g1 hb
       go_wp2_with fail
       go_at_call 24
       refine (HIP' _ (Below.refl _ _)).mono ?_
       rintro e w5 ⟨rfl, b5⟩
       have HB5 := as0 b5
       clear b5 HIP'
       go_wp2_with fail
       go_at_call 17
       refine (HPT' _ HB5.out).mono ?_
       rintro e w6 ⟨rfl, b6⟩
       have HB6 := as0 (below_step HB5.out b6)
       clear b6 HPT' HB5
       go_wp2_with fail
       go_ret2
       exact ⟨_, rfl, Kd.R_nil _ _ _ _ _, below_step HB.out HB6.out⟩
     ·
      rw [if_neg (fun h => hb h.1)] at hH
      injection hH with e1 e2
      subst e1 e2
      have HIP' := HIP false (by simpa using hb)
      clear HIP HPT hb
      go_wp2_with fail
      go_at_call 24
      refine (HIP' _ (Below.refl _ _)).mono ?_
      rintro e w5 ⟨rfl, b5⟩
      have HB5 := as0 b5
      clear b5 HIP'
      go_wp2_with fail
      go_ret2
      exact ⟨_, rfl, Kd.R_nil _ _ _ _ _, below_step HB.out HB5.out⟩
 ·
  rw [if_neg hp] at h
  injection h with h1 h2
  subst h1 h2
  rw [Bool.not_eq_true] at hp
  rw [hp] at HP
  clear hp
  go_enter Tryd.func10, Tryd.ntmps10
  go_wp2_with fail
  go_at_call 20
  refine (impl_IsPrime.calls k0 p false _ HP.out).mono ?_
  rintro e w1 ⟨rfl, hd⟩
  have HB := as0 (below_step HB.out hd.below)
  clear hd
  go_wp2_with fail
  go_ret2
  exact ⟨_, rfl, Kd.R_nil _ _ _ _ _, HB.out⟩
end Go.Proofs.YtmadpicanmjhhaaDoor.H
