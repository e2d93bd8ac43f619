/- Joined texts of a claim: the printed functions and what is proved of them. -/
import Derived.Test.YtmadpicanmjhhaaDoorYHx0
import Derived.Test.YtmadpicanmjhhaaDoorShelf
import Derived.Test.YtmadpicanmjhhaaDoorMa3
import Derived.Test.YtmadpicanmjhhaaDoorMa5
import Derived.Test.YtmadpicanmjhhaaDoorMa1
namespace Go.Proofs.YtmadpicanmjhhaaDoor.H
open Go.RowKit Go.Proofs.YtmadpicanmjhhaaDoorW.PrintWords Go.Proofs.YtmadpicanmjhhaaDoorW.PrintLast Go.Proofs.YtmadpicanmjhhaaDoorW.PrintMore
attribute [local go_sem] max2_int min2_int max_two min_two max_three min_three max_four min_four   -- for this text's walks alone
set_option linter.unusedVariables false
set_option linter.unusedSimpArgs false
attribute [local go_sem] Oper.semAt_some
open Go.Shelf
def bwUpto {α : Type} (f : Nat → α) (len k : Nat) : List (Int × α) := (List.range k).map fun j => (((len - 1 - j : Nat) : Int), f (len - 1 - j))
theorem bwUpto_succ {α : Type} (f : Nat → α) (len k : Nat) : bwUpto f len (k + 1) = bwUpto f len k ++ [(((len - 1 - k : Nat) : Int), f (len - 1 - k))] := by simp [bwUpto, List.range_succ]
theorem bwUpto_length {α : Type} (f : Nat → α) (len k : Nat) : (bwUpto f len k).length = k := by simp [bwUpto]
def KpB (n₀ Bs : Nat) (W W' : World) : Prop := Below n₀ W W' ∧ W'.heap[Bs]? = W.heap[Bs]?
theorem KpB.refl (n₀ Bs : Nat) (W : World) : KpB n₀ Bs W W := ⟨Below.refl _ _, rfl⟩
theorem KpB.trans {n₀ Bs : Nat} {X Y Z : World} (h : KpB n₀ Bs X Y) (k : KpB n₀ Bs Y Z) : KpB n₀ Bs X Z := ⟨h.1.trans k.1, k.2.trans h.2⟩
theorem KpB.put {n₀ Bs : Nat} {w : World} (hn : n₀ ≤ w.heap.size) (hB : Bs < w.heap.size) (W : World) (l : Nat) (o o' : Obj) (hl : w.heap.size ≤ l) (h : W.heap[l]? = some o) (hc : o.isCells = false) (hw : o.isWalk = false) : KpB n₀ Bs W (W.putObj l o') :=
 ⟨belowK_b hn W l o o' hl h hc hw, (belowK_b (n₀ := Bs + 1) (w := w) hB W l o o' hl h hc hw).block Bs (Nat.lt_succ_self _)⟩
set_option maxRecDepth 100000 in
set_option maxHeartbeats 2000000 in
theorem backward1_in {α : Type} (ev : α → Int) (f : Nat → α) (F : Fence) (n : Nat) (hF : F.fn 43) (hro : F.round = none) (hn : 1 ≤ n) (l Bs n₀ len cap : Nat) (A : Option Addr) (hlen : len ≤ 9223372036854775807) (J Jx : List (Int × α) → World → Prop)
  (hY : ∀ pre x W, J pre W → pre.length < len → YieldAt F (n - 1) Tryd.prog l #[.int .i64 x.1, .int .i64 (ev x.2)] W fun e W' =>
   (e = .returned (.bool true) ∧ J (pre ++ [x]) W' ∧ KpB n₀ Bs W W') ∨ (e = .returned (.bool false) ∧ Jx (pre ++ [x]) W'))
  (W : World) (hBs : Boxed W Bs 22 (.slice A len cap)) (hC : ∀ W', Below n₀ W W' → ∀ j, j < len → ∃ ad, A = some ad ∧ W'.cell? (ad.add j) = some (.int .i64 (ev (f j)))) (h0 : J [] W) :
  CallsIn F n Tryd.prog 43 #[.func (.yield l) #[] #[], .pointer (some ⟨Bs, 0, none⟩)] W fun e W' => (∃ v, e = .returned v) ∧
   ((∃ ys, ys = bwUpto f len len ∧ J ys W') ∨ (∃ pre, (∃ k, k ≤ len ∧ pre = bwUpto f len k) ∧ Jx pre W')) := by
 refine callsIn_of_wp Tryd.func43 rfl hF ?_ hro
 simp only [Tryd.ntmps43, List.size_toArray, List.length_cons, List.length_nil, Nat.reduceAdd, Nat.reduceSub, Array.replicate_succ, Array.replicate_zero, List.push_toArray, List.append_toArray, List.nil_append, List.cons_append]
 have hBs0 := hBs.cell
 gi_wp2
 gi_loopw [3] (fun i wr => ∃ k m : Nat, k + m = len ∧ i = .int .i64 ((m : Int) - 1) ∧ J (bwUpto f len k) wr ∧ KpB n₀ Bs W wr)
  (fun i _ => (intOf i + 1).toNat)
 case atStart => exact ⟨0, len, by omega, by simp, h0, KpB.refl _ _ _⟩
 case round =>
  obtain ⟨k, m, hk, rfl, hJs, hnx⟩ := hrel
  cases m with
  | zero =>
   have hi : ((0 : Nat) : Int) - 1 = -1 := by omega
   rw [hi]
   gi_wp2
   go_end0
   obtain rfl : k = len := by omega
   exact ⟨⟨_, rfl⟩, .inl ⟨_, rfl, hJs⟩⟩
  | succ m =>
   have hi : ((m + 1 : Nat) : Int) - 1 = (m : Int) := by omega
   rw [hi]
   have hml : m < len := by omega
   have hmz : (m : Int) < (len : Int) := by omega
   have hBs' := Boxed.cell (hnx.2.trans hBs)
   obtain ⟨ad, rfl, hc⟩ := hC wr hnx.1 m hml
   obtain ⟨fn, tmps, assign, body, hy, hR⟩ := hY _ ((m : Int), f m) wr hJs (by rw [bwUpto_length]; omega)
   dsimp only at hy
   gi_wp2
   refine hR.mono ?_
   rintro e W3 (⟨rfl, hJ3, hk3⟩ | ⟨rfl, hJx3⟩)
   ·
    gi_wp2
    go_roundw
    case rel => exact ⟨k + 1, m, by omega, by simp, by rw [bwUpto_succ, show len - 1 - k = m by omega]; exact hJ3, hnx.trans hk3⟩
    case measure => simp [intOf]
   ·
    gi_wp2
    refine bodyPost_ret (results_none rfl _ _ _) rfl ?_
    exact ⟨⟨_, rfl⟩, .inr ⟨_, ⟨k + 1, by omega, by rw [bwUpto_succ, show len - 1 - k = m by omega]⟩, hJx3⟩⟩
set_option maxHeartbeats 1000000 in
theorem backward_in (F : Fence) (n : Nat) (hF : F.fn 29) (hro : F.round = none) (a : Option Addr) (len cap : Nat) (w : World) :
  CallsIn F n Tryd.prog 29 #[.slice a len cap] w fun e w' => e = .returned (.func (.func 43) #[] #[.pointer (some ⟨w.heap.size, 0, none⟩)]) ∧ w' = w.alloc (.cells #[.slice a len cap] 22) := by
 refine callsIn_of_wp Tryd.func29 rfl hF ?_ hro
 simp only [Tryd.ntmps29, List.size_toArray, List.length_cons, List.length_nil, Nat.reduceAdd, Nat.reduceSub, Array.replicate_succ, Array.replicate_zero, List.push_toArray, List.append_toArray, List.nil_append, List.cons_append]
 gi_wp2
 go_ret
 exact ⟨rfl, rfl⟩
theorem backward_stops {α : Type} (ev : α → Int) (f : Nat → α) (F : Fence) (n : Nat) (hF : F.fn 43) (hro : F.round = none) (hn : 1 ≤ n) (Bs n₀ len cap : Nat) (A : Option Addr) (hlen : len ≤ 9223372036854775807) (w : World) (hBs : Bs < w.heap.size) (hn₀ : n₀ ≤ w.heap.size)
  (hc : Boxed w Bs 22 (.slice A len cap)) (hC : ∀ W', Below n₀ w W' → ∀ j, j < len → ∃ ad, A = some ad ∧ W'.cell? (ad.add j) = some (.int .i64 (ev (f j)))) :
  SeqStopsK F n Tryd.prog 43 #[.pointer (some ⟨Bs, 0, none⟩)] (fun x : Int × α => #[Value.int .i64 x.1, Value.int .i64 (ev x.2)]) (KpB n₀ Bs) (fun ys => ys = bwUpto f len len)
   (fun pre => ∃ k, k ≤ len ∧ pre = bwUpto f len k) len w := fun l J Jx W hW _ _ hY h0 =>
 backward1_in ev f F n hF hro hn l Bs n₀ len cap A hlen J Jx hY W ((hW.block Bs hBs).trans hc) (fun W' hW' => hC W' ((hW.mono hn₀).trans hW')) h0
theorem keepsOthers_below {W W' : World} (h : Below W.heap.size W W') : KeepsOthers W W' := ⟨h.size, fun k o hk _ => (h.block k (Array.getElem?_eq_some_iff.1 hk).1).trans hk⟩
def noDefer (ops : Array Oper) : Bool := ops.all fun o => match o.op with | .defer _ => false | _ => true
theorem noDefer_at {ops : Array Oper} (h : noDefer ops = true) {i : Nat} {o : Oper} (hi : ops[i]? = some o) : ∀ c, o.op ≠ .defer c := by
 intro c hc
 obtain ⟨hl, rfl⟩ := Array.getElem?_eq_some_iff.1 hi
 have := (Array.all_eq_true.1 h) i hl
 rw [hc] at this
 cases this
theorem uponIn_of_upon {P : Program} {l n : Nat} {o : Oper} {a : Act} {next : Act → World → Prop} {Q : Exit → Act → World → Prop} {r : Result Next} (h : o.upon P a next Q r) : o.uponIn (Fence.wide.inRound l) n P a next Q r := by
 cases r with
 | ok v w' =>
  cases v with
  | value v => exact h
  | skip => exact h
  | defer d => exact h
  | enter f args => exact ⟨fun hx => by simp [Fence.wide] at hx, CallsIn.inRound l (callsIn_wide.2 h)⟩
  | row row args => exact ⟨fun hx => by simp [Fence.wide] at hx, fun c cs _ => let ⟨v, w', q, s⟩ := h c cs; ⟨v, w', q, stepsIn_wide.2 s⟩⟩
  | round l' f tmps assign body => exact h.elim
  | _ => exact h.elim
 | halt e w' =>
  cases e with
  | panic v => exact h
  | _ => exact h.elim
theorem operIn_of_oper {P : Program} {l n : Nat} {o : Oper} {a : Act} {w : World} {next : Act → World → Prop} {Q : Exit → Act → World → Prop} (hd : ∀ c, o.op ≠ .defer c) (h : o.wp P a w next Q) : o.wpIn (Fence.wide.inRound l) n P a w next Q :=
 ⟨fun _ _ => trivial, by rw [Oper.semAt_eq _ _ _ hd]; exact uponIn_of_upon h⟩
theorem anyIn_of_any {P : Program} {l n : Nat} {md : Region.Mode} {ops : Array Oper} {Q : Exit → Act → World → Prop} (hd : noDefer ops = true) (hL : ¬ LetsOut Q) : ∀ (fuel : Nat) (listed : Array Bool) (a : Act) (w : World), wpAny P md ops Q fuel listed a w → wpAnyIn (Fence.wide.inRound l) n P md ops Q fuel listed a w
 | 0, _, _, _, h => h
 | fuel + 1, listed, a, w, h => ⟨h.1, fun i hi => by
  have h2 := h.2 i hi
  unfold wpOp at h2
  unfold wpOpIn
  cases ho : ops[i]? with
  | none => rw [ho] at h2; exact anyIn_of_any hd hL fuel _ _ _ h2
  | some o =>
   rw [ho] at h2
   simp only at h2 ⊢
   split at h2
   ·
    rename_i hw
    rw [if_pos hw]
    exact Oper.wpIn_mono (fun a w hk => anyIn_of_any hd hL fuel _ _ _ hk) (operIn_of_oper (noDefer_at hd ho) (h2.resolve_right fun h => hL h.2))
   ·
    rename_i hw
    rw [if_neg hw]
    exact ⟨fun _ _ => trivial, anyIn_of_any hd hL fuel _ _ _ h2⟩⟩
theorem startIn_ {P : Program} {ops : Array Oper} {Q : Exit → Act → World → Prop} {S : World → Prop} {ds : List Nat} {l m id n : Nat} {a : Act} {w : World} (lb : Array Bool) (hm : P.follows .mixedOrders = true) (hd : noDefer ops = true) (hL : ¬ LetsOut Q) (hn : ops.size = n) (hl : Array.replicate n false = lb) (hS : S w.drew)
  (h : S w.drew → wpAnyLast P .any ops Q S ds n lb a w.drew) : (Code.region id ops true).wpIn (Fence.wide.inRound l) m P Q a w := by
 subst hn
 subst hl
 exact wpIn_region_any hm (anyIn_of_any hd hL _ _ _ _ (wpAny_of_last _ _ _ _ (h hS)))
end Go.Proofs.YtmadpicanmjhhaaDoor.H
namespace Go.Proofs.YtmadpicanmjhhaaDoor.H
open Go.RowKit Go.Proofs.YtmadpicanmjhhaaDoorW.PrintWords Go.Proofs.YtmadpicanmjhhaaDoorW.PrintLast Go.Proofs.YtmadpicanmjhhaaDoorW.PrintMore
attribute [local go_sem] max2_int min2_int max_two min_two max_three min_three max_four min_four   -- for this text's walks alone
set_option linter.unusedVariables false
set_option linter.unusedSimpArgs false
attribute [local go_sem] Oper.semAt_some
def polyT (f : List Int) : List UInt8 := if f.length = 0 then [48] else Lib.join (f.reverse.map Lib.itoa) [44]
abbrev I64 := { c : Int // -9223372036854775808 ≤ c ∧ c ≤ 9223372036854775807 }
def txW (l : List (Int × I64)) : List ByteArray := l.map fun x => ⟨(Lib.itoa x.2.1).toArray⟩
theorem txW_snoc (l : List (Int × I64)) (x : Int × I64) : txW (l ++ [x]) = txW l ++ [⟨(Lib.itoa x.2.1).toArray⟩] := by simp [txW]
theorem txW_len (l : List (Int × I64)) : (txW l).length = l.length := by simp [txW]
theorem txW_all (f : List Int) (g : Nat → I64) (hg : ∀ j, j < f.length → (g j).1 = f.getD j 0) : (txW (bwUpto g f.length f.length)).map (·.data.toList) = f.reverse.map Lib.itoa := by
 refine List.ext_getElem? fun j => ?_
 rw [List.getElem?_map]
 by_cases hj : j < f.length
 ·
  unfold txW bwUpto
  rw [List.getElem?_map, List.getElem?_map, List.getElem?_range hj, List.getElem?_map, List.getElem?_reverse hj, List.getElem?_eq_getElem (show f.length - 1 - j < f.length by omega)]
  show some (Lib.itoa (g (f.length - 1 - j)).1) = some (Lib.itoa _)
  rw [hg _ (by omega), List.getD_eq_getElem?_getD, List.getElem?_eq_getElem (show f.length - 1 - j < f.length by omega)]
  rfl
 ·
  rw [List.getElem?_eq_none (by rw [txW_len, bwUpto_length]; omega), List.getElem?_eq_none (by rw [List.length_map, List.length_reverse]; omega)]
  rfl
theorem join_le : ∀ ws : List (List UInt8), (∀ w ∈ ws, w.length ≤ 21) → (Lib.join ws [44]).length ≤ 22 * ws.length
 | [], _ => by rw [Lib.join_nil]; simp
 | [w], h => by rw [Lib.join_one]; have := h w (by simp); simp; omega
 | w :: x :: r, h => by
  have ih := join_le (x :: r) (fun y hy => h y (List.mem_cons_of_mem _ hy))
  have hw := h w (by simp)
  rw [join_cons2, List.length_append, List.length_append]
  simp only [List.length_cons, List.length_nil] at ih ⊢
  omega
set_option maxRecDepth 100000 in
set_option maxHeartbeats 8000000 in
theorem impl_polyText.calls (A1 : Option Addr) (c1 : Nat) (l1 : List Int) (w : World) (hr1 : Kd.C (Kd.int .i64) w A1 l1.length l1) (hc1 : l1.length ≤ c1) (hel : ∀ x ∈ l1, -9223372036854775808 ≤ x ∧ x ≤ 9223372036854775807) (hlen : l1.length ≤ 1000) (htab : Lib.TabIs Tryd.prog w "internal/strconv.uint64pow10" .u64 Lib.pow10Tab) :
  Calls Tryd.prog 17 #[.slice A1 l1.length c1] w fun e w' => e = .returned (.string ⟨(polyT l1).toArray⟩) ∧ Below w.heap.size w w' := by
 have hgd : ∀ j, -9223372036854775808 ≤ l1.getD j 0 ∧ l1.getD j 0 ≤ 9223372036854775807 := fun j => by
  rw [List.getD_eq_getElem?_getD]
  cases h : l1[j]? with
  | none => exact ⟨by simp, by simp⟩
  | some x => exact hel x (List.mem_of_getElem? h)
 by_cases h0 : l1.length = 0
 ·
  have d0 : ((l1.length : Int) == 0) = true := by rw [h0]; rfl
  have e0 : polyT l1 = [48] := if_pos h0
  have HB := as0 (Below.refl w.heap.size w)
  rw [e0]
  clear e0 hgd hel hlen hr1 hc1 htab
  rw [h0]
  clear h0 d0
  go_enter Tryd.func17, Tryd.ntmps17
  go_wp2
  go_ret
  exact ⟨rfl, HB.out⟩
 ·
  have d0 : ((l1.length : Int) == 0) = false := beq_eq_false_iff_ne.mpr (by omega)
  have d0' : (l1.length == 0) = false := beq_eq_false_iff_ne.mpr h0
  have hpT : polyT l1 = Lib.join (l1.reverse.map Lib.itoa) [44] := if_neg h0
  have HEL := as0 hel
  refine (callsIn_wide (n := 3)).1 ?_
  refine callsIn_of_wp_marks Tryd.func17 rfl trivial ?_ rfl
  simp only [Tryd.ntmps17, List.size_toArray, List.length_cons, List.length_nil, Nat.reduceAdd, Nat.reduceSub, Array.replicate_succ, Array.replicate_zero, List.push_toArray, List.append_toArray, List.nil_append, List.cons_append]
  gi_wp2_with (refine ⟨trivial, ?_⟩; gi_at_call 29; refine (backward_in _ _ trivial rfl _ _ _ _).mono ?_; rintro e w' ⟨rfl, rfl⟩)
  have bO := (Boxed.new w 39 (.slice none 0 0)).alloc (.cells #[.slice A1 l1.length c1] 22)
  have bS := Boxed.new (w.alloc (.cells #[.slice none 0 0] 39)) 22 (.slice A1 l1.length c1)
  simp only [World.size_alloc] at bO bS
  have hB0 : Below w.heap.size w ((w.alloc (.cells #[.slice none 0 0] 39)).alloc (.cells #[.slice A1 l1.length c1] 22)) := by
   repeat (first | exact Below.refl _ _ | apply below_alloc)
  have hsz : ((w.alloc (.cells #[.slice none 0 0] 39)).alloc (.cells #[.slice A1 l1.length c1] 22)).heap.size = w.heap.size + 2 := by simp
  obtain ⟨W0, hW0⟩ : ∃ W0, ((w.alloc (.cells #[.slice none 0 0] 39)).alloc (.cells #[.slice A1 l1.length c1] 22)) = W0 := ⟨_, rfl⟩
  rw [hW0] at bO bS hB0 hsz ⊢
  clear hW0
  have hC : ∀ W', Below w.heap.size W0 W' → ∀ j, j < l1.length → ∃ ad, A1 = some ad ∧ W'.cell? (ad.add j) = some (.int .i64 ((⟨l1.getD j 0, hgd j⟩ : I64).1)) := fun W' hW' j hj => by
   obtain ⟨ad, e, h⟩ := Kd.at_int (Kd.C_below hr1 (hB0.trans hW')) (j : Int) (by omega) (by omega)
   exact ⟨ad, e, by simpa [rd] using h⟩
  refine wpIn_rangeFunc_ownG rfl (by omega) (gf := 43) (lb := #[.pointer (some ⟨w.heap.size + 1, 0, none⟩)]) rfl trivial (enters_of Tryd.func43 (by kernel_rfl) rfl)
   (backward_stops (α := I64) Subtype.val (fun j => ⟨l1.getD j 0, hgd j⟩) Fence.wide 2 trivial rfl (by omega) (w.heap.size + 1) w.heap.size l1.length c1 A1 (by omega) W0 (by omega) (by omega) bS hC) KpB.trans (KpB.put (by omega) (by omega)) (Below.refl _ _) (fun _ => rfl)
   (fun pre W => (W0.heap.size ≤ W.heap.size ∧ (∃ v, Boxed W w.heap.size 39 v ∧ W.ownsRow W0.heap.size 9 1 v (txW pre).length (encs Value.string (txW pre)) ∧ True)) ∧ Below w.heap.size w W)
   (fun _ _ _ => False)
   (OwnFrom.and (OwnFrom.and (Own.from (fun s A B row hs hg hr => Nat.le_trans hs hg.size) _) (Own.from (holdsRow_own _ _ _ _ _ (fun pre => (txW pre).length) (fun pre => encs Value.string (txW pre)) (fun _ _ => True)) _)) (ownFrom_below (Nat.le_refl _) (by omega)))
   (fun _ _ _ _ _ hs _ _ => hs)
   ⟨⟨Nat.le_refl _, _, bO, by simp [txW, encs, World.ownsRow], trivial⟩, hB0⟩
   (fun x => { tmps := #[.slice A1 l1.length c1, undef, .string ⟨#[]⟩, .pointer (some ⟨w.heap.size, 0, none⟩), undef, .int .i64 x.2.1, .slice A1 l1.length c1, .int .i64 l1.length, .bool false, .slice A1 l1.length c1, .func (.func 43) #[] #[.pointer (some ⟨w.heap.size + 1, 0, none⟩)], .int .i64 x.1, .int .i64 x.2.1, undef, undef, undef, undef, undef, undef, undef], defers := [] }) ?assign ?body ?done ?stop
  case assign =>
   intro l x W K hK
   gi_wp2
   exact hK
  case body =>
   rintro l pre x W ⟨⟨hsW, v, hO, hrow, _⟩, hB⟩ hlt
   have HR : Kd.R Kd.string 9 W W0.heap.size (fun _ => True) v (txW pre) := Kd.R_of_own hrow (fun _ _ => trivial)
   obtain ⟨A, c, rfl⟩ := Kd.R_slice HR
   have cO := hO.cell
   have fO := hO.frozen
   have hmx : Tryd.prog.follows .mixedOrders = true := by kernel_rfl
   have HS : ∀ W', Below W.heap.size W W' → W'.cell? ⟨w.heap.size, 0, none⟩ = some (.slice A (txW pre).length c) := fun W' h => Boxed.cell ((h.block _ hO.lt).trans hO)
   have hbD : Below W.heap.size W W.drew := (Below.refl _ _).drew
   have hD := fun W' (hW : Below W.heap.size W W') => impl_decimal.calls x.2.1 x.2.2.1 x.2.2.2 W' (tab_below htab (hB.trans (hW.mono hB.size)))
   gi_wp2
   refine startIn_ (n := 6) (S := fun w' => w'.cell? ⟨w.heap.size, 0, none⟩ = some (.slice A (txW pre).length c)) (ds := [5]) #[false, false, false, false, false, false] hmx (by kernel_rfl) (fun ⟨_, _, h⟩ => h) rfl rfl (HS _ hbD) (fun hHeld => ?_)
   refine take_ (i := 0) (N := some 13) (v := ?_) (a' := ?_) #[true, false, false, false, false, false] rfl rfl (by kernel_rfl) (fun _ _ _ h => h) (Or.inl ⟨by rfl, ?_⟩) hHeld ?_ ?_
   rotate_left
   ·
    rintro w' s0
    go_simp
    with_reducible rfl
   rotate_left
   ·
    simp only [Act.put, List.setIfInBounds_toArray, List.set_cons_zero, List.set_cons_succ, i64_w, i32_w]
    rfl
   refine pure_ (i := 1) (N := some 14) (v := ?_) (a' := ?_) #[true, true, false, false, false, false] rfl rfl (by kernel_rfl) (fun _ _ _ h => h) (Or.inl ⟨by rfl, ?_⟩) ?_ ?_
   rotate_left
   ·
    intro w'
    go_simp
    with_reducible rfl
   rotate_left
   ·
    simp only [Act.put, List.setIfInBounds_toArray, List.set_cons_zero, List.set_cons_succ, i64_w, i32_w]
    rfl
   refine one_ (i := 2) (N := some 15) #[true, true, true, false, false, false] rfl rfl (by kernel_rfl) (by decide) (fun K hK => ?_)
   refine goes_ Tryd.func30 (by kernel_rfl) rfl #[.int .i64 x.2.1] (by rfl) rfl rfl (by (try simp only [List.map_toArray, List.map_cons, List.map_nil]); first | done | rfl) ?_
   refine (hD _ hbD).mono ?_
   rintro e w3 ⟨rfl, hb3⟩
   have hb3' := below_step hbD hb3
   refine ⟨_, rfl, ?_⟩
   refine hK.out _ _ (HS _ hb3') (fun hHeld => ?_)
   clear hK K
   refine nm_ (some 15) ?_
   have HR3 : Kd.R Kd.string 9 w3 W0.heap.size (fun _ => True) (.slice A (txW pre).length c) (txW pre) := Kd.R_below HR hb3'
   refine one_ (i := 3) (N := some 16) #[true, true, true, true, false, false] rfl rfl (by kernel_rfl) (by decide) (fun K hK => ?_)
   refine value_ (w1 := ?_) (v := ?_) (by rfl) rfl ?_ ?_
   rotate_left 2
   ·
    go_simp
    constructor
    ·
     rfl
    ·
     rfl
   refine hK.out _ _ (pw_cell_below (below_alloc (Below.refl _ _) _) hHeld) (fun hHeld => ?_)
   clear hK K
   refine nm_ (some 16) ?_
   refine one_ (i := 4) (N := some 17) #[true, true, true, true, true, false] rfl rfl (by kernel_rfl) (by decide) (fun K hK => ?_)
   refine Kd.R_append_step Kd.string (w0 := w3) W0.heap.size (by rfl) (.tmp 13) (.tmp 16) 39 9 (.string ⟨#[]⟩) 16 rfl Tryd.underlying39 info9 rfl (by decide) (by omega) (.slice A (txW pre).length c) (txW pre) (⟨(Lib.itoa x.2.1).toArray⟩ : ByteArray) [.string ⟨(Lib.itoa x.2.1).toArray⟩] (fun _ => True) (fun _ => False) rfl rfl ?aP (fun _ hk => hk.elim) ?aF ?aO ?aB ?aS ?aL ?_
   case aP => exact rfl
   case aF => exact fun _ _ => trivial
   case aO => exact HR3
   case aB => exact Below.refl _ _
   case aS => exact Nat.le_trans hsW hb3'.size
   case aL => rw [txW_len]; omega
   intro v17 w5 ho hb5 hg hat
   rw [← txW_snoc] at ho
   obtain ⟨A5, c5, rfl⟩ := Kd.R_slice ho
   have hO3 : Boxed w3 w.heap.size 39 (.slice A (txW pre).length c) := (hb3'.block _ hO.lt).trans hO
   have hO5 : Boxed w5 w.heap.size 39 (.slice A (txW pre).length c) := (hb5.block _ (by omega)).trans hO3
   have cO5 := hO5.cell
   have fO5 := hO5.frozen
   refine hK.out _ _ cO5 (fun hHeld => ?_)
   clear hK K
   refine nm_ (some 17) ?_
   refine last_ (i := 5) (N := none) #[true, true, true, true, true, true] rfl rfl (by kernel_rfl) (by decide) (fun K hK => ?_)
   refine skip_ (w1 := w5.setCell ⟨w.heap.size, 0, none⟩ (.slice A5 (txW (pre ++ [x])).length c5)) (by rfl) rfl ?_ ?_
   ·
    first | (go_simp; done) | (go_simp; rfl)
   refine hK.out _ _ ?_
   clear hK K
   refine done_ (by kernel_rfl) ?_
   have hown := Kd.own_of_R ho
   have hrowc : ∀ (j : Nat) (o : Obj), (.slice A (txW pre).length c : Value).ownBlock = some j → w3.heap[j]? = some o → o.isCells = true := fun j o hj ho' => by
    obtain ⟨cells, hc'⟩ := Kd.R_typed HR3 j hj
    rw [hc'] at ho'
    cases ho'
    rfl
   have hKO : KeepsOthers W w5 := (keepsOthers_below hb3').trans (KeepsOthers.of_grownBy hg hrowc)
   have hbW : Below w.heap.size W w5 := (hb3'.mono hB.size).trans (hb5.mono (by omega))
   have hW1 := hO.lt
   refine ⟨(hKO.trans (KeepsOthers.setCell _ _ _)).from _, ⟨hbW.setCell (p := ⟨w.heap.size, 0, none⟩) (Nat.le_refl _) _, (Below.heap_setCell _ _ _ _ (by simp)).trans ((hb5.block _ (by omega)).trans (hb3'.block _ (by omega)))⟩, ⟨⟨Nat.le_trans (Nat.le_trans hsW hb3'.size) (Nat.le_trans hb5.size (KeepsOthers.setCell _ _ _).size), _, Boxed.set _ hO5, ?_, trivial⟩, (hB.trans hbW).setCell (p := ⟨w.heap.size, 0, none⟩) (Nat.le_refl _) _⟩⟩
   exact hown.kept (grownBy_setCell' w5 _ _) (.inr (hO5.not_row (by decide) hown).symm)
  case done =>
   rintro D ys W hD rfl ⟨⟨hsW, v, hO, hrow, _⟩, hB⟩ hK
   have hx := txW_all l1 (fun j => ⟨l1.getD j 0, hgd j⟩) (fun _ _ => rfl)
   have hxl : (txW (bwUpto (fun j => (⟨l1.getD j 0, hgd j⟩ : I64)) l1.length l1.length)).length = l1.length := by rw [txW_len, bwUpto_length]
   generalize txW (bwUpto (fun j => (⟨l1.getD j 0, hgd j⟩ : I64)) l1.length l1.length) = xs at hx hxl hrow
   have HR : Kd.R Kd.string 9 W W0.heap.size (fun _ => True) v xs := Kd.R_of_own hrow (fun _ _ => trivial)
   obtain ⟨q, cq, rfl, hbq, hql, _⟩ := Kd.R_form HR (by omega)
   have cO := hO.cell
   have hrd := Kd.R_reads' HR
   have hcells : ∀ (j : Nat) (x : ByteArray), xs[j]? = some x → W.cell? ⟨q, 0 + j, none⟩ = some (.string x) := fun j x hj => by
    have hjl : j < xs.length := by
     rcases Nat.lt_or_ge j xs.length with h | h
     ·
      exact h
     ·
      rw [List.getElem?_eq_none h] at hj; cases hj
    obtain ⟨ad, e, hc⟩ := Kd.at_string hrd.2.2 (j : Int) (by omega) (by omega)
    injection e with e
    subst e
    rw [add_at, Int.toNat_natCast] at hc
    rw [hc]
    unfold rdOf
    rw [Int.toNat_natCast, List.getD_eq_getElem?_getD, hj]
    rfl
   have HJ := Tryd.strings_Join q 0 cq xs ⟨#[44]⟩ W hcells hql (by omega) hrd.2.1 (by
    rw [hx]
    have := join_le (l1.reverse.map Lib.itoa) (fun y hy => by
     obtain ⟨c, hc, rfl⟩ := List.mem_map.1 hy
     have := HEL.out c (List.mem_reverse.1 hc)
     exact Lib.itoa_length_le c this.1 this.2)
    rw [List.length_map, List.length_reverse] at this
    exact Nat.le_trans this (by omega))
   rw [hx] at HJ
   have HJ2 : CallsIn Fence.wide 2 Tryd.prog 31 #[.slice (some ⟨q, 0, none⟩) l1.length cq, .string ⟨#[44]⟩] W fun e w' => e = .returned (.string ⟨(polyT l1).toArray⟩) ∧ Below W.heap.size W w' := by
    rw [hpT, ← hxl]
    exact (callsIn_wide (n := 2)).2 HJ
   rw [hxl] at cO
   clear HJ hcells hrd hx hrow HR hxl hpT
   gi_wp2_with fail
   refine ⟨trivial, ?_⟩
   refine HJ2.mono ?_
   rintro e w5 ⟨rfl, hb5⟩
   have hDl : D < W.heap.size := by
    rcases Nat.lt_or_ge D W.heap.size with h | h
    ·
     exact h
    ·
     have := hK; simp_all
   have hK5 := (hb5.block D hDl).trans hK
   gi_wp2
   refine ⟨by simp, .inl ⟨_, _, rfl, run_takeDeferred hK5, ?_⟩⟩
   exact ⟨_, results_tmp rfl _ _ _, rfl, (hB.trans (hb5.mono hB.size)).trans (belowK_b (w := w) (Nat.le_refl _) w5 D _ _ (by omega) hK5 rfl rfl)⟩
  case stop =>
   rintro D c pre W _ _ h _
   exact h.elim
end Go.Proofs.YtmadpicanmjhhaaDoor.H
namespace Go.Proofs.YtmadpicanmjhhaaDoor.H
open Go.RowKit Go.Proofs.YtmadpicanmjhhaaDoorW.PrintWords Go.Proofs.YtmadpicanmjhhaaDoorW.PrintLast Go.Proofs.YtmadpicanmjhhaaDoorW.PrintMore
attribute [local go_sem] max2_int min2_int max_two min_two max_three min_three max_four min_four   -- for this text's walks alone
set_option linter.unusedVariables false
set_option linter.unusedSimpArgs false
noncomputable def ptA (p : Int) (l : List Int) : List UInt8 × Int := if codeL p true [l] = 0 then (polyT l, 0) else ([], codeL p true [l])
set_option maxRecDepth 100000 in
set_option maxHeartbeats 4000000 in
theorem impl_PolyText.calls (p : Int) (A1 : Option Addr) (c1 : Nat) (l1 : List Int) (s : List UInt8) (er : Int) (w : World) (hr1 : Kd.C (Kd.int .i64) w A1 l1.length l1) (hc1 : l1.length ≤ c1) (h : ptA p l1 = (s, er)) (htab : Lib.TabIs Tryd.prog w "internal/strconv.uint64pow10" .u64 Lib.pow10Tab) :
  Calls Tryd.prog 7 #[.int .i64 p, .slice A1 l1.length c1] w fun e w' => e = .returned (.tuple #[.string ⟨s.toArray⟩, .int .i64 er]) ∧ Below w.heap.size w w' := by
 have hb0 : Below w.heap.size w (w.alloc (.cells #[.slice A1 l1.length c1] 22)) := (Below.refl _ w).alloc (Nat.le_refl _) _
 have hcell : (w.alloc (.cells #[.slice A1 l1.length c1] 22)).cell? ⟨w.heap.size, 0, none⟩ = some (.slice A1 l1.length c1) := by simp
 obtain ⟨K, hK⟩ := impl_code1 p true l1
 have HPC := impl_polyCode_1.calls K p true A1 c1 l1 _ (w.alloc (.cells #[.slice A1 l1.length c1] 22)) (g := 16) (lb := #[]) (P := w.heap.size) (Kd.C_below hr1 hb0) hc1 (hK K (Nat.le_refl _)) (enters_of Tryd.func16 (by kernel_rfl) rfl) (always_gives _) hcell
 have HB0 := as0 hb0
 clear hcell hK hb0
 unfold ptA at h
 by_cases hc : codeL p true [l1] = 0
 ·
  rw [if_pos hc] at h
  rw [hc] at HPC
  injection h with h1 h2
  subst h1 h2
  obtain ⟨hp, _, hq⟩ := codeL_0 hc
  have hpo := hq l1 (by simp)
  have hpo2 := hpo.len
  have hin := hpo.el
  have hp2 := hp.2.1
  have HPT : ∀ W, Below w.heap.size w W → Calls Tryd.prog 17 #[.slice A1 l1.length c1] W fun e w' => e = .returned (.string ⟨(polyT l1).toArray⟩) ∧ Below W.heap.size W w' := fun W hW =>
   impl_polyText.calls A1 c1 l1 W (Kd.C_below hr1 hW) hc1 (fun x hx => by have := hin x hx; omega) (by omega) (tab_below htab hW)
  clear hr1 hc1 htab hc hp hq hpo hpo2 hin hp2
  generalize l1.length = n at HPC HPT HB0 ⊢
  generalize polyT l1 = s at HPT ⊢
  go_enter Tryd.func7, Tryd.ntmps7
  go_wp2_with fail
  go_at_call 15
  refine HPC.mono ?_
  rintro e w' ⟨rfl, hb⟩
  have HB := as0 (HB0.out.trans (hb.mono (by simp)))
  clear hb HPC
  go_wp2_with fail
  go_at_call 17
  refine (HPT _ HB.out).mono ?_
  rintro e w5 ⟨rfl, b5⟩
  have HB5 := as0 (below_step HB.out b5)
  clear b5 HPT
  go_wp2_with fail
  go_ret2
  exact ⟨rfl, HB5.out⟩
 ·
  rw [if_neg hc] at h
  injection h with h1 h2
  subst h1
  generalize codeL p true [l1] = cd at HPC hc h2
  subst h2
  have d0 : (cd == 0) = false := beq_eq_false_iff_ne.mpr hc
  have d1 : (cd != 0) = true := bne_iff_ne.mpr hc
  clear hr1 hc1 htab hc
  generalize l1.length = n at HPC HB0 ⊢
  go_enter Tryd.func7, Tryd.ntmps7
  go_wp2_with fail
  go_at_call 15
  refine HPC.mono ?_
  rintro e w' ⟨rfl, hb⟩
  have HB := as0 (HB0.out.trans (hb.mono (by simp)))
  clear hb HPC
  go_wp2_with fail
  go_ret2
  exact ⟨rfl, HB.out⟩
end Go.Proofs.YtmadpicanmjhhaaDoor.H
namespace Go.Proofs.YtmadpicanmjhhaaDoor.H
open Go.RowKit Go.Proofs.YtmadpicanmjhhaaDoorW.PrintWords Go.Proofs.YtmadpicanmjhhaaDoorW.PrintLast Go.Proofs.YtmadpicanmjhhaaDoorW.PrintMore
attribute [local go_sem] max2_int min2_int max_two min_two max_three min_three max_four min_four   -- for this text's walks alone
set_option linter.unusedVariables false
set_option linter.unusedSimpArgs false
set_option maxHeartbeats 8000000 in
set_option maxRecDepth 100000 in
theorem laws_FnExactPolyText.calls (k : Nat) (a0 : Int) (A1 : Option Addr) (c1 : Nat) (l1 : List Int) (s : List UInt8) (er : Int) (w : World)
  (hr1 : Kd.C (Kd.int .i64) w A1 l1.length l1) (hc1 : l1.length ≤ c1) (hl : l1.length ≤ 1048576) (t1 : laws_toInt64S.f k l1 = some l1) (hs : spec_PolyText.f k a0 l1 = some ((⟨s.toArray⟩ : ByteArray), er)) (hp : ptA a0 l1 = (s, er)) (q2 : laws_eqInt64S.f k l1 l1 = some true)
  (htab : Lib.TabIs Tryd.prog w "internal/strconv.uint64pow10" .u64 Lib.pow10Tab) :
  Calls Tryd.prog 3 #[.int .i64 a0, .slice A1 l1.length c1] w fun e w' => e = .returned (.bool true) ∧ Below w.heap.size w w' := by
 have HIP := fun (A : Option Addr) (c : Nat) (W : World) h1 h2 h3 => impl_PolyText.calls a0 A c l1 s er W h1 h2 hp h3
 obtain ⟨st, hst⟩ : ∃ st : ByteArray, st = ⟨s.toArray⟩ := ⟨_, rfl⟩
 simp only [← hst] at hs HIP
 have d1 : decide ((l1.length : Int) > 1048576) = false := decide_eq_false (by omega)
 have d1' : decide (1048576 < (l1.length : Int)) = false := decide_eq_false (by omega)
 have HR1 := as0 hr1
 have HC1 := as0 hc1
 have T1 := as0 t1
 have HS := as0 hs
 have Q2 := as0 q2
 have HT := as0 htab
 clear hr1 hc1 hl t1 hs hp q2 htab hst
 have HB := as0 (Below.refl w.heap.size w)
 go_enter Tryd.func3, Tryd.ntmps3
 go_wp2_with fail
 go_at_call 6
 refine (laws_toInt64S.calls k A1 c1 l1 l1 _ (Kd.C_below HR1.out HB.out) HC1.out T1.out).mono ?_
 rintro e w1 ⟨v1, rfl, o1, b1⟩
 have HB := as0 (below_step HB.out b1)
 have O1 := as0 o1
 clear o1 b1
 obtain ⟨Av1, cv1, ev1⟩ := Kd.R_slice O1.out
 subst ev1
 go_wp2_with fail
 go_at_call 5
 refine (spec_PolyText.calls k a0 _ Av1 cv1 l1 st er _ (Kd.R_V O1.out) HS.out).mono ?_
 rintro e w3 ⟨rfl, bs⟩
 have HB := as0 (below_step HB.out bs)
 clear bs O1
 go_wp2_with fail
 go_at_call 6
 refine (laws_toInt64S.calls k A1 c1 l1 l1 _ (Kd.C_below HR1.out HB.out) HC1.out T1.out).mono ?_
 rintro e w4 ⟨v4, rfl, o4, b4⟩
 have HB := as0 (below_step HB.out b4)
 have O4 := as0 o4
 clear o4 b4
 obtain ⟨Av4, cv4, ev4⟩ := Kd.R_slice O4.out
 subst ev4
 go_wp2_with fail
 go_at_call 7
 refine (HIP Av4 cv4 _ (Kd.R_reads' O4.out).2.2 (Kd.R_reads' O4.out).2.1 (tab_below HT.out HB.out)).mono ?_
 rintro e w6 ⟨rfl, bg⟩
 have O4 := as0 (Kd.R_below O4.out bg)
 have HB := as0 (below_step HB.out bg)
 clear bg HIP
 go_wp2_with fail
 go_at_call 6
 refine (laws_toInt64S.calls k A1 c1 l1 l1 _ (Kd.C_below HR1.out HB.out) HC1.out T1.out).mono ?_
 rintro e w9 ⟨v9, rfl, o9, b9⟩
 have O4 := as0 (Kd.R_below O4.out b9)
 have HB := as0 (below_step HB.out b9)
 have O9 := as0 o9
 clear o9 b9
 obtain ⟨Av9, cv9, ev9⟩ := Kd.R_slice O9.out
 subst ev9
 go_wp2_with fail
 go_at_call 8
 refine (laws_eqInt64S.calls k Av4 cv4 l1 Av9 cv9 l1 true _ (Kd.R_reads' O4.out).2.2 (Kd.R_reads' O4.out).2.1 (Kd.R_reads' O9.out).2.2 (Kd.R_reads' O9.out).2.1 Q2.out).mono ?_
 rintro e w' ⟨rfl, dr⟩
 have b10 := dr.below
 clear dr
 have HB := as0 (below_step HB.out b10)
 clear b10 O9 O4
 go_wp2_with fail
 go_ret
 exact ⟨rfl, HB.out⟩
def laws_FnExactPolyText.Pure : Prop := ∀ (a0 : Int) (l1 : List Int), l1.length ≤ 1048576 → ∃ (k : Nat) (s : List UInt8) (er : Int), laws_toInt64S.f k l1 = some l1 ∧ spec_PolyText.f k a0 l1 = some ((⟨s.toArray⟩ : ByteArray), er) ∧ ptA a0 l1 = (s, er) ∧ laws_eqInt64S.f k l1 l1 = some true
set_option maxHeartbeats 8000000 in
set_option maxRecDepth 100000 in
theorem laws_FnExactPolyText.walk (P : laws_FnExactPolyText.Pure) (a0 : Int) (a1 : Option Addr) (len1 cap1 : Nat) (z1 : List Int) (w : World) (w1 : (a1 = none ∧ len1 = 0 ∧ cap1 = 0 ∧ z1 = []) ∨ ∃ x, a1 = some x ∧ len1 ≤ cap1 ∧ cap1 ≤ maxLen ∧ z1.length = cap1 ∧ (∀ i, i < z1.length → w.cell? (x.add i) = some (.int .i64 (z1.getD i 0))) ∧ ∀ n ∈ z1, (Lit.int .i64 n).wf = true)
  (htab : Lib.TabIs Tryd.prog w "internal/strconv.uint64pow10" .u64 Lib.pow10Tab) :
  Calls Tryd.prog 3 #[.int .i64 a0, .slice a1 len1 cap1] w fun e w' => e = .returned (.bool true) ∧ Below w.heap.size w w' := by
 obtain ⟨l1, rfl, hr1, hm1, hw1, hc1⟩ := ReadsInt.ofRowC w1
 by_cases hl : l1.length ≤ 1048576
 ·
  obtain ⟨k, s, er, h1, h2, h3, h4⟩ := P a0 l1 hl
  exact laws_FnExactPolyText.calls k a0 _ _ l1 s er w (Kd.C_of_reads (d := (0 : Int)) (h1 := fun _ => rfl) hr1) hc1 hl h1 h2 h3 h4 htab
 ·
  have d1 : decide ((l1.length : Int) > 1048576) = true := decide_eq_true (by omega)
  have d1' : decide (1048576 < (l1.length : Int)) = true := decide_eq_true (by omega)
  have HB := as0 (Below.refl w.heap.size w)
  clear hl w1 hr1 hm1 hw1 hc1 htab P
  generalize l1.length = n at d1 d1' ⊢
  go_enter Tryd.func3, Tryd.ntmps3
  go_wp2_with fail
  go_ret
  exact ⟨rfl, HB.out⟩
end Go.Proofs.YtmadpicanmjhhaaDoor.H
