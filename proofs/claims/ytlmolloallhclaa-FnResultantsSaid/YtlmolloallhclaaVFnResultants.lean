/- Plain laws that the claim of FnResultants reaches: numbers modulo a prime, lists, and what the printed functions answer. -/
import Derived.Laws.Bits64
import Derived.Laws.BitsLemmas
import Derived.Test.YtlmolloallhclaaYWWords
import Derived.Test.YtlmolloallhclaaYWMore
import Derived.Test.YtlmolloallhclaaMa2
import Derived.Test.YtlmolloallhclaaMa4
import Derived.Test.YtlmolloallhclaaMa3
import Derived.Test.YtlmolloallhclaaYHx0
import Derived.Test.YtlmolloallhclaaMa5
import Derived.Test.YtlmolloallhclaaMa6
import Derived.Test.YtlmolloallhclaaMa1
import Derived.Test.YtlmolloallhclaaMa7
import Derived.Test.YtlmolloallhclaaMa8
set_option linter.unusedVariables false
set_option linter.unusedSimpArgs false
namespace Go.Proofs.Ytlmolloallhclaa.H
open Go.RowKit Go.Proofs.YtlmolloallhclaaW.PrintWords Go.Proofs.YtlmolloallhclaaW.PrintLast Go.Proofs.YtlmolloallhclaaW.PrintMore Go.Proofs.Ytlmolloallhclaa.Num
theorem u64_small (n : Int) (h₀ : 0 ≤ n) (h₁ : n < 2 ^ 63) : IntKind.u64.wrap n = n := by rw [IntKind.wrap_u64]; omega
theorem draw_bits (x : Int) : 0 ≤ Go.bits .and .u64 (IntKind.u64.wrap x / 8589934592) 16777215 ∧ Go.bits .and .u64 (IntKind.u64.wrap x / 8589934592) 16777215 < 16777216 := by
 have e : IntKind.u64.wrap x = x % 18446744073709551616 := IntKind.wrap_u64 x
 rw [e]
 have h := bits_mask .u64 63 (by decide) u64_small 24 (by decide) (x % 18446744073709551616 / 8589934592) (by omega) (by omega)
 have e2 : (2 : Int) ^ 24 - 1 = 16777215 := by decide
 have e3 : (2 : Int) ^ 24 = 16777216 := by decide
 rw [e2, e3] at h
 rw [h]; omega
def Bytes (l : List Int) : Prop := l.length ≤ 1000000 ∧ ∀ x ∈ l, 0 ≤ x ∧ x ≤ 255
theorem byte_rd {l : List Int} (h : Bytes l) (i : Int) : 0 ≤ rd l i ∧ rd l i ≤ 255 := by
 unfold rd
 rw [List.getD_eq_getElem?_getD]
 cases hx : l[i.toNat]? with
 | none => simp
 | some x => simpa using h.2 x (List.mem_of_getElem? hx)
theorem draw_next {l : List Int} (hb : Bytes l) {i : Int} (h0 : 0 ≤ i) (h1 : i ≤ l.length) (s n : Int) :
  ∃ v j t : Int, spec_l01Next.f l i s n = some (v, j, t) ∧ 0 ≤ j ∧ j ≤ l.length ∧ 0 ≤ v ∧ (1 ≤ n → v < n) := by
 unfold spec_l01Next.f
 obtain ⟨b0, b1⟩ := draw_bits (IntKind.u64.wrap (s * 6364136223846793005) + 1442695040888963407)
 generalize Go.bits .and .u64 (IntKind.u64.wrap (IntKind.u64.wrap (s * 6364136223846793005) + 1442695040888963407) / 8589934592) 16777215 = b at b0 b1 ⊢
 have hl := hb.1
 have hw : wrap64 b = b := w64 (by omega) (by omega)
 by_cases c1 : n < 1
 ·
  exact ⟨0, i, s, by rw [if_pos c1], h0, h1, by omega, by omega⟩
 ·
  by_cases c2 : i < l.length
  ·
   obtain ⟨r0, r1⟩ := byte_rd hb i
   have hw2 : wrap64 (rd l i) = rd l i := w64 (by omega) (by omega)
   have hw3 : wrap64 (b + rd l i) = b + rd l i := w64 (by omega) (by omega)
   have hw4 : wrap64 (i + 1) = i + 1 := w64 (by omega) (by omega)
   refine ⟨Int.tmod (b + rd l i) n, i + 1, _, by rw [if_neg c1, if_pos c2, if_pos h0, if_neg (show ¬ n = 0 by omega), hw, hw2, hw3, hw4], by omega, by omega, ?_, fun _ => ?_⟩
   ·
    rw [tmod_nn (by omega)]; exact Int.emod_nonneg _ (by omega)
   ·
    rw [tmod_nn (by omega)]; exact Int.emod_lt_of_pos _ (by omega)
  ·
   refine ⟨Int.tmod b n, i, _, by rw [if_neg c1, if_neg c2, if_neg (show ¬ n = 0 by omega), hw], h0, h1, ?_, fun _ => ?_⟩
   ·
    rw [tmod_nn b0]; exact Int.emod_nonneg _ (by omega)
   ·
    rw [tmod_nn b0]; exact Int.emod_lt_of_pos _ (by omega)
theorem draw_pick {l : List Int} (hb : Bytes l) {i : Int} (h0 : 0 ≤ i) (h1 : i ≤ l.length) (s : Int) (c : List Int) (hc : 0 < c.length) :
  ∃ v j t : Int, spec_l01Pick.f l i s c = some (v, j, t) ∧ 0 ≤ j ∧ j ≤ l.length ∧ v ∈ c := by
 obtain ⟨v, j, t, e, j0, j1, v0, v1⟩ := draw_next hb h0 h1 s (c.length : Int)
 have v2 := v1 (by omega)
 obtain ⟨m, rfl⟩ : ∃ m : Nat, v = (m : Int) := ⟨v.toNat, by omega⟩
 refine ⟨c[m]'(by omega), j, t, ?_, j0, j1, List.getElem_mem _⟩
 simp only [spec_l01Pick.f, e, Option.bind_some, if_pos v0, if_pos v2, rd_lt c m (by omega)]
theorem draw_prime {l : List Int} (hb : Bytes l) {i : Int} (h0 : 0 ≤ i) (h1 : i ≤ l.length) (s : Int) :
  ∃ v j t : Int, spec_l01DrawPrime.f l i s = some (v, j, t) ∧ 0 ≤ j ∧ j ≤ l.length ∧ v ∈ ([2, 3, 5, 7, 7, 11, 13, 17, 31, 101, 997, 10007] : List Int) := by
 obtain ⟨v, j, t, e, r⟩ := draw_pick hb h0 h1 s ([2, 3, 5, 7, 7, 11, 13, 17, 31, 101, 997, 10007] : List Int) (by simp)
 exact ⟨v, j, t, by simp only [spec_l01DrawPrime.f, e, Option.bind_some], r⟩
theorem draw_from (l : List Int) (hl : l.length ≤ 1000000) : ∃ s : Int, Ev (fun k => spec_l01From.f k l) (l, 0, s) := by
 have loop : ∀ d i : Nat, i + d = l.length → ∀ s : Int, ∃ t : Int, Ev (fun k => spec_l01From.l0 k l (i : Int) l 0 s) (l, 0, t) := by
  intro d
  induction d with
  | zero => intro i h s; exact ⟨s, by refine Ev.succ ?_; simp (disch := omega) only [spec_l01From.l0, if_neg]; exact Ev.now _⟩
  | succ d ih =>
   intro i h s
   by_cases c : (i : Int) < 4096
   ·
    obtain ⟨t, ht⟩ := ih (i + 1) (by omega) (IntKind.u64.wrap ((IntKind.u64.wrap ((IntKind.u64.wrap (s * 1099511628211)) + (IntKind.u64.wrap (rd l (i : Int))))) + 103))
    refine ⟨t, Ev.succ ?_⟩
    simp (disch := omega) only [spec_l01From.l0, if_pos, wp1]; exact ht
   ·
    exact ⟨s, by refine Ev.succ ?_; simp (disch := omega) only [spec_l01From.l0, if_pos, if_neg]; exact Ev.now _⟩
 simp only [spec_l01From.f]
 exact loop l.length 0 (by omega) _
theorem isP_7 : IsP 7 := by
 refine ⟨by omega, by omega, Pr.of_trial (by decide) fun d h2 hd => ?_⟩
 have : d ≤ 2 := Nat.le_of_not_lt fun h => by
  have := Nat.mul_le_mul (show 3 ≤ d from h) (show 3 ≤ d from h)
  simp at hd; omega
 have : d = 2 := by omega
 subst this; decide
theorem draw_list0 {l : List Int} (hb : Bytes l) (p c : Int) (hp : 1 ≤ p) : ∀ (d : Nat) (out : List Int) (i s : Int), 0 ≤ i → i ≤ l.length → d ≤ 1000 → out.length ≤ 1000000 - d → InR p out →
  ∃ (r : List Int) (j t : Int), Ev (fun k => spec_l01DrawList.l0 k p (d : Int) out c l i s) (r, j, t) ∧ 0 ≤ j ∧ j ≤ l.length ∧ r.length = out.length + d ∧ InR p r := by
 intro d
 induction d with
 | zero =>
  intro out i s h0 h1 hd hl hr
  refine ⟨out, i, s, Ev.succ ?_, h0, h1, by omega, hr⟩
  simp (disch := omega) only [spec_l01DrawList.l0, if_neg]; exact Ev.now _
 | succ d ih =>
  intro out i s h0 h1 hd hl hr
  have q1 : ((d + 1 : Nat) : Int) > 0 := by omega
  have q2 : out.length < 17592186044416 := by omega
  have q3 : wrap64 (((d + 1 : Nat) : Int) - 1) = (d : Int) := by rw [w64 (by omega) (by omega)]; omega
  have put : ∀ (x : Int) (i s : Int), 0 ≤ i → i ≤ l.length → 0 ≤ x ∧ x < p → ∃ (r : List Int) (j t : Int), Ev (fun k => spec_l01DrawList.l0 k p (d : Int) (out ++ [x]) c l i s) (r, j, t) ∧ 0 ≤ j ∧ j ≤ l.length ∧ r.length = out.length + (d + 1) ∧ InR p r := fun x i s h0 h1 hx => by
   obtain ⟨r, j, t, e, j0, j1, e2, e3⟩ := ih (out ++ [x]) i s h0 h1 (by omega) (by simp; omega) (hr.append (InR.one hx))
   exact ⟨r, j, t, e, j0, j1, by rw [e2]; simp; omega, e3⟩
  by_cases hc : c = 0
  ·
   obtain ⟨v, j, t, e, j0, j1, v0, v1⟩ := draw_next hb h0 h1 s p
   obtain ⟨r, j', t', e', rest⟩ := put v j t j0 j1 ⟨v0, v1 hp⟩
   refine ⟨r, j', t', Ev.succ ?_, rest⟩
   simp only [spec_l01DrawList.l0, if_pos q1, if_pos hc, e, Option.bind_some, if_pos q2, q3]; exact e'
  ·
   obtain ⟨v, j, t, e, j0, j1, v0, v1⟩ := draw_next hb h0 h1 s 3
   by_cases hv : v > 0
   ·
    obtain ⟨v', j', t', e', j0', j1', v0', v1'⟩ := draw_next hb j0 j1 t p
    obtain ⟨r, j2, t2, e2, rest⟩ := put v' j' t' j0' j1' ⟨v0', v1' hp⟩
    refine ⟨r, j2, t2, Ev.succ ?_, rest⟩
    simp only [spec_l01DrawList.l0, if_pos q1, if_neg hc, e, Option.bind_some, if_pos hv, e', if_pos q2, q3]; exact e2
   ·
    obtain ⟨r, j2, t2, e2, rest⟩ := put 0 j t j0 j1 ⟨Int.le_refl 0, by omega⟩
    refine ⟨r, j2, t2, Ev.succ ?_, rest⟩
    simp only [spec_l01DrawList.l0, if_pos q1, if_neg hc, e, Option.bind_some, if_neg hv, if_pos q2, q3]; exact e2
theorem draw_poly {l : List Int} (hb : Bytes l) {p n i : Int} (hp : 1 ≤ p) (n0 : 0 ≤ n) (n1 : n ≤ 100) (h0 : 0 ≤ i) (h1 : i ≤ l.length) (s : Int) :
  ∃ (r : List Int) (j t : Int), Ev (fun k => spec_l01DrawPoly.f k l i s p n) (r, j, t) ∧ 0 ≤ j ∧ j ≤ l.length ∧ r.length ≤ 102 ∧ InR p r := by
 have hw : wrap64 (n + 2) = n + 2 := w64 (by omega) (by omega)
 obtain ⟨v, j, t, e, j0, j1, v0, v1⟩ := draw_next hb h0 h1 s (n + 2)
 have v2 := v1 (by omega)
 obtain ⟨m, rfl⟩ : ∃ m : Nat, v = (m : Int) := ⟨v.toNat, by omega⟩
 obtain ⟨c, j', t', e', j0', j1', _⟩ := draw_next hb j0 j1 t 3
 obtain ⟨r, j2, t2, e2, j02, j12, e3, e4⟩ := draw_list0 hb p c hp m [] j' t' j0' j1' (by omega) (by simp) InR.nil
 simp only [List.length_nil] at e3
 have ht := trimL_len r
 refine ⟨trimL r, j2, t2, ?_, j02, j12, by omega, e4.trim⟩
 simp only [spec_l01DrawPoly.f, hw, e, Option.bind_some]
 refine Ev.bind (show Ev (fun k => spec_l01DrawList.f k l j t p (m : Int)) (r, j2, t2) from ?_) ?_
 ·
  simp only [spec_l01DrawList.f, e', Option.bind_some]; exact e2
 ·
  exact Ev.bind (spec_trim r (by omega)) (Ev.now _)
theorem draw_fine (p : Int) : ∃ q : Int, IsP q ∧ Ev (fun k => spec_l01Fine.f k p) q := by
 cases h : primeB p with
 | true => exact ⟨p, primeB_iff.1 h, by simp only [spec_l01Fine.f]; refine Ev.bind (spec_prime p) ?_; simp only [h, if_true]; exact Ev.now _⟩
 | false => exact ⟨7, isP_7, by simp only [spec_l01Fine.f]; refine Ev.bind (spec_prime p) ?_; simp only [h, Bool.false_eq_true, if_false]; exact Ev.now _⟩
theorem impl_deg (l : List Int) (h : l.length ≤ 1000000000000) : impl_degree.f l = some ((l.length : Int) - 1) := by
 simp (disch := omega) only [impl_degree.f, impl_length_int64.f, Option.bind_some, w64]
def fillL (c : Int) (ls : List (List Int)) : Int := if c = 0 then (if ls.all (fun l => decide (0 < l.length)) = true then 0 else 5) else c
theorem fill_loop (ls : List (List Int)) (hl : ls.length ≤ 1000000) : ∀ (d i : Nat), i + d = ls.length → Ev (fun k => spec_l06Code.l0 k ls (i : Int)) (if (ls.drop i).all (fun l => decide (0 < l.length)) = true then 0 else 5) := by
 intro d
 induction d with
 | zero => intro i h; refine Ev.succ ?_; simp (disch := omega) only [spec_l06Code.l0, if_neg, List.drop_of_length_le]; exact Ev.now _
 | succ d ih =>
  intro i h
  have hi := ih (i + 1) (by omega)
  have hrd : rd_L1 ls (i : Int) = ls[i]'(by omega) := by simp [rd_L1, List.getD_eq_getElem?_getD, show i < ls.length by omega]
  refine Ev.succ ?_
  rw [List.drop_eq_getElem_cons (show i < ls.length by omega)]
  simp (disch := omega) only [spec_l06Code.l0, if_pos, hrd, wp1, List.all_cons]
  by_cases h0 : (ls[i]'(by omega)).length = 0
  ·
   have h1 : (((ls[i]'(by omega)).length : Nat) : Int) = 0 := by omega
   simp only [h1, if_true, h0, Nat.lt_irrefl, decide_false, Bool.false_and, Bool.false_eq_true, if_false]
   exact Ev.now _
  ·
   have h1 : ¬ (((ls[i]'(by omega)).length : Nat) : Int) = 0 := by omega
   simp only [if_neg h1, decide_eq_true (show 0 < (ls[i]'(by omega)).length by omega), Bool.true_and]
   exact hi
theorem spec_code6 (p : Int) (ls : List (List Int)) (hl : ls.length ≤ 1000000) (hls : ∀ l ∈ ls, l.length ≤ 1000000000) : Ev (fun k => spec_l06Code.f k p ls) (fillL (codeL p true ls) ls) := by
 have h1 := spec_code p ls hl hls
 have h2 := fill_loop ls hl ls.length 0 (by omega)
 simp only [spec_l06Code.f, fillL]
 refine Ev.bind h1 ?_
 by_cases h : codeL p true ls = 0
 ·
  simp only [h, if_true]; exact h2
 ·
  simp only [if_neg h]; exact Ev.now _
theorem impl_fill1 (p : Int) (b : Bool) (l : List Int) : Ev (fun k => impl_filledCode_1.f k p b l) (fillL (codeL p b [l]) [l]) := by
 simp only [impl_filledCode_1.f]
 refine Ev.bind (impl_code1 p b l) ?_
 simp only [fillL, List.all_cons, List.all_nil, Bool.and_true]
 exact Ev.now _
theorem impl_fill2 (p : Int) (b : Bool) (l l' : List Int) : Ev (fun k => impl_filledCode_2.f k p b l l') (fillL (codeL p b [l, l']) [l, l']) := by
 simp only [impl_filledCode_2.f]
 refine Ev.bind (impl_code2 p b l l') ?_
 simp only [fillL, List.all_cons, List.all_nil, Bool.and_true]
 exact Ev.now _
theorem fillL_0 {p : Int} {b : Bool} {ls : List (List Int)} (h : fillL (codeL p b ls) ls = 0) : IsP p ∧ b = true ∧ ∀ l ∈ ls, Po p l ∧ 0 < l.length := by
 unfold fillL at h
 split at h
 ·
  rename_i hc
  split at h
  ·
   rename_i ha
   obtain ⟨h1, h2, h3⟩ := codeL_0 hc
   exact ⟨h1, h2, fun l hl => ⟨h3 l hl, of_decide_eq_true (List.all_eq_true.1 ha l hl)⟩⟩
  ·
   cases h
 ·
  rename_i hc; exact absurd h hc
def rts (p : Int) (f : List Int) (i : Nat) : List Int := ((List.range i).map (fun (n : Nat) => (n : Int))).filter (fun x => decide (valL p f x = 0))
def rootsL (p : Int) (f : List Int) : List Int := rts p f p.toNat
theorem rts_succ (p : Int) (f : List Int) (i : Nat) : rts p f (i + 1) = if valL p f i = 0 then rts p f i ++ [(i : Int)] else rts p f i := by
 unfold rts
 rw [List.range_succ, List.map_append, List.filter_append]
 by_cases h : valL p f i = 0 <;> simp [h]
theorem rts_len (p : Int) (f : List Int) (i : Nat) : (rts p f i).length ≤ i := by
 unfold rts
 refine Nat.le_trans (List.length_filter_le _ _) ?_
 simp
theorem spec_roots {p : Int} {f : List Int} (hp : 2 ≤ p) (hp2 : p ≤ 10007) (hf : f.length ≤ 1000) (rf : InR p f) : Ev (fun k => spec_l06Roots.f k p f) (rootsL p f) := by
 have loop : ∀ (d i : Nat), i + d = p.toNat → Ev (fun k => spec_l06Roots.l0 k p f (rts p f i) (i : Int)) (rootsL p f) := by
  intro d
  induction d with
  | zero => intro i h; refine Ev.succ ?_; simp (disch := omega) only [spec_l06Roots.l0, if_neg]; rw [show i = p.toNat by omega]; exact Ev.now _
  | succ d ih =>
   intro i h
   have hi := ih (i + 1) (by omega)
   have hv := spec_val (x := i) hp hp2 hf rf (by omega)
   have hl := rts_len p f i
   rw [rts_succ] at hi
   refine Ev.succ ?_
   simp (disch := omega) only [spec_l06Roots.l0, if_pos, wp1]
   refine Ev.bind hv ?_
   by_cases h0 : valL p f i = 0
   ·
    simp (disch := omega) only [if_pos h0, if_pos]; rw [if_pos h0] at hi; exact hi
   ·
    simp only [if_neg h0]; rw [if_neg h0] at hi; exact hi
 have h := loop p.toNat 0 (by omega)
 simp only [spec_l06Roots.f]
 exact h
theorem impl_roots {p : Int} {f : List Int} (hp : 2 ≤ p) (hp2 : p ≤ 10007) (hf : f.length ≤ 1000) (rf : InR p f) : Ev (fun k => impl_field_roots.f k p f) (rootsL p f) := by
 have loop : ∀ (d i : Nat), i + d = p.toNat → Ev (fun k => impl_field_roots.l0 k p f (rts p f i) p (i : Int)) (rootsL p f) := by
  intro d
  induction d with
  | zero => intro i h; refine Ev.succ ?_; simp (disch := omega) only [impl_field_roots.l0, if_neg]; rw [show i = p.toNat by omega]; exact Ev.now _
  | succ d ih =>
   intro i h
   have hi := ih (i + 1) (by omega)
   have hv := impl_val (x := i) (f := f) hp hp2 rf (by omega)
   have hl := rts_len p f i
   rw [rts_succ] at hi
   refine Ev.succ ?_
   simp (disch := omega) only [impl_field_roots.l0, if_pos, wp1, hv, Option.bind_some]
   by_cases h0 : valL p f i = 0
   ·
    simp (disch := omega) only [if_pos h0, if_pos]; rw [if_pos h0] at hi; exact hi
   ·
    simp only [if_neg h0]; rw [if_neg h0] at hi; exact hi
 have h := loop p.toNat 0 (by omega)
 simp only [impl_field_roots.f]
 exact h
theorem rootsL_len {p : Int} (hp : 0 < p) (hp2 : p ≤ 10007) (f : List Int) : (rootsL p f).length ≤ 10007 := by
 have := rts_len p f p.toNat; unfold rootsL; omega
def ofL (p : Int) (l : List Int) : Nat → List Int
 | 0 => [1]
 | n + 1 => mulL p (ofL p l n) [(-(l.getD n 0)) % p, 1]
theorem ofL_len (p : Int) (l : List Int) : ∀ n, (ofL p l n).length ≤ n + 1
 | 0 => by simp [ofL]
 | n + 1 => by
  have h := mulL_len p (ofL p l n) [(-(l.getD n 0)) % p, 1]
  have := ofL_len p l n
  simp only [List.length_cons, List.length_nil] at h
  simp only [ofL]; omega
theorem ofL_inR {p : Int} (hp : 2 ≤ p) (l : List Int) : ∀ n, InR p (ofL p l n)
 | 0 => InR.one (by omega)
 | n + 1 => mulL_inR (by omega) _ _
theorem lin_inR {p : Int} (hp : 2 ≤ p) (r : Int) : InR p [(-r) % p, 1] := fun y hy => by
 rcases List.mem_cons.1 hy with rfl | hy
 ·
  exact emod_bd (by omega)
 ·
  rw [List.mem_singleton.1 hy]; omega
theorem spec_of {p : Int} {l : List Int} (hp : IsP p) (hl : l.length ≤ 24) (hr : InR p l) : Ev (fun k => spec_l06Of.f k p l) (ofL p l l.length) := by
 have loop : ∀ d i, i + d = l.length → Ev (fun k => spec_l06Of.l0 k p l (ofL p l i) (i : Int)) (ofL p l l.length) := by
  intro d
  induction d with
  | zero => intro i h; refine Ev.succ ?_; simp (disch := omega) only [spec_l06Of.l0, if_neg]; rw [show i = l.length by omega]; exact Ev.now _
  | succ d ih =>
   intro i h
   have hi := ih (i + 1) (by omega)
   have hg := hr.get hp.p0 i
   have hln := ofL_len p l i
   have h2 := hp.pm
   refine Ev.succ ?_
   simp (disch := omega) only [spec_l06Of.l0, if_pos, rd_n, wp1, w64, spec_mod hp.p0, Option.bind_some]
   exact Ev.bind (spec_product hp.p2 hp.pm (by omega) (by simp) (ofL_inR hp.p2 l i) (lin_inR hp.p2 _)) hi
 have h := loop l.length 0 (by omega)
 simp only [spec_l06Of.f]
 exact h
theorem co_ext {l l' : List Int} (hl : l.length = l'.length) (he : ∀ i, i < l.length → co l i = co l' i) : l = l' :=
 List.ext_getElem hl fun i a b => by
  have := he i a
  unfold co at this
  rwa [List.getD_eq_getElem?_getD, List.getD_eq_getElem?_getD, List.getElem?_eq_getElem a, List.getElem?_eq_getElem b] at this
theorem co_reverse (l : List Int) (i : Nat) (h : i < l.length) : co l.reverse i = co l (l.length - 1 - i) := by
 unfold co
 rw [List.getD_eq_getElem?_getD, List.getD_eq_getElem?_getD, List.getElem?_reverse h]
theorem impl_reverse (l : List Int) (hl : l.length ≤ 1000000) : Ev (fun k => slices_Reverse_int64_int64.f k l) l.reverse := by
 have loop : ∀ (d i : Nat) (xs : List Int), xs.length = l.length → i + d = l.length → (∀ t, t < l.length → co xs t = if t < i ∨ l.length - i ≤ t then co l (l.length - 1 - t) else co l t) →
   Ev (fun k => slices_Reverse_int64_int64.l0 k xs (i : Int) ((l.length : Int) - 1 - i)) l.reverse := by
  intro d
  induction d with
  | zero =>
   intro i xs h1 h2 h3
   refine Ev.succ ?_
   simp (disch := omega) only [slices_Reverse_int64_int64.l0, if_neg]
   refine Ev_to (Ev.now _) (co_ext (by simpa using h1) fun t ht => ?_)
   rw [h3 t (by omega), co_reverse l t (by omega), if_pos (by omega)]
  | succ d ih =>
   intro i xs h1 h2 h3
   refine Ev.succ ?_
   by_cases hlt : (i : Int) < (l.length : Int) - 1 - i
   ·
    have hj : (l.length : Int) - 1 - i = ((l.length - 1 - i : Nat) : Int) := by omega
    have hi := ih (i + 1) ((xs.set i (xs.getD (l.length - 1 - i) 0)).set (l.length - 1 - i) (xs.getD i 0)) (by simpa using h1) (by omega) (fun t ht => by
     rw [co_set _ _ _ _ (by simpa using by omega)]
     by_cases e1 : t = l.length - 1 - i
     ·
      rw [if_pos e1, if_pos (by omega)]
      have := h3 i (by omega)
      unfold co at this
      rw [this, if_neg (by omega), e1]
      show co l i = _
      rw [show l.length - 1 - (l.length - 1 - i) = i by omega]
     ·
      rw [if_neg e1, co_set _ _ _ _ (by omega)]
      by_cases e2 : t = i
      ·
       rw [if_pos e2, if_pos (by omega)]
       have := h3 (l.length - 1 - i) (by omega)
       unfold co at this
       rw [this, if_neg (by omega), e2]
       rfl
      ·
       rw [if_neg e2, h3 t ht]
       by_cases e3 : t < i ∨ l.length - i ≤ t
       ·
        rw [if_pos e3, if_pos (by omega)]
       ·
        rw [if_neg e3, if_neg (by omega)])
    rw [hj] at hlt ⊢
    simp (disch := omega) only [slices_Reverse_int64_int64.l0, if_pos hlt, if_pos, rd_n, Int.toNat_natCast, wp1, wm1]
    rw [show ((l.length - 1 - i : Nat) : Int) - 1 = (l.length : Int) - 1 - ((i + 1 : Nat) : Int) by omega]
    exact hi
   ·
    simp only [slices_Reverse_int64_int64.l0, if_neg hlt]
    refine Ev_to (Ev.now _) (co_ext (by simpa using h1) fun t ht => ?_)
    rw [h3 t (by omega), co_reverse l t (by omega)]
    by_cases e3 : t < i ∨ l.length - i ≤ t
    ·
     rw [if_pos e3]
    ·
     rw [if_neg e3, show l.length - 1 - t = t by omega]
 have h := loop l.length 0 l rfl (by omega) (fun t ht => by rw [if_neg (by omega)])
 simp only [slices_Reverse_int64_int64.f, wm1 (show l.length ≤ 1000000000000 by omega)]
 simpa using h
theorem clone_some (l : List Int) (h : l.length < 17592186044416) : slices_Clone_int64_int64.f l = some l := by
 simp [slices_Clone_int64_int64.f, h]
theorem impl_reversed_ (l : List Int) (hl : l.length ≤ 1000000) : Ev (fun k => impl_reversed.f k l) l.reverse := by
 simp only [impl_reversed.f, clone_some l (by omega), Option.bind_some]
 exact Ev.bind (impl_reverse l hl) (Ev.now _)
theorem co_pad (f : List Int) (n t : Nat) : co (pad f n) t = co f t := by
 unfold pad co
 simp only [List.getD_eq_getElem?_getD]
 by_cases h : t < f.length
 ·
  rw [List.getElem?_append_left h]
 ·
  rw [List.getElem?_append_right (by omega), List.getElem?_eq_none (show f.length ≤ t by omega)]
  simp only [List.getElem?_replicate]
  split <;> rfl
theorem ad_get (p c : Int) (g : List Int) (t : Nat) : ∀ d i acc, i + d ≤ acc.length → co (ad p c g acc i d) t = if i ≤ t ∧ t < i + d then (co acc t + c * co g t) % p else co acc t
 | 0, i, acc, h => by rw [if_neg (by omega)]; rfl
 | d + 1, i, acc, h => by
  rw [ad, ad_get p c g t d (i + 1) _ (by simpa using by omega), co_set _ _ _ _ (by omega)]
  by_cases e : t = i
  ·
   subst e
   rw [if_neg (by omega), if_pos rfl, if_pos (by omega)]
   rfl
  ·
   rw [if_neg e]
   by_cases h2 : i + 1 ≤ t ∧ t < i + 1 + d
   ·
    rw [if_pos h2, if_pos (by omega)]
   ·
    rw [if_neg h2, if_neg (by omega)]
theorem co_addL {p : Int} (hp : 0 < p) {f : List Int} (hf : InR p f) (g : List Int) (c : Int) (t : Nat) : co (addL p f g c) t = (co f t + c * co g t) % p := by
 unfold addL
 rw [co_trim, ad_get _ _ _ _ _ _ _ (by rw [pad_len _ _ (Nat.le_max_left _ _)]; have := Nat.le_max_right f.length g.length; omega), co_pad]
 by_cases h : 0 ≤ t ∧ t < 0 + g.length
 ·
  rw [if_pos h]
 ·
  rw [if_neg h, co_ge (show g.length ≤ t by omega), Int.mul_zero, Int.add_zero, Int.emod_eq_of_lt (hf.co hp t).1 (hf.co hp t).2]
theorem addL_nz (p : Int) (f g : List Int) (c : Int) : Nz (addL p f g c) := Nz.trim _
theorem co_monic {p : Int} (hp : 0 < p) (f : List Int) (t : Nat) : co (monicL p f) t = (inv p (rd f ((f.length : Int) - 1)) * co f t) % p := by
 unfold monicL
 rw [co_addL hp InR.nil, co_ge (show ([] : List Int).length ≤ t by simp), Int.zero_add]
theorem rd_top (f : List Int) (h : 0 < f.length) : rd f ((f.length : Int) - 1) = co f (f.length - 1) := by
 rw [show (f.length : Int) - 1 = ((f.length - 1 : Nat) : Int) by omega, rd_nat]; rfl
theorem monic_po {p : Int} {f : List Int} (hp : IsP p) (pf : Po p f) (h0 : 0 < f.length) : Po p (monicL p f) ∧ (monicL p f).length = f.length ∧ co (monicL p f) (f.length - 1) = 1 := by
 have ht := pf.nz.top pf.inR hp.p0 h0
 have h1 : co (monicL p f) (f.length - 1) = 1 := by
  rw [co_monic hp.p0, rd_top f h0]
  have h := inv_one hp ht
  rw [Int.mul_comm] at h
  have := h.emod
  rwa [Int.emod_eq_of_lt (a := 1) (by omega) (by have := hp.p2; omega)] at this
 have hlen := monicL_len p f
 have hl2 : (monicL p f).length = f.length := by
  rcases Nat.lt_or_ge (monicL p f).length f.length with h | h
  ·
   rw [co_ge (by omega)] at h1; omega
  ·
   omega
 exact ⟨Po.of (by have := pf.len; omega) (addL_inR hp.p0 InR.nil _ _) (addL_nz _ _ _ _), hl2, h1⟩
theorem gcdF_po {p : Int} (hp : IsP p) : ∀ (n : Nat) (f g : List Int), Po p f → Po p g → g.length < n → Po p (gcdF p n f g) ∧ ((0 < f.length ∨ 0 < g.length) → 0 < (gcdF p n f g).length ∧ co (gcdF p n f g) ((gcdF p n f g).length - 1) = 1)
 | 0, f, g, _, _, h => by omega
 | n + 1, f, g, pf, pg, h => by
  rw [gcdF]
  by_cases h0 : g.length = 0
  ·
   rw [if_pos h0]
   by_cases hf : f.length = 0
   ·
    rw [if_pos hf]; exact ⟨Po.of (by simp) InR.nil (.inl rfl), fun h => by omega⟩
   ·
    rw [if_neg hf]
    obtain ⟨a, b, c⟩ := monic_po hp pf (by omega)
    exact ⟨a, fun _ => ⟨by omega, by rw [b]; exact c⟩⟩
  ·
   rw [if_neg h0]
   obtain ⟨d1, d2, d3, d4, d5, d6⟩ := divL_facts hp pf.inR pg.inR pg.nz (by omega)
   have hl := d2 pf.nz
   have lg := pg.len
   obtain ⟨a, b⟩ := gcdF_po hp n g (divL p f g).2 pg (Po.of (by omega) d5 (d3 pf.nz)) (by omega)
   exact ⟨a, fun _ => b (.inl (by omega))⟩
theorem gcdL_po {p : Int} {f g : List Int} (hp : IsP p) (pf : Po p f) (pg : Po p g) : Po p (gcdL p f g) ∧ ((0 < f.length ∨ 0 < g.length) → 0 < (gcdL p f g).length ∧ co (gcdL p f g) ((gcdL p f g).length - 1) = 1) := gcdF_po hp _ f g pf pg (Nat.lt_succ_self _)
theorem dl_inR {p : Int} (hp : 0 < p) (l : List Int) : ∀ d i, InR p (dl p l i d)
 | 0, _ => InR.nil
 | d + 1, i => fun x hx => by
  rcases List.mem_cons.1 hx with rfl | hx
  ·
   exact emod_bd hp
  ·
   exact dl_inR hp l d (i + 1) x hx
theorem derivL_po {p : Int} {f : List Int} (hp : 0 < p) (pf : Po p f) : Po p (derivL p f) := Po.of (by have := derivL_len p f; have := pf.len; omega) (dl_inR hp f _ _).trim (Nz.trim _)
theorem pr1_cg (p x : Int) (g : List Int) (i t : Nat) : ∀ d j acc, i + j + d ≤ acc.length → cg p (co (pr1 p x g i acc j d) t) (co acc t + if i + j ≤ t ∧ t < i + j + d then x * co g (t - i) else 0)
 | 0, j, acc, _ => by rw [pr1, if_neg (by omega), Int.add_zero]; exact cg.refl _
 | d + 1, j, acc, h => by
  rw [pr1]
  refine (pr1_cg p x g i t d (j + 1) _ (by rw [List.length_set]; omega)).trans ?_
  rw [co_set _ _ _ _ (by omega)]
  by_cases ht : t = i + j
  ·
   rw [if_pos ht, if_neg (by omega), if_pos (by omega), Int.add_zero, ht, show i + j - i = j by omega]; exact cg.mod p _
  ·
   rw [if_neg ht]
   by_cases h2 : i + (j + 1) ≤ t ∧ t < i + (j + 1) + d
   ·
    rw [if_pos h2, if_pos (by omega)]; exact cg.refl _
   ·
    rw [if_neg h2, if_neg (by omega)]; exact cg.refl _
theorem pr0_cg (p : Int) (f g : List Int) (t : Nat) (h0 : 0 < g.length) : ∀ d i acc, i + d ≤ f.length → acc.length = f.length + g.length - 1 →
  cg p (co (pr0 p f g acc i d) t) (co acc t + su (fun s => if i + s ≤ t ∧ t < i + s + g.length then co f (i + s) * co g (t - (i + s)) else 0) d)
 | 0, i, acc, _, _ => by rw [pr0, su, Int.add_zero]; exact cg.refl _
 | d + 1, i, acc, h, hl => by
  rw [pr0]
  refine (pr0_cg p f g t h0 d (i + 1) _ (by omega) (by rw [pr1_len]; exact hl)).trans ?_
  rw [su_head, su_congr (f := fun s => if i + 1 + s ≤ t ∧ t < i + 1 + s + g.length then co f (i + 1 + s) * co g (t - (i + 1 + s)) else 0) (g := fun s => if i + (s + 1) ≤ t ∧ t < i + (s + 1) + g.length then co f (i + (s + 1)) * co g (t - (i + (s + 1))) else 0) (fun s _ => by rw [show i + 1 + s = i + (s + 1) by omega])]
  refine ((pr1_cg p (f.getD i 0) g i t g.length 0 acc (by omega)).add (cg.refl _)).trans (cg.of_eq ?_)
  simp only [Nat.add_zero]
  rw [Int.add_assoc]
  rfl
theorem co_zeros (n t : Nat) : co (List.replicate n (0 : Int)) t = 0 := by
 unfold co
 rw [List.getD_eq_getElem?_getD, List.getElem?_replicate]
 split <;> rfl
theorem co_mulL {p : Int} (hp : 0 < p) (f g : List Int) (t : Nat) : co (mulL p f g) t = cv (co f) (co g) t % p := by
 by_cases h : f.length = 0 ∨ g.length = 0
 ·
  have e : mulL p f g = [] := by unfold mulL; rw [if_pos h]
  have z : cv (co f) (co g) t = 0 := su_zero fun i _ => by
   rcases h with h | h
   ·
    rw [co_ge (show f.length ≤ i by omega), Int.zero_mul]
   ·
    rw [co_ge (show g.length ≤ t - i by omega), Int.mul_zero]
  rw [e, z]; simp [co]
 ·
  have e : mulL p f g = trimL (mulW p f g) := by unfold mulL; rw [if_neg h]
  rw [e, co_trim]
  refine cg.eq ?_ ((mulW_inR hp f g).co hp t) (emod_bd hp)
  refine (pr0_cg p f g t (by omega) f.length 0 _ (by omega) (by simp)).trans ((cg.of_eq ?_).trans (cg.mod p _).symm)
  rw [co_zeros, Int.zero_add]
  have e1 : su (fun s => if 0 + s ≤ t ∧ t < 0 + s + g.length then co f (0 + s) * co g (t - (0 + s)) else 0) f.length = su (fun s => if s ≤ t then co f s * co g (t - s) else 0) f.length :=
   su_congr fun s _ => by
    simp only [Nat.zero_add]
    by_cases h1 : s ≤ t
    ·
     by_cases h2 : t < s + g.length
     ·
      rw [if_pos ⟨h1, h2⟩, if_pos h1]
     ·
      rw [if_neg (fun h => h2 h.2), if_pos h1, co_ge (show g.length ≤ t - s by omega), Int.mul_zero]
    ·
     rw [if_neg (fun h => h1 h.1), if_neg h1]
  rw [e1, ← su_ext (n := max f.length (t + 1)) (Nat.le_max_left _ _) (fun i hi _ => by rw [co_ge hi, Int.zero_mul]; split <;> rfl),
   su_ext (m := t + 1) (Nat.le_max_right _ _) (fun i hi _ => by rw [if_neg (by omega)])]
  exact su_congr fun i hi => by rw [if_pos (by omega)]
theorem div_back {p : Int} {f g : List Int} (hp : IsP p) (pf : Po p f) (pg : Po p g) (h0 : 0 < g.length) : addL p (mulL p (divL p f g).1 g) (divL p f g).2 1 = f := by
 obtain ⟨d1, d2, d3, d4, d5, d6⟩ := divL_facts hp pf.inR pg.inR pg.nz h0
 refine (addL_nz _ _ _ _).ext pf.nz fun t => ?_
 rw [co_addL hp.p0 (mulL_inR hp.p0 _ _), co_mulL hp.p0, Int.one_mul, ea_l, ← (d1 t).emod]
 exact Int.emod_eq_of_lt (pf.inR.co hp.p0 t).1 (pf.inR.co hp.p0 t).2
def Dv (p : Int) (d f : List Int) : Prop := ∃ (Q : Nat → Int) (N : Nat), (∀ i, N ≤ i → Q i = 0) ∧ ∀ t, cg p (co f t) (cv Q (co d) t)
theorem co_nil (t : Nat) : co [] t = 0 := co_ge (Nat.zero_le _)
theorem Dv.zero (p : Int) (d : List Int) : Dv p d [] := ⟨fun _ => 0, 0, fun _ _ => rfl, fun t => by rw [cv_zero, co_nil]; exact cg.refl 0⟩
theorem cv_fin {F G : Nat → Int} {a b : Nat} (hF : ∀ i, a ≤ i → F i = 0) (hG : ∀ i, b ≤ i → G i = 0) (t : Nat) (ht : a + b ≤ t) : cv F G t = 0 :=
 su_zero fun i hi => by
  rcases Nat.lt_or_ge i a with h | h
  ·
   rw [hG (t - i) (by omega), Int.mul_zero]
  ·
   rw [hF i h, Int.zero_mul]
theorem Dv.step {p : Int} {d f g : List Int} (hp : IsP p) (pf : Po p f) (pg : Po p g) (h0 : 0 < g.length) (hg : Dv p d g) (hr : Dv p d (divL p f g).2) : Dv p d f := by
 obtain ⟨d1, d2, d3, d4, d5, d6⟩ := divL_facts hp pf.inR pg.inR pg.nz h0
 obtain ⟨Q, N, z, e⟩ := hg
 obtain ⟨Q', N', z', e'⟩ := hr
 refine ⟨fun i => cv (co (divL p f g).1) Q i + Q' i, (divL p f g).1.length + N + N', fun i hi => ?_, fun t => ?_⟩
 ·
  show cv (co (divL p f g).1) Q i + Q' i = 0
  rw [cv_fin (a := (divL p f g).1.length) (b := N) (fun j hj => co_ge hj) z i (by omega), z' i (by omega)]; rfl
 ·
  have h1 : cv (fun i => cv (co (divL p f g).1) Q i + Q' i) (co d) t = cv (co (divL p f g).1) (cv Q (co d)) t + cv Q' (co d) t := by
   rw [cv_addl (cv (co (divL p f g).1) Q) Q' (co d) t]
   rw [cv_assoc]
  rw [h1]
  exact (d1 t).trans ((cg.cv (fun i => cg.refl _) e t).add (e' t))
theorem Dv.monic {p : Int} {f : List Int} (hp : IsP p) (pf : Po p f) (h0 : 0 < f.length) : Dv p (monicL p f) f := by
 have ht := pf.nz.top pf.inR hp.p0 h0
 have h := inv_one hp ht
 refine ⟨fun i => if i = 0 then co f (f.length - 1) else 0, 1, fun i hi => if_neg (by omega), fun t => ?_⟩
 rw [cv_one, co_monic hp.p0, rd_top f h0]
 have h2 : cg p (co f (f.length - 1) * (inv p (co f (f.length - 1)) * co f t % p)) (co f (f.length - 1) * (inv p (co f (f.length - 1)) * co f t)) := (cg.refl _).mul (cg.mod p _)
 rw [← Int.mul_assoc] at h2
 have h3 := (h.mul (cg.refl (co f t)))
 rw [Int.one_mul] at h3
 exact (h2.trans h3).symm
theorem gcdF_dv {p : Int} (hp : IsP p) : ∀ (n : Nat) (f g : List Int), Po p f → Po p g → g.length < n → Dv p (gcdF p n f g) f ∧ Dv p (gcdF p n f g) g
 | 0, f, g, _, _, h => by omega
 | n + 1, f, g, pf, pg, h => by
  have lg := pg.len
  rw [gcdF]
  by_cases hg : g.length = 0
  ·
   have eg : g = [] := List.eq_nil_of_length_eq_zero hg
   rw [if_pos hg]
   by_cases hf : f.length = 0
   ·
    rw [if_pos hf, eg, List.eq_nil_of_length_eq_zero hf]; exact ⟨Dv.zero _ _, Dv.zero _ _⟩
   ·
    rw [if_neg hf, eg]; exact ⟨Dv.monic hp pf (by omega), Dv.zero _ _⟩
  ·
   rw [if_neg hg]
   obtain ⟨d1, d2, d3, d4, d5, d6⟩ := divL_facts hp pf.inR pg.inR pg.nz (by omega)
   have hl := d2 pf.nz
   have pr : Po p (divL p f g).2 := Po.of (by omega) d5 (d3 pf.nz)
   obtain ⟨a, b⟩ := gcdF_dv hp n g (divL p f g).2 pg pr (by omega)
   exact ⟨Dv.step hp pf pg (by omega) a b, a⟩
theorem gcdL_dv {p : Int} {f g : List Int} (hp : IsP p) (pf : Po p f) (pg : Po p g) : Dv p (gcdL p f g) f ∧ Dv p (gcdL p f g) g := gcdF_dv hp _ f g pf pg (Nat.lt_succ_self _)
theorem Dv.rest {p : Int} {d f : List Int} (hp : IsP p) (pf : Po p f) (pd : Po p d) (h0 : 0 < d.length) (h1 : co d (d.length - 1) = 1) (h : Dv p d f) : (divL p f d).2 = [] := by
 obtain ⟨d1, d2, d3, d4, d5, d6⟩ := divL_facts hp pf.inR pd.inR pd.nz h0
 have hl := d2 pf.nz
 obtain ⟨Q, N, z, e⟩ := h
 have er : ∀ t, cg p (co (divL p f d).2 t) (cv (fun i => Q i - co (divL p f d).1 i) (co d) t) := fun t => by
  have q1 := (d1 t).symm.trans (e t)
  have q2 : cv (fun i => Q i - co (divL p f d).1 i) (co d) t = cv Q (co d) t - cv (co (divL p f d).1) (co d) t := by
   have := cv_addl (fun i => Q i - co (divL p f d).1 i) (co (divL p f d).1) (co d) t
   have e2 : (fun i => Q i - co (divL p f d).1 i + co (divL p f d).1 i) = Q := funext fun i => by omega
   rw [e2] at this; omega
  rw [q2]
  have q3 := q1.sub (cg.refl (cv (co (divL p f d).1) (co d) t))
  refine cg.trans (cg.of_eq ?_) q3
  omega
 generalize hQ : (fun i => Q i - co (divL p f d).1 i) = Q' at er
 have hz : ∀ i, N + (divL p f d).1.length ≤ i → cg p (Q' i) 0 := fun i hi => by
  rw [← hQ]; show cg p (Q i - co (divL p f d).1 i) 0
  rw [z i (by omega), co_ge (by omega)]; exact cg.refl 0
 have down : ∀ M, (∀ i, M ≤ i → cg p (Q' i) 0) → ∀ i, cg p (Q' i) 0 := by
  intro M
  induction M with
  | zero => intro h i; exact h i (Nat.zero_le _)
  | succ M ih =>
   intro h
   refine ih fun i hi => ?_
   rcases Nat.lt_or_ge M i with hm | hm
   ·
    exact h i hm
   ·
    have ei : i = M := by omega
    subst ei
    have q := er (i + (d.length - 1))
    rw [co_ge (by omega)] at q
    have q2 : cg p (cv Q' (co d) (i + (d.length - 1))) (Q' i) := by
     unfold cv
     have e1 : i + (d.length - 1) + 1 = i + (1 + (d.length - 1)) := by omega
     rw [e1, su_split, su_split]
     have s1 : su (fun j => Q' j * co d (i + (d.length - 1) - j)) i = 0 := su_zero fun j hj => by rw [co_ge (by omega), Int.mul_zero]
     have s3 : cg p (su (fun j => Q' (i + (1 + j)) * co d (i + (d.length - 1) - (i + (1 + j)))) (d.length - 1)) (su (fun _ => 0) (d.length - 1)) := cg.su fun j _ => by
      have := (h (i + (1 + j)) (by omega)).mul (cg.refl (co d (i + (d.length - 1) - (i + (1 + j)))))
      rwa [Int.zero_mul] at this
     rw [su_zero (f := fun _ => 0) (fun _ _ => rfl)] at s3
     have s2 : su (fun j => Q' (i + j) * co d (i + (d.length - 1) - (i + j))) 1 = Q' i := by
      show 0 + Q' (i + 0) * co d (i + (d.length - 1) - (i + 0)) = Q' i
      rw [Nat.add_zero, show i + (d.length - 1) - i = d.length - 1 by omega, h1]; omega
     rw [s1, s2]
     have := (cg.refl (0 + Q' i)).add s3
     refine cg.trans (cg.of_eq ?_) (this.trans (cg.of_eq ?_))
     ·
      omega
     ·
      omega
    exact q2.symm.trans q.symm
 have all := down _ hz
 have r0 : ∀ t, co (divL p f d).2 t = 0 := fun t => by
  have q : cg p (co (divL p f d).2 t) 0 := (er t).trans (cg.trans (cg.cv (F' := fun _ => 0) (G' := co d) all (fun i => cg.refl _) t) (cg.of_eq (cv_zero _ _)))
  exact q.eq (d5.co hp.p0 t) ⟨Int.le_refl 0, hp.p0⟩
 have := (d3 pf.nz).len_le (n := 0) fun i _ => r0 i
 exact List.eq_nil_of_length_eq_zero (by omega)
def ev (F : Nat → Int) (N : Nat) (x : Int) : Int := su (fun i => F i * x ^ i) N
theorem ev_ext {F : Nat → Int} {N M : Nat} (x : Int) (h : N ≤ M) (hz : ∀ i, N ≤ i → F i = 0) : ev F M x = ev F N x :=
 su_ext h fun i h1 _ => by rw [hz i h1, Int.zero_mul]
theorem co_cons (c : Int) (f : List Int) (i : Nat) : co (c :: f) (i + 1) = co f i := rfl
theorem ev_cons (c : Int) (f : List Int) (N : Nat) (x : Int) : ev (co (c :: f)) (N + 1) x = ev (co f) N x * x + c := by
 unfold ev
 rw [su_head, ← su_mulr, Int.add_comm]
 congr 1
 ·
  exact su_congr fun i _ => by simp only [co_cons, Int.pow_succ, Int.mul_assoc]
 ·
  show c * x ^ 0 = c
  rw [Int.pow_zero, Int.mul_one]
theorem ev_cg {p : Int} {F G : Nat → Int} (h : ∀ i, cg p (F i) (G i)) (N : Nat) (x : Int) : cg p (ev F N x) (ev G N x) := cg.su fun i _ => (h i).mul (cg.refl _)
theorem valL_ev (p : Int) (f : List Int) (x : Int) : cg p (valL p f x) (ev (co f) f.length x) := by
 induction f with
 | nil => exact cg.refl _
 | cons c f ih =>
  show cg p ((valL p f x * x + c) % p) _
  rw [List.length_cons, ev_cons]
  exact (cg.mod _ _).trans ((ih.mul (cg.refl x)).add (cg.refl c))
theorem valL_evN {p : Int} {f : List Int} {N : Nat} (x : Int) (h : f.length ≤ N) : cg p (valL p f x) (ev (co f) N x) := by
 rw [ev_ext x h fun i hi => co_ge hi]; exact valL_ev p f x
theorem ev_cv {F G : Nat → Int} {a b : Nat} (x : Int) (hF : ∀ i, a ≤ i → F i = 0) (hG : ∀ i, b ≤ i → G i = 0) : ev (cv F G) (a + b) x = ev F a x * ev G b x := by
 have h1 : ev (cv F G) (a + b) x = su (fun i => su (fun j => F j * G (i - j) * x ^ i) (i + 1)) (a + b) :=
  su_congr fun i _ => (su_mulr _ _ _).symm
 rw [h1, su_tri (fun i j => F j * G (i - j) * x ^ i), ← ev_ext x (Nat.le_add_right a b) hF]
 unfold ev
 rw [← su_mulr]
 refine su_congr fun j hj => ?_
 by_cases hja : j < a
 ·
  have e : su (fun i => G i * x ^ i) (a + b - j) = su (fun i => G i * x ^ i) b := su_ext (by omega) fun i h1 _ => by rw [hG i h1, Int.zero_mul]
  rw [← e, ← su_mul]
  exact su_congr fun i _ => by
   rw [show j + i - j = i by omega, Int.pow_add]
   grind
 ·
  rw [hF j (by omega), Int.zero_mul, Int.zero_mul]
  exact su_zero fun i _ => by rw [Int.zero_mul, Int.zero_mul]
theorem valL_eq {p x y : Int} {f : List Int} (hp : 0 < p) (h : cg p (valL p f x) y) : valL p f x = y % p := by
 rw [← h.emod, Int.emod_eq_of_lt (valL_bd hp f x).1 (valL_bd hp f x).2]
theorem valL_mul {p : Int} (hp : 0 < p) (f g : List Int) (x : Int) : valL p (mulL p f g) x = valL p f x * valL p g x % p := by
 refine valL_eq hp ?_
 have hl := mulL_len p f g
 refine (valL_evN (N := f.length + g.length) x (by omega)).trans ?_
 have h1 : cg p (ev (co (mulL p f g)) (f.length + g.length) x) (ev (cv (co f) (co g)) (f.length + g.length) x) :=
  ev_cg (fun i => by rw [co_mulL hp]; exact cg.mod _ _) _ _
 refine h1.trans ?_
 rw [ev_cv x (fun i => co_ge) fun i => co_ge]
 exact ((valL_ev p f x).mul (valL_ev p g x)).symm
theorem ev_lin (F G : Nat → Int) (c : Int) (N : Nat) (x : Int) : ev (fun i => F i + c * G i) N x = ev F N x + c * ev G N x := by
 unfold ev
 rw [← su_mul, ← su_add]
 exact su_congr fun i _ => by rw [Int.add_mul, Int.mul_assoc]
theorem valL_add {p : Int} (hp : 0 < p) {f : List Int} (rf : InR p f) (g : List Int) (c x : Int) : valL p (addL p f g c) x = (valL p f x + c * valL p g x) % p := by
 refine valL_eq hp ?_
 have hl := addL_len p f g c
 refine (valL_evN (N := max f.length g.length) x hl).trans ?_
 have h1 : cg p (ev (co (addL p f g c)) (max f.length g.length) x) (ev (fun i => co f i + c * co g i) (max f.length g.length) x) :=
  ev_cg (fun i => by rw [co_addL hp rf]; exact cg.mod _ _) _ _
 refine h1.trans ?_
 rw [ev_lin]
 exact ((valL_evN x (Nat.le_max_left _ _)).symm).add ((cg.refl c).mul (valL_evN x (Nat.le_max_right _ _)).symm)
theorem mem_rootsL {p : Int} (hp : 0 < p) {f : List Int} {x : Int} : x ∈ rootsL p f ↔ (0 ≤ x ∧ x < p) ∧ valL p f x = 0 := by
 unfold rootsL rts
 rw [List.mem_filter, List.mem_map, decide_eq_true_eq]
 constructor
 ·
  rintro ⟨⟨n, hn, rfl⟩, h⟩
  rw [List.mem_range] at hn
  exact ⟨by omega, h⟩
 ·
  rintro ⟨⟨h0, h1⟩, h⟩
  exact ⟨⟨x.toNat, List.mem_range.2 (by omega), by omega⟩, h⟩
theorem isP_nat (p : Nat) (h2 : 2 ≤ p) (hm : p ≤ 10007) (h : ∀ d, d < 101 → 2 ≤ d → d * d ≤ p → p % d ≠ 0) : IsP (p : Int) := by
 refine ⟨by omega, by omega, ?_⟩
 rw [Int.toNat_natCast]
 refine Pr.of_trial h2 fun d hd hdd => h d ?_ hd hdd
 exact Nat.lt_of_not_le fun hge => by
  have := Nat.mul_le_mul hge hge
  omega
theorem draw_isP {v : Int} (hv : v ∈ ([2, 3, 5, 7, 7, 11, 13, 17, 31, 101, 997, 10007] : List Int)) : IsP v := by
 simp only [List.mem_cons, List.not_mem_nil, or_false] at hv
 rcases hv with rfl | rfl | rfl | rfl | rfl | rfl | rfl | rfl | rfl | rfl | rfl | rfl
 ·
  exact isP_nat 2 (by decide) (by decide) (by decide)
 ·
  exact isP_nat 3 (by decide) (by decide) (by decide)
 ·
  exact isP_nat 5 (by decide) (by decide) (by decide)
 ·
  exact isP_nat 7 (by decide) (by decide) (by decide)
 ·
  exact isP_nat 7 (by decide) (by decide) (by decide)
 ·
  exact isP_nat 11 (by decide) (by decide) (by decide)
 ·
  exact isP_nat 13 (by decide) (by decide) (by decide)
 ·
  exact isP_nat 17 (by decide) (by decide) (by decide)
 ·
  exact isP_nat 31 (by decide) (by decide) (by decide)
 ·
  exact isP_nat 101 (by decide) (by decide) (by decide)
 ·
  exact isP_nat 997 (by decide) (by decide) (by decide +kernel)
 ·
  exact isP_nat 10007 (by decide) (by decide) (by decide +kernel)
theorem draw6_j1 {l : List Int} (hb : Bytes l) {i : Int} (h0 : 0 ≤ i) (h1 : i ≤ l.length) (s p : Int) (f : List Int) (hf : f.length ≤ 1000) :
  ∃ (q : Int) (g : List Int) (j t : Int), Ev (fun k => spec_l06Draw.j1 k p f l i s) (q, g, j, t) ∧ 0 ≤ j ∧ j ≤ l.length ∧ g.length ≤ 1001 := by
 obtain ⟨v, j, t, e, j0, j1, v0, v1⟩ := draw_next hb h0 h1 s 40
 have ho : spec_l01Own.f f = some f := own_some f (by omega)
 have hl : f.length < 17592186044416 := by omega
 by_cases c0 : v = 0
 ·
  refine ⟨p, f ++ [0], j, t, Ev.succ ?_, j0, j1, by simp; omega⟩
  simp only [spec_l06Draw.j1, e, Option.bind_some, if_pos c0, ho, if_pos hl]; exact Ev.now _
 by_cases c1 : v = 1
 ·
  obtain ⟨v', j', t', e', j0', j1', _⟩ := draw_pick hb j0 j1 t ([0, 1, 4, 9] : List Int) (by simp)
  refine ⟨v', f, j', t', Ev.succ ?_, j0', j1', by omega⟩
  simp only [spec_l06Draw.j1, e, Option.bind_some, if_neg c0, if_pos c1, e']; exact Ev.now _
 by_cases c2 : v = 2
 ·
  refine ⟨p, [], j, t, Ev.succ ?_, j0, j1, by simp⟩
  simp only [spec_l06Draw.j1, e, Option.bind_some, if_neg c0, if_neg c1, if_pos c2]; exact Ev.now _
 ·
  refine ⟨p, f, j, t, Ev.succ ?_, j0, j1, by omega⟩
  simp only [spec_l06Draw.j1, e, Option.bind_some, if_neg c0, if_neg c1, if_neg c2]; exact Ev.now _
theorem mn_le (a b : Int) : mn a b ≤ a ∧ mn a b ≤ b ∧ (1 ≤ a → 1 ≤ b → 1 ≤ mn a b) := by unfold mn; split <;> omega
theorem draw6_l0 {l : List Int} (hb : Bytes l) {p : Int} (hp : IsP p) : ∀ (d : Nat) (out : List Int) (i s : Int), 0 ≤ i → i ≤ l.length → out.length + d ≤ 10 → InR p out →
  ∃ (q : Int) (g : List Int) (j t : Int), Ev (fun k => spec_l06Draw.l0 k p out (d : Int) l i s) (q, g, j, t) ∧ 0 ≤ j ∧ j ≤ l.length ∧ g.length ≤ 1001 := by
 have hp2 := hp.p2
 have hpm := hp.pm
 intro d
 induction d with
 | zero =>
  intro out i s h0 h1 hl hr
  have hof := spec_of hp (by omega) hr
  have lof := ofL_len p out out.length
  have rof := ofL_inR (p := p) hp.p2 out out.length
  obtain ⟨v, j, t, e, j0, j1, v0, v1⟩ := draw_next hb h0 h1 s 3
  have q1 : ¬ (((0 : Nat) : Int) > 0) := by omega
  by_cases hv : v = 0
  ·
   obtain ⟨g, j2, t2, e2, j20, j21, lg, rg⟩ := draw_poly hb (p := p) (n := 3) (by omega) (by omega) (by omega) j0 j1 t
   have lm := mulL_len p (ofL p out out.length) g
   obtain ⟨q, h, j3, t3, e3, r3⟩ := draw6_j1 hb j20 j21 t2 p (mulL p (ofL p out out.length) g) (by omega)
   refine ⟨q, h, j3, t3, Ev.succ ?_, r3⟩
   simp only [spec_l06Draw.l0, if_neg q1]
   refine Ev.bind hof ?_
   simp only [e, Option.bind_some, if_pos hv]
   refine Ev.bind e2 ?_
   refine Ev.bind (spec_product hp.p2 hp.pm (by omega) (show g.length ≤ 1000 by omega) rof rg) ?_
   exact e3
  ·
   obtain ⟨q, h, j3, t3, e3, r3⟩ := draw6_j1 hb j0 j1 t p (ofL p out out.length) (by omega)
   refine ⟨q, h, j3, t3, Ev.succ ?_, r3⟩
   simp only [spec_l06Draw.l0, if_neg q1]
   refine Ev.bind hof ?_
   simp only [e, Option.bind_some, if_neg hv]
   exact e3
 | succ d ih =>
  intro out i s h0 h1 hl hr
  obtain ⟨v, j, t, e, j0, j1, v0, v1⟩ := draw_next hb h0 h1 s p
  obtain ⟨v', j', t', e', j0', j1', v0', v1'⟩ := draw_next hb j0 j1 t (mn p 4)
  obtain ⟨x, j2, t2, e2, j20, j21, hx⟩ := draw_pick hb j0' j1' t' ([v, v'] : List Int) (by simp)
  have hm := mn_le p 4
  have v2 := v1 (by omega)
  have v2' := v1' (hm.2.2 (by omega) (by omega))
  have hx2 : 0 ≤ x ∧ x < p := by simp at hx; omega
  obtain ⟨q, g, j3, t3, e3, r3⟩ := ih (out ++ [x]) j2 t2 j20 j21 (by simp; omega) (hr.append (InR.one hx2))
  refine ⟨q, g, j3, t3, Ev.succ ?_, r3⟩
  have q1 : ((d + 1 : Nat) : Int) > 0 := by omega
  have q2 : out.length < 17592186044416 := by omega
  have q3 : wrap64 (((d + 1 : Nat) : Int) - 1) = (d : Int) := by rw [w64 (by omega) (by omega)]; omega
  simp only [spec_l06Draw.l0, if_pos q1, e, e', e2, Option.bind_some, if_pos q2, q3]
  exact e3
theorem draw6 {l : List Int} (hb : Bytes l) {i : Int} (h0 : 0 ≤ i) (h1 : i ≤ l.length) (s : Int) :
  ∃ (q : Int) (g : List Int) (j t : Int), Ev (fun k => spec_l06Draw.f k l i s) (q, g, j, t) ∧ 0 ≤ j ∧ j ≤ l.length ∧ g.length ≤ 1001 := by
 obtain ⟨p, j, t, e, j0, j1, hp⟩ := draw_prime hb h0 h1 s
 have hp := draw_isP hp
 have hp2 := hp.p2
 obtain ⟨v, j2, t2, e2, j20, j21, v0, v1⟩ := draw_next hb j0 j1 t 12
 have v1 := v1 (by omega)
 obtain ⟨n, j3, t3, e3, j30, j31, hn⟩ := draw_pick hb j20 j21 t2 ([1, 2, 3, 4, v] : List Int) (by simp)
 have hn' : 0 ≤ n ∧ n ≤ 100 := by simp at hn; omega
 obtain ⟨f, j4, t4, e4, j40, j41, lf, rf⟩ := draw_poly hb (p := p) (n := n) (by omega) hn'.1 hn'.2 j30 j31 t3
 obtain ⟨v5, j5, t5, e5, j50, j51, _⟩ := draw_next hb j40 j41 t4 2
 by_cases hv : v5 = 0
 ·
  obtain ⟨v6, j6, t6, e6, j60, j61, a6, b6⟩ := draw_next hb j50 j51 t5 6
  have b6 := b6 (by omega)
  obtain ⟨m, rfl⟩ : ∃ m : Nat, v6 = (m : Int) := ⟨v6.toNat, by omega⟩
  obtain ⟨q, g, j7, t7, e7, r7⟩ := draw6_l0 hb hp m [] j6 t6 j60 j61 (by simp; omega) InR.nil
  refine ⟨q, g, j7, t7, ?_, r7⟩
  simp only [spec_l06Draw.f, e, e2, e3, Option.bind_some]
  refine Ev.bind e4 ?_
  simp only [e5, Option.bind_some, if_pos hv, e6]
  exact e7
 ·
  obtain ⟨q, g, j7, t7, e7, r7⟩ := draw6_j1 hb j50 j51 t5 p f (by omega)
  refine ⟨q, g, j7, t7, ?_, r7⟩
  simp only [spec_l06Draw.f, e, e2, e3, Option.bind_some]
  refine Ev.bind e4 ?_
  simp only [e5, Option.bind_some, if_neg hv]
  exact e7
theorem draw_rootsin {l : List Int} (hb : Bytes l) : ∃ (p : Int) (f : List Int), Ev (fun k => spec_DrawRootsIn.f k l) (p, f) ∧ f.length ≤ 1001 := by
 obtain ⟨s, hs⟩ := draw_from l hb.1
 obtain ⟨p, f, j, t, e, j0, j1, lf⟩ := draw6 hb (i := 0) (by omega) (by omega) s
 exact ⟨p, f, by simp only [spec_DrawRootsIn.f]; exact Ev.bind hs (Ev.bind e (Ev.now _)), lf⟩
def syl (F G : Nat → Int) (n m : Nat) (i j : Nat) : Int := if i < m then (if j ≤ n + i then F (n + i - j) else 0) else (if j ≤ i then G (i - j) else 0)
theorem syl_swap (F G : Nat → Int) (n m : Nat) : zdt (n + m) (syl G F m n) = ZR.sg (m * n) (zdt (n + m) (syl F G n m)) := by
 have e : zdt (n + m) (Rin.bk (syl F G n m) m n) = ZR.sg (m * n) (zdt (n + m) (syl F G n m)) := ZR.dt_bk m _ (by omega)
 rw [← e]
 refine zdt_congr fun i j hi _ => ?_
 unfold Rin.bk syl
 by_cases h : i < n
 ·
  rw [if_pos h, if_pos h, if_neg (show ¬ m + i < m by omega)]
 ·
  rw [if_neg h, if_neg h, if_pos (show i < n + m by omega), if_pos (show i - n < m by omega), show n + (i - n) = i by omega]
theorem zsg_even (a : Int) : ∀ k, ZR.sg k a = if k % 2 = 1 then -a else a
 | 0 => rfl
 | k + 1 => by
  rw [Rin.sg, zsg_even a k]
  show - (if k % 2 = 1 then -a else a) = _
  by_cases h : k % 2 = 1
  ·
   rw [if_pos h, if_neg (by omega)]; omega
  ·
   rw [if_neg h, if_pos (by omega)]
theorem su_win (U F : Nat → Int) (m e : Nat) (hU : ∀ i, m ≤ i → U i = 0) : su (fun a => U a * (if a ≤ e then F (e - a) else 0)) m = cv U F e := by
 have h1 : su (fun a => U a * (if a ≤ e then F (e - a) else 0)) (max m (e + 1)) = su (fun a => U a * (if a ≤ e then F (e - a) else 0)) m := su_ext (Nat.le_max_left _ _) fun i hi _ => by rw [hU i hi, Int.zero_mul]
 have h2 : su (fun a => U a * (if a ≤ e then F (e - a) else 0)) (max m (e + 1)) = su (fun a => U a * (if a ≤ e then F (e - a) else 0)) (e + 1) := su_ext (Nat.le_max_right _ _) fun i hi _ => by rw [if_neg (by omega), Int.mul_zero]
 rw [← h1, h2]
 exact su_congr fun i hi => by rw [if_pos (by omega)]
theorem syl_sum (F G U V : Nat → Int) {n m j : Nat} (hj : j < n + m) (hU : ∀ i, m ≤ i → U i = 0) (hV : ∀ i, n ≤ i → V i = 0) :
  su (fun i => (if i < m then U (m - 1 - i) else V (n + m - 1 - i)) * syl F G n m i j) (n + m) = cv U F (n + m - 1 - j) + cv V G (n + m - 1 - j) := by
 rw [Nat.add_comm n m, su_split]
 congr 1
 ·
  rw [← su_win U F m _ hU]
  refine Eq.trans (su_congr fun i hi => ?_) (su_rev (fun a => U a * (if a ≤ m + n - 1 - j then F (m + n - 1 - j - a) else 0)) m)
  rw [if_pos hi]
  unfold syl
  rw [if_pos hi]
  congr 1
  by_cases h : j ≤ n + i
  ·
   rw [if_pos h, if_pos (by omega), show m + n - 1 - j - (m - 1 - i) = n + i - j by omega]
  ·
   rw [if_neg h, if_neg (by omega)]
 ·
  rw [← su_win V G n _ hV]
  refine Eq.trans (su_congr fun i hi => ?_) (su_rev (fun a => V a * (if a ≤ m + n - 1 - j then G (m + n - 1 - j - a) else 0)) n)
  rw [if_neg (by omega)]
  unfold syl
  rw [if_neg (by omega), show m + n - 1 - (m + i) = n - 1 - i by omega]
  congr 1
  by_cases h : j ≤ m + i
  ·
   rw [if_pos h, if_pos (by omega), show m + n - 1 - j - (n - 1 - i) = m + i - j by omega]
  ·
   rw [if_neg h, if_neg (by omega)]
theorem top_zero {p : Int} (hp : IsP p) {U F : Nat → Int} {n m : Nat} (hF : ∀ i, n < i → F i = 0) (hu : ¬ cg p (F n) 0) (h : ∀ t, n + m ≤ t → cg p (cv U F t) 0) : ∀ N, (∀ i, N ≤ i → cg p (U i) 0) → ∀ i, m ≤ i → cg p (U i) 0 := by
 intro N
 induction N with
 | zero => intro hN i _; exact hN i (Nat.zero_le _)
 | succ N ih =>
  intro hN
  by_cases hm : m ≤ N
  ·
   refine ih fun i hi => ?_
   by_cases e : i = N
   ·
    subst e
    have h1 := h (i + n) (by omega)
    have h2 : cg p (cv U F (i + n)) (U i * F n) := by
     unfold cv
     rw [show i + n + 1 = i + (n + 1) by omega, su_split, su_zero fun k hk => by rw [hF _ (by omega), Int.mul_zero], Int.zero_add, su_head, Nat.add_zero, show i + n - i = n by omega]
     have h3 : cg p (su (fun k => U (i + (k + 1)) * F (i + n - (i + (k + 1)))) n) (su (fun _ => 0) n) := cg.su fun k _ => by
      have := (hN (i + (k + 1)) (by omega)).mul (cg.refl (F (i + n - (i + (k + 1)))))
      rwa [Int.zero_mul] at this
     rw [su_zero (f := fun _ => (0 : Int)) fun _ _ => rfl] at h3
     have := (cg.refl (U i * F n)).add h3
     rwa [Int.add_zero] at this
    rcases cg_mul0 hp (h2.symm.trans h1) with h4 | h4
    ·
     exact h4
    ·
     exact absurd h4 hu
   ·
    exact hN i (by omega)
  ·
   intro i hi; exact hN i (by omega)
theorem cv_fin1 {F G : Nat → Int} {a b : Nat} (hF : ∀ i, a ≤ i → F i = 0) (hG : ∀ i, b ≤ i → G i = 0) (t : Nat) (ht : a + b ≤ t + 1) : cv F G t = 0 :=
 su_zero fun i hi => by
  rcases Nat.lt_or_ge i a with h | h
  ·
   rw [hG (t - i) (by omega), Int.mul_zero]
  ·
   rw [hF i h, Int.zero_mul]
def ct (U : Nat → Int) (m : Nat) : Nat → Int := fun i => if i < m then U i else 0
theorem ct_zero (U : Nat → Int) (m : Nat) : ∀ i, m ≤ i → ct U m i = 0 := fun i hi => if_neg (by omega)
theorem ct_cg {p : Int} {U : Nat → Int} {m : Nat} (h : ∀ i, m ≤ i → cg p (U i) 0) (i : Nat) : cg p (ct U m i) (U i) := by
 unfold ct
 by_cases e : i < m
 ·
  rw [if_pos e]; exact cg.refl _
 ·
  rw [if_neg e]; exact (h i (by omega)).symm
theorem po_top {p : Int} (hp : IsP p) {f : List Int} (pf : Po p f) (h0 : 0 < f.length) : ¬ cg p (co f (f.length - 1)) 0 := fun h => by
 have h1 := pf.nz.top pf.inR (by have := hp.1; omega) h0
 have h2 := cg.zero.1 h
 rw [Int.emod_eq_of_lt (by omega) h1.2] at h2
 omega
theorem syl_common {p : Int} (hp : IsP p) {f g d : List Int} {n m : Nat} (pf : Po p f) (lf : f.length = n + 1) (lg : g.length ≤ m + 1) (pd : Po p d) (ld : 2 ≤ d.length) (hf : Dv p d f) (hg : Dv p d g) : cg p (zdt (n + m) (syl (co f) (co g) n m)) 0 := by
 obtain ⟨Q, N, zQ, eQ⟩ := hf
 obtain ⟨Q', N', zQ', eQ'⟩ := hg
 have hd0 : ∀ i, d.length - 1 < i → co d i = 0 := fun i hi => co_ge (by omega)
 have hdu := po_top hp pd (by omega)
 have hQ : ∀ i, n ≤ i → cg p (Q i) 0 := fun i hi => top_zero hp (m := n + 1 - (d.length - 1)) hd0 hdu (fun t ht => (eQ t).symm.trans (cg.of_eq (co_ge (by omega)))) N (fun i hi => cg.of_eq (zQ i hi)) i (by omega)
 have hQ' : ∀ i, m ≤ i → cg p (Q' i) 0 := fun i hi => top_zero hp (m := m + 1 - (d.length - 1)) hd0 hdu (fun t ht => (eQ' t).symm.trans (cg.of_eq (co_ge (by omega)))) N' (fun i hi => cg.of_eq (zQ' i hi)) i (by omega)
 -- some number of Q is not 0
 obtain ⟨t, ht, hne⟩ : ∃ t, t < n ∧ ¬ cg p (Q t) 0 := by
  refine Classical.byContradiction fun hno => ?_
  have hall : ∀ i, cg p (Q i) 0 := fun i => by
   rcases Nat.lt_or_ge i n with h | h
   ·
    exact Classical.byContradiction fun h2 => hno ⟨i, h, h2⟩
   ·
    exact hQ i h
  have h1 : cg p (co f n) 0 := by
   refine (eQ n).trans ?_
   have := cg.cv (p := p) (F := Q) (F' := fun _ => 0) (G := co d) (G' := co d) hall (fun _ => cg.refl _) n
   rwa [cv_zero] at this
  have := po_top hp pf (by omega)
  rw [lf, Nat.add_sub_cancel] at this
  exact this h1
 have hdep := depend (p := p) (n := n + m) (k := n + m - 1 - t) (by omega) (syl (co f) (co g) n m) (fun i => if i < m then ct Q' m (m - 1 - i) else (fun i => - ct Q n i) (n + m - 1 - i)) fun j hj => by
  rw [syl_sum (co f) (co g) (ct Q' m) (fun i => - ct Q n i) hj (ct_zero _ _) (fun i hi => by rw [ct_zero _ _ i hi]; rfl)]
  generalize n + m - 1 - j = e
  have a1 : cg p (cv (ct Q' m) (co f) e) (cv Q' (cv Q (co d)) e) := cg.cv (ct_cg hQ') eQ e
  have a2 : cg p (cv (fun i => - ct Q n i) (co g) e) (cv (fun i => - Q i) (cv Q' (co d)) e) := cg.cv (fun i => (ct_cg hQ i).neg) eQ' e
  have a3 : cv (fun i => - Q i) (cv Q' (co d)) e = - cv Q' (cv Q (co d)) e := by
   have := cv_mull (-1) Q (cv Q' (co d)) e
   rw [show (fun i => -1 * Q i) = fun i => - Q i from funext fun i => by omega] at this
   rw [this, ← cv_assoc Q Q' (co d), ← cv_assoc Q' Q (co d), show cv Q Q' = cv Q' Q from funext fun i => cv_comm _ _ _]
   omega
  rw [a3] at a2
  have := a1.add a2
  rwa [Int.add_right_neg] at this
 rw [if_neg (by omega)] at hdep
 have e1 : (fun i => - ct Q n i) (n + m - 1 - (n + m - 1 - t)) = - Q t := by
  show - ct Q n (n + m - 1 - (n + m - 1 - t)) = _
  rw [show n + m - 1 - (n + m - 1 - t) = t by omega]
  unfold ct; rw [if_pos ht]
 rw [e1] at hdep
 rcases cg_mul0 hp hdep with h | h
 ·
  exfalso; have := h.neg; rw [Int.neg_neg, Int.neg_zero] at this; exact hne this
 ·
  exact h
def Bz (p : Int) (f g d : List Int) : Prop := ∃ (U V : Nat → Int) (N : Nat), (∀ i, N ≤ i → U i = 0 ∧ V i = 0) ∧ ∀ t, cg p (cv U (co f) t + cv V (co g) t) (co d t)
theorem bezF {p : Int} (hp : IsP p) : ∀ (n : Nat) (f g : List Int), Po p f → Po p g → g.length < n → Bz p f g (gcdF p n f g)
 | 0, f, g, _, _, h => by omega
 | n + 1, f, g, pf, pg, h => by
  have lg := pg.len
  have hp0 : 0 < p := by have := hp.1; omega
  rw [gcdF]
  by_cases hg : g.length = 0
  ·
   rw [if_pos hg]
   by_cases hf : f.length = 0
   ·
    rw [if_pos hf]
    exact ⟨fun _ => 0, fun _ => 0, 0, fun _ _ => ⟨rfl, rfl⟩, fun t => by rw [cv_zero, cv_zero, co_nil]; exact cg.refl 0⟩
   ·
    rw [if_neg hf]
    refine ⟨fun i => if i = 0 then inv p (rd f ((f.length : Int) - 1)) else 0, fun _ => 0, 1, fun i hi => ⟨if_neg (by omega), rfl⟩, fun t => ?_⟩
    rw [cv_one, cv_zero, Int.add_zero, co_monic hp0]
    exact (cg.mod p _).symm
  ·
   rw [if_neg hg]
   obtain ⟨d1, d2, d3, d4, d5, d6⟩ := divL_facts hp pf.inR pg.inR pg.nz (by omega)
   have hl := d2 pf.nz
   have pr : Po p (divL p f g).2 := Po.of (by omega) d5 (d3 pf.nz)
   obtain ⟨U, V, N, hz, he⟩ := bezF hp n g (divL p f g).2 pg pr (by omega)
   generalize (divL p f g).1 = q at d1 d4 d6
   generalize (divL p f g).2 = r at d1 he pr hl
   refine ⟨V, fun i => U i - cv V (co q) i, N + q.length, fun i hi => ⟨(hz i (by omega)).2, ?_⟩, fun t => ?_⟩
   ·
    show U i - cv V (co q) i = 0
    rw [(hz i (by omega)).1, cv_fin (a := N) (b := q.length) (fun j hj => (hz j hj).2) (fun j hj => co_ge hj) i (by omega)]; rfl
   ·
    have e1 : cv (fun i => U i - cv V (co q) i) (co g) t = cv U (co g) t - cv V (cv (co q) (co g)) t := by
     have := cv_addl (fun i => U i - cv V (co q) i) (cv V (co q)) (co g) t
     rw [show (fun i => U i - cv V (co q) i + cv V (co q) i) = U from funext fun i => by omega, cv_assoc] at this
     omega
    have e2 : cg p (cv V (co f) t) (cv V (cv (co q) (co g)) t + cv V (co r) t) := by
     rw [← cv_addr]; exact cg.cv (fun _ => cg.refl _) d1 t
    rw [e1]
    refine cg.trans ?_ (he t)
    have := e2.add (cg.refl (cv U (co g) t - cv V (cv (co q) (co g)) t))
    refine this.trans (cg.of_eq ?_)
    omega
def ls (p : Int) (V : Nat → Int) (N : Nat) : List Int := trimL ((List.range N).map fun i => V i % p)
theorem co_ls {p : Int} {V : Nat → Int} {N : Nat} (hV : ∀ i, N ≤ i → V i = 0) (t : Nat) : cg p (co (ls p V N) t) (V t) := by
 unfold ls
 rw [co_trim]
 by_cases h : t < N
 ·
  have : co ((List.range N).map fun i => V i % p) t = V t % p := by
   unfold co; rw [List.getD_eq_getElem?_getD, List.getElem?_map, List.getElem?_range h]; rfl
  rw [this]; exact cg.mod _ _
 ·
  rw [co_ge (by simp; omega), hV t (by omega)]; exact cg.refl 0
theorem ls_inR {p : Int} (hp : 0 < p) (V : Nat → Int) (N : Nat) : InR p (ls p V N) := by
 unfold ls
 refine InR.trim fun x hx => ?_
 obtain ⟨i, _, rfl⟩ := List.mem_map.1 hx
 exact emod_bd hp
theorem ls_nz (p : Int) (V : Nat → Int) (N : Nat) : Nz (ls p V N) := Nz.trim _
def mv (U : Nat → Int) (e : Nat) : Nat → Int := fun i => if e ≤ i then U (i - e) else 0
theorem mv_cv (U F : Nat → Int) (e t : Nat) : cv (mv U e) F t = if e ≤ t then cv U F (t - e) else 0 := by
 by_cases h : e ≤ t
 ·
  rw [if_pos h]
  unfold cv
  rw [show t + 1 = e + (t - e + 1) by omega, su_split, su_zero fun i hi => by unfold mv; rw [if_neg (by omega), Int.zero_mul], Int.zero_add]
  refine su_congr fun i hi => ?_
  unfold mv
  rw [if_pos (by omega), Nat.add_sub_cancel_left, show t - (e + i) = t - e - i by omega]
 ·
  rw [if_neg h]
  exact su_zero fun i hi => by unfold mv; rw [if_neg (by omega), Int.zero_mul]
theorem syl_coprime {p : Int} (hp : IsP p) {f g : List Int} {n m : Nat} (pf : Po p f) (lf : f.length = n + 1) (pg : Po p g) (lg : g.length ≤ m + 1) (hb : Bz p f g [1]) : ¬ cg p (zdt (n + m) (syl (co f) (co g) n m)) 0 := by
 intro h0
 have hp0 : 0 < p := by have := hp.1; omega
 obtain ⟨x, ⟨j0, hj0, hx⟩, hk⟩ := kern hp (n + m) _ h0
 obtain ⟨U0, V0, N, hz, he⟩ := hb
 have hfu := po_top hp pf (by omega)
 rw [lf, Nat.add_sub_cancel] at hfu
 have hf0 : ∀ i, n < i → co f i = 0 := fun i hi => co_ge (by omega)
 -- the power whose number is x j0
 obtain ⟨e0, he0⟩ : ∃ e0, e0 = n + m - 1 - j0 := ⟨_, rfl⟩
 have hV1 : ∀ i, N + e0 ≤ i → mv V0 e0 i = 0 := fun i hi => by unfold mv; rw [if_pos (by omega), (hz _ (by omega)).2]
 have hU1 : ∀ i, N + e0 ≤ i → mv U0 e0 i = 0 := fun i hi => by unfold mv; rw [if_pos (by omega), (hz _ (by omega)).1]
 have h1 : ∀ t, cg p (cv (mv U0 e0) (co f) t + cv (mv V0 e0) (co g) t) (if t = e0 then 1 else 0) := fun t => by
  rw [mv_cv, mv_cv]
  by_cases h : e0 ≤ t
  ·
   rw [if_pos h, if_pos h]
   refine (he (t - e0)).trans (cg.of_eq ?_)
   by_cases e : t = e0
   ·
    rw [if_pos e, e, Nat.sub_self]; rfl
   ·
    rw [if_neg e]; exact co_ge (by simp; omega)
  ·
   rw [if_neg h, if_neg h, if_neg (by omega)]; exact cg.refl _
 -- the second factor's rest by f
 obtain ⟨d1, d2, d3, d4, d5, d6⟩ := divL_facts hp (ls_inR hp0 (mv V0 e0) (N + e0)) pf.inR pf.nz (by omega)
 have hl := d2 (ls_nz _ _ _)
 generalize (divL p (ls p (mv V0 e0) (N + e0)) f).1 = q at d1 d4 d6
 generalize (divL p (ls p (mv V0 e0) (N + e0)) f).2 = r at d1 d3 d5 hl
 have hV2 : ∀ i, n ≤ i → co r i = 0 := fun i hi => co_ge (by omega)
 have h2 : ∀ t, cg p (cv (fun i => mv U0 e0 i + cv (co q) (co g) i) (co f) t + cv (co r) (co g) t) (if t = e0 then 1 else 0) := fun t => by
  refine cg.trans ?_ (h1 t)
  rw [cv_addl (mv U0 e0) (cv (co q) (co g)) (co f) t, cv_assoc, show cv (co g) (co f) = cv (co f) (co g) from funext fun i => cv_comm _ _ _, ← cv_assoc, Int.add_assoc]
  refine (cg.refl _).add ?_
  rw [← cv_addl (cv (co q) (co f)) (co r) (co g) t]
  exact cg.cv (fun i => (d1 i).symm.trans (co_ls hV1 i)) (fun _ => cg.refl _) t
 generalize hU2 : (fun i => mv U0 e0 i + cv (co q) (co g) i) = U2 at h2
 have hm : ∀ i, m ≤ i → cg p (U2 i) 0 := fun i hi => top_zero hp (n := n) (m := m) hf0 hfu (fun t ht => by
  have a := (h2 t).sub (cg.refl (cv (co r) (co g) t))
  rw [Int.add_sub_cancel, if_neg (by omega), cv_fin1 (a := n) (b := m + 1) hV2 (fun j hj => co_ge (by omega)) t (by omega), Int.sub_zero] at a
  ·
   exact a) (N + e0 + (q.length + g.length)) (fun i hi => by
   rw [← hU2]
   show cg p (mv U0 e0 i + cv (co q) (co g) i) 0
   rw [hU1 i (by omega), cv_fin (a := q.length) (b := g.length) (fun j hj => co_ge hj) (fun j hj => co_ge hj) i (by omega)]; exact cg.refl 0) i hi
 -- the rows' sum sends x to x j0
 have key : cg p (su (fun j => su (fun i => (if i < m then ct U2 m (m - 1 - i) else co r (n + m - 1 - i)) * syl (co f) (co g) n m i j) (n + m) * x j) (n + m)) (su (fun j => (if j = j0 then 1 else 0) * x j) (n + m)) := cg.su fun j hj => by
  refine cg.mul ?_ (cg.refl _)
  rw [syl_sum (co f) (co g) (ct U2 m) (co r) hj (ct_zero _ _) hV2]
  refine ((cg.cv (ct_cg hm) (fun _ => cg.refl _) (n + m - 1 - j)).add (cg.refl _)).trans ((h2 (n + m - 1 - j)).trans (cg.of_eq ?_))
  by_cases e : j = j0
  ·
   rw [if_pos e, if_pos (by omega)]
  ·
   rw [if_neg e, if_neg (by omega)]
 have left : cg p (su (fun j => su (fun i => (if i < m then ct U2 m (m - 1 - i) else co r (n + m - 1 - i)) * syl (co f) (co g) n m i j) (n + m) * x j) (n + m)) 0 := by
  have e1 : su (fun j => su (fun i => (if i < m then ct U2 m (m - 1 - i) else co r (n + m - 1 - i)) * syl (co f) (co g) n m i j) (n + m) * x j) (n + m) = su (fun i => (if i < m then ct U2 m (m - 1 - i) else co r (n + m - 1 - i)) * su (fun j => syl (co f) (co g) n m i j * x j) (n + m)) (n + m) := by
   rw [su_congr (g := fun j => su (fun i => (if i < m then ct U2 m (m - 1 - i) else co r (n + m - 1 - i)) * syl (co f) (co g) n m i j * x j) (n + m)) fun j _ => (su_mulr (x j) _ (n + m)).symm, su_swap]
   refine su_congr fun i _ => ?_
   rw [← su_mul]
   exact su_congr fun j _ => Int.mul_assoc _ _ _
  rw [e1]
  have := cg.su (p := p) (n := n + m) (f := fun i => (if i < m then ct U2 m (m - 1 - i) else co r (n + m - 1 - i)) * su (fun j => syl (co f) (co g) n m i j * x j) (n + m)) (g := fun _ => 0) fun i hi => by
   have := (cg.refl (p := p) (if i < m then ct U2 m (m - 1 - i) else co r (n + m - 1 - i))).mul (hk i hi)
   rwa [Int.mul_zero] at this
  rwa [su_zero (f := fun _ => (0 : Int)) fun _ _ => rfl] at this
 have right : su (fun j => (if j = j0 then 1 else 0) * x j) (n + m) = x j0 := by
  have e : ∀ k, su (fun j => (if j = j0 then 1 else 0) * x j) k = if j0 < k then x j0 else 0 := fun k => by
   induction k with
   | zero => rfl
   | succ k ih =>
    rw [su, ih]
    by_cases e : k = j0
    ·
     subst e; rw [if_neg (by omega), if_pos rfl, if_pos (by omega)]; omega
    ·
     rw [if_neg e, Int.zero_mul, Int.add_zero]
     by_cases e2 : j0 < k
     ·
      rw [if_pos e2, if_pos (by omega)]
     ·
      rw [if_neg e2, if_neg (by omega)]
  rw [e, if_pos hj0]
 rw [right] at key
 exact hx (key.symm.trans left)
theorem syl_iff {p : Int} (hp : IsP p) {f g : List Int} {n m : Nat} (pf : Po p f) (lf : f.length = n + 1) (pg : Po p g) (lg : g.length ≤ m + 1) : cg p (zdt (n + m) (syl (co f) (co g) n m)) 0 ↔ 1 < (gcdL p f g).length := by
 obtain ⟨pd, hd⟩ := gcdL_po hp pf pg
 obtain ⟨h0, h1⟩ := hd (.inl (by omega))
 obtain ⟨v1, v2⟩ := gcdL_dv hp pf pg
 constructor
 ·
  intro h
  refine Classical.byContradiction fun hn => syl_coprime hp pf lf pg lg ?_ h
  have hb := bezF hp (g.length + 1) f g pf pg (Nat.lt_succ_self _)
  have e : gcdF p (g.length + 1) f g = [1] := by
   show gcdL p f g = [1]
   have hl : (gcdL p f g).length = 1 := by omega
   obtain ⟨a, ha⟩ := List.length_eq_one_iff.1 hl
   rw [ha] at h1 ⊢
   have : a = 1 := h1
   rw [this]
  rwa [e] at hb
 ·
  intro h
  exact syl_common hp pf lf lg pd h v1 v2
theorem co_shl0 (N i : Nat) (l : List Int) (t : Nat) : co (shl0 N i l) t = if i ≤ t then co l (t - i) else 0 := by
 unfold co shl0
 rw [List.getD_eq_getElem?_getD, List.getD_eq_getElem?_getD]
 by_cases h : i ≤ t
 ·
  rw [if_pos h]
  by_cases h2 : t < i + l.length
  ·
   rw [List.getElem?_append_left (by simp; omega), List.getElem?_append_right (by simp; omega), List.length_replicate]
  ·
   rw [List.getElem?_append_right (by simp; omega), List.getElem?_replicate, List.getElem?_eq_none (show l.length ≤ t - i by omega)]
   split <;> rfl
 ·
  rw [if_neg h, List.append_assoc, List.getElem?_append_left (by simp; omega), List.getElem?_replicate]
  split <;> rfl
theorem shl0_set {N i k : Nat} {l : List Int} (hk : k < l.length) (hN : i + l.length ≤ N) : (shl0 N i (l.take k)).set (i + k) (co l k) = shl0 N i (l.take (k + 1)) := by
 have e1 : (shl0 N i (l.take k)).length = N := shl0_length (by rw [List.length_take]; omega)
 have e2 : (shl0 N i (l.take (k + 1))).length = N := shl0_length (by rw [List.length_take]; omega)
 refine co_ext (by rw [List.length_set, e1, e2]) fun t _ => ?_
 rw [co_set _ _ _ _ (by rw [e1]; omega), co_shl0, co_shl0]
 by_cases h : t = i + k
 ·
  rw [if_pos h, if_pos (by omega), co_take, if_pos (by omega), show t - i = k by omega]
 ·
  rw [if_neg h]
  by_cases h2 : i ≤ t
  ·
   rw [if_pos h2, if_pos h2, co_take, co_take]
   by_cases h3 : t - i < k
   ·
    rw [if_pos h3, if_pos (by omega)]
   ·
    rw [if_neg h3, if_neg (by omega)]
  ·
   rw [if_neg h2, if_neg h2]
theorem shl0_nil {N i : Nat} (h : i ≤ N) (l : List Int) : List.replicate N (0 : Int) = shl0 N i (l.take 0) := by
 unfold shl0
 simp
 omega
theorem spec_syl1 (p : Int) {f g : List Int} {n m i : Nat} (hf : f.length = n + 1) (hm : m ≤ 1000) (hn : n ≤ 1000) (hi : i < m) (rows : List (List Int)) (hr : rows.length ≤ 1000) {r : Int}
  (h : Ev (fun q => spec_l06Sylvester.l0 q p f g (n : Int) (m : Int) (rows ++ [shl0 (n + m) i f.reverse]) ((i + 1 : Nat) : Int)) r) :
  ∀ d k, k + d = n + 1 → Ev (fun q => spec_l06Sylvester.l1 q p f g (n : Int) (m : Int) rows (i : Int) (shl0 (n + m) i (f.reverse.take k)) (k : Int)) r := by
 intro d
 induction d with
 | zero =>
  intro k hk
  refine Ev.succ ?_
  have q1 : ¬ (k : Int) ≤ (n : Int) := by omega
  have q2 : rows.length < 5864062014805 := by omega
  simp only [spec_l06Sylvester.l1, if_neg q1, if_pos q2, wp1 (show i ≤ 1000000000000 by omega)]
  rw [List.take_of_length_le (by rw [List.length_reverse]; omega)]
  exact h
 | succ d ih =>
  intro k hk
  refine Ev.succ ?_
  have k1 : k < f.reverse.length := by rw [List.length_reverse]; omega
  have k2 : i + f.reverse.length ≤ n + m := by rw [List.length_reverse]; omega
  have w1 : wrap64 ((k : Int) + 1) = ((k + 1 : Nat) : Int) := wp1 (by omega)
  have hl : (shl0 (n + m) i (f.reverse.take k)).length = n + m := shl0_length (by rw [List.length_take, List.length_reverse]; omega)
  have q1 : (k : Int) ≤ (n : Int) := by omega
  have q2 : (0 : Int) ≤ ((n - k : Nat) : Int) := Int.natCast_nonneg _
  have q3 : ((n - k : Nat) : Int) < (f.length : Int) := by omega
  have q4 : (0 : Int) ≤ ((i + k : Nat) : Int) := Int.natCast_nonneg _
  have q5 : ((i + k : Nat) : Int) < ((shl0 (n + m) i (f.reverse.take k)).length : Int) := by rw [hl]; omega
  have e1 : wrap64 ((n : Int) - (k : Int)) = ((n - k : Nat) : Int) := by rw [w64 (by omega) (by omega)]; omega
  have e2 : wrap64 ((i : Int) + (k : Int)) = ((i + k : Nat) : Int) := by rw [w64 (by omega) (by omega)]; omega
  have hx : f.getD (n - k) 0 = co f.reverse k := by
   rw [co_reverse f k (by omega), show f.length - 1 - k = n - k by omega]; rfl
  simp only [spec_l06Sylvester.l1, if_pos q1, e1, e2, if_pos q2, if_pos q3, if_pos q4, if_pos q5, rd_n, Int.toNat_natCast, w1]
  rw [hx, shl0_set k1 k2]
  exact ih (k + 1) (by omega)
theorem spec_syl3 (p : Int) {g : List Int} {n m i : Nat} (hg : g.length = m + 1) (hm : m ≤ 1000) (hn : n ≤ 1000) (hi : i < n) (rows : List (List Int)) (hr : rows.length ≤ 2000) {r : Int}
  (h : Ev (fun q => spec_l06Sylvester.l2 q p g (n : Int) (m : Int) (rows ++ [shl0 (n + m) i g.reverse]) ((i + 1 : Nat) : Int)) r) :
  ∀ d k, k + d = m + 1 → Ev (fun q => spec_l06Sylvester.l3 q p g (n : Int) (m : Int) rows (i : Int) (shl0 (n + m) i (g.reverse.take k)) (k : Int)) r := by
 intro d
 induction d with
 | zero =>
  intro k hk
  refine Ev.succ ?_
  have q1 : ¬ (k : Int) ≤ (m : Int) := by omega
  have q2 : rows.length < 5864062014805 := by omega
  simp only [spec_l06Sylvester.l3, if_neg q1, if_pos q2, wp1 (show i ≤ 1000000000000 by omega)]
  rw [List.take_of_length_le (by rw [List.length_reverse]; omega)]
  exact h
 | succ d ih =>
  intro k hk
  refine Ev.succ ?_
  have k1 : k < g.reverse.length := by rw [List.length_reverse]; omega
  have k2 : i + g.reverse.length ≤ n + m := by rw [List.length_reverse]; omega
  have w1 : wrap64 ((k : Int) + 1) = ((k + 1 : Nat) : Int) := wp1 (by omega)
  have hl : (shl0 (n + m) i (g.reverse.take k)).length = n + m := shl0_length (by rw [List.length_take, List.length_reverse]; omega)
  have q1 : (k : Int) ≤ (m : Int) := by omega
  have q2 : (0 : Int) ≤ ((m - k : Nat) : Int) := Int.natCast_nonneg _
  have q3 : ((m - k : Nat) : Int) < (g.length : Int) := by omega
  have q4 : (0 : Int) ≤ ((i + k : Nat) : Int) := Int.natCast_nonneg _
  have q5 : ((i + k : Nat) : Int) < ((shl0 (n + m) i (g.reverse.take k)).length : Int) := by rw [hl]; omega
  have e1 : wrap64 ((m : Int) - (k : Int)) = ((m - k : Nat) : Int) := by rw [w64 (by omega) (by omega)]; omega
  have e2 : wrap64 ((i : Int) + (k : Int)) = ((i + k : Nat) : Int) := by rw [w64 (by omega) (by omega)]; omega
  have hx : g.getD (m - k) 0 = co g.reverse k := by
   rw [co_reverse g k (by omega), show g.length - 1 - k = m - k by omega]; rfl
  simp only [spec_l06Sylvester.l3, if_pos q1, e1, e2, if_pos q2, if_pos q3, if_pos q4, if_pos q5, rd_n, Int.toNat_natCast, w1]
  rw [hx, shl0_set k1 k2]
  exact ih (k + 1) (by omega)
theorem spec_syl2 (p : Int) {g : List Int} {n m : Nat} (hg : g.length = m + 1) (hm : m ≤ 100) (hn : n ≤ 100) (rows : List (List Int)) (hr : rows.length ≤ 1000) {r : Int} (h : spec_l02Det.f p (rows ++ shls (n + m) n g.reverse) = some r) :
  ∀ d i, i + d = n → Ev (fun q => spec_l06Sylvester.l2 q p g (n : Int) (m : Int) (rows ++ shls (n + m) i g.reverse) (i : Int)) r := by
 intro d
 induction d with
 | zero =>
  intro i hi
  refine Ev.succ ?_
  have q1 : ¬ (i : Int) < (n : Int) := by omega
  obtain rfl : i = n := by omega
  simp only [spec_l06Sylvester.l2, if_neg q1, h, Option.bind_some]
  exact Ev.now _
 | succ d ih =>
  intro i hi
  refine Ev.succ ?_
  have q1 : (i : Int) < (n : Int) := by omega
  have e1 : wrap64 ((n : Int) + (m : Int)) = ((n + m : Nat) : Int) := by rw [w64 (by omega) (by omega)]; omega
  have q2 : (0 : Int) ≤ ((n + m : Nat) : Int) := Int.natCast_nonneg _
  have q3 : n + m ≤ 35184372088832 := by omega
  simp only [spec_l06Sylvester.l2, if_pos q1, e1, if_pos q2, Int.toNat_natCast, if_pos q3]
  rw [shl0_nil (show i ≤ n + m by omega) g.reverse]
  refine spec_syl3 p hg (by omega) (by omega) (by omega) _ (by rw [List.length_append, shls_length]; omega) ?_ (m + 1) 0 (by omega)
  rw [List.append_assoc, ← shls_succ]
  exact ih (i + 1) (by omega)
theorem spec_syl0 (p : Int) {f g : List Int} {n m : Nat} (hf : f.length = n + 1) (hg : g.length = m + 1) (hm : m ≤ 100) (hn : n ≤ 100) {r : Int} (h : spec_l02Det.f p (shls (n + m) m f.reverse ++ shls (n + m) n g.reverse) = some r) :
  ∀ d i, i + d = m → Ev (fun q => spec_l06Sylvester.l0 q p f g (n : Int) (m : Int) (shls (n + m) i f.reverse) (i : Int)) r := by
 intro d
 induction d with
 | zero =>
  intro i hi
  refine Ev.succ ?_
  have q1 : ¬ (i : Int) < (m : Int) := by omega
  obtain rfl : i = m := by omega
  simp only [spec_l06Sylvester.l0, if_neg q1]
  have := spec_syl2 p hg hm hn (shls (n + i) i f.reverse) (by rw [shls_length]; omega) h n 0 (by omega)
  rwa [show shls (n + i) 0 g.reverse = [] from rfl, List.append_nil] at this
 | succ d ih =>
  intro i hi
  refine Ev.succ ?_
  have q1 : (i : Int) < (m : Int) := by omega
  have e1 : wrap64 ((n : Int) + (m : Int)) = ((n + m : Nat) : Int) := by rw [w64 (by omega) (by omega)]; omega
  have q2 : (0 : Int) ≤ ((n + m : Nat) : Int) := Int.natCast_nonneg _
  have q3 : n + m ≤ 35184372088832 := by omega
  simp only [spec_l06Sylvester.l0, if_pos q1, e1, if_pos q2, Int.toNat_natCast, if_pos q3]
  rw [shl0_nil (show i ≤ n + m by omega) f.reverse]
  refine spec_syl1 p hf (by omega) (by omega) (by omega) _ (by rw [shls_length]; omega) ?_ (n + 1) 0 (by omega)
  rw [← shls_succ]
  exact ih (i + 1) (by omega)
def resR (p : Int) (f g : List Int) : Int := zdt (f.length - 1 + (g.length - 1)) (sb (sylL f.reverse g.reverse) 0) % p
theorem shl0_inR {p : Int} (hp : 0 < p) {N i : Nat} {l : List Int} (hr : InR p l) : InR p (shl0 N i l) := by
 intro x hx
 unfold shl0 at hx
 simp only [List.mem_append, List.mem_replicate] at hx
 rcases hx with (⟨_, rfl⟩ | h) | ⟨_, rfl⟩
 ·
  exact ⟨Int.le_refl _, hp⟩
 ·
  exact hr x h
 ·
  exact ⟨Int.le_refl _, hp⟩
theorem ro_shls {N k i : Nat} {l : List Int} (h : i < k) : ro (shls N k l) i = shl0 N i l := by
 unfold ro shls
 rw [List.getD_eq_getElem?_getD, List.getElem?_map, List.getElem?_range h]; rfl
theorem ro_app (a b : List (List Int)) (i : Nat) : ro (a ++ b) i = if i < a.length then ro a i else ro b (i - a.length) := by
 unfold ro
 rw [List.getD_eq_getElem?_getD]
 split
 ·
  rw [List.getElem?_append_left ‹_›, List.getD_eq_getElem?_getD]
 ·
  rw [List.getElem?_append_right (by omega), List.getD_eq_getElem?_getD]
theorem ro_syl {l1 l2 : List Int} {n m : Nat} (h1 : l1.length = n + 1) (h2 : l2.length = m + 1) {i : Nat} (hi : i < n + m) : ro (sylL l1 l2) i = if i < m then shl0 (n + m) i l1 else shl0 (n + m) (i - m) l2 := by
 unfold sylL
 rw [h1, h2, Nat.add_sub_cancel, Nat.add_sub_cancel, ro_app, shls_length]
 by_cases h : i < m
 ·
  rw [if_pos h, if_pos h, ro_shls h]
 ·
  rw [if_neg h, if_neg h, ro_shls (by omega)]
theorem syl_sq {p : Int} (hp : 0 < p) {l1 l2 : List Int} {n m : Nat} (h1 : l1.length = n + 1) (h2 : l2.length = m + 1) (r1 : InR p l1) (r2 : InR p l2) : Sq p (n + m) (sylL l1 l2) := by
 refine ⟨?_, fun i hi => ?_, fun i hi => ?_⟩
 ·
  unfold sylL
  rw [List.length_append, shls_length, shls_length]; omega
 ·
  rw [ro_syl h1 h2 hi]
  split
  ·
   exact shl0_length (by omega)
  ·
   exact shl0_length (by omega)
 ·
  rw [ro_syl h1 h2 hi]
  split
  ·
   exact shl0_inR hp r1
  ·
   exact shl0_inR hp r2
theorem InR.rev {p : Int} {l : List Int} (h : InR p l) : InR p l.reverse := fun x hx => h x (List.mem_reverse.1 hx)
theorem det_both {p : Int} (hp : IsP p) {f g : List Int} {n m : Nat} (hf : f.length = n + 1) (hg : g.length = m + 1) (hn : n ≤ 100) (hm : m ≤ 100) (rf : InR p f) (rg : InR p g) :
  spec_l02Det.f p (sylL f.reverse g.reverse) = some (resR p f g) ∧ impl_field_determinant.f p (sylL f.reverse g.reverse) = some (resR p f g) := by
 have hs := syl_sq hp.p0 (show f.reverse.length = n + 1 by simpa using hf) (show g.reverse.length = m + 1 by simpa using hg) rf.rev rg.rev
 have hl := hs.len
 have hc : IsP p ∧ Sq p (sylL f.reverse g.reverse).length (sylL f.reverse g.reverse) ∧ (sylL f.reverse g.reverse).length ≤ 1000 := ⟨hp, by rw [hl]; exact hs, by rw [hl]; omega⟩
 have e : zdt (sylL f.reverse g.reverse).length (sb (sylL f.reverse g.reverse) 0) % p = resR p f g := by unfold resR; rw [hl, hf, hg]; rfl
 constructor
 ·
  unfold spec_l02Det.f; rw [if_pos hc, e]
 ·
  unfold impl_field_determinant.f; rw [if_pos hc, e]
theorem spec_syl {p : Int} (hp : IsP p) {f g : List Int} {n m : Nat} (hf : f.length = n + 1) (hg : g.length = m + 1) (hn : n ≤ 100) (hm : m ≤ 100) (rf : InR p f) (rg : InR p g) : Ev (fun q => spec_l06Sylvester.f q p f g) (resR p f g) := by
 have h := (det_both hp hf hg hn hm rf rg).1
 have e : sylL f.reverse g.reverse = shls (n + m) m f.reverse ++ shls (n + m) n g.reverse := by
  unfold sylL
  rw [List.length_reverse, List.length_reverse, hf, hg]; rfl
 rw [e] at h
 have := spec_syl0 p hf hg hm hn h m 0 (by omega)
 simp only [spec_l06Sylvester.f, hf, hg]
 rw [show wrap64 (((n + 1 : Nat) : Int) - 1) = (n : Int) by rw [w64 (by omega) (by omega)]; omega, show wrap64 (((m + 1 : Nat) : Int) - 1) = (m : Int) by rw [w64 (by omega) (by omega)]; omega]
 exact this
theorem impl_syl {p : Int} (hp : IsP p) {f g : List Int} {n m : Nat} (hf : f.length = n + 1) (hg : g.length = m + 1) (hn : n ≤ 25) (hm : m ≤ 25) (rf : InR p f) (rg : InR p g) : impl_field_sylvester.f p f.reverse g.reverse = some (resR p f g) := by
 unfold impl_field_sylvester.f
 rw [if_pos (by rw [List.length_reverse, List.length_reverse]; omega)]
 exact (det_both hp hf hg (by omega) (by omega) rf rg).2
noncomputable def resA (p : Int) (f g : List Int) : Int × Int := if fillL (codeL p true [f, g]) [f, g] = 0 then (resR p f g, 0) else (0, fillL (codeL p true [f, g]) [f, g])
theorem res_spec (p : Int) (f g : List Int) (hf : f.length ≤ 1048576) (hg : g.length ≤ 1048576) : Ev (fun k => spec_ResultantOf.f k p f g) (resA p f g) := by
 have h1 := spec_code6 p [f, g] (by simp) (by simp; omega)
 unfold resA
 simp only [spec_ResultantOf.f]
 refine Ev.bind h1 ?_
 by_cases hc : fillL (codeL p true [f, g]) [f, g] = 0
 ·
  obtain ⟨hp, _, hq⟩ := fillL_0 hc
  obtain ⟨pf, h0⟩ := hq f (by simp)
  obtain ⟨pg, h0'⟩ := hq g (by simp)
  have lf := pf.len
  have lg := pg.len
  obtain ⟨n, hn⟩ : ∃ n, f.length = n + 1 := ⟨f.length - 1, by omega⟩
  obtain ⟨m, hm⟩ : ∃ m, g.length = m + 1 := ⟨g.length - 1, by omega⟩
  simp only [if_pos hc]
  exact Ev.bind (spec_syl hp hn hm (by omega) (by omega) pf.inR pg.inR) (Ev.now _)
 ·
  simp only [if_neg hc]
  exact Ev.now _
theorem res_impl (p : Int) (f g : List Int) : Ev (fun k => impl_ResultantOf.f k p f g) (resA p f g) := by
 have h2 := impl_fill2 p true f g
 unfold resA
 simp only [impl_ResultantOf.f]
 refine Ev.bind h2 ?_
 by_cases hc : fillL (codeL p true [f, g]) [f, g] = 0
 ·
  obtain ⟨hp, _, hq⟩ := fillL_0 hc
  obtain ⟨pf, h0⟩ := hq f (by simp)
  obtain ⟨pg, h0'⟩ := hq g (by simp)
  have lf := pf.len
  have lg := pg.len
  obtain ⟨n, hn⟩ : ∃ n, f.length = n + 1 := ⟨f.length - 1, by omega⟩
  obtain ⟨m, hm⟩ : ∃ m, g.length = m + 1 := ⟨g.length - 1, by omega⟩
  simp only [if_pos hc]
  refine Ev.bind (impl_reversed_ f (by omega)) (Ev.bind (impl_reversed_ g (by omega)) ?_)
  simp only [impl_syl hp hn hm (by omega) (by omega) pf.inR pg.inR, Option.bind_some]
  exact Ev.now _
 ·
  simp only [if_neg hc]
  exact Ev.now _
def wideD (p : Int) (f : List Int) : List Int := pad (derivL p f) (f.length - 1)
theorem derivL_len1 (p : Int) (l : List Int) : (derivL p l).length ≤ l.length - 1 := by
 have := trimL_len (dl p l 1 (l.length - 1)); unfold derivL; rw [dl_len] at this; exact this
theorem wideD_len (p : Int) (f : List Int) : (wideD p f).length = f.length - 1 := by
 have := derivL_len1 p f
 unfold wideD pad
 simp; omega
theorem wideD_inR {p : Int} (hp : 0 < p) {f : List Int} (pf : Po p f) : InR p (wideD p f) := by
 intro x hx
 unfold wideD pad at hx
 simp only [List.mem_append, List.mem_replicate] at hx
 rcases hx with h | ⟨_, rfl⟩
 ·
  exact (derivL_po hp pf).inR x h
 ·
  exact ⟨Int.le_refl _, hp⟩
theorem co_wideD (p : Int) (f : List Int) (t : Nat) : co (wideD p f) t = co (derivL p f) t := co_pad _ _ t
def sgnT (n : Int) : Int := Int.tmod (wrap64 (Int.tdiv (wrap64 (n * (wrap64 (n - 1)))) 2)) 2
def dscQ (p : Int) (f : List Int) : Int := resR p f (wideD p f) * inv p (co f (f.length - 1)) % p
def dscR (p : Int) (f : List Int) : Int := if sgnT ((f.length : Int) - 1) = 1 then (-dscQ p f) % p else dscQ p f
noncomputable def dscA (p : Int) (f : List Int) : Int × Int := if fillL (codeL p true [f]) [f] = 0 then (if f.length = 1 then (0, 5) else (dscR p f, 0)) else (0, fillL (codeL p true [f]) [f])
theorem resR_bd {p : Int} (hp : 0 < p) (f g : List Int) : 0 ≤ resR p f g ∧ resR p f g < p := emod_bd hp
theorem copy_loop {p : Int} {f d : List Int} {n : Nat} {x7 : Int} {r : Int × Int} (hd : d.length ≤ n) (hn : n ≤ 1000)
  (h : Ev (fun q => spec_DiscriminantOf.l0 q p f x7 (pad d n) d (d.length : Int)) r) :
  ∀ e i, i + e = d.length → Ev (fun q => spec_DiscriminantOf.l0 q p f x7 (d.take i ++ List.replicate (n - i) 0) d (i : Int)) r := by
 intro e
 induction e with
 | zero =>
  intro i hi
  have : i = d.length := by omega
  subst this
  rw [List.take_length]
  exact h
 | succ e ih =>
  intro i hi
  refine Ev.succ ?_
  have q1 : (i : Int) < (d.length : Int) := by omega
  have q2 : (0 : Int) ≤ (i : Int) := Int.natCast_nonneg _
  have w1 : wrap64 ((i : Int) + 1) = ((i + 1 : Nat) : Int) := wp1 (by omega)
  have hl : (d.take i ++ List.replicate (n - i) (0 : Int)).length = n := by simp; omega
  have q3 : (i : Int) < ((d.take i ++ List.replicate (n - i) (0 : Int)).length : Int) := by rw [hl]; omega
  have e1 : (d.take i ++ List.replicate (n - i) (0 : Int)).set i (d.getD i 0) = d.take (i + 1) ++ List.replicate (n - (i + 1)) 0 := by
   rw [List.set_append_right _ _ (by rw [List.length_take]; omega), List.length_take, Nat.min_eq_left (by omega), Nat.sub_self, show n - i = n - (i + 1) + 1 by omega, List.replicate_succ, List.set_cons_zero, List.take_succ_eq_append_getElem (by omega), List.append_assoc]
   rw [List.getD_eq_getElem?_getD, List.getElem?_eq_getElem (by omega)]; rfl
  simp only [spec_DiscriminantOf.l0, if_pos q1, if_pos q2, if_pos q3, rd_n, Int.toNat_natCast, w1, e1]
  exact ih (i + 1) (by omega)
theorem dsc_spec (p : Int) (f : List Int) (hf : f.length ≤ 1048576) : Ev (fun k => spec_DiscriminantOf.f k p f) (dscA p f) := by
 have h1 := spec_code6 p [f] (by simp) (by simp; omega)
 unfold dscA
 simp only [spec_DiscriminantOf.f]
 refine Ev.bind h1 ?_
 by_cases hc : fillL (codeL p true [f]) [f] = 0
 ·
  obtain ⟨hp, _, hq⟩ := fillL_0 hc
  obtain ⟨pf, h0⟩ := hq f (by simp)
  have lf := pf.len
  rw [hc]
  simp only [eq_self, if_true]
  by_cases h5 : f.length = 1
  ·
   rw [if_pos h5]
   have b1 : ((f.length : Int) == 1) = true := by rw [h5]; rfl
   rw [b1]
   refine Ev.succ ?_
   simp only [spec_DiscriminantOf.j0, eq_self, if_true]
   refine Ev.succ ?_
   simp only [spec_DiscriminantOf.j1, if_neg (show ¬ (5 : Int) = 0 by omega)]
   exact Ev.now _
  ·
   rw [if_neg h5]
   have b1 : ((f.length : Int) == 1) = false := beq_eq_false_iff_ne.mpr (by omega)
   rw [b1]
   obtain ⟨m, hm⟩ : ∃ m, f.length = m + 2 := ⟨f.length - 2, by omega⟩
   have hn : f.length = (m + 1) + 1 := hm
   have hw : (wideD p f).length = m + 1 := by rw [wideD_len, hm]; rfl
   have hw1 : wrap64 ((f.length : Int) - 1) = ((m + 1 : Nat) : Int) := by rw [w64 (by omega) (by omega)]; omega
   refine Ev.succ ?_
   simp only [spec_DiscriminantOf.j0, Bool.false_eq_true, if_false]
   refine Ev.succ ?_
   have q1 : (0 : Int) ≤ ((m + 1 : Nat) : Int) := Int.natCast_nonneg _
   have q2 : m + 1 ≤ 35184372088832 := by omega
   simp only [spec_DiscriminantOf.j1, eq_self, if_true, hw1, if_pos q1, Int.toNat_natCast, if_pos q2]
   refine Ev.bind (spec_derive hp.p2 hp.pm (by omega) pf.inR) ?_
   have hd : (derivL p f).length ≤ m + 1 := by have := derivL_len1 p f; omega
   have hloop := copy_loop (p := p) (f := f) (d := derivL p f) (n := m + 1) (x7 := ((m + 1 : Nat) : Int)) (r := (dscR p f, 0)) hd (by omega) ?_ (derivL p f).length 0 (by omega)
   ·
    simpa using hloop
   ·
    have ew : pad (derivL p f) (m + 1) = wideD p f := by unfold wideD; rw [hm]; rfl
    rw [ew]
    refine Ev.succ ?_
    have q3 : ¬ ((derivL p f).length : Int) < ((derivL p f).length : Int) := Int.lt_irrefl _
    simp only [spec_DiscriminantOf.l0, if_neg q3]
    refine Ev.bind (spec_syl hp hn hw (by omega) (by omega) pf.inR (wideD_inR hp.p0 pf)) ?_
    have q4 : ((m + 1 : Nat) : Int) < (f.length : Int) := by omega
    simp only [if_pos q1, if_pos q4, rd_n]
    refine Ev.bind (spec_inverse hp.p2 hp.pm) ?_
    have hb := mul_bd2 hp.pm (resR_bd hp.p0 f (wideD p f)) (y := inv p (co f (m + 1))) (by have := inv_bd hp.p0 (co f (m + 1)); have := hp.pm; omega)
    have e1 : Int.tmod (wrap64 (resR p f (wideD p f) * (f.getD (m + 1) 0 ^ (p - 2).toNat % p))) p = dscQ p f := by
     have : f.getD (m + 1) 0 ^ (p - 2).toNat % p = inv p (co f (m + 1)) := rfl
     rw [this, w64 (by omega) (by omega), tmod_nn hb.1]
     unfold dscQ
     rw [show f.length - 1 = m + 1 by omega]
    have hp0 : ¬ p = 0 := by have := hp.p0; omega
    have hdb : 0 ≤ dscQ p f ∧ dscQ p f < p := emod_bd hp.p0
    have hw2 : wrap64 (-dscQ p f) = -dscQ p f := w64 (by have := hp.pm; omega) (by have := hp.pm; omega)
    have es : Int.tmod (wrap64 (Int.tdiv (wrap64 (((m + 1 : Nat) : Int) * (wrap64 (((m + 1 : Nat) : Int) - 1)))) 2)) 2 = sgnT ((f.length : Int) - 1) := by unfold sgnT; rw [show (f.length : Int) - 1 = ((m + 1 : Nat) : Int) by omega]
    simp only [e1, if_neg hp0, es]
    by_cases hs : sgnT ((f.length : Int) - 1) = 1
    ·
     simp only [if_pos hs, hw2, spec_mod hp.p0 (show p ≤ 1000000000 by have := hp.pm; omega), Option.bind_some]
     unfold dscR
     rw [if_pos hs]
     exact Ev.now _
    ·
     simp only [if_neg hs]
     unfold dscR
     rw [if_neg hs]
     exact Ev.now _
 ·
  simp only [if_neg hc]
  refine Ev.succ ?_
  simp only [spec_DiscriminantOf.j0, Bool.false_eq_true, if_false]
  refine Ev.succ ?_
  simp only [spec_DiscriminantOf.j1, if_neg hc]
  exact Ev.now _
theorem dsc_impl (p : Int) (f : List Int) : Ev (fun k => impl_DiscriminantOf.f k p f) (dscA p f) := by
 have h2 := impl_fill1 p true f
 unfold dscA
 simp only [impl_DiscriminantOf.f]
 refine Ev.bind h2 ?_
 by_cases hc : fillL (codeL p true [f]) [f] = 0
 ·
  obtain ⟨hp, _, hq⟩ := fillL_0 hc
  obtain ⟨pf, h0⟩ := hq f (by simp)
  have lf := pf.len
  rw [hc]
  simp only [eq_self, if_true, impl_deg f (by omega), Option.bind_some]
  by_cases h5 : f.length = 1
  ·
   have q1 : (f.length : Int) - 1 = 0 := by omega
   simp only [if_pos q1, if_pos h5]
   exact Ev.now _
  ·
   rw [if_neg h5]
   obtain ⟨m, hm⟩ : ∃ m, f.length = m + 2 := ⟨f.length - 2, by omega⟩
   have hn : f.length = (m + 1) + 1 := hm
   have hw : (wideD p f).length = m + 1 := by rw [wideD_len, hm]; rfl
   have hw1 : (f.length : Int) - 1 = ((m + 1 : Nat) : Int) := by omega
   have q0 : ¬ ((m + 1 : Nat) : Int) = 0 := by omega
   have q1 : (0 : Int) ≤ ((m + 1 : Nat) : Int) := Int.natCast_nonneg _
   have q2 : m + 1 ≤ 35184372088832 := by omega
   have q4 : ((m + 1 : Nat) : Int) < (f.length : Int) := by omega
   have es : Int.tmod (wrap64 (Int.tdiv (wrap64 (((m + 1 : Nat) : Int) * (wrap64 (((m + 1 : Nat) : Int) - 1)))) 2)) 2 = sgnT ((f.length : Int) - 1) := by unfold sgnT; rw [hw1]
   have hd : (derivL p f).length ≤ m + 1 := by have := derivL_len1 p f; omega
   have ec : cpInto (List.replicate (m + 1) (0 : Int)) (derivL p f) = wideD p f := by
    unfold cpInto wideD pad
    rw [List.drop_replicate, hm]; rfl
   simp only [hw1, if_neg q0, if_pos q1, Int.toNat_natCast, if_pos q2]
   refine Ev.bind (impl_derive hp.p2 hp.pm (by omega) pf.inR) ?_
   simp only [if_pos hd, ec]
   refine Ev.bind (impl_reversed_ f (by omega)) (Ev.bind (impl_reversed_ (wideD p f) (by omega)) ?_)
   simp only [impl_syl hp hn hw (by omega) (by omega) pf.inR (wideD_inR hp.p0 pf), Option.bind_some, if_pos q4, rd_n, es]
   refine Ev.bind (impl_div hp.p2 hp.pm (resR_bd hp.p0 _ _) (pf.inR.get hp.p0 (m + 1))) ?_
   have e1 : resR p f (wideD p f) * inv p (f.getD (m + 1) 0) % p = dscQ p f := by
    unfold dscQ
    rw [show f.length - 1 = m + 1 by omega]; rfl
   have hdb : 0 ≤ dscQ p f ∧ dscQ p f < p := emod_bd hp.p0
   have hw2 : wrap64 (-dscQ p f) = -dscQ p f := w64 (by have := hp.pm; omega) (by have := hp.pm; omega)
   simp only [e1]
   by_cases hs : sgnT ((f.length : Int) - 1) = 1
   ·
    simp only [if_pos hs, hw2, impl_mod hp.p0 (show p ≤ 1000000000 by have := hp.pm; omega), Option.bind_some]
    unfold dscR
    rw [if_pos hs]
    exact Ev.now _
   ·
    simp only [if_neg hs]
    unfold dscR
    rw [if_neg hs]
    exact Ev.now _
 ·
  simp only [if_neg hc]
  exact Ev.now _
theorem sb_syl {f g : List Int} {n m : Nat} (hf : f.length = n + 1) (hg : g.length = m + 1) (i j : Nat) (hi : i < n + m) : sb (sylL f.reverse g.reverse) 0 i j = syl (co f) (co g) n m i j := by
 unfold sb
 rw [Nat.zero_add, Nat.zero_add, ro_syl (by simpa using hf) (by simpa using hg) hi]
 unfold syl
 by_cases h : i < m
 ·
  rw [if_pos h, if_pos h, co_shl0]
  by_cases h1 : i ≤ j
  ·
   rw [if_pos h1]
   by_cases h2 : j - i < f.length
   ·
    rw [co_reverse _ _ h2, if_pos (by omega), show f.length - 1 - (j - i) = n + i - j by omega]
   ·
    rw [if_neg (by omega), co_ge (by rw [List.length_reverse]; omega)]
  ·
   rw [if_neg h1, if_pos (by omega), co_ge (by omega)]
 ·
  rw [if_neg h, if_neg h, co_shl0]
  by_cases h1 : i - m ≤ j
  ·
   rw [if_pos h1]
   by_cases h2 : j - (i - m) < g.length
   ·
    rw [co_reverse _ _ h2, if_pos (by omega), show g.length - 1 - (j - (i - m)) = i - j by omega]
   ·
    rw [if_neg (by omega), co_ge (by rw [List.length_reverse]; omega)]
  ·
   rw [if_neg h1, if_pos (by omega), co_ge (by omega)]
theorem resR_syl (p : Int) {f g : List Int} {n m : Nat} (hf : f.length = n + 1) (hg : g.length = m + 1) : resR p f g = zdt (n + m) (syl (co f) (co g) n m) % p := by
 unfold resR
 rw [hf, hg, Nat.add_sub_cancel, Nat.add_sub_cancel, zdt_congr fun i j hi _ => sb_syl hf hg i j hi]
theorem res_zero {p : Int} (hp : IsP p) {f g : List Int} (pf : Po p f) (pg : Po p g) (h1 : 0 < f.length) (h2 : 0 < g.length) : resR p f g = 0 ↔ 1 < (gcdL p f g).length := by
 obtain ⟨n, hn⟩ : ∃ n, f.length = n + 1 := ⟨f.length - 1, by omega⟩
 obtain ⟨m, hm⟩ : ∃ m, g.length = m + 1 := ⟨g.length - 1, by omega⟩
 rw [resR_syl p hn hm, ← cg.zero]
 exact syl_iff hp pf hn pg (by omega)
theorem res_swap (p : Int) {f g : List Int} {n m : Nat} (hf : f.length = n + 1) (hg : g.length = m + 1) : resR p g f = (if m * n % 2 = 1 then -resR p f g else resR p f g) % p := by
 rw [resR_syl p hg hf, resR_syl p hf hg, Nat.add_comm m n, syl_swap, zsg_even]
 split
 ·
  rw [en_]
 ·
  rw [Int.emod_emod]
theorem dsc_zero {p : Int} (hp : IsP p) {f : List Int} (pf : Po p f) (h2 : 2 ≤ f.length) : dscR p f = 0 ↔ 1 < (gcdL p f (derivL p f)).length := by
 obtain ⟨m, hm⟩ : ∃ m, f.length = (m + 1) + 1 := ⟨f.length - 2, by omega⟩
 have hw : (wideD p f).length = m + 1 := by rw [wideD_len, hm]; rfl
 have pd := derivL_po hp.p0 pf
 have hd := derivL_len1 p f
 have h3 : resR p f (wideD p f) = 0 ↔ 1 < (gcdL p f (derivL p f)).length := by
  rw [resR_syl p hm hw, ← cg.zero]
  have e : zdt (m + 1 + m) (syl (co f) (co (wideD p f)) (m + 1) m) = zdt (m + 1 + m) (syl (co f) (co (derivL p f)) (m + 1) m) := zdt_congr fun i j _ _ => by
   unfold syl
   split
   ·
    rfl
   ·
    split
    ·
     exact co_wideD _ _ _
    ·
     rfl
  rw [e]
  exact syl_iff hp pf hm pd (by omega)
 have h4 : dscQ p f = 0 ↔ resR p f (wideD p f) = 0 := by
  unfold dscQ
  rw [← cg.zero]
  constructor
  ·
   intro h
   rcases cg_mul0 hp h with h | h
   ·
    have hb := resR_bd hp.p0 f (wideD p f)
    exact h.eq hb ⟨Int.le_refl _, hp.p0⟩
   ·
    exfalso
    have ht := po_top hp pf (by omega)
    have h5 := inv_cg hp (x := co f (f.length - 1)) (fun e => ht (cg.zero.2 e))
    have h6 := (cg.refl (p := p) (co f (f.length - 1))).mul h
    rw [Int.mul_zero] at h6
    have h7 : cg p 0 1 := h6.symm.trans h5
    have h8 := h7.eq ⟨Int.le_refl _, hp.p0⟩ ⟨by omega, by have := hp.p2; omega⟩
    omega
  ·
   intro h
   rw [h, Int.zero_mul]; exact cg.refl 0
 have hb : 0 ≤ dscQ p f ∧ dscQ p f < p := emod_bd hp.p0
 have h5 : dscR p f = 0 ↔ dscQ p f = 0 := by
  unfold dscR
  split
  ·
   rw [← cg.zero]
   constructor
   ·
    intro h
    have := h.neg
    rw [Int.neg_neg] at this
    exact this.eq hb ⟨Int.le_refl _, hp.p0⟩
   ·
    intro h
    rw [h]; exact cg.refl 0
  ·
   exact Iff.rfl
 rw [h5, h4, h3]
theorem dv_root {p x : Int} (hp : IsP p) {d f : List Int} (pf : Po p f) (pd : Po p d) (h0 : 0 < d.length) (h1 : co d (d.length - 1) = 1) (h : Dv p d f) (hx : valL p d x = 0) : valL p f x = 0 := by
 have h2 := div_back hp pf pd h0
 rw [Dv.rest hp pf pd h0 h1 h] at h2
 rw [← h2, valL_add hp.p0 (mulL_inR hp.p0 _ _), valL_mul hp.p0, hx, Int.mul_zero, Int.zero_emod, Int.one_mul]
 show (0 + valL p [] x) % p = 0
 rw [show valL p [] x = 0 from rfl]; simp
end Go.Proofs.Ytlmolloallhclaa.H
