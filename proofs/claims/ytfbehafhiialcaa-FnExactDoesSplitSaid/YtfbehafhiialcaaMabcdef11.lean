/- Joined texts of a claim: the printed functions and what is proved of them. -/
import Derived.Test.YtfbehafhiialcaaMabcdef9
import Derived.Test.YtfbehafhiialcaaMabcdef3
import Derived.Test.YtfbehafhiialcaaMabcdef10
import Derived.Test.YtfbehafhiialcaaMabcdef1
/- Layer 6, part 2: powers, polynomials of roots, multiplicities, splitting, reversed lists. -/
set_option linter.unusedVariables false
set_option linter.unusedSimpArgs false
namespace Go.Proofs.Ytfbehafhiialcaa.H
open Go.RowKit Go.Proofs.YtfbehafhiialcaaW.PrintWords Go.Proofs.YtfbehafhiialcaaW.PrintLast Go.Proofs.YtfbehafhiialcaaW.PrintMore Go.Proofs.Ytfbehafhiialcaa.Num

/-! ## powers -/
def powP (p : Int) (f : List Int) : Nat → List Int
  | 0 => [1]
  | n + 1 => mulL p (powP p f n) f
theorem powP_len (p : Int) (f : List Int) (hf : f.length ≤ 25) : ∀ n, (powP p f n).length ≤ 24 * n + 1
  | 0 => by simp [powP]
  | n + 1 => by have := mulL_len p (powP p f n) f; have := powP_len p f hf n; simp only [powP]; omega
theorem powP_inR {p : Int} (hp : 2 ≤ p) (f : List Int) : ∀ n, InR p (powP p f n)
  | 0 => InR.one (by omega)
  | n + 1 => mulL_inR (by omega) _ _

/-! ## the polynomial of roots -/
def ofL (p : Int) (l : List Int) : Nat → List Int
  | 0 => [1]
  | n + 1 => mulL p (ofL p l n) [(-(l.getD n 0)) % p, 1]
theorem ofL_len (p : Int) (l : List Int) : ∀ n, (ofL p l n).length ≤ n + 1
  | 0 => by simp [ofL]
  | n + 1 => by
    have h := mulL_len p (ofL p l n) [(-(l.getD n 0)) % p, 1]
    have := ofL_len p l n
    simp only [List.length_cons, List.length_nil] at h
    simp only [ofL]; omega
theorem ofL_inR {p : Int} (hp : 2 ≤ p) (l : List Int) : ∀ n, InR p (ofL p l n)
  | 0 => InR.one (by omega)
  | n + 1 => mulL_inR (by omega) _ _
theorem lin_inR {p : Int} (hp : 2 ≤ p) (r : Int) : InR p [(-r) % p, 1] := fun y hy => by
  rcases List.mem_cons.1 hy with rfl | hy
  · exact emod_bd (by omega)
  · rw [List.mem_singleton.1 hy]; omega

/-! ## multiplicities -/
def mulF (p r : Int) : Nat → List Int → Nat
  | 0, _ => 0
  | n + 1, f => if valL p f r = 0 then mulF p r n (divL p f [(-r) % p, 1]).1 + 1 else 0
def multL (p : Int) (f : List Int) (r : Int) : Nat := mulF p r f.length f
theorem lin_nz (p r : Int) : Nz [(-r) % p, 1] := .inr (by simp [co])
theorem divL_po {p r : Int} {f : List Int} (hp : IsP p) (pf : Po p f) (h2 : 2 ≤ f.length) : Po p (divL p f [(-r) % p, 1]).1 ∧ (divL p f [(-r) % p, 1]).1.length = f.length - 1 := by
  have hg : Po p [(-r) % p, 1] := Po.of (by simp) (lin_inR hp.p2 r) (lin_nz p r)
  obtain ⟨_, _, _, d4, _, d6⟩ := divL_facts (f := f) hp pf.inR hg.inR hg.nz (by simp)
  have hl : (divL p f [(-r) % p, 1]).1.length = f.length - 1 := by rw [d6]; simp
  have ht := divL_trim hp pf hg (by simp)
  exact ⟨Po.of (by have := pf.len; omega) d4 (ht ▸ Nz.trim _), hl⟩
theorem valL_one {p r : Int} {f : List Int} (hp : 0 < p) (pf : Po p f) (h0 : 0 < f.length) (hv : valL p f r = 0) : 2 ≤ f.length := by
  rcases Nat.lt_or_ge f.length 2 with h | h
  · obtain ⟨c, rfl⟩ : ∃ c, f = [c] := List.length_eq_one_iff.1 (by omega)
    have hc := pf.inR c (by simp)
    have ht := pf.nz.top pf.inR hp (by simp)
    simp [valL, co] at hv ht
    rw [Int.emod_eq_of_lt hc.1 hc.2] at hv
    omega
  · exact h
theorem mulF_le (p r : Int) : ∀ n f, mulF p r n f ≤ n
  | 0, _ => Nat.le_refl _
  | n + 1, f => by unfold mulF; split; (have := mulF_le p r n (divL p f [(-r) % p, 1]).1; omega); omega
theorem mult_loops {p r : Int} (hp : IsP p) (hr : 0 ≤ r ∧ r < p) : ∀ (n : Nat) (f : List Int) (k0 : Nat), Po p f → 0 < f.length → f.length ≤ n → k0 + n ≤ 1000000 →
    Ev (fun k => spec_l06Multiplicity.l0 k p f r (k0 : Int) [(-r) % p, 1]) ((k0 + mulF p r n f : Nat) : Int) ∧ Ev (fun k => impl_field_multiplicity.l0 k p f r (k0 : Int)) ((k0 + mulF p r n f : Nat) : Int)
  | 0, f, k0, _, h, hn, _ => by omega
  | n + 1, f, k0, pf, h0, hn, hk => by
    have lf := pf.len
    have hv := spec_val (x := r) hp.p2 hp.pm (by omega) pf.inR hr
    have hi := impl_val (x := r) hp.p2 hp.pm pf.inR hr
    have hneg : wrap64 (-r) = -r := w64 (by have := hp.pm; omega) (by omega)
    rw [mulF]
    by_cases hz : valL p f r = 0
    · have h2 := valL_one hp.p0 pf h0 hz
      obtain ⟨q1, q2⟩ := divL_po (r := r) hp pf h2
      have hg : Po p [(-r) % p, 1] := Po.of (by simp) (lin_inR hp.p2 r) (lin_nz p r)
      obtain ⟨a, b⟩ := mult_loops hp hr n (divL p f [(-r) % p, 1]).1 (k0 + 1) q1 (by omega) (by omega) (by omega)
      have hs := spec_divide hp.p2 hp.pm (f := f) (g := [(-r) % p, 1]) (by omega) (by simp) (by simp) pf.inR hg.inR
      have hm := impl_divide hp.p2 hp.pm (f := f) (g := [(-r) % p, 1]) (by omega) (by simp) (by simp) pf.inR hg.inR
      rw [divL_trim hp pf hg (by simp)] at hs
      rw [if_pos hz, show k0 + (mulF p r n (divL p f [(-r) % p, 1]).1 + 1) = k0 + 1 + mulF p r n (divL p f [(-r) % p, 1]).1 by omega]
      refine ⟨?_, ?_⟩
      · refine Ev.succ ?_
        simp only [spec_l06Multiplicity.l0]
        refine Ev.bind hv ?_
        simp only [if_pos hz]
        refine Ev.bind hs ?_
        simp only [wp1 (show k0 ≤ 1000000000000 by omega)]
        exact a
      · refine Ev.succ ?_
        simp (disch := omega) only [impl_field_multiplicity.l0, if_pos, hi, Option.bind_some]
        refine Ev.succ ?_
        simp only [impl_field_multiplicity.j1, hz, beq_self_eq_true, if_true, hneg, impl_mod hp.p0 (show p ≤ 1000000000 by have := hp.pm; omega), Option.bind_some]
        refine Ev.bind hm ?_
        simp only [wp1 (show k0 ≤ 1000000000000 by omega)]
        exact b
    · rw [if_neg hz]
      refine ⟨?_, ?_⟩
      · refine Ev.succ ?_
        simp only [spec_l06Multiplicity.l0]
        refine Ev.bind hv ?_
        simp only [if_neg hz]
        exact Ev.now _
      · refine Ev.succ ?_
        simp (disch := omega) only [impl_field_multiplicity.l0, if_pos, hi, Option.bind_some]
        refine Ev.succ ?_
        simp only [impl_field_multiplicity.j1, beq_eq_false_iff_ne.mpr hz, Bool.false_eq_true, if_false]
        exact Ev.now _
theorem spec_mult {p r : Int} {f : List Int} (hp : IsP p) (hr : 0 ≤ r ∧ r < p) (pf : Po p f) (h0 : 0 < f.length) : Ev (fun k => spec_l06Multiplicity.f k p f r) (multL p f r : Int) := by
  have h := (mult_loops hp hr f.length f 0 pf h0 (Nat.le_refl _) (by have := pf.len; omega)).1
  rw [Nat.zero_add] at h
  have hneg : wrap64 (-r) = -r := w64 (by have := hp.pm; omega) (by omega)
  simp only [spec_l06Multiplicity.f, hneg, spec_mod hp.p0 (show p ≤ 1000000000 by have := hp.pm; omega), Option.bind_some]
  exact h
theorem impl_mult {p r : Int} {f : List Int} (hp : IsP p) (hr : 0 ≤ r ∧ r < p) (pf : Po p f) (h0 : 0 < f.length) : Ev (fun k => impl_field_multiplicity.f k p f r) (multL p f r : Int) := by
  have h := (mult_loops hp hr f.length f 0 pf h0 (Nat.le_refl _) (by have := pf.len; omega)).2
  rw [Nat.zero_add] at h
  simp only [impl_field_multiplicity.f]
  exact h

/-! ## splitting -/
theorem rts_inR {p : Int} (f : List Int) (i : Nat) (h : (i : Int) ≤ p) : InR p (rts p f i) := by
  intro x hx
  unfold rts at hx
  obtain ⟨h1, _⟩ := List.mem_filter.1 hx
  obtain ⟨n, hn, rfl⟩ := List.mem_map.1 h1
  have := List.mem_range.1 hn
  omega
theorem rootsL_inR {p : Int} (hp : 0 < p) (f : List Int) : InR p (rootsL p f) := rts_inR f _ (by omega)
def msum (p : Int) (f l : List Int) : Nat → Nat
  | 0 => 0
  | i + 1 => msum p f l i + multL p f (l.getD i 0)
theorem msum_le (p : Int) (f l : List Int) (hf : f.length ≤ 25) : ∀ i, msum p f l i ≤ 25 * i
  | 0 => Nat.le_refl _
  | i + 1 => by have := msum_le p f l hf i; have := mulF_le p (l.getD i 0) f.length f; simp only [msum, multL]; omega
def splitB (p : Int) (f : List Int) : Bool := decide (((msum p f (rootsL p f) (rootsL p f).length : Nat) : Int) = (f.length : Int) - 1)
theorem spec_splits {p : Int} {f : List Int} (hp : IsP p) (pf : Po p f) (h0 : 0 < f.length) : Ev (fun k => spec_l06Splits.f k p f) (splitB p f) := by
  have lf := pf.len
  have hl := rootsL_len hp.p0 hp.pm f
  have hr := rootsL_inR hp.p0 f
  have loop : ∀ d i, i + d = (rootsL p f).length → Ev (fun k => spec_l06Splits.l0 k p f (rootsL p f) ((msum p f (rootsL p f) i : Nat) : Int) (i : Int)) (splitB p f) := by
    intro d
    induction d with
    | zero =>
      intro i h
      refine Ev.succ ?_
      simp (disch := omega) only [spec_l06Splits.l0, if_neg, w64]
      rw [show i = (rootsL p f).length by omega]
      exact Ev_to (Ev.now _) (by unfold splitB; rw [Bool.eq_iff_iff, beq_iff_eq, decide_eq_true_eq])
    | succ d ih =>
      intro i h
      have hi := ih (i + 1) (by omega)
      have hb := msum_le p f (rootsL p f) lf i
      have hm := mulF_le p ((rootsL p f).getD i 0) f.length f
      have hs := spec_mult hp (hr.get hp.p0 i) pf h0
      refine Ev.succ ?_
      simp (disch := omega) only [spec_l06Splits.l0, if_pos, rd_n, wp1]
      refine Ev.bind hs ?_
      rw [w64 (by omega) (by unfold multL; omega)]
      rw [msum, Int.natCast_add] at hi
      exact hi
  have h := loop (rootsL p f).length 0 (by omega)
  simp only [spec_l06Splits.f]
  exact Ev.bind (spec_roots hp.p2 hp.pm (by omega) pf.inR) h
theorem impl_splits {p : Int} {f : List Int} (hp : IsP p) (pf : Po p f) (h0 : 0 < f.length) : Ev (fun k => impl_field_splits.f k p f) (splitB p f) := by
  have lf := pf.len
  have hl := rootsL_len hp.p0 hp.pm f
  have hr := rootsL_inR hp.p0 f
  have loop : ∀ d i, i + d = (rootsL p f).length → Ev (fun k => impl_field_splits.l0 k p f ((msum p f (rootsL p f) i : Nat) : Int) (rootsL p f) ((rootsL p f).length : Int) (i : Int)) (splitB p f) := by
    intro d
    induction d with
    | zero =>
      intro i h
      refine Ev.succ ?_
      simp (disch := omega) only [impl_field_splits.l0, if_neg, impl_deg, Option.bind_some]
      rw [show i = (rootsL p f).length by omega]
      exact Ev_to (Ev.now _) (by unfold splitB; rw [Bool.eq_iff_iff, beq_iff_eq, decide_eq_true_eq])
    | succ d ih =>
      intro i h
      have hi := ih (i + 1) (by omega)
      have hb := msum_le p f (rootsL p f) lf i
      have hm := mulF_le p ((rootsL p f).getD i 0) f.length f
      have hs := impl_mult hp (hr.get hp.p0 i) pf h0
      refine Ev.succ ?_
      simp (disch := omega) only [impl_field_splits.l0, if_pos, rd_n, wp1]
      refine Ev.bind hs ?_
      rw [w64 (by omega) (by unfold multL; omega)]
      rw [msum, Int.natCast_add] at hi
      exact hi
  have h := loop (rootsL p f).length 0 (by omega)
  simp only [impl_field_splits.f]
  exact Ev.bind (impl_roots hp.p2 hp.pm (by omega) pf.inR) h

/-! ## numbers -/
theorem spec_numbers {p : Int} (hp : IsP p) (l : List Int) (hl : l.length ≤ 1000000000) : Ev (fun k => spec_l02Numbers.f k p l) (l.all (hasB p)) := by
  have loop : ∀ d i, i + d = l.length → Ev (fun k => spec_l02Numbers.l0 k p l (i : Int)) ((l.drop i).all (hasB p)) := by
    intro d
    induction d with
    | zero => intro i h; refine Ev.succ ?_; simp (disch := omega) only [spec_l02Numbers.l0, if_neg, List.drop_of_length_le]; exact Ev.now _
    | succ d ih =>
      intro i h
      have hi := ih (i + 1) (by omega)
      refine Ev.succ ?_
      rw [List.drop_eq_getElem_cons (show i < l.length by omega), List.all_cons]
      simp (disch := omega) only [spec_l02Numbers.l0, if_pos, in_has hp, Option.bind_some, wp1, rd_lt l i (show i < l.length by omega)]
      cases hb : hasB p (l[i]'(by omega)) with
      | true => simp only [if_true, Bool.true_and]; exact hi
      | false => simp only [Bool.false_eq_true, if_false, Bool.false_and]; exact Ev.now _
  have h := loop l.length 0 (by omega)
  simp only [spec_l02Numbers.f]
  exact h
noncomputable def arNum (p : Int) (l : List Int) (a b : Int) : Bool := primeB p && (withinB l.length a b && l.all (hasB p))
theorem impl_numbers (p : Int) (l : List Int) (a b : Int) : Ev (fun k => impl_areNumbers.f k p l a b) (arNum p l a b) := by
  simp only [impl_areNumbers.f]
  exact Ev.bind (impl_prime p) (Ev.now _)

/-! ## the polynomial of roots: both sides -/
theorem spec_of {p : Int} {l : List Int} (hp : IsP p) (hl : l.length ≤ 24) (hr : InR p l) : Ev (fun k => spec_l06Of.f k p l) (ofL p l l.length) := by
  have loop : ∀ d i, i + d = l.length → Ev (fun k => spec_l06Of.l0 k p l (ofL p l i) (i : Int)) (ofL p l l.length) := by
    intro d
    induction d with
    | zero => intro i h; refine Ev.succ ?_; simp (disch := omega) only [spec_l06Of.l0, if_neg]; rw [show i = l.length by omega]; exact Ev.now _
    | succ d ih =>
      intro i h
      have hi := ih (i + 1) (by omega)
      have hg := hr.get hp.p0 i
      have hln := ofL_len p l i
      have h2 := hp.pm
      refine Ev.succ ?_
      simp (disch := omega) only [spec_l06Of.l0, if_pos, rd_n, wp1, w64, spec_mod hp.p0, Option.bind_some]
      exact Ev.bind (spec_product hp.p2 hp.pm (by omega) (by simp) (ofL_inR hp.p2 l i) (lin_inR hp.p2 _)) hi
  have h := loop l.length 0 (by omega)
  simp only [spec_l06Of.f]
  exact h
theorem impl_of {p : Int} {l : List Int} (hp : IsP p) (hl : l.length ≤ 24) (hr : InR p l) : Ev (fun k => impl_field_ofRoots.f k p l) (ofL p l l.length) := by
  have loop : ∀ d i, i + d = l.length → Ev (fun k => impl_field_ofRoots.l0 k p (ofL p l i) l (l.length : Int) (i : Int)) (ofL p l l.length) := by
    intro d
    induction d with
    | zero => intro i h; refine Ev.succ ?_; simp (disch := omega) only [impl_field_ofRoots.l0, if_neg]; rw [show i = l.length by omega]; exact Ev.now _
    | succ d ih =>
      intro i h
      have hi := ih (i + 1) (by omega)
      have hg := hr.get hp.p0 i
      have hln := ofL_len p l i
      have h2 := hp.pm
      refine Ev.succ ?_
      simp (disch := omega) only [impl_field_ofRoots.l0, if_pos, rd_n, wp1, w64, impl_mod hp.p0, Option.bind_some]
      exact Ev.bind (impl_product hp.p2 hp.pm (by omega) (by simp) (ofL_inR hp.p2 l i) (lin_inR hp.p2 _)) hi
  have h := loop l.length 0 (by omega)
  simp only [impl_field_ofRoots.f]
  exact h

/-! ## lists backwards -/
theorem spec_back (l : List Int) (hl : l.length ≤ 1000000000) : Ev (fun k => spec_l02Back.f k l) l.reverse := by
  have loop : ∀ n, n ≤ l.length → Ev (fun k => spec_l02Back.l0 k l (l.drop n).reverse ((n : Int) - 1)) l.reverse := by
    intro n
    induction n with
    | zero => intro _; refine Ev.succ ?_; simp (disch := omega) only [spec_l02Back.l0, if_neg, List.drop_zero]; exact Ev.now _
    | succ n ih =>
      intro hn
      have hi := ih (by omega)
      rw [List.drop_eq_getElem_cons (show n < l.length by omega), List.reverse_cons] at hi
      refine Ev.succ ?_
      have h1 : (l.drop (n + 1)).reverse.length < 17592186044416 := by rw [List.length_reverse, List.length_drop]; omega
      simp (disch := omega) only [spec_l02Back.l0, ws1, if_pos, wm1, if_pos h1, rd_lt l n (show n < l.length by omega)]
      exact hi
  have h := loop l.length (Nat.le_refl _)
  rw [List.drop_length] at h
  simp only [spec_l02Back.f, wm1 (show l.length ≤ 1000000000000 by omega)]
  exact h
theorem co_ext {l l' : List Int} (hl : l.length = l'.length) (he : ∀ i, i < l.length → co l i = co l' i) : l = l' :=
  List.ext_getElem hl fun i a b => by
    have := he i a
    unfold co at this
    rwa [List.getD_eq_getElem?_getD, List.getD_eq_getElem?_getD, List.getElem?_eq_getElem a, List.getElem?_eq_getElem b] at this
theorem co_reverse (l : List Int) (i : Nat) (h : i < l.length) : co l.reverse i = co l (l.length - 1 - i) := by
  unfold co
  rw [List.getD_eq_getElem?_getD, List.getD_eq_getElem?_getD, List.getElem?_reverse h]
theorem impl_reverse (l : List Int) (hl : l.length ≤ 1000000) : Ev (fun k => slices_Reverse_int64_int64.f k l) l.reverse := by
  have loop : ∀ (d i : Nat) (xs : List Int), xs.length = l.length → i + d = l.length → (∀ t, t < l.length → co xs t = if t < i ∨ l.length - i ≤ t then co l (l.length - 1 - t) else co l t) →
      Ev (fun k => slices_Reverse_int64_int64.l0 k xs (i : Int) ((l.length : Int) - 1 - i)) l.reverse := by
    intro d
    induction d with
    | zero =>
      intro i xs h1 h2 h3
      refine Ev.succ ?_
      simp (disch := omega) only [slices_Reverse_int64_int64.l0, if_neg]
      refine Ev_to (Ev.now _) (co_ext (by simpa using h1) fun t ht => ?_)
      rw [h3 t (by omega), co_reverse l t (by omega), if_pos (by omega)]
    | succ d ih =>
      intro i xs h1 h2 h3
      refine Ev.succ ?_
      by_cases hlt : (i : Int) < (l.length : Int) - 1 - i
      · have hj : (l.length : Int) - 1 - i = ((l.length - 1 - i : Nat) : Int) := by omega
        have hi := ih (i + 1) ((xs.set i (xs.getD (l.length - 1 - i) 0)).set (l.length - 1 - i) (xs.getD i 0)) (by simpa using h1) (by omega) (fun t ht => by
          rw [co_set _ _ _ _ (by simpa using by omega)]
          by_cases e1 : t = l.length - 1 - i
          · rw [if_pos e1, if_pos (by omega)]
            have := h3 i (by omega)
            unfold co at this
            rw [this, if_neg (by omega), e1]
            show co l i = _
            rw [show l.length - 1 - (l.length - 1 - i) = i by omega]
          · rw [if_neg e1, co_set _ _ _ _ (by omega)]
            by_cases e2 : t = i
            · rw [if_pos e2, if_pos (by omega)]
              have := h3 (l.length - 1 - i) (by omega)
              unfold co at this
              rw [this, if_neg (by omega), e2]
              rfl
            · rw [if_neg e2, h3 t ht]
              by_cases e3 : t < i ∨ l.length - i ≤ t
              · rw [if_pos e3, if_pos (by omega)]
              · rw [if_neg e3, if_neg (by omega)])
        rw [hj] at hlt ⊢
        simp (disch := omega) only [slices_Reverse_int64_int64.l0, if_pos hlt, if_pos, rd_n, Int.toNat_natCast, wp1, wm1]
        rw [show ((l.length - 1 - i : Nat) : Int) - 1 = (l.length : Int) - 1 - ((i + 1 : Nat) : Int) by omega]
        exact hi
      · simp only [slices_Reverse_int64_int64.l0, if_neg hlt]
        refine Ev_to (Ev.now _) (co_ext (by simpa using h1) fun t ht => ?_)
        rw [h3 t (by omega), co_reverse l t (by omega)]
        by_cases e3 : t < i ∨ l.length - i ≤ t
        · rw [if_pos e3]
        · rw [if_neg e3, show l.length - 1 - t = t by omega]
  have h := loop l.length 0 l rfl (by omega) (fun t ht => by rw [if_neg (by omega)])
  simp only [slices_Reverse_int64_int64.f, wm1 (show l.length ≤ 1000000000000 by omega)]
  simpa using h
theorem clone_some (l : List Int) (h : l.length < 17592186044416) : slices_Clone_int64_int64.f l = some l := by
  simp [slices_Clone_int64_int64.f, h]
theorem impl_reversed_ (l : List Int) (hl : l.length ≤ 1000000) : Ev (fun k => impl_reversed.f k l) l.reverse := by
  simp only [impl_reversed.f, clone_some l (by omega), Option.bind_some]
  exact Ev.bind (impl_reverse l hl) (Ev.now _)
end Go.Proofs.Ytfbehafhiialcaa.H

