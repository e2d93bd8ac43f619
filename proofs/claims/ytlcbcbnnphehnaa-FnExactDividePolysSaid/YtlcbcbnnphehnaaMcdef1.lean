/- Joined texts of a claim: the printed functions and what is proved of them. -/
import Derived.Test.YtlcbcbnnphehnaaMbcdef6
/- Layer 1, part 3: sums, multiples, monic polynomials. -/
set_option linter.unusedVariables false
set_option linter.unusedSimpArgs false
namespace Go.Proofs.Ytlcbcbnnphehnaa.H
open Go.RowKit Go.Proofs.YtlcbcbnnphehnaaW.PrintWords Go.Proofs.YtlcbcbnnphehnaaW.PrintLast Go.Proofs.Ytlcbcbnnphehnaa.Num

/-- from place i on, d numbers of g, each times c, are added -/
def ad (p c : Int) (g : List Int) : List Int → Nat → Nat → List Int
  | acc, _, 0 => acc
  | acc, i, d + 1 => ad p c g (acc.set i ((acc.getD i 0 + c * g.getD i 0) % p)) (i + 1) d
def pad (f : List Int) (n : Nat) : List Int := f ++ List.replicate (n - f.length) 0
def addL (p : Int) (f g : List Int) (c : Int) : List Int := trimL (ad p c g (pad f (max f.length g.length)) 0 g.length)
theorem ad_len (p c : Int) (g : List Int) : ∀ d i acc, (ad p c g acc i d).length = acc.length
  | 0, _, _ => rfl
  | d + 1, i, acc => by simp [ad, ad_len p c g d]
theorem ad_inR {p c : Int} (hp : 0 < p) (g : List Int) : ∀ d i acc, InR p acc → InR p (ad p c g acc i d)
  | 0, _, _, h => h
  | d + 1, i, acc, h => ad_inR hp g d (i + 1) _ (h.set i (emod_bd hp))
theorem pad_len (f : List Int) (n : Nat) (h : f.length ≤ n) : (pad f n).length = n := by simp [pad]; omega
theorem pad_inR {p : Int} (hp : 0 < p) {f : List Int} (h : InR p f) (n : Nat) : InR p (pad f n) := h.append (InR.zeros hp _)
theorem addL_len (p : Int) (f g : List Int) (c : Int) : (addL p f g c).length ≤ max f.length g.length := by
  have := trimL_len (ad p c g (pad f (max f.length g.length)) 0 g.length)
  rw [ad_len, pad_len _ _ (Nat.le_max_left _ _)] at this; exact this
theorem addL_inR {p : Int} (hp : 0 < p) {f : List Int} (h : InR p f) (g : List Int) (c : Int) : InR p (addL p f g c) := (ad_inR hp g _ _ _ (pad_inR hp h _)).trim

theorem spec_add {p c : Int} {f g : List Int} (hp : 2 ≤ p) (hp2 : p ≤ 10007) (hf : f.length ≤ 1000) (hg : g.length ≤ 1000) (rf : InR p f) (rg : InR p g) (c0 : 0 ≤ c) (c1 : c ≤ 100000) :
    Ev (fun k => spec_l01Add.f k p f g c) (addL p f g c) := by
  have loop2 : ∀ d i (acc : List Int), i + d = g.length → g.length ≤ acc.length → acc.length ≤ 1000 → InR p acc → Ev (fun k => spec_l01Add.l1 k p g c acc (i : Int)) (trimL (ad p c g acc i d)) := by
    intro d
    induction d with
    | zero =>
      intro i acc h1 h2 h3 h4
      obtain ⟨K, h⟩ := spec_trim acc (by omega)
      refine ⟨K + 1, fun k hk => ?_⟩
      obtain ⟨k, rfl⟩ : ∃ m, k = m + 1 := ⟨k - 1, by omega⟩
      have e := h k (by omega)
      simp only at e
      simp only [spec_l01Add.l1]
      rw [if_neg (by omega), e]
      simp [ad]
    | succ d ih =>
      intro i acc h1 h2 h3 h4
      obtain ⟨K, h⟩ := ih (i + 1) (acc.set i ((acc.getD i 0 + c * g.getD i 0) % p)) (by omega) (by simpa using h2) (by simpa using h3) (h4.set i (emod_bd (by omega)))
      refine ⟨K + 1, fun k hk => ?_⟩
      obtain ⟨k, rfl⟩ : ∃ m, k = m + 1 := ⟨k - 1, by omega⟩
      have e := h k (by omega)
      simp only at e
      have hb := mul_bd2 hp2 (rg.get (by omega) i) (y := c) (by omega)
      rw [Int.mul_comm] at hb
      have ha := h4.get (by omega) i
      simp only [spec_l01Add.l1]
      rw [if_pos (by omega), if_pos (by omega), if_pos (by omega), rd_nat, rd_nat, w64 (x := c * g.getD i 0) (by omega) (by omega), w64 (by omega) (by omega), spec_mod (by omega) (by omega), Option.bind_some, wn (by omega), Int.toNat_natCast, e]
      simp [ad]
  have loop1 : ∀ d i (acc : List Int), i + d = f.length → acc.length = max f.length g.length → acc.take i = f.take i → acc.drop i = List.replicate (acc.length - i) 0 →
      Ev (fun k => spec_l01Add.l0 k p f g c acc (i : Int)) (addL p f g c) := by
    intro d
    induction d with
    | zero =>
      intro i acc h1 h2 h3 h4
      have hacc : acc = pad f (max f.length g.length) := by
        have := List.take_append_drop i acc
        rw [h3, h4, List.take_of_length_le (by omega)] at this
        rw [← this, pad, h2, show i = f.length by omega]
      obtain ⟨K, h⟩ := loop2 g.length 0 acc (by omega) (by omega) (by omega) (by rw [hacc]; exact pad_inR (by omega) rf _)
      refine ⟨K + 1, fun k hk => ?_⟩
      obtain ⟨k, rfl⟩ : ∃ m, k = m + 1 := ⟨k - 1, by omega⟩
      have e := h k (by omega)
      simp only [Int.natCast_zero] at e
      simp only [spec_l01Add.l0]
      rw [if_neg (by omega), e, hacc]
      rfl
    | succ d ih =>
      intro i acc h1 h2 h3 h4
      obtain ⟨K, h⟩ := ih (i + 1) (acc.set i (f.getD i 0)) (by omega) (by simpa using h2)
        (by rw [List.take_succ_eq_append_getElem (by simp; omega), List.take_succ_eq_append_getElem (by omega), List.getElem_set_self, List.take_set_of_le (Nat.le_refl i), h3, List.getD_eq_getElem?_getD, List.getElem?_eq_getElem (by omega)]; rfl)
        (by
          rw [List.drop_set_of_lt (by omega), List.length_set]
          have e1 : acc.drop (i + 1) = (acc.drop i).drop 1 := by rw [List.drop_drop]
          rw [e1, h4, List.drop_replicate]
          congr 1)
      refine ⟨K + 1, fun k hk => ?_⟩
      obtain ⟨k, rfl⟩ : ∃ m, k = m + 1 := ⟨k - 1, by omega⟩
      have e := h k (by omega)
      simp only at e
      simp only [spec_l01Add.l0]
      rw [if_pos (by omega), if_pos (by omega), if_pos (by omega), rd_nat, wn (by omega), Int.toNat_natCast, e]
  unfold spec_l01Add.f
  by_cases hlt : (f.length : Int) < (g.length : Int)
  · obtain ⟨K, h⟩ := loop1 f.length 0 (List.replicate g.length 0) (by omega) (by simp; omega) (by simp) (by simp)
    refine ⟨K, fun k hk => ?_⟩
    have e := h k hk
    simp only [Int.natCast_zero] at e
    simp only
    rw [if_pos hlt, if_pos (by omega), if_pos (by omega), Int.toNat_natCast, e]
  · obtain ⟨K, h⟩ := loop1 f.length 0 (List.replicate f.length 0) (by omega) (by simp; omega) (by simp) (by simp)
    refine ⟨K, fun k hk => ?_⟩
    have e := h k hk
    simp only [Int.natCast_zero] at e
    simp only
    rw [if_neg hlt, if_pos (by omega), if_pos (by omega), Int.toNat_natCast, e]

theorem cpInto_pad (f : List Int) (n : Nat) (h : f.length ≤ n) : cpInto (List.replicate n 0) f = pad f n := by
  simp [cpInto, pad]

theorem impl_add {p c : Int} {f g : List Int} (hp : 2 ≤ p) (hp2 : p ≤ 10007) (hf : f.length ≤ 1000) (hg : g.length ≤ 1000) (rf : InR p f) (rg : InR p g) (c0 : 0 ≤ c) (c1 : c ≤ 100000) :
    Ev (fun k => impl_field_add.f k p f g c) (addL p f g c) := by
  have loop2 : ∀ d i (acc : List Int), i + d = g.length → g.length ≤ acc.length → acc.length ≤ 1000 → InR p acc → Ev (fun k => impl_field_add.l0 k p c acc g (g.length : Int) (i : Int)) (trimL (ad p c g acc i d)) := by
    intro d
    induction d with
    | zero =>
      intro i acc h1 h2 h3 h4
      obtain ⟨K, h⟩ := impl_trim acc (by omega)
      refine ⟨K + 1, fun k hk => ?_⟩
      obtain ⟨k, rfl⟩ : ∃ m, k = m + 1 := ⟨k - 1, by omega⟩
      have e := h k (by omega)
      simp only at e
      simp only [impl_field_add.l0]
      rw [if_neg (by omega), e]
      simp [ad]
    | succ d ih =>
      intro i acc h1 h2 h3 h4
      obtain ⟨K, h⟩ := ih (i + 1) (acc.set i ((acc.getD i 0 + c * g.getD i 0) % p)) (by omega) (by simpa using h2) (by simpa using h3) (h4.set i (emod_bd (by omega)))
      refine ⟨K + 1, fun k hk => ?_⟩
      obtain ⟨k, rfl⟩ : ∃ m, k = m + 1 := ⟨k - 1, by omega⟩
      have e := h k (by omega)
      simp only at e
      have hb := mul_bd2 hp2 (rg.get (by omega) i) (y := c) (by omega)
      rw [Int.mul_comm] at hb
      have ha := h4.get (by omega) i
      simp only [impl_field_add.l0]
      rw [if_pos (by omega), if_pos (by omega), if_pos (by omega), if_pos (by omega), rd_nat, rd_nat, w64 (x := c * g.getD i 0) (by omega) (by omega), w64 (by omega) (by omega), impl_mod (by omega) (by omega), Option.bind_some, wn (by omega), Int.toNat_natCast, e]
      simp [ad]
  unfold impl_field_add.f
  by_cases hlt : (f.length : Int) < (g.length : Int)
  · obtain ⟨K, h⟩ := loop2 g.length 0 (pad f g.length) (by omega) (by rw [pad_len _ _ (by omega)]; omega) (by rw [pad_len _ _ (by omega)]; omega) (pad_inR (by omega) rf _)
    refine ⟨K, fun k hk => ?_⟩
    have e := h k hk
    simp only [Int.natCast_zero] at e
    simp only
    rw [if_pos hlt, if_pos (by omega), if_pos (by omega), Int.toNat_natCast, cpInto_pad _ _ (by omega), e, addL, Nat.max_eq_right (by omega)]
  · obtain ⟨K, h⟩ := loop2 g.length 0 (pad f f.length) (by omega) (by rw [pad_len _ _ (by omega)]; omega) (by rw [pad_len _ _ (by omega)]; omega) (pad_inR (by omega) rf _)
    refine ⟨K, fun k hk => ?_⟩
    have e := h k hk
    simp only [Int.natCast_zero] at e
    simp only
    rw [if_neg hlt, if_pos (by omega), if_pos (by omega), Int.toNat_natCast, cpInto_pad _ _ (by omega), e, addL, Nat.max_eq_left (by omega)]

theorem impl_times {p c : Int} {f : List Int} (hp : 2 ≤ p) (hp2 : p ≤ 10007) (hf : f.length ≤ 1000) (rf : InR p f) (c0 : 0 ≤ c) (c1 : c ≤ 100000) : Ev (fun k => impl_field_times.f k p f c) (addL p [] f c) := by
  obtain ⟨K, h⟩ := impl_add (f := []) (g := f) hp hp2 (by simp) hf InR.nil rf c0 c1
  refine ⟨K, fun k hk => ?_⟩
  have e := h k hk
  simp only at e
  simp only [impl_field_times.f, e, Option.bind_some]

/-- x to the p - 2 -/
def inv (p x : Int) : Int := x ^ (p - 2).toNat % p
theorem inv_bd {p : Int} (hp : 0 < p) (x : Int) : 0 ≤ inv p x ∧ inv p x < p := emod_bd hp
def monicL (p : Int) (f : List Int) : List Int := addL p [] f (inv p (rd f ((f.length : Int) - 1)))

theorem spec_monic {p : Int} {f : List Int} (hp : 2 ≤ p) (hp2 : p ≤ 10007) (hf : f.length ≤ 1000) (rf : InR p f) : Ev (fun k => spec_l01Monic.f k p f) (if f.length = 0 then [] else monicL p f) := by
  by_cases h0 : f.length = 0
  · exact ⟨0, fun k _ => by simp only [spec_l01Monic.f]; rw [if_pos (by omega), if_pos h0]⟩
  · have hb := inv_bd (p := p) (by omega) (rd f ((f.length : Int) - 1))
    obtain ⟨K1, h1⟩ := spec_inverse (x := rd f ((f.length : Int) - 1)) hp hp2
    obtain ⟨K2, h2⟩ := spec_add (c := inv p (rd f ((f.length : Int) - 1))) (f := []) (g := f) hp hp2 (by simp) hf InR.nil rf (by omega) (by omega)
    have hw : wrap64 ((f.length : Int) - 1) = (f.length : Int) - 1 := w64 (by omega) (by omega)
    refine ⟨K1 + K2, fun k hk => ?_⟩
    have e1 := h1 k (by omega)
    have e2 := h2 k (by omega)
    simp only at e1 e2
    simp only [spec_l01Monic.f]
    rw [if_neg (by omega), hw, if_pos (by omega), if_pos (by omega), e1, Option.bind_some, if_neg h0]
    exact (congrArg (fun z => z.bind fun t => some t) e2).trans rfl

theorem impl_monic {p : Int} {f : List Int} (hp : 2 ≤ p) (hp2 : p ≤ 10007) (hf : f.length ≤ 1000) (rf : InR p f) (h0 : f.length ≠ 0) : Ev (fun k => impl_field_monic.f k p f) (monicL p f) := by
  have hb := inv_bd (p := p) (by omega) (rd f ((f.length : Int) - 1))
  have hr : 0 ≤ rd f ((f.length : Int) - 1) ∧ rd f ((f.length : Int) - 1) < p := by
    have := rf.get (by omega) (f.length - 1)
    rw [← rd_nat] at this
    rwa [show ((f.length - 1 : Nat) : Int) = (f.length : Int) - 1 by omega] at this
  obtain ⟨K1, h1⟩ := impl_inverse (x := rd f ((f.length : Int) - 1)) hp hp2 hr.1 hr.2
  obtain ⟨K2, h2⟩ := impl_times (c := inv p (rd f ((f.length : Int) - 1))) (f := f) hp hp2 hf rf (by omega) (by omega)
  have hw : wrap64 ((f.length : Int) - 1) = (f.length : Int) - 1 := w64 (by omega) (by omega)
  refine ⟨K1 + K2, fun k hk => ?_⟩
  have e1 := h1 k (by omega)
  have e2 := h2 k (by omega)
  simp only at e1 e2
  simp only [impl_field_monic.f]
  rw [hw, if_pos (by omega), if_pos (by omega), e1, Option.bind_some]
  exact (congrArg (fun z => z.bind fun t => some t) e2).trans rfl

end Go.Proofs.Ytlcbcbnnphehnaa.H
