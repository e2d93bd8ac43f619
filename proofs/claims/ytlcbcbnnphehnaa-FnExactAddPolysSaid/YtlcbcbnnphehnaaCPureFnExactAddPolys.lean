/- FnExactAddPolys: the program's AddPolys answers as the reference's at all arguments, with a result of its own memory. No condition. -/
import Derived.Test.YtlcbcbnnphehnaaMcdef1
import Derived.Test.YtlcbcbnnphehnaaMc2
set_option linter.unusedVariables false
set_option linter.unusedSimpArgs false
namespace Go.Proofs.Ytlcbcbnnphehnaa.Pure
open Go.RowKit Go.Proofs.Ytlcbcbnnphehnaa.H Go.Proofs.YtlcbcbnnphehnaaW.PrintWords Go.Proofs.YtlcbcbnnphehnaaW.PrintLast Go.Proofs.Ytlcbcbnnphehnaa.Num

theorem codeL_b (p : Int) (b : Bool) (ls : List (List Int)) : codeL p b ls = if codeL p true ls = 0 then (if b = true then 0 else 2) else codeL p true ls := by
  unfold codeL
  cases ls.all (polyB p) <;> cases primeB p <;> cases b <;> simp

theorem add_same (p : Int) (f g : List Int) (c : Int) (hf : f.length ≤ 1048576) (hg : g.length ≤ 1048576) : ∃ (r : List Int) (e : Int), r.length ≤ 1000 ∧ Ev (fun k => spec_AddPolys.f k p f g c) (r, e) ∧ Ev (fun k => impl_AddPolys.f k p f g c) (r, e) := by
  obtain ⟨K1, h1⟩ := spec_code p [f, g] (by simp) (by simp; omega)
  obtain ⟨K2, h2⟩ := impl_code2 p (hasB p c) f g
  have hb := codeL_b p (hasB p c) [f, g]
  by_cases hc : codeL p true [f, g] = 0
  · obtain ⟨hp, _, hq⟩ := codeL_0 hc
    have hqf := hq f (by simp)
    have hqg := hq g (by simp)
    have hw : wrap64 (p - 1) = p - 1 := w64 (by have := hp.1; omega) (by have := hp.2.1; omega)
    rw [if_pos hc] at hb
    by_cases hx : hasB p c = true
    · have hx' := hasB_iff.1 hx
      rw [if_pos hx] at hb
      obtain ⟨K3, h3⟩ := spec_add (c := c) hp.1 hp.2.1 (by have := hqf.len; omega) (by have := hqg.len; omega) hqf.inR hqg.inR hx'.1 (by have := hp.2.1; omega)
      obtain ⟨K4, h4⟩ := impl_add (c := c) hp.1 hp.2.1 (by have := hqf.len; omega) (by have := hqg.len; omega) hqf.inR hqg.inR hx'.1 (by have := hp.2.1; omega)
      refine ⟨addL p f g c, 0, by have := addL_len p f g c; have := hqf.len; have := hqg.len; omega, ⟨K1 + K3 + 1, fun k hk => ?_⟩, ⟨K2 + K4, fun k hk => ?_⟩⟩
      · obtain ⟨k, rfl⟩ : ∃ m, k = m + 1 := ⟨k - 1, by omega⟩
        have e1 := h1 (k + 1) (by omega)
        have e3 := h3 k (by omega)
        simp only at e1 e3
        have hi : spec_l01In.f c 0 (p - 1) = some true := by
          simp only [spec_l01In.f]; rw [if_pos (by omega), decide_eq_true (by omega)]
        simp only [spec_AddPolys.f, e1, hc, Option.bind_some, if_true, hw, hi, spec_AddPolys.j0, Bool.not_true, Bool.false_eq_true, if_false, e3]
      · have e1 := h2 k (by omega)
        have e3 := h4 k (by omega)
        simp only at e1 e3
        simp only [impl_AddPolys.f, e1, hb, Option.bind_some, if_true, e3]
    · rw [if_neg hx] at hb
      refine ⟨[], 2, by simp, ⟨K1 + 1, fun k hk => ?_⟩, ⟨K2, fun k hk => ?_⟩⟩
      · obtain ⟨k, rfl⟩ : ∃ m, k = m + 1 := ⟨k - 1, by omega⟩
        have e1 := h1 (k + 1) (by omega)
        simp only at e1
        have hi : spec_l01In.f c 0 (p - 1) = some false := by
          simp only [spec_l01In.f]
          by_cases h0 : c ≥ 0
          · rw [if_pos h0, decide_eq_false (fun h => hx (hasB_iff.2 (by omega)))]
          · rw [if_neg h0]
        simp only [spec_AddPolys.f, e1, hc, Option.bind_some, if_true, hw, hi, spec_AddPolys.j0, Bool.not_false]
      · have e1 := h2 k (by omega)
        simp only at e1
        simp only [impl_AddPolys.f, e1, hb, Option.bind_some]
        rfl
  · rw [if_neg hc] at hb
    refine ⟨[], codeL p true [f, g], by simp, ⟨K1 + 1, fun k hk => ?_⟩, ⟨K2, fun k hk => ?_⟩⟩
    · obtain ⟨k, rfl⟩ : ∃ m, k = m + 1 := ⟨k - 1, by omega⟩
      have e1 := h1 (k + 1) (by omega)
      simp only at e1
      simp only [spec_AddPolys.f, e1, Option.bind_some, if_neg hc, spec_AddPolys.j0, Bool.false_eq_true, if_false]
    · have e1 := h2 k (by omega)
      simp only at e1
      simp only [impl_AddPolys.f, e1, hb, Option.bind_some, if_neg hc]

theorem FnExactAddPolys : laws_FnExactAddPolys.Pure := by
  intro p f g c _ _ _ _ _ _ _ _
  by_cases hl0 : (f.length : Int) > 1048576
  · exact ⟨0, by simp only [laws_FnExactAddPolys.f]; rw [if_pos hl0]⟩
  by_cases hl1 : (g.length : Int) > 1048576
  · exact ⟨0, by simp only [laws_FnExactAddPolys.f]; rw [if_neg hl0, if_pos hl1]⟩
  obtain ⟨r, e, hr, ⟨K1, h1⟩, ⟨K2, h2⟩⟩ := add_same p f g c (by omega) (by omega)
  obtain ⟨K3, h3⟩ := toI_same f (by omega)
  obtain ⟨K4, h4⟩ := eqI_same f (by omega)
  obtain ⟨K5, h5⟩ := toI_same g (by omega)
  obtain ⟨K6, h6⟩ := eqI_same g (by omega)
  obtain ⟨K7, h7⟩ := mark_up f (by omega) (1) (by omega) (by omega)
  obtain ⟨K8, h8⟩ := mark_up g (by omega) (1 + f.length) (by omega) (by omega)
  have n1 : ¬ ((1 + f.length + g.length : Int) < 0) := by omega
  obtain ⟨K9, h9⟩ := eqI_same r (by omega)
  obtain ⟨K10, h10⟩ := mark_up r (by omega) (1) (by omega) (by omega)
  obtain ⟨K11, h11⟩ := held_up r.length (by omega) (1) (by omega) (by omega)
  have m0 : ¬ ((1 + r.length : Int) < 0) := by omega
  obtain ⟨K, hK⟩ : ∃ K, K = K1 + K2 + K3 + K4 + K5 + K6 + K7 + K8 + K9 + K10 + K11 := ⟨_, rfl⟩
  refine ⟨K + 3, ?_⟩
  have h1A := fun k (hk : K ≤ k) => h1 k (by omega)
  have h2A := fun k (hk : K ≤ k) => h2 k (by omega)
  have h3A := fun k (hk : K ≤ k) => h3 k (by omega)
  have h4A := fun k (hk : K ≤ k) => h4 k (by omega)
  have h5A := fun k (hk : K ≤ k) => h5 k (by omega)
  have h6A := fun k (hk : K ≤ k) => h6 k (by omega)
  have h7A := fun k (hk : K ≤ k) => h7 k (by omega)
  have h8A := fun k (hk : K ≤ k) => h8 k (by omega)
  have h9A := fun k (hk : K ≤ k) => h9 k (by omega)
  have h10A := fun k (hk : K ≤ k) => h10 k (by omega)
  have h11A := fun k (hk : K ≤ k) => h11 k (by omega)
  simp only at h1A h2A
  have h1_0 := h1A K (by omega)
  have h1_1 := h1A (K + 1) (by omega)
  have h1_2 := h1A (K + 2) (by omega)
  have h1_3 := h1A (K + 3) (by omega)
  have h2_0 := h2A K (by omega)
  have h2_1 := h2A (K + 1) (by omega)
  have h2_2 := h2A (K + 2) (by omega)
  have h2_3 := h2A (K + 3) (by omega)
  have h3_0 := h3A K (by omega)
  have h3_1 := h3A (K + 1) (by omega)
  have h3_2 := h3A (K + 2) (by omega)
  have h3_3 := h3A (K + 3) (by omega)
  have h4_0 := h4A K (by omega)
  have h4_1 := h4A (K + 1) (by omega)
  have h4_2 := h4A (K + 2) (by omega)
  have h4_3 := h4A (K + 3) (by omega)
  have h5_0 := h5A K (by omega)
  have h5_1 := h5A (K + 1) (by omega)
  have h5_2 := h5A (K + 2) (by omega)
  have h5_3 := h5A (K + 3) (by omega)
  have h6_0 := h6A K (by omega)
  have h6_1 := h6A (K + 1) (by omega)
  have h6_2 := h6A (K + 2) (by omega)
  have h6_3 := h6A (K + 3) (by omega)
  have h7_0 := h7A K (by omega)
  have h7_1 := h7A (K + 1) (by omega)
  have h7_2 := h7A (K + 2) (by omega)
  have h7_3 := h7A (K + 3) (by omega)
  have h8_0 := h8A K (by omega)
  have h8_1 := h8A (K + 1) (by omega)
  have h8_2 := h8A (K + 2) (by omega)
  have h8_3 := h8A (K + 3) (by omega)
  have h9_0 := h9A K (by omega)
  have h9_1 := h9A (K + 1) (by omega)
  have h9_2 := h9A (K + 2) (by omega)
  have h9_3 := h9A (K + 3) (by omega)
  have h10_0 := h10A K (by omega)
  have h10_1 := h10A (K + 1) (by omega)
  have h10_2 := h10A (K + 2) (by omega)
  have h10_3 := h10A (K + 3) (by omega)
  have h11_0 := h11A K (by omega)
  have h11_1 := h11A (K + 1) (by omega)
  have h11_2 := h11A (K + 2) (by omega)
  have h11_3 := h11A (K + 3) (by omega)
  clear h1A h2A h3A h4A h5A h6A h7A h8A h9A h10A h11A
  simp only [laws_FnExactAddPolys.f]
  rw [if_neg hl0, if_neg hl1]
  simp only [laws_FnExactAddPolys.j0, laws_FnExactAddPolys.j1, laws_FnExactAddPolys.j2, h1_0, h2_0, h3_0, h4_0, h5_0, h6_0, h7_0, h8_0, h9_0, h10_0, h11_0, h1_1, h2_1, h3_1, h4_1, h5_1, h6_1, h7_1, h8_1, h9_1, h10_1, h11_1, h1_2, h2_2, h3_2, h4_2, h5_2, h6_2, h7_2, h8_2, h9_2, h10_2, h11_2, h1_3, h2_3, h3_3, h4_3, h5_3, h6_3, h7_3, h8_3, h9_3, h10_3, h11_3, Option.bind_some, bne_self_eq_false, Bool.false_eq_true, if_true, if_false, if_neg n1, if_neg m0]
end Go.Proofs.Ytlcbcbnnphehnaa.Pure
