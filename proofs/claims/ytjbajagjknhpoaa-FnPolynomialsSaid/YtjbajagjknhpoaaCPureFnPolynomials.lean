/- FnPolynomials: quotients and rests lead back, greatest common divisors divide both, products do not depend on the order. No condition. -/
import Derived.Test.YtjbajagjknhpoaaVFnPolynomials
import Derived.Test.YtjbajagjknhpoaaMa1
import Derived.Test.YtjbajagjknhpoaaMa2
import Derived.Test.YtjbajagjknhpoaaMa3
import Derived.Test.YtjbajagjknhpoaaMa9
import Derived.Test.YtjbajagjknhpoaaMa4
import Derived.Test.YtjbajagjknhpoaaMa5
import Derived.Test.YtjbajagjknhpoaaMa7
import Derived.Test.YtjbajagjknhpoaaMa8
import Derived.Test.YtjbajagjknhpoaaRows
import Derived.Test.YtjbajagjknhpoaaYWSized
set_option linter.unusedVariables false
set_option linter.unusedSimpArgs false
namespace Go.Proofs.Ytjbajagjknhpoaa.Pure
open Go.RowKit Go.Proofs.Ytjbajagjknhpoaa.H Go.Proofs.YtjbajagjknhpoaaW.PrintWords Go.Proofs.YtjbajagjknhpoaaW.PrintLast Go.Proofs.YtjbajagjknhpoaaW.PrintMore Go.Proofs.Ytjbajagjknhpoaa.Num

namespace QDiv
theorem divL_len (p : Int) (f g : List Int) (h : f.length ≤ 25) : (divL p f g).1.length ≤ 1000 ∧ (divL p f g).2.length ≤ 1000 := by
  unfold divL
  split
  · exact ⟨by simp, by simp only; omega⟩
  · have h1 := dvR_len p (inv p (g.getD (g.length - 1) 0)) g (f.length - g.length + 1) (List.replicate (f.length - g.length + 1) 0) f
    have h2 := trimL_len (dvR p (inv p (g.getD (g.length - 1) 0)) g (f.length - g.length + 1) (List.replicate (f.length - g.length + 1) 0) f).2
    rw [List.length_replicate] at h1
    exact ⟨by simp only; omega, by simp only; omega⟩

theorem div_same (p : Int) (f g : List Int) (hf : f.length ≤ 1048576) (hg : g.length ≤ 1048576) : ∃ (q r : List Int) (e : Int), q.length ≤ 1000 ∧ r.length ≤ 1000 ∧ Ev (fun k => spec_DividePolys.f k p f g) (q, r, e) ∧ Ev (fun k => impl_DividePolys.f k p f g) (q, r, e) := by
  obtain ⟨K1, h1⟩ := spec_code p [f, g] (by simp) (by simp; omega)
  obtain ⟨K2, h2⟩ := impl_code2 p true f g
  by_cases hc : codeL p true [f, g] = 0
  · obtain ⟨hp, _, hq⟩ := codeL_0 hc
    have hqf := hq f (by simp)
    have hqg := hq g (by simp)
    have lf := hqf.len
    have lg := hqg.len
    by_cases h0 : g.length = 0
    · refine ⟨[], [], 5, by simp, by simp, ⟨K1 + 1, fun k hk => ?_⟩, ⟨K2, fun k hk => ?_⟩⟩
      · obtain ⟨k, rfl⟩ : ∃ m, k = m + 1 := ⟨k - 1, by omega⟩
        have e1 := h1 (k + 1) (by omega)
        simp only at e1
        have hz : ((g.length : Int) == 0) = true := by rw [h0]; rfl
        simp only [spec_DividePolys.f, e1, hc, Option.bind_some, if_true, hz, spec_DividePolys.j0]
      · have e1 := h2 k (by omega)
        simp only at e1
        have hz : (g.length : Int) = 0 := by omega
        simp only [impl_DividePolys.f, e1, hc, Option.bind_some, if_true, if_pos hz]
    · obtain ⟨K3, h3⟩ := spec_divide hp.1 hp.2.1 (by omega) (by omega) (by omega) hqf.inR hqg.inR
      obtain ⟨K4, h4⟩ := impl_divide hp.1 hp.2.1 (by omega) (by omega) (by omega) hqf.inR hqg.inR
      have hl := divL_len p f g lf
      refine ⟨(divL p f g).1, (divL p f g).2, 0, hl.1, hl.2, ⟨K1 + K3 + 1, fun k hk => ?_⟩, ⟨K2 + K4, fun k hk => ?_⟩⟩
      · obtain ⟨k, rfl⟩ : ∃ m, k = m + 1 := ⟨k - 1, by omega⟩
        have e1 := h1 (k + 1) (by omega)
        have e3 := h3 k (by omega)
        simp only [divL_trim hp hqf hqg (show 0 < g.length by omega)] at e1 e3
        have hz : ((g.length : Int) == 0) = false := beq_eq_false_iff_ne.mpr (by omega)
        simp only [spec_DividePolys.f, e1, hc, Option.bind_some, if_true, hz, spec_DividePolys.j0, Bool.false_eq_true, if_false, e3]
      · have e1 := h2 k (by omega)
        have e3 := h4 k (by omega)
        simp only at e1 e3
        have hz : ¬ (g.length : Int) = 0 := by omega
        simp only [impl_DividePolys.f, e1, hc, Option.bind_some, if_true, if_neg hz, e3]
  · refine ⟨[], [], codeL p true [f, g], by simp, by simp, ⟨K1 + 1, fun k hk => ?_⟩, ⟨K2, fun k hk => ?_⟩⟩
    · obtain ⟨k, rfl⟩ : ∃ m, k = m + 1 := ⟨k - 1, by omega⟩
      have e1 := h1 (k + 1) (by omega)
      simp only at e1
      simp only [spec_DividePolys.f, e1, Option.bind_some, if_neg hc, spec_DividePolys.j0, Bool.false_eq_true, if_false]
    · have e1 := h2 k (by omega)
      simp only at e1
      simp only [impl_DividePolys.f, e1, Option.bind_some, if_neg hc]
end QDiv
namespace QMul
theorem limited_eq (l : List Int) (hl : l.length ≤ 1000000) : impl_limited.f l = some (if l.length > 25 then ([], 3) else (l, 0)) := by
  have hw : wrap64 ((l.length : Int) - 1) = (l.length : Int) - 1 := w64 (by omega) (by omega)
  simp only [impl_limited.f, impl_degree.f, impl_length_int64.f, Option.bind_some, hw]
  by_cases h : l.length > 25
  · rw [if_pos (by omega), if_pos h]
  · rw [if_neg (by omega), if_neg h]

theorem mult_same (p : Int) (f g : List Int) (hf : f.length ≤ 1048576) (hg : g.length ≤ 1048576) : ∃ (r : List Int) (e : Int), r.length ≤ 1000 ∧ Ev (fun k => spec_MultiplyPolys.f k p f g) (r, e) ∧ Ev (fun k => impl_MultiplyPolys.f k p f g) (r, e) := by
  obtain ⟨K1, h1⟩ := spec_code p [f, g] (by simp) (by simp; omega)
  obtain ⟨K2, h2⟩ := impl_code2 p true f g
  by_cases hc : codeL p true [f, g] = 0
  · obtain ⟨hp, _, hq⟩ := codeL_0 hc
    have hqf := hq f (by simp)
    have hqg := hq g (by simp)
    have lf := hqf.len
    have lg := hqg.len
    obtain ⟨K3, h3⟩ := spec_product hp.1 hp.2.1 (by omega) (by omega) hqf.inR hqg.inR
    obtain ⟨K4, h4⟩ := impl_product hp.1 hp.2.1 (by omega) (by omega) hqf.inR hqg.inR
    have hm := mulL_len p f g
    have hw : wrap64 (wrap64 ((f.length : Int) + (g.length : Int)) - 2) = (f.length : Int) + g.length - 2 := by rw [w64 (x := (f.length : Int) + (g.length : Int)) (by omega) (by omega), w64 (by omega) (by omega)]
    by_cases hbig : f.length > 0 ∧ g.length > 0 ∧ f.length + g.length > 26
    · obtain ⟨g1, g2, g3⟩ := hbig
      refine ⟨[], 3, by simp, ⟨K1 + K3, fun k hk => ?_⟩, ⟨K2 + K4, fun k hk => ?_⟩⟩
      · have e1 := h1 k (by omega)
        simp only at e1
        simp only [spec_MultiplyPolys.f, e1, hc, Option.bind_some, if_true, hw]
        rw [if_pos (by omega), if_pos (by omega), if_pos (by omega)]
      · have e1 := h2 k (by omega)
        have e3 := h4 k (by omega)
        simp only at e1 e3
        have hl : (mulL p f g).length = f.length + g.length - 1 := by rw [mulL_len_eq hp hqf hqg g1 g2, mulW_len]
        simp only [impl_MultiplyPolys.f, e1, hc, Option.bind_some, if_true, e3, limited_eq _ (show (mulL p f g).length ≤ 1000000 by omega)]
        rw [if_pos (by omega)]
    · have hsm : (mulL p f g).length ≤ 25 := by
        rcases Nat.eq_zero_or_pos f.length with h | h
        · simp [mulL, h]
        · rcases Nat.eq_zero_or_pos g.length with h' | h'
          · simp [mulL, h']
          · omega
      refine ⟨mulL p f g, 0, by omega, ⟨K1 + K3, fun k hk => ?_⟩, ⟨K2 + K4, fun k hk => ?_⟩⟩
      · have e1 := h1 k (by omega)
        have e3 := h3 k (by omega)
        simp only at e1 e3
        simp only [spec_MultiplyPolys.f, e1, hc, Option.bind_some, if_true, hw, e3]
        by_cases q1 : (f.length : Int) > 0
        · rw [if_pos q1]
          by_cases q2 : (g.length : Int) > 0
          · rw [if_pos q2, if_neg (by omega)]
          · rw [if_neg q2]
        · rw [if_neg q1]
      · have e1 := h2 k (by omega)
        have e3 := h4 k (by omega)
        simp only at e1 e3
        simp only [impl_MultiplyPolys.f, e1, hc, Option.bind_some, if_true, e3, limited_eq _ (show (mulL p f g).length ≤ 1000000 by omega)]
        rw [if_neg (by omega)]
  · refine ⟨[], codeL p true [f, g], by simp, ⟨K1, fun k hk => ?_⟩, ⟨K2, fun k hk => ?_⟩⟩
    · have e1 := h1 k (by omega)
      simp only at e1
      simp only [spec_MultiplyPolys.f, e1, Option.bind_some, if_neg hc]
    · have e1 := h2 k (by omega)
      simp only at e1
      simp only [impl_MultiplyPolys.f, e1, Option.bind_some, if_neg hc]
end QMul
namespace QAdd
theorem codeL_b (p : Int) (b : Bool) (ls : List (List Int)) : codeL p b ls = if codeL p true ls = 0 then (if b = true then 0 else 2) else codeL p true ls := by
  unfold codeL
  cases ls.all (polyB p) <;> cases primeB p <;> cases b <;> simp

theorem add_same (p : Int) (f g : List Int) (c : Int) (hf : f.length ≤ 1048576) (hg : g.length ≤ 1048576) : ∃ (r : List Int) (e : Int), r.length ≤ 1000 ∧ Ev (fun k => spec_AddPolys.f k p f g c) (r, e) ∧ Ev (fun k => impl_AddPolys.f k p f g c) (r, e) := by
  obtain ⟨K1, h1⟩ := spec_code p [f, g] (by simp) (by simp; omega)
  obtain ⟨K2, h2⟩ := impl_code2 p (hasB p c) f g
  have hb := codeL_b p (hasB p c) [f, g]
  by_cases hc : codeL p true [f, g] = 0
  · obtain ⟨hp, _, hq⟩ := codeL_0 hc
    have hqf := hq f (by simp)
    have hqg := hq g (by simp)
    have hw : wrap64 (p - 1) = p - 1 := w64 (by have := hp.1; omega) (by have := hp.2.1; omega)
    rw [if_pos hc] at hb
    by_cases hx : hasB p c = true
    · have hx' := hasB_iff.1 hx
      rw [if_pos hx] at hb
      obtain ⟨K3, h3⟩ := spec_add (c := c) hp.1 hp.2.1 (by have := hqf.len; omega) (by have := hqg.len; omega) hqf.inR hqg.inR hx'.1 (by have := hp.2.1; omega)
      obtain ⟨K4, h4⟩ := impl_add (c := c) hp.1 hp.2.1 (by have := hqf.len; omega) (by have := hqg.len; omega) hqf.inR hqg.inR hx'.1 (by have := hp.2.1; omega)
      refine ⟨addL p f g c, 0, by have := addL_len p f g c; have := hqf.len; have := hqg.len; omega, ⟨K1 + K3 + 1, fun k hk => ?_⟩, ⟨K2 + K4, fun k hk => ?_⟩⟩
      · obtain ⟨k, rfl⟩ : ∃ m, k = m + 1 := ⟨k - 1, by omega⟩
        have e1 := h1 (k + 1) (by omega)
        have e3 := h3 k (by omega)
        simp only at e1 e3
        have hi : spec_l01In.f c 0 (p - 1) = some true := by
          simp only [spec_l01In.f]; rw [if_pos (by omega), decide_eq_true (by omega)]
        simp only [spec_AddPolys.f, e1, hc, Option.bind_some, if_true, hw, hi, spec_AddPolys.j0, Bool.not_true, Bool.false_eq_true, if_false, e3]
      · have e1 := h2 k (by omega)
        have e3 := h4 k (by omega)
        simp only at e1 e3
        simp only [impl_AddPolys.f, e1, hb, Option.bind_some, if_true, e3]
    · rw [if_neg hx] at hb
      refine ⟨[], 2, by simp, ⟨K1 + 1, fun k hk => ?_⟩, ⟨K2, fun k hk => ?_⟩⟩
      · obtain ⟨k, rfl⟩ : ∃ m, k = m + 1 := ⟨k - 1, by omega⟩
        have e1 := h1 (k + 1) (by omega)
        simp only at e1
        have hi : spec_l01In.f c 0 (p - 1) = some false := by
          simp only [spec_l01In.f]
          by_cases h0 : c ≥ 0
          · rw [if_pos h0, decide_eq_false (fun h => hx (hasB_iff.2 (by omega)))]
          · rw [if_neg h0]
        simp only [spec_AddPolys.f, e1, hc, Option.bind_some, if_true, hw, hi, spec_AddPolys.j0, Bool.not_false]
      · have e1 := h2 k (by omega)
        simp only at e1
        simp only [impl_AddPolys.f, e1, hb, Option.bind_some]
        rfl
  · rw [if_neg hc] at hb
    refine ⟨[], codeL p true [f, g], by simp, ⟨K1 + 1, fun k hk => ?_⟩, ⟨K2, fun k hk => ?_⟩⟩
    · obtain ⟨k, rfl⟩ : ∃ m, k = m + 1 := ⟨k - 1, by omega⟩
      have e1 := h1 (k + 1) (by omega)
      simp only at e1
      simp only [spec_AddPolys.f, e1, Option.bind_some, if_neg hc, spec_AddPolys.j0, Bool.false_eq_true, if_false]
    · have e1 := h2 k (by omega)
      simp only at e1
      simp only [impl_AddPolys.f, e1, hb, Option.bind_some, if_neg hc]
end QAdd
namespace QGcd
theorem same (p : Int) (f : List Int) (g : List Int) (hf : f.length ≤ 1048576) (hg : g.length ≤ 1048576) : ∃ (r : List Int) (e : Int), r.length ≤ 1000 ∧ Ev (fun k => spec_GcdPolys.f k p f g) (r, e) ∧ Ev (fun k => impl_GcdPolys.f k p f g) (r, e) := by
  have h1 := spec_code p [f, g] (by simp) (by simp; omega)
  have h2 := impl_code2 p true f g
  by_cases hc : codeL p true [f, g] = 0
  · obtain ⟨hp, _, hq⟩ := codeL_0 hc
    have pf := hq f (by simp)
    have pg := hq g (by simp)
    rw [hc] at h1 h2
    refine ⟨gcdL p f g, 0, by have := gcdL_len hp pf pg; omega, ?_, ?_⟩
    · simp only [spec_GcdPolys.f]
      refine Ev.bind h1 ?_
      simp only [eq_self, if_true]
      exact Ev.bind (spec_gcd hp pf pg) (Ev.now _)
    · simp only [impl_GcdPolys.f]
      refine Ev.bind h2 ?_
      simp only [eq_self, if_true]
      exact Ev.bind (impl_gcd hp pf pg) (Ev.now _)
  · refine ⟨[], codeL p true [f, g], by simp, ?_, ?_⟩
    · simp only [spec_GcdPolys.f]
      refine Ev.bind h1 ?_
      simp only [if_neg hc]
      exact Ev.now _
    · simp only [impl_GcdPolys.f]
      refine Ev.bind h2 ?_
      simp only [if_neg hc]
      exact Ev.now _
end QGcd
namespace QMon
theorem monicL_len (p : Int) (f : List Int) : (monicL p f).length ≤ f.length := by
  have := addL_len p [] f (inv p (rd f ((f.length : Int) - 1))); simpa [monicL] using this

theorem monic_same (p : Int) (f : List Int) (hf : f.length ≤ 1048576) : ∃ (r : List Int) (e : Int), r.length ≤ 1000 ∧ Ev (fun k => spec_MonicPoly.f k p f) (r, e) ∧ Ev (fun k => impl_MonicPoly.f k p f) (r, e) := by
  obtain ⟨K1, h1⟩ := spec_code p [f] (by simp) (by simp; omega)
  obtain ⟨K2, h2⟩ := impl_code1 p true f
  by_cases hc : codeL p true [f] = 0
  · obtain ⟨hp, _, hq⟩ := codeL_0 hc
    have hqf := hq f (by simp)
    by_cases h0 : f.length = 0
    · refine ⟨[], 5, by simp, ⟨K1 + 1, fun k hk => ?_⟩, ⟨K2, fun k hk => ?_⟩⟩
      · obtain ⟨k, rfl⟩ : ∃ m, k = m + 1 := ⟨k - 1, by omega⟩
        have e1 := h1 (k + 1) (by omega)
        simp only at e1
        have hz : ((f.length : Int) == 0) = true := by rw [h0]; rfl
        simp only [spec_MonicPoly.f, e1, hc, Option.bind_some, if_true, hz, spec_MonicPoly.j0]
      · have e1 := h2 k (by omega)
        simp only at e1
        have hz : (f.length : Int) = 0 := by omega
        simp only [impl_MonicPoly.f, e1, hc, Option.bind_some, if_true, if_pos hz]
    · obtain ⟨K3, h3⟩ := spec_monic hp.1 hp.2.1 (by have := hqf.len; omega) hqf.inR
      obtain ⟨K4, h4⟩ := impl_monic hp.1 hp.2.1 (by have := hqf.len; omega) hqf.inR h0
      refine ⟨monicL p f, 0, by have := monicL_len p f; have := hqf.len; omega, ⟨K1 + K3 + 1, fun k hk => ?_⟩, ⟨K2 + K4, fun k hk => ?_⟩⟩
      · obtain ⟨k, rfl⟩ : ∃ m, k = m + 1 := ⟨k - 1, by omega⟩
        have e1 := h1 (k + 1) (by omega)
        have e3 := h3 k (by omega)
        simp only at e1 e3
        rw [if_neg h0] at e3
        have hz : ((f.length : Int) == 0) = false := beq_eq_false_iff_ne.mpr (by omega)
        simp only [spec_MonicPoly.f, e1, hc, Option.bind_some, if_true, hz, spec_MonicPoly.j0, Bool.false_eq_true, if_false, e3]
      · have e1 := h2 k (by omega)
        have e3 := h4 k (by omega)
        simp only at e1 e3
        have hz : ¬ (f.length : Int) = 0 := by omega
        simp only [impl_MonicPoly.f, e1, hc, Option.bind_some, if_true, if_neg hz, e3]
  · refine ⟨[], codeL p true [f], by simp, ⟨K1 + 1, fun k hk => ?_⟩, ⟨K2, fun k hk => ?_⟩⟩
    · obtain ⟨k, rfl⟩ : ∃ m, k = m + 1 := ⟨k - 1, by omega⟩
      have e1 := h1 (k + 1) (by omega)
      simp only at e1
      simp only [spec_MonicPoly.f, e1, Option.bind_some, if_neg hc, spec_MonicPoly.j0, Bool.false_eq_true, if_false]
    · have e1 := h2 k (by omega)
      simp only at e1
      simp only [impl_MonicPoly.f, e1, Option.bind_some, if_neg hc]
end QMon
namespace QPow
theorem spec_loop {p : Int} {f : List Int} (hp : IsP p) (hf : f.length ≤ 25) (hr : InR p f) (N : Nat) (hN : N ≤ 24) : ∀ d e, e + d = N → Ev (fun k => spec_PowerPoly.l0 k p f (d : Int) (powP p f e)) (powP p f N, 0) := by
  intro d
  induction d with
  | zero => intro e h; refine Ev.succ ?_; simp (disch := omega) only [spec_PowerPoly.l0, if_neg]; rw [show e = N by omega]; exact Ev.now _
  | succ d ih =>
    intro e h
    have hi := ih (e + 1) (by omega)
    have hl := powP_len p f hf e
    refine Ev.succ ?_
    simp (disch := omega) only [spec_PowerPoly.l0, if_pos]
    refine Ev.bind (spec_product hp.p2 hp.pm (by omega) (by omega) (powP_inR hp.p2 f e) hr) ?_
    rw [show wrap64 (((d + 1 : Nat) : Int) - 1) = (d : Int) by rw [w64 (by omega) (by omega)]; omega]
    exact hi
theorem impl_loop {p : Int} {f : List Int} (hp : IsP p) (hf : f.length ≤ 25) (hr : InR p f) (N : Nat) (hN : N ≤ 24) : ∀ d e, e + d = N → Ev (fun k => impl_PowerPoly.l0 k p f (powP p f e) (N : Int) (e : Int)) (powP p f N, 0) := by
  intro d
  induction d with
  | zero => intro e h; refine Ev.succ ?_; simp (disch := omega) only [impl_PowerPoly.l0, if_neg]; rw [show e = N by omega]; exact Ev.now _
  | succ d ih =>
    intro e h
    have hi := ih (e + 1) (by omega)
    have hl := powP_len p f hf e
    refine Ev.succ ?_
    simp (disch := omega) only [impl_PowerPoly.l0, if_pos, wp1]
    exact Ev.bind (impl_product hp.p2 hp.pm (by omega) (by omega) (powP_inR hp.p2 f e) hr) hi
theorem same (p : Int) (f : List Int) (c : Int) (hf : f.length ≤ 1048576) : ∃ (r : List Int) (e : Int), r.length ≤ 1000 ∧ Ev (fun k => spec_PowerPoly.f k p f c) (r, e) ∧ Ev (fun k => impl_PowerPoly.f k p f c) (r, e) := by
  have h1 := spec_code p [f] (by simp) (by simp; omega)
  have h2 := impl_code1 p (withinB c 0 24) f
  have hin := in_within c 0 24
  rcases code_cases p (withinB c 0 24) [f] with ⟨hc, hb⟩ | ⟨hc, hx, hb, hp⟩ | ⟨hc, hx, hb, hp, hq⟩
  · rw [hb] at h2
    refine ⟨[], codeL p true [f], by simp, ?_, ?_⟩
    · simp only [spec_PowerPoly.f]
      refine Ev.bind h1 ?_
      simp only [if_neg hc]
      repeat (first | exact Ev.now _ | (refine Ev.bind (by assumption) ?_; try simp only [Option.bind_some, bne_self_eq_false, Bool.false_eq_true, Bool.not_true, Bool.not_false, Bool.or_false, Bool.or_self, eq_self, if_true, if_false, ite_self, if_neg hc]) | (refine Ev.succ ?_; simp only [spec_PowerPoly.j0, spec_PowerPoly.j1, spec_PowerPoly.j2, spec_PowerPoly.j3]; try simp only [Option.bind_some, bne_self_eq_false, Bool.false_eq_true, Bool.not_true, Bool.not_false, Bool.or_false, Bool.or_self, eq_self, if_true, if_false, ite_self, if_neg hc]))
    · simp only [impl_PowerPoly.f]
      refine Ev.bind h2 ?_
      simp only [if_neg hc]
      exact Ev.now _
  · rw [hx] at hin
    rw [hc] at h1
    rw [hb] at h2
    refine ⟨[], 2, by simp, ?_, ?_⟩
    · simp only [spec_PowerPoly.f]
      refine Ev.bind h1 ?_
      simp only [eq_self, if_true, hin, Option.bind_some, Bool.not_false]
      repeat (first | exact Ev.now _ | (refine Ev.bind (by assumption) ?_; try simp only [Option.bind_some, bne_self_eq_false, Bool.false_eq_true, Bool.not_true, Bool.not_false, Bool.or_false, Bool.or_self, eq_self, if_true, if_false, ite_self, show ¬ ((2 : Int) = 0) by omega]) | (refine Ev.succ ?_; simp only [spec_PowerPoly.j0, spec_PowerPoly.j1, spec_PowerPoly.j2, spec_PowerPoly.j3]; try simp only [Option.bind_some, bne_self_eq_false, Bool.false_eq_true, Bool.not_true, Bool.not_false, Bool.or_false, Bool.or_self, eq_self, if_true, if_false, ite_self, show ¬ ((2 : Int) = 0) by omega]))
    · simp only [impl_PowerPoly.f]
      refine Ev.bind h2 ?_
      simp only [show ¬ ((2 : Int) = 0) by omega, if_false]
      exact Ev.now _
  · rw [hx] at hin
    rw [hc] at h1
    rw [hb] at h2
    have pf := hq f (by simp)
    have lf := pf.len
    have hc' : 0 ≤ c ∧ c ≤ 24 := by unfold withinB at hx; simpa using hx
    obtain ⟨n, rfl⟩ : ∃ n : Nat, c = n := ⟨c.toNat, by omega⟩
    have hbd := mul_bd (a := 24) (b := 24) (x := mx ((f.length : Int) - 1) 0) (y := n) (by unfold mx; split <;> omega) (by unfold mx; split <;> omega) (by omega) (by omega)
    by_cases hd : (f.length : Int) - 1 > 0 ∧ ((f.length : Int) - 1) * (n : Int) > 24
    · obtain ⟨hd1, hd2⟩ := hd
      have hm : mx ((f.length : Int) - 1) 0 = (f.length : Int) - 1 := by unfold mx; rw [if_neg (by omega)]
      rw [hm] at hbd
      refine ⟨[], 3, by simp, ?_, ?_⟩
      · simp only [spec_PowerPoly.f]
        refine Ev.bind h1 ?_
        simp only [eq_self, if_true, hin, Option.bind_some, Bool.not_true]
        refine Ev.succ ?_
        simp only [spec_PowerPoly.j0, Bool.false_eq_true, if_false]
        refine Ev.succ ?_
        simp only [spec_PowerPoly.j1, eq_self, if_true, wm1 (show f.length ≤ 1000000000000 by omega), hm]
        rw [w64 (by omega) (by omega), decide_eq_true hd2]
        repeat (first | exact Ev.now _ | (refine Ev.bind (by assumption) ?_; try simp only [Option.bind_some, bne_self_eq_false, Bool.false_eq_true, Bool.not_true, Bool.not_false, Bool.or_false, Bool.or_self, eq_self, if_true, if_false, ite_self, show ¬ ((3 : Int) = 0) by omega]) | (refine Ev.succ ?_; simp only [spec_PowerPoly.j0, spec_PowerPoly.j1, spec_PowerPoly.j2, spec_PowerPoly.j3]; try simp only [Option.bind_some, bne_self_eq_false, Bool.false_eq_true, Bool.not_true, Bool.not_false, Bool.or_false, Bool.or_self, eq_self, if_true, if_false, ite_self, show ¬ ((3 : Int) = 0) by omega]))
      · simp only [impl_PowerPoly.f]
        refine Ev.bind h2 ?_
        simp (disch := omega) only [eq_self, if_true, impl_deg, Option.bind_some, if_pos hd1, w64]
        refine Ev.succ ?_
        simp only [impl_PowerPoly.j0, decide_eq_true hd2, if_true]
        exact Ev.now _
    · refine ⟨powP p f n, 0, by have := powP_len p f lf n; omega, ?_, ?_⟩
      · have hz : ¬ (wrap64 (mx ((f.length : Int) - 1) 0 * (n : Int)) > 24) := by
          rw [w64 (by omega) (by omega)]
          by_cases a1 : (f.length : Int) - 1 > 0
          · have hm : mx ((f.length : Int) - 1) 0 = (f.length : Int) - 1 := by unfold mx; rw [if_neg (by omega)]
            rw [hm]; exact fun hh => hd ⟨a1, hh⟩
          · have hm : mx ((f.length : Int) - 1) 0 = 0 := by unfold mx; split <;> omega
            rw [hm, Int.zero_mul]; omega
        simp only [spec_PowerPoly.f]
        refine Ev.bind h1 ?_
        simp only [eq_self, if_true, hin, Option.bind_some, Bool.not_true]
        refine Ev.succ ?_
        simp only [spec_PowerPoly.j0, Bool.false_eq_true, if_false]
        refine Ev.succ ?_
        simp only [spec_PowerPoly.j1, eq_self, if_true, wm1 (show f.length ≤ 1000000000000 by omega), decide_eq_false hz]
        refine Ev.succ ?_
        simp only [spec_PowerPoly.j2, Bool.false_eq_true, if_false]
        refine Ev.succ ?_
        simp only [spec_PowerPoly.j3, eq_self, if_true]
        exact spec_loop hp lf pf.inR n (by omega) n 0 (by omega)
      · have hi := impl_loop hp lf pf.inR n (by omega) n 0 (by omega)
        simp only [impl_PowerPoly.f]
        refine Ev.bind h2 ?_
        simp (disch := omega) only [eq_self, if_true, impl_deg, Option.bind_some]
        by_cases a1 : (f.length : Int) - 1 > 0
        · have hm : mx ((f.length : Int) - 1) 0 = (f.length : Int) - 1 := by unfold mx; rw [if_neg (by omega)]
          rw [hm] at hbd
          have hz : ¬ (((f.length : Int) - 1) * (n : Int) > 24) := fun hh => hd ⟨a1, hh⟩
          simp only [if_pos a1]
          rw [w64 (by omega) (by omega), decide_eq_false hz]
          refine Ev.succ ?_
          simp only [impl_PowerPoly.j0, Bool.false_eq_true, if_false]
          exact hi
        · simp only [if_neg a1]
          refine Ev.succ ?_
          simp only [impl_PowerPoly.j0, Bool.false_eq_true, if_false]
          exact hi
end QPow
namespace QDer
theorem deriv_same (p : Int) (l : List Int) (hl : l.length ≤ 1048576) : ∃ (r : List Int) (c : Int), r.length ≤ 1000 ∧ Ev (fun k => spec_DerivativeOf.f k p l) (r, c) ∧ Ev (fun k => impl_DerivativeOf.f k p l) (r, c) := by
  obtain ⟨K1, h1⟩ := spec_code p [l] (by simp) (by simp; omega)
  obtain ⟨K2, h2⟩ := impl_code1 p true l
  by_cases hc : codeL p true [l] = 0
  · obtain ⟨hp, _, hq⟩ := codeL_0 hc
    have hq' := hq l (by simp)
    obtain ⟨K3, h3⟩ := spec_derive hp.1 hp.2.1 (by have := hq'.len; omega) hq'.inR
    obtain ⟨K4, h4⟩ := impl_derive hp.1 hp.2.1 (by have := hq'.len; omega) hq'.inR
    refine ⟨derivL p l, 0, by have := derivL_len p l; have := hq'.len; omega, ⟨K1 + K3, fun k hk => ?_⟩, ⟨K2 + K4, fun k hk => ?_⟩⟩
    · have e1 := h1 k (by omega)
      have e3 := h3 k (by omega)
      simp only at e1 e3
      simp only [spec_DerivativeOf.f, e1, hc, Option.bind_some, if_true, e3]
    · have e1 := h2 k (by omega)
      have e3 := h4 k (by omega)
      simp only at e1 e3
      simp only [impl_DerivativeOf.f, e1, hc, Option.bind_some, if_true, e3]
  · refine ⟨[], codeL p true [l], by simp, ⟨K1, fun k hk => ?_⟩, ⟨K2, fun k hk => ?_⟩⟩
    · have e1 := h1 k (by omega)
      simp only at e1
      simp only [spec_DerivativeOf.f, e1, Option.bind_some, if_neg hc]
    · have e1 := h2 k (by omega)
      simp only at e1
      simp only [impl_DerivativeOf.f, e1, Option.bind_some, if_neg hc]
end QDer

theorem ev_uniq {α : Type} {g : Nat → Option α} {a b : α} (h : Ev g a) (h' : Ev g b) : a = b := by
  obtain ⟨K, e⟩ := h
  obtain ⟨K', e'⟩ := h'
  have q := e (K + K') (by omega)
  have q' := e' (K + K') (by omega)
  try dsimp only at q q'
  rw [q] at q'; exact Option.some.inj q'
theorem like_loop (l : List Int) (hl : l.length ≤ 1000000) : ∀ (d i : Nat), i + d = l.length → Ev (fun k => laws_likeInts.l0 k l l (i : Int)) true
  | 0, i, h => by
    refine Ev.succ ?_
    simp (disch := omega) only [laws_likeInts.l0, if_neg]; exact Ev.now _
  | d + 1, i, h => by
    refine Ev.succ ?_
    simp (disch := omega) only [laws_likeInts.l0, if_pos, wp1]
    exact like_loop l hl d (i + 1) (by omega)
theorem like_same (l : List Int) (hl : l.length ≤ 1000000) : Ev (fun k => laws_likeInts.f k l l) true := by
  simp only [laws_likeInts.f, if_true]
  exact like_loop l hl l.length 0 (by omega)
theorem code_po {p : Int} {b : Bool} {ls : List (List Int)} (hp : IsP p) (hb : b = true) (hq : ∀ l ∈ ls, Po p l) : codeL p b ls = 0 := by
  unfold codeL
  rw [if_pos (List.all_eq_true.2 fun l hl => polyB_iff.2 (hq l hl)), if_pos (by rw [primeB_iff.2 hp, hb]; rfl)]
theorem pos2 {p : Int} {f g : List Int} (pf : Po p f) (pg : Po p g) : ∀ l ∈ [f, g], Po p l := fun l hl => by
  rcases List.mem_cons.1 hl with h | h
  · rw [h]; exact pf
  · rw [List.mem_singleton.1 h]; exact pg
theorem add_val {p c : Int} {f g : List Int} (hp : IsP p) (pf : Po p f) (pg : Po p g) (c0 : 0 ≤ c) (c1 : c < p) : Ev (fun k => impl_AddPolys.f k p f g c) (addL p f g c, 0) := by
  have h2 := impl_code2 p (hasB p c) f g
  rw [code_po hp (hasB_iff.2 ⟨c0, c1⟩) (pos2 pf pg)] at h2
  have hp2 := hp.p2
  have hpm := hp.pm
  have lf := pf.len
  have lg := pg.len
  simp only [impl_AddPolys.f]
  refine Ev.bind h2 ?_
  simp only [if_true]
  refine Ev.bind (impl_add (c := c) (by omega) (by omega) (by omega) (by omega) pf.inR pg.inR c0 (by omega)) ?_
  exact Ev.now _
theorem mul_val {p : Int} {f g : List Int} (hp : IsP p) (pf : Po p f) (pg : Po p g) : Ev (fun k => impl_MultiplyPolys.f k p f g) (if (mulL p f g).length > 25 then ([], 3) else (mulL p f g, 0)) := by
  have h2 := impl_code2 p true f g
  rw [code_po hp rfl (pos2 pf pg)] at h2
  have hp2 := hp.p2
  have hpm := hp.pm
  have lf := pf.len
  have lg := pg.len
  have hl := mulL_len p f g
  simp only [impl_MultiplyPolys.f]
  refine Ev.bind h2 ?_
  simp only [if_true]
  refine Ev.bind (impl_product (by omega) (by omega) (by omega) (by omega) pf.inR pg.inR) ?_
  simp only [QMul.limited_eq _ (show (mulL p f g).length ≤ 1000000 by omega)]
  split
  · exact Ev.now _
  · exact Ev.now _
theorem div_val {p : Int} {f g : List Int} (hp : IsP p) (pf : Po p f) (pg : Po p g) (h0 : 0 < g.length) : Ev (fun k => impl_DividePolys.f k p f g) ((divL p f g).1, (divL p f g).2, 0) := by
  have h2 := impl_code2 p true f g
  rw [code_po hp rfl (pos2 pf pg)] at h2
  have hp2 := hp.p2
  have hpm := hp.pm
  have lf := pf.len
  have lg := pg.len
  simp only [impl_DividePolys.f]
  refine Ev.bind h2 ?_
  simp only [if_true, if_neg (show ¬ (g.length : Int) = 0 by omega)]
  refine Ev.bind (impl_divide (by omega) (by omega) (by omega) (by omega) (by omega) pf.inR pg.inR) ?_
  exact Ev.now _
theorem gcd_val {p : Int} {f g : List Int} (hp : IsP p) (pf : Po p f) (pg : Po p g) : Ev (fun k => impl_GcdPolys.f k p f g) (gcdL p f g, 0) := by
  have h2 := impl_code2 p true f g
  rw [code_po hp rfl (pos2 pf pg)] at h2
  simp only [impl_GcdPolys.f]
  refine Ev.bind h2 ?_
  simp only [if_true]
  exact Ev.bind (impl_gcd hp pf pg) (Ev.now _)
/-- where an answer has no error, the arguments were in their ranges -/
theorem mul_ok {p e : Int} {f g r : List Int} (h : Ev (fun k => impl_MultiplyPolys.f k p f g) (r, e)) (he : e = 0) : IsP p ∧ Po p f ∧ Po p g ∧ r = mulL p f g ∧ (mulL p f g).length ≤ 25 := by
  by_cases hc : codeL p true [f, g] = 0
  · obtain ⟨hp, _, hq⟩ := codeL_0 hc
    have pf := hq f (by simp)
    have pg := hq g (by simp)
    have q := ev_uniq h (mul_val hp pf pg)
    by_cases hl : (mulL p f g).length > 25
    · rw [if_pos hl] at q
      have q2 := congrArg Prod.snd q
      simp only at q2; omega
    · rw [if_neg hl] at q
      exact ⟨hp, pf, pg, congrArg Prod.fst q, by omega⟩
  · have h2 := impl_code2 p true f g
    have q := ev_uniq h (show Ev (fun k => impl_MultiplyPolys.f k p f g) ([], codeL p true [f, g]) by
      simp only [impl_MultiplyPolys.f]
      refine Ev.bind h2 ?_
      simp only [if_neg hc]; exact Ev.now _)
    have q2 := congrArg Prod.snd q
    simp only at q2
    exact absurd (q2.symm.trans he) hc
theorem div_ok {p e : Int} {f g a b : List Int} (h : Ev (fun k => impl_DividePolys.f k p f g) (a, b, e)) (he : e = 0) : IsP p ∧ Po p f ∧ Po p g ∧ 0 < g.length ∧ a = (divL p f g).1 ∧ b = (divL p f g).2 := by
  have h2 := impl_code2 p true f g
  by_cases hc : codeL p true [f, g] = 0
  · obtain ⟨hp, _, hq⟩ := codeL_0 hc
    have pf := hq f (by simp)
    have pg := hq g (by simp)
    by_cases h0 : g.length = 0
    · have q := ev_uniq h (show Ev (fun k => impl_DividePolys.f k p f g) ([], [], 5) by
        rw [hc] at h2
        simp only [impl_DividePolys.f]
        refine Ev.bind h2 ?_
        simp only [if_true, if_pos (show (g.length : Int) = 0 by omega)]; exact Ev.now _)
      have q2 := congrArg (fun x => x.2.2) q
      simp only at q2; omega
    · have q := ev_uniq h (div_val hp pf pg (by omega))
      exact ⟨hp, pf, pg, by omega, congrArg Prod.fst q, congrArg (fun x => x.2.1) q⟩
  · have q := ev_uniq h (show Ev (fun k => impl_DividePolys.f k p f g) ([], [], codeL p true [f, g]) by
      simp only [impl_DividePolys.f]
      refine Ev.bind h2 ?_
      simp only [if_neg hc]; exact Ev.now _)
    have q2 := congrArg (fun x => x.2.2) q
    simp only at q2
    exact absurd (q2.symm.trans he) hc
theorem gcd_ok {p e : Int} {f g r : List Int} (h : Ev (fun k => impl_GcdPolys.f k p f g) (r, e)) (he : e = 0) : IsP p ∧ Po p f ∧ Po p g ∧ r = gcdL p f g := by
  by_cases hc : codeL p true [f, g] = 0
  · obtain ⟨hp, _, hq⟩ := codeL_0 hc
    have pf := hq f (by simp)
    have pg := hq g (by simp)
    have q := ev_uniq h (gcd_val hp pf pg)
    exact ⟨hp, pf, pg, congrArg Prod.fst q⟩
  · have h2 := impl_code2 p true f g
    have q := ev_uniq h (show Ev (fun k => impl_GcdPolys.f k p f g) ([], codeL p true [f, g]) by
      simp only [impl_GcdPolys.f]
      refine Ev.bind h2 ?_
      simp only [if_neg hc]; exact Ev.now _)
    have q2 := congrArg Prod.snd q
    simp only at q2
    exact absurd (q2.symm.trans he) hc
theorem part6 {l : List Int} (hb : Bytes l) : Ev (fun k => laws_FnPolynomials.j6 k l) true := by
  obtain ⟨p1, f1, n1, d1, l1⟩ := draw_powerpoly hb
  obtain ⟨r1, e1, b1, s1, i1⟩ := QPow.same p1 f1 n1 (by omega)
  have k1 := like_same r1 (by omega)
  obtain ⟨p2, f2, d2, l2⟩ := draw_monic hb
  obtain ⟨r2, e2, b2, s2, i2⟩ := QMon.monic_same p2 f2 (by omega)
  have k2 := like_same r2 (by omega)
  obtain ⟨p3, f3, g3, c3, d3, l3, l3'⟩ := draw_add hb
  obtain ⟨r3, e3, b3, s3, i3⟩ := QAdd.add_same p3 f3 g3 c3 (by omega) (by omega)
  have k3 := like_same r3 (by omega)
  obtain ⟨p4, f4, d4, l4⟩ := draw_derivative hb
  obtain ⟨r4, e4, b4, s4, i4⟩ := QDer.deriv_same p4 f4 (by omega)
  have k4 := like_same r4 (by omega)
  refine Ev.succ ?_
  simp only [laws_FnPolynomials.j6]
  refine Ev.bind d1 ?_
  refine Ev.bind i1 ?_
  refine Ev.bind s1 ?_
  refine Ev.bind d2 ?_
  refine Ev.bind i2 ?_
  refine Ev.bind s2 ?_
  refine Ev.bind d3 ?_
  refine Ev.bind i3 ?_
  refine Ev.bind s3 ?_
  refine Ev.bind d4 ?_
  refine Ev.bind i4 ?_
  refine Ev.bind s4 ?_
  simp only [if_true]
  refine Ev.bind k1 ?_
  simp only [if_true]
  refine Ev.bind k2 ?_
  simp only [if_true]
  refine Ev.bind k3 ?_
  simp only [if_true]
  refine Ev.bind k4 ?_
  exact Ev.now _
theorem part4 {l : List Int} (hb : Bytes l) : Ev (fun k => laws_FnPolynomials.j4 k l) true := by
  obtain ⟨p1, f1, g1, d1, l1, l1'⟩ := draw_multiply hb
  obtain ⟨r1, e1, b1, s1, i1⟩ := QMul.mult_same p1 f1 g1 (by omega) (by omega)
  have k1 := like_same r1 (by omega)
  refine Ev.succ ?_
  simp only [laws_FnPolynomials.j4]
  refine Ev.bind d1 ?_
  refine Ev.bind i1 ?_
  refine Ev.bind s1 ?_
  simp only [if_true]
  refine Ev.bind k1 ?_
  refine Ev.succ ?_
  simp only [laws_FnPolynomials.j5, Bool.not_true, Bool.false_eq_true, if_false]
  by_cases he : e1 = 0
  · obtain ⟨hp, pf, pg, hr, hl⟩ := mul_ok i1 he
    have h2 := mul_val hp pg pf
    rw [mulL_comm hp.p0 g1 f1, if_neg (by omega), ← hr] at h2
    simp only [if_pos he]
    refine Ev.bind h2 ?_
    simp only [if_true]
    refine Ev.bind k1 ?_
    simp only [if_true]
    exact part6 hb
  · simp only [if_neg he]
    exact part6 hb
theorem part1 {l : List Int} (hb : Bytes l) : Ev (fun k => laws_FnPolynomials.j1 k l) true := by
  obtain ⟨p1, f1, g1, d1, l1, l1'⟩ := draw_gcd hb
  obtain ⟨r1, e1, b1, s1, i1⟩ := QGcd.same p1 f1 g1 (by omega) (by omega)
  have k1 := like_same r1 (by omega)
  refine Ev.succ ?_
  simp only [laws_FnPolynomials.j1]
  refine Ev.bind d1 ?_
  refine Ev.bind i1 ?_
  refine Ev.bind s1 ?_
  simp only [if_true]
  refine Ev.bind k1 ?_
  refine Ev.succ ?_
  simp only [laws_FnPolynomials.j2, Bool.not_true, Bool.false_eq_true, if_false]
  by_cases he : e1 = 0
  · simp only [if_pos he]
    obtain ⟨hp, pf, pg, hr⟩ := gcd_ok i1 he
    refine Ev.succ ?_
    by_cases hl : (r1.length : Int) > 0
    · simp only [laws_FnPolynomials.j3, decide_eq_true hl, if_true]
      obtain ⟨pr, top⟩ := gcdL_po hp pf pg
      have hfg : 0 < f1.length ∨ 0 < g1.length := by
        rcases Nat.eq_zero_or_pos f1.length with h | h
        · rcases Nat.eq_zero_or_pos g1.length with h' | h'
          · exfalso
            rw [hr, List.eq_nil_of_length_eq_zero h, List.eq_nil_of_length_eq_zero h'] at hl
            simp [gcdL, gcdF] at hl
          · exact .inr h'
        · exact .inl h
      obtain ⟨t0, t1⟩ := top hfg
      obtain ⟨v1, v2⟩ := gcdL_dv hp pf pg
      rw [← hr] at pr t0 t1 v1 v2
      have w1 := div_val hp pf pr t0
      have w2 := div_val hp pg pr t0
      rw [Dv.rest hp pf pr t0 t1 v1] at w1
      rw [Dv.rest hp pg pr t0 t1 v2] at w2
      have hw : wrap64 ((r1.length : Int) - 1) = ((r1.length - 1 : Nat) : Int) := by rw [w64 (by omega) (by omega)]; omega
      refine Ev.bind w1 ?_
      refine Ev.bind w2 ?_
      simp only [if_true, if_pos (show (((([] : List Int).length : Nat)) : Int) = (0 : Int) from rfl), hw, if_pos (show (0 : Int) ≤ ((r1.length - 1 : Nat) : Int) by omega), if_pos (show ((r1.length - 1 : Nat) : Int) < (r1.length : Int) by omega), if_pos (show rd r1 ((r1.length - 1 : Nat) : Int) = 1 by rw [rd_n]; exact t1)]
      exact part4 hb
    · simp only [laws_FnPolynomials.j3, decide_eq_false hl, Bool.false_eq_true, if_false]
      exact part4 hb
  · simp only [if_neg he]
    refine Ev.succ ?_
    simp only [laws_FnPolynomials.j3, Bool.false_eq_true, if_false]
    exact part4 hb
theorem FnPolynomials : laws_FnPolynomials.Pure := by
  intro l _ _ hw0
  refine Ev.rounds ?_ (r := true)
  simp only [laws_FnPolynomials.f, laws_big.f, Option.bind_some]
  by_cases hl : (l.length : Int) > 4096
  · simp only [decide_eq_true hl, if_true]; exact Ev.now _
  · simp only [decide_eq_false hl, Bool.false_eq_true, if_false]
    have hb : Bytes l := ⟨by omega, fun x hx => by
      have h2 := hw0 x hx
      simp [Lit.wf, IntKind.min, IntKind.max, IntKind.signed, IntKind.bits] at h2
      omega⟩
    obtain ⟨p1, f1, g1, d1, l1, l1'⟩ := draw_divide hb
    obtain ⟨q1, r1, e1, b1, b1', s1, i1⟩ := QDiv.div_same p1 f1 g1 (by omega) (by omega)
    have k1 := like_same q1 (by omega)
    have k2 := like_same r1 (by omega)
    have m1 : impl_IsPoly.f p1 f1 = some (polyB p1 f1) := rfl
    have m2 : Ev (fun k => spec_IsPoly.f k p1 f1) (polyB p1 f1) := by
      simp only [spec_IsPoly.f]
      exact Ev.bind (spec_poly p1 f1 (by omega)) (Ev.now _)
    refine Ev.bind d1 ?_
    refine Ev.bind i1 ?_
    refine Ev.bind s1 ?_
    simp only [if_true]
    refine Ev.bind k1 ?_
    simp only [if_true]
    refine Ev.bind k2 ?_
    simp only [if_true, m1, Option.bind_some]
    refine Ev.bind m2 ?_
    refine Ev.succ ?_
    simp only [laws_FnPolynomials.j0, bne_self_eq_false, Bool.false_eq_true, if_false]
    by_cases he : e1 = 0
    · simp only [if_pos he]
      obtain ⟨hp, pf, pg, h0, hq, hr⟩ := div_ok i1 he
      obtain ⟨c1, c2, c3, c4, c5, c6⟩ := divL_facts hp pf.inR pg.inR pg.nz h0
      have lf := pf.len
      have lg := pg.len
      have hl2 := c2 pf.nz
      have pq : Po p1 (divL p1 f1 g1).1 := Po.of (by omega) c4 (by rw [← divL_trim hp pf pg h0]; exact Nz.trim _)
      have pr : Po p1 (divL p1 f1 g1).2 := Po.of (by omega) c5 (c3 pf.nz)
      have hm := mulL_len p1 (divL p1 f1 g1).1 g1
      have hm2 : (mulL p1 (divL p1 f1 g1).1 g1).length ≤ 25 := by omega
      have v1 := mul_val hp pq pg
      rw [if_neg (by omega)] at v1
      have pm : Po p1 (mulL p1 (divL p1 f1 g1).1 g1) := Po.of hm2 (mulL_inR hp.p0 _ _) (mulL_nz _ _ _)
      have v2 := add_val (c := 1) hp pm pr (by omega) (by have := hp.p2; omega)
      rw [div_back hp pf pg h0] at v2
      rw [← hq] at v1
      rw [← hq, ← hr] at v2
      have k3 := like_same f1 (by omega)
      refine Ev.bind v1 ?_
      refine Ev.bind v2 ?_
      simp only [if_true]
      refine Ev.bind k3 ?_
      simp only [if_true, if_neg (show ¬ ((r1.length : Int) ≥ (g1.length : Int)) by rw [hr]; omega)]
      exact part1 hb
    · simp only [if_neg he]
      exact part1 hb
end Go.Proofs.Ytjbajagjknhpoaa.Pure

