/- FnResultants: resultants are 0 exactly if there is a common divisor, discriminants are not 0 exactly for simple polynomials, common roots are roots of both. No condition. -/
import Derived.Test.YtlmolloallhclaaVFnResultants
import Derived.Test.YtlmolloallhclaaMa2
import Derived.Test.YtlmolloallhclaaMa5
import Derived.Test.YtlmolloallhclaaMa6
import Derived.Test.YtlmolloallhclaaMa9
import Derived.Test.YtlmolloallhclaaMa8
import Derived.Test.YtlmolloallhclaaMa7
import Derived.Test.YtlmolloallhclaaRows
import Derived.Test.YtlmolloallhclaaYWSized
set_option linter.unusedVariables false
set_option linter.unusedSimpArgs false
namespace Go.Proofs.Ytlmolloallhclaa.Pure
open Go.RowKit Go.Proofs.Ytlmolloallhclaa.H Go.Proofs.YtlmolloallhclaaW.PrintWords Go.Proofs.YtlmolloallhclaaW.PrintLast Go.Proofs.YtlmolloallhclaaW.PrintMore Go.Proofs.Ytlmolloallhclaa.Num

namespace QSim
theorem same (p : Int) (f : List Int) (hf : f.length ≤ 1048576) : ∃ (r : Bool) (e : Int), Ev (fun k => spec_IsSimplePolynomial.f k p f) (r, e) ∧ Ev (fun k => impl_IsSimplePolynomial.f k p f) (r, e) := by
  have h1 := spec_code6 p [f] (by simp) (by simp; omega)
  have h2 := impl_fill1 p true f
  by_cases hc : fillL (codeL p true [f]) [f] = 0
  · obtain ⟨hp, _, hq⟩ := fillL_0 hc
    obtain ⟨pf, h0⟩ := hq f (by simp)
    have lf := pf.len
    have pd := derivL_po hp.p0 pf
    have sd := spec_derive hp.p2 hp.pm (by omega) pf.inR
    have id := impl_derive hp.p2 hp.pm (by omega) pf.inR
    have sg := spec_gcd hp pf pd
    have ig := impl_gcd hp pf pd
    rw [hc] at h1 h2
    refine ⟨((gcdL p f (derivL p f)).length : Int) == 1, 0, ?_, ?_⟩
    · simp only [spec_IsSimplePolynomial.f]
      refine Ev.bind h1 ?_
      simp only [eq_self, if_true]
      exact Ev.bind sd (Ev.bind sg (Ev.now _))
    · simp only [impl_IsSimplePolynomial.f]
      refine Ev.bind h2 ?_
      simp only [eq_self, if_true]
      have h3 : Ev (fun k => impl_field_isSimple.f k p f) (((gcdL p f (derivL p f)).length : Int) == 1) := by
        simp only [impl_field_isSimple.f]
        exact Ev.bind id (Ev.bind ig (Ev.now _))
      exact Ev.bind h3 (Ev.now _)
  · refine ⟨false, fillL (codeL p true [f]) [f], ?_, ?_⟩
    · simp only [spec_IsSimplePolynomial.f]
      refine Ev.bind h1 ?_
      simp only [if_neg hc]
      exact Ev.now _
    · simp only [impl_IsSimplePolynomial.f]
      refine Ev.bind h2 ?_
      simp only [if_neg hc]
      exact Ev.now _
end QSim
namespace QPart
theorem same (p : Int) (f : List Int) (hf : f.length ≤ 1048576) : ∃ (r : List Int) (e : Int), r.length ≤ 1000 ∧ Ev (fun k => spec_SimplePart.f k p f) (r, e) ∧ Ev (fun k => impl_SimplePart.f k p f) (r, e) := by
  have h1 := spec_code6 p [f] (by simp) (by simp; omega)
  have h2 := impl_fill1 p true f
  by_cases hc : fillL (codeL p true [f]) [f] = 0
  · obtain ⟨hp, _, hq⟩ := fillL_0 hc
    obtain ⟨pf, h0⟩ := hq f (by simp)
    have lf := pf.len
    have pd := derivL_po hp.p0 pf
    have sd := spec_derive hp.p2 hp.pm (by omega) pf.inR
    have id := impl_derive hp.p2 hp.pm (by omega) pf.inR
    have sg := spec_gcd hp pf pd
    have ig := impl_gcd hp pf pd
    obtain ⟨pg, gg⟩ := gcdL_po hp pf pd
    have hg0 := (gg (.inl h0)).1
    have lg := pg.len
    have sv := spec_divide hp.p2 hp.pm (f := f) (g := gcdL p f (derivL p f)) (by omega) (by omega) hg0 pf.inR pg.inR
    rw [divL_trim hp pf pg hg0] at sv
    have iv := impl_divide hp.p2 hp.pm (f := f) (g := gcdL p f (derivL p f)) (by omega) (by omega) hg0 pf.inR pg.inR
    rw [hc] at h1 h2
    refine ⟨(divL p f (gcdL p f (derivL p f))).1, 0, by have := (divL_facts hp pf.inR pg.inR pg.nz hg0).2.2.2.2.2; omega, ?_, ?_⟩
    · simp only [spec_SimplePart.f]
      refine Ev.bind h1 ?_
      simp only [eq_self, if_true]
      exact Ev.bind sd (Ev.bind sg (Ev.bind sv (Ev.now _)))
    · simp only [impl_SimplePart.f]
      refine Ev.bind h2 ?_
      simp only [eq_self, if_true]
      exact Ev.bind id (Ev.bind ig (Ev.bind iv (Ev.now _)))
  · refine ⟨[], fillL (codeL p true [f]) [f], by simp, ?_, ?_⟩
    · simp only [spec_SimplePart.f]
      refine Ev.bind h1 ?_
      simp only [if_neg hc]
      exact Ev.now _
    · simp only [impl_SimplePart.f]
      refine Ev.bind h2 ?_
      simp only [if_neg hc]
      exact Ev.now _
end QPart
namespace QCom
theorem same (p : Int) (f : List Int) (g : List Int) (hf : f.length ≤ 1048576) (hg : g.length ≤ 1048576) : ∃ (r : List Int) (e : Int), r.length ≤ 20000 ∧ Ev (fun k => spec_CommonRoots.f k p f g) (r, e) ∧ Ev (fun k => impl_CommonRoots.f k p f g) (r, e) := by
  have h1 := spec_code6 p [f, g] (by simp) (by simp; omega)
  have h2 := impl_fill2 p true f g
  by_cases hc : fillL (codeL p true [f, g]) [f, g] = 0
  · obtain ⟨hp, _, hq⟩ := fillL_0 hc
    obtain ⟨pf, h0⟩ := hq f (by simp)
    obtain ⟨pg, h0'⟩ := hq g (by simp)
    have sg := spec_gcd hp pf pg
    have ig := impl_gcd hp pf pg
    obtain ⟨pc, _⟩ := gcdL_po hp pf pg
    have lc := pc.len
    rw [hc] at h1 h2
    refine ⟨rootsL p (gcdL p f g), 0, by have := rootsL_len hp.p0 hp.pm (gcdL p f g); omega, ?_, ?_⟩
    · simp only [spec_CommonRoots.f]
      refine Ev.bind h1 ?_
      simp only [eq_self, if_true]
      exact Ev.bind sg (Ev.bind (spec_roots hp.p2 hp.pm (by omega) pc.inR) (Ev.now _))
    · simp only [impl_CommonRoots.f]
      refine Ev.bind h2 ?_
      simp only [eq_self, if_true]
      exact Ev.bind ig (Ev.bind (impl_roots hp.p2 hp.pm (by omega) pc.inR) (Ev.now _))
  · refine ⟨[], fillL (codeL p true [f, g]) [f, g], by simp, ?_, ?_⟩
    · simp only [spec_CommonRoots.f]
      refine Ev.bind h1 ?_
      simp only [if_neg hc]
      exact Ev.now _
    · simp only [impl_CommonRoots.f]
      refine Ev.bind h2 ?_
      simp only [if_neg hc]
      exact Ev.now _
end QCom

theorem ev_uniq {α : Type} {g : Nat → Option α} {a b : α} (h : Ev g a) (h' : Ev g b) : a = b := by
  obtain ⟨K, e⟩ := h
  obtain ⟨K', e'⟩ := h'
  have q := e (K + K') (by omega)
  have q' := e' (K + K') (by omega)
  try dsimp only at q q'
  rw [q] at q'; exact Option.some.inj q'
theorem like_loop (l : List Int) (hl : l.length ≤ 1000000) : ∀ (d i : Nat), i + d = l.length → Ev (fun k => laws_likeInts.l0 k l l (i : Int)) true
  | 0, i, h => by
    refine Ev.succ ?_
    simp (disch := omega) only [laws_likeInts.l0, if_neg]; exact Ev.now _
  | d + 1, i, h => by
    refine Ev.succ ?_
    simp (disch := omega) only [laws_likeInts.l0, if_pos, wp1]
    exact like_loop l hl d (i + 1) (by omega)
theorem like_same (l : List Int) (hl : l.length ≤ 1000000) : Ev (fun k => laws_likeInts.f k l l) true := by
  simp only [laws_likeInts.f, if_true]
  exact like_loop l hl l.length 0 (by omega)
theorem code_po {p : Int} {b : Bool} {ls : List (List Int)} (hp : IsP p) (hb : b = true) (hq : ∀ l ∈ ls, Po p l) : codeL p b ls = 0 := by
  unfold codeL
  rw [if_pos (List.all_eq_true.2 fun l hl => polyB_iff.2 (hq l hl)), if_pos (by rw [primeB_iff.2 hp, hb]; rfl)]
theorem pos1 {p : Int} {f : List Int} (pf : Po p f) : ∀ l ∈ [f], Po p l := fun l hl => by
  rw [List.mem_singleton.1 hl]; exact pf
theorem fill_po {p : Int} {b : Bool} {f : List Int} (hp : IsP p) (hb : b = true) (pf : Po p f) (h0 : 0 < f.length) : fillL (codeL p b [f]) [f] = 0 := by
  rw [code_po hp hb (pos1 pf)]; simp [fillL, h0]
theorem value_val {p x : Int} {f : List Int} (hp : IsP p) (pf : Po p f) (hx : 0 ≤ x ∧ x < p) : Ev (fun k => impl_ValueAt.f k p f x) (valL p f x, 0) := by
  have h2 := impl_code1 p (hasB p x) f
  rw [code_po hp (hasB_iff.2 hx) (pos1 pf)] at h2
  simp only [impl_ValueAt.f]
  refine Ev.bind h2 ?_
  simp only [if_true, impl_val hp.p2 hp.pm pf.inR hx, Option.bind_some]
  exact Ev.now _
theorem pos2 {p : Int} {f g : List Int} (pf : Po p f) (pg : Po p g) : ∀ l ∈ [f, g], Po p l := fun l hl => by
  simp only [List.mem_cons, List.not_mem_nil, or_false] at hl
  rcases hl with rfl | rfl
  · exact pf
  · exact pg
theorem fill_po2 {p : Int} {b : Bool} {f g : List Int} (hp : IsP p) (hb : b = true) (pf : Po p f) (pg : Po p g) (h0 : 0 < f.length) (h1 : 0 < g.length) : fillL (codeL p b [f, g]) [f, g] = 0 := by
  rw [code_po hp hb (pos2 pf pg)]; simp [fillL, h0, h1]
theorem gcd_val {p : Int} {f g : List Int} (hp : IsP p) (pf : Po p f) (pg : Po p g) : Ev (fun k => impl_GcdPolys.f k p f g) (gcdL p f g, 0) := by
  have h2 := impl_code2 p true f g
  rw [code_po hp rfl (pos2 pf pg)] at h2
  simp only [impl_GcdPolys.f]
  refine Ev.bind h2 ?_
  simp only [if_true]
  exact Ev.bind (impl_gcd hp pf pg) (Ev.now _)
theorem sim_val {p : Int} {f : List Int} (hp : IsP p) (pf : Po p f) (h0 : 0 < f.length) : Ev (fun k => impl_IsSimplePolynomial.f k p f) (((gcdL p f (derivL p f)).length : Int) == 1, 0) := by
  have h2 := impl_fill1 p true f
  rw [fill_po hp rfl pf h0] at h2
  have lf := pf.len
  have pd := derivL_po hp.p0 pf
  simp only [impl_IsSimplePolynomial.f]
  refine Ev.bind h2 ?_
  simp only [eq_self, if_true]
  have h3 : Ev (fun k => impl_field_isSimple.f k p f) (((gcdL p f (derivL p f)).length : Int) == 1) := by
    simp only [impl_field_isSimple.f]
    exact Ev.bind (impl_derive hp.p2 hp.pm (by omega) pf.inR) (Ev.bind (impl_gcd hp pf pd) (Ev.now _))
  exact Ev.bind h3 (Ev.now _)
theorem part_val {p : Int} {f : List Int} (hp : IsP p) (pf : Po p f) (h0 : 0 < f.length) : Ev (fun k => impl_SimplePart.f k p f) ((divL p f (gcdL p f (derivL p f))).1, 0) := by
  have h2 := impl_fill1 p true f
  rw [fill_po hp rfl pf h0] at h2
  have lf := pf.len
  have pd := derivL_po hp.p0 pf
  obtain ⟨pg, gg⟩ := gcdL_po hp pf pd
  have hg0 := (gg (.inl h0)).1
  have lg := pg.len
  have iv := impl_divide hp.p2 hp.pm (f := f) (g := gcdL p f (derivL p f)) (by omega) (by omega) hg0 pf.inR pg.inR
  simp only [impl_SimplePart.f]
  refine Ev.bind h2 ?_
  simp only [eq_self, if_true]
  exact Ev.bind (impl_derive hp.p2 hp.pm (by omega) pf.inR) (Ev.bind (impl_gcd hp pf pd) (Ev.bind iv (Ev.now _)))
theorem com_val {p : Int} {f g : List Int} (hp : IsP p) (pf : Po p f) (pg : Po p g) (h0 : 0 < f.length) (h1 : 0 < g.length) : Ev (fun k => impl_CommonRoots.f k p f g) (rootsL p (gcdL p f g), 0) := by
  have h2 := impl_fill2 p true f g
  rw [fill_po2 hp rfl pf pg h0 h1] at h2
  obtain ⟨pc, _⟩ := gcdL_po hp pf pg
  have lc := pc.len
  simp only [impl_CommonRoots.f]
  refine Ev.bind h2 ?_
  simp only [eq_self, if_true]
  exact Ev.bind (impl_gcd hp pf pg) (Ev.bind (impl_roots hp.p2 hp.pm (by omega) pc.inR) (Ev.now _))
theorem dsc_ok {q : Int} {h : List Int} (e : (dscA q h).2 = 0) : IsP q ∧ Po q h ∧ 2 ≤ h.length ∧ (dscA q h).1 = dscR q h := by
  unfold dscA at e ⊢
  split at e
  · rename_i hc
    obtain ⟨hp, _, hq⟩ := fillL_0 hc
    obtain ⟨pf, h0⟩ := hq h (by simp)
    split at e
    · simp at e
    · rw [if_pos hc, if_neg ‹_›]
      exact ⟨hp, pf, by omega, rfl⟩
  · exact absurd e ‹_›
theorem part_ok {p e : Int} {f r : List Int} (h : Ev (fun k => impl_SimplePart.f k p f) (r, e)) (he : e = 0) : IsP p ∧ Po p f ∧ 0 < f.length ∧ r = (divL p f (gcdL p f (derivL p f))).1 := by
  have h2 := impl_fill1 p true f
  by_cases hc : fillL (codeL p true [f]) [f] = 0
  · obtain ⟨hp, _, hq⟩ := fillL_0 hc
    obtain ⟨pf, h0⟩ := hq f (by simp)
    exact ⟨hp, pf, h0, congrArg Prod.fst (ev_uniq h (part_val hp pf h0))⟩
  · have q := ev_uniq h (show Ev (fun k => impl_SimplePart.f k p f) ([], fillL (codeL p true [f]) [f]) by
      simp only [impl_SimplePart.f]
      refine Ev.bind h2 ?_
      simp only [if_neg hc]; exact Ev.now _)
    have q2 := congrArg Prod.snd q
    simp only at q2; omega
theorem com_ok {p e : Int} {f g r : List Int} (h : Ev (fun k => impl_CommonRoots.f k p f g) (r, e)) (he : e = 0) : IsP p ∧ Po p f ∧ Po p g ∧ 0 < f.length ∧ 0 < g.length ∧ r = rootsL p (gcdL p f g) := by
  have h2 := impl_fill2 p true f g
  by_cases hc : fillL (codeL p true [f, g]) [f, g] = 0
  · obtain ⟨hp, _, hq⟩ := fillL_0 hc
    obtain ⟨pf, h0⟩ := hq f (by simp)
    obtain ⟨pg, h1⟩ := hq g (by simp)
    exact ⟨hp, pf, pg, h0, h1, congrArg Prod.fst (ev_uniq h (com_val hp pf pg h0 h1))⟩
  · have q := ev_uniq h (show Ev (fun k => impl_CommonRoots.f k p f g) ([], fillL (codeL p true [f, g]) [f, g]) by
      simp only [impl_CommonRoots.f]
      refine Ev.bind h2 ?_
      simp only [if_neg hc]; exact Ev.now _)
    have q2 := congrArg Prod.snd q
    simp only at q2; omega
/-- the draw of two polynomials -/
theorem draw6_two {l : List Int} (hb : Bytes l) : ∃ (p : Int) (f g : List Int), Ev (fun k => spec_l06Two.f k l) (p, f, g) ∧ f.length ≤ 1001 ∧ g.length ≤ 1001 := by
  obtain ⟨s, hs⟩ := draw_from l hb.1
  obtain ⟨p, f, j, t, e, j0, j1, lf⟩ := draw6 hb (i := 0) (by omega) (by omega) s
  obtain ⟨q, hq, eq⟩ := draw_fine p
  have q2 := hq.p2
  obtain ⟨g, j2, t2, e2, j20, j21, lg, rg⟩ := draw_poly hb (p := q) (n := 5) (by omega) (by omega) (by omega) j0 j1 t
  obtain ⟨Kp, hKp⟩ := spec_poly q f (by omega)
  have hp1 : Ev (fun k => spec_l01Poly.f k q f) (polyB q f) := ⟨Kp, hKp⟩
  have fin : ∀ b : Bool, b = true → polyB q f = true → (f.length : Int) > 0 → ∃ g' : List Int, Ev (fun k => spec_l06Two.j0 k p f q g b) (p, f, g') ∧ g'.length ≤ 1001 := by
    intro b hbt hpo hf0
    have pf := polyB_iff.1 hpo
    have lf2 := pf.len
    have hr := spec_roots hq.p2 hq.pm (show f.length ≤ 1000 by omega) pf.inR
    by_cases hr0 : ((rootsL q f).length : Int) > 0
    · have hr1 : (0 : Int) < ((rootsL q f).length : Int) := hr0
      have hx : co (rootsL q f) 0 ∈ rootsL q f := by
        unfold co
        rw [List.getD_eq_getElem?_getD, List.getElem?_eq_getElem (by omega)]
        exact List.getElem_mem _
      obtain ⟨hb2, _⟩ := (mem_rootsL hq.p0).1 hx
      have hw : wrap64 (-rd (rootsL q f) 0) = -co (rootsL q f) 0 := by
        rw [show rd (rootsL q f) 0 = co (rootsL q f) 0 from rd_n _ 0, w64 (by have := hq.pm; omega) (by have := hq.pm; omega)]
      have lm := mulL_len q g [(-co (rootsL q f) 0) % q, 1]
      refine ⟨mulL q g [(-co (rootsL q f) 0) % q, 1], ?_, by simp at lm; omega⟩
      refine Ev.succ ?_
      simp only [spec_l06Two.j0, if_pos hbt]
      refine Ev.bind hr ?_
      simp only [if_pos hr0, if_pos hr1, hw, spec_mod hq.p0 (show q ≤ 1000000000 by have := hq.pm; omega), Option.bind_some]
      exact Ev.bind (spec_product hq.p2 hq.pm (by omega) (by simp) rg (fun y hy => by simp only [List.mem_cons, List.not_mem_nil, or_false] at hy; rcases hy with rfl | rfl; exact emod_bd hq.p0; exact ⟨by omega, by omega⟩)) (Ev.now _)
    · refine ⟨g, ?_, by omega⟩
      refine Ev.succ ?_
      simp only [spec_l06Two.j0, if_pos hbt]
      refine Ev.bind hr ?_
      simp only [if_neg hr0]
      exact Ev.now _
  have fin0 : Ev (fun k => spec_l06Two.j0 k p f q g false) (p, f, g) := by
    refine Ev.succ ?_
    simp only [spec_l06Two.j0, Bool.false_eq_true, if_false]
    exact Ev.now _
  have start : ∀ r, Ev (fun k => if polyB q f = true then (if (f.length : Int) > 0 then (if (f.length : Int) < 10 then ((spec_l01Next.f l j2 t2 3).bind fun bt => spec_l06Two.j0 k p f q g (bt.1 == 0)) else spec_l06Two.j0 k p f q g false) else spec_l06Two.j0 k p f q g false) else spec_l06Two.j0 k p f q g false) r → Ev (fun k => spec_l06Two.f k l) r := by
    intro r hr
    simp only [spec_l06Two.f]
    refine Ev.bind hs ?_
    refine Ev.bind e ?_
    refine Ev.bind eq ?_
    refine Ev.bind e2 ?_
    refine Ev.bind hp1 ?_
    exact hr
  by_cases c1 : polyB q f = true
  · by_cases c2 : (f.length : Int) > 0
    · by_cases c3 : (f.length : Int) < 10
      · obtain ⟨v, j3, t3, e3, j30, j31, _⟩ := draw_next hb j20 j21 t2 3
        by_cases hv : v = 0
        · obtain ⟨g', h', lg'⟩ := fin (v == 0) (beq_iff_eq.mpr hv) c1 c2
          refine ⟨p, f, g', start _ ?_, lf, lg'⟩
          simp only [if_pos c1, if_pos c2, if_pos c3, e3, Option.bind_some]
          exact h'
        · refine ⟨p, f, g, start _ ?_, lf, by omega⟩
          have hv' : (v == 0) = false := beq_eq_false_iff_ne.mpr hv
          simp only [if_pos c1, if_pos c2, if_pos c3, e3, Option.bind_some, hv']
          exact fin0
      · refine ⟨p, f, g, start _ ?_, lf, by omega⟩
        simp only [if_pos c1, if_pos c2, if_neg c3]
        exact fin0
    · refine ⟨p, f, g, start _ ?_, lf, by omega⟩
      simp only [if_pos c1, if_neg c2]
      exact fin0
  · refine ⟨p, f, g, start _ ?_, lf, by omega⟩
    simp only [if_neg c1]
    exact fin0
theorem part8 (p : Int) (f g : List Int) : Ev (fun k => laws_FnResultants.j8 k p f g (resA p f g).1 (resA p f g).2) true := by
  refine Ev.succ ?_
  simp only [laws_FnResultants.j8]
  by_cases hc : fillL (codeL p true [f, g]) [f, g] = 0
  · obtain ⟨hp, _, hq⟩ := fillL_0 hc
    obtain ⟨pf, h0⟩ := hq f (by simp)
    obtain ⟨pg, h1⟩ := hq g (by simp)
    have lf := pf.len
    have lg := pg.len
    have ea : resA p f g = (resR p f g, 0) := by unfold resA; rw [if_pos hc]
    have eb : resA p g f = (resR p g f, 0) := by unfold resA; rw [if_pos (fill_po2 hp rfl pg pf h1 h0)]
    have hr := res_impl p g f
    rw [eb] at hr
    rw [ea]
    obtain ⟨n, hn⟩ : ∃ n, f.length = n + 1 := ⟨f.length - 1, by omega⟩
    obtain ⟨m, hm⟩ : ∃ m, g.length = m + 1 := ⟨g.length - 1, by omega⟩
    have hz := res_zero hp pf pg h0 h1
    have hb := resR_bd hp.p0 f g
    have hb2 := resR_bd hp.p0 g f
    have hsw := res_swap p hn hm
    have hpm := hp.pm
    have hp0 : ¬ p = 0 := by have := hp.p0; omega
    have hnm : 0 ≤ (n : Int) * (m : Int) ∧ (n : Int) * (m : Int) ≤ 24 * 24 := mul_bd (by omega) (by omega) (by omega) (by omega)
    have ew : wrap64 ((wrap64 ((f.length : Int) - 1)) * (wrap64 ((g.length : Int) - 1))) = (n : Int) * (m : Int) := by
      rw [w64 (x := (f.length : Int) - 1) (by omega) (by omega), w64 (x := (g.length : Int) - 1) (by omega) (by omega), show (f.length : Int) - 1 = (n : Int) by omega, show (g.length : Int) - 1 = (m : Int) by omega, w64 (by omega) (by omega)]
    have et : Int.tmod ((n : Int) * (m : Int)) 2 = ((m * n % 2 : Nat) : Int) := by
      rw [tmod_nn hnm.1, Nat.mul_comm, Int.natCast_emod, Int.natCast_mul]; rfl
    simp only [eq_self, if_true]
    refine Ev.bind (gcd_val hp pf pg) ?_
    refine Ev.bind hr ?_
    have eq1 : ((resR p f g == 0) != decide (((gcdL p f g).length : Int) > 1)) = false := by
      by_cases hx : resR p f g = 0
      · have hy := hz.1 hx
        rw [beq_iff_eq.mpr hx, decide_eq_true (show ((gcdL p f g).length : Int) > 1 by omega)]; rfl
      · have hy : ¬ 1 < (gcdL p f g).length := fun h => hx (hz.2 h)
        rw [beq_eq_false_iff_ne.mpr hx, decide_eq_false (show ¬ ((gcdL p f g).length : Int) > 1 by omega)]; rfl
    simp only [eq_self, if_true, eq1]
    refine Ev.succ ?_
    simp only [laws_FnResultants.j9, Bool.false_eq_true, if_false, ew, et]
    by_cases ho : m * n % 2 = 1
    · have ho2 : ((m * n % 2 : Nat) : Int) = 1 := by rw [ho]; rfl
      rw [if_pos ho] at hsw
      have hv : Int.tmod (wrap64 (p - resR p g f)) p = resR p f g := by
        rw [w64 (by omega) (by omega), tmod_nn (by omega), hsw, es_r, Int.sub_neg, Int.add_emod_left, Int.emod_eq_of_lt hb.1 hb.2]
      simp only [if_pos ho2, if_neg hp0, hv, beq_self_eq_true]
      exact Ev.now _
    · have ho2 : ¬ ((m * n % 2 : Nat) : Int) = 1 := by omega
      rw [if_neg ho, Int.emod_eq_of_lt hb.1 hb.2] at hsw
      simp only [if_neg ho2, hsw, beq_self_eq_true]
      exact Ev.now _
  · have ea : resA p f g = (0, fillL (codeL p true [f, g]) [f, g]) := by unfold resA; rw [if_neg hc]
    rw [ea]
    simp only [if_neg hc]
    exact Ev.now _
theorem part0 (p : Int) (f g : List Int) {u : Int} {a b : List Int} (hu : IsP u) (pa : Po u a) (pb : Po u b) (ha : 0 < a.length) (hb : 0 < b.length) : ∀ d i, i + d = (rootsL u (gcdL u a b)).length →
    Ev (fun k => laws_FnResultants.l0 k p f g (resA p f g).1 (resA p f g).2 u a b (rootsL u (gcdL u a b)) (i : Int)) true := by
  obtain ⟨pc, gc⟩ := gcdL_po hu pa pb
  obtain ⟨hc0, hc1⟩ := gc (.inl ha)
  obtain ⟨da, db⟩ := gcdL_dv hu pa pb
  have lr := rootsL_len (p := u) hu.p0 hu.pm (gcdL u a b)
  intro d
  induction d with
  | zero =>
    intro i hi
    have q1 : ¬ ((i : Int) < ((rootsL u (gcdL u a b)).length : Int)) := by omega
    refine Ev.succ ?_
    simp only [laws_FnResultants.l0, if_neg q1]
    exact part8 p f g
  | succ d ih =>
    intro i hi
    have q1 : (i : Int) < ((rootsL u (gcdL u a b)).length : Int) := by omega
    have q2 : (0 : Int) ≤ (i : Int) := Int.natCast_nonneg _
    have w1 : wrap64 ((i : Int) + 1) = ((i + 1 : Nat) : Int) := wp1 (by omega)
    have hx : co (rootsL u (gcdL u a b)) i ∈ rootsL u (gcdL u a b) := by
      unfold co
      rw [List.getD_eq_getElem?_getD, List.getElem?_eq_getElem (by omega)]
      exact List.getElem_mem _
    obtain ⟨hb, hz⟩ := (mem_rootsL hu.p0).1 hx
    have v1 := value_val hu pa hb
    have v2 := value_val hu pb hb
    rw [dv_root hu pa pc hc0 hc1 da hz] at v1
    rw [dv_root hu pb pc hc0 hc1 db hz] at v2
    refine Ev.succ ?_
    simp only [laws_FnResultants.l0, if_pos q1, if_pos q2, rd_n]
    rw [show ((rootsL u (gcdL u a b)).getD i 0) = co (rootsL u (gcdL u a b)) i from rfl]
    refine Ev.bind v1 ?_
    refine Ev.bind v2 ?_
    simp only [eq_self, if_true, w1]
    exact ih (i + 1) (by omega)
theorem part6 {p u e5 : Int} {f g a b r5 : List Int} (i5 : Ev (fun k => impl_CommonRoots.f k u a b) (r5, e5)) : Ev (fun k => laws_FnResultants.j6 k p f g (resA p f g).1 (resA p f g).2 u a b r5 e5 false) true := by
  refine Ev.succ ?_
  simp only [laws_FnResultants.j6, Bool.false_eq_true, if_false]
  by_cases he : e5 = 0
  · obtain ⟨hu, pa, pb, ha, hb, hr⟩ := com_ok i5 he
    simp only [if_pos he, hr]
    exact part0 p f g hu pa pb ha hb (rootsL u (gcdL u a b)).length 0 (by omega)
  · simp only [if_neg he]
    exact part8 p f g
theorem part5 {p q u e3 e4 e5 : Int} {f g h a b r4 r5 : List Int} {s : Bool} (i3 : Ev (fun k => impl_IsSimplePolynomial.f k q h) (s, e3)) (i4 : Ev (fun k => impl_SimplePart.f k q h) (r4, e4)) (i5 : Ev (fun k => impl_CommonRoots.f k u a b) (r5, e5)) :
    Ev (fun k => laws_FnResultants.j5 k p f g (resA p f g).1 (resA p f g).2 h s r4 e4 u a b r5 e5 false) true := by
  refine Ev.succ ?_
  simp only [laws_FnResultants.j5, Bool.false_eq_true, if_false]
  by_cases he : e4 = 0
  · obtain ⟨hq, ph, h0, hr⟩ := part_ok i4 he
    have b3 := congrArg Prod.fst (ev_uniq i3 (sim_val hq ph h0))
    simp only at b3
    by_cases hs : s = true
    · have pd := derivL_po hq.p0 ph
      obtain ⟨pg, gg⟩ := gcdL_po hq ph pd
      have hg0 := (gg (.inl h0)).1
      have hl := (divL_facts hq ph.inR pg.inR pg.nz hg0).2.2.2.2.2
      have h1 : (gcdL q h (derivL q h)).length = 1 := by
        rw [hs] at b3
        have := beq_iff_eq.mp b3.symm
        omega
      have hl2 : r4.length = h.length := by rw [hr, hl, h1]; omega
      simp only [if_pos he, if_pos hs, hl2, bne_self_eq_false]
      exact part6 i5
    · simp only [if_pos he, if_neg hs]
      exact part6 i5
  · simp only [if_neg he]
    exact part6 i5
theorem part4 {p q u e3 e4 e5 : Int} {f g h a b r4 r5 : List Int} {s : Bool} (i3 : Ev (fun k => impl_IsSimplePolynomial.f k q h) (s, e3)) (i4 : Ev (fun k => impl_SimplePart.f k q h) (r4, e4)) (i5 : Ev (fun k => impl_CommonRoots.f k u a b) (r5, e5)) :
    Ev (fun k => laws_FnResultants.j4 k p f g (resA p f g).1 (resA p f g).2 h (dscA q h).1 (dscA q h).2 s e3 r4 e4 u a b r5 e5 false) true := by
  refine Ev.succ ?_
  simp only [laws_FnResultants.j4, Bool.false_eq_true, if_false]
  by_cases he : (dscA q h).2 = 0
  · obtain ⟨hq, ph, h2, hd⟩ := dsc_ok he
    have b := ev_uniq i3 (sim_val hq ph (by omega))
    have b1 := congrArg Prod.fst b
    have b2 := congrArg Prod.snd b
    simp only at b1 b2
    have hz := dsc_zero hq ph h2
    have pd := derivL_po hq.p0 ph
    obtain ⟨pg, gg⟩ := gcdL_po hq ph pd
    have hg0 := (gg (.inl (show 0 < h.length by omega))).1
    have hx : (s != (dscR q h != 0)) = false := by
      rw [b1]
      by_cases hc : dscR q h = 0
      · have := hz.1 hc
        rw [beq_eq_false_iff_ne.mpr (show ((gcdL q h (derivL q h)).length : Int) ≠ 1 by omega), bne_eq_false_iff_eq.mpr hc]; rfl
      · have : ¬ 1 < (gcdL q h (derivL q h)).length := fun h => hc (hz.2 h)
        rw [beq_iff_eq.mpr (show ((gcdL q h (derivL q h)).length : Int) = 1 by omega), bne_iff_ne.mpr hc]; rfl
    simp only [if_pos he, if_pos b2, hd, hx]
    exact part5 i3 i4 i5
  · simp only [if_neg he]
    exact part5 i3 i4 i5
theorem FnResultants : laws_FnResultants.Pure := by
  intro l _ _ hw0
  refine Ev.rounds ?_ (r := true)
  simp only [laws_FnResultants.f, laws_big.f, Option.bind_some]
  by_cases hl : (l.length : Int) > 4096
  · simp only [decide_eq_true hl, if_true]; exact Ev.now _
  · simp only [decide_eq_false hl, Bool.false_eq_true, if_false]
    have hb : Bytes l := ⟨by omega, fun x hx => by
      have h2 := hw0 x hx
      simp [Lit.wf, IntKind.min, IntKind.max, IntKind.signed, IntKind.bits] at h2
      omega⟩
    obtain ⟨p, f, g, d1, l1, l1'⟩ := draw6_two hb
    obtain ⟨q, h, d2, l2⟩ := draw_rootsin hb
    have dr1 : Ev (fun k => spec_DrawResultantOf.f k l) (p, f, g) := by simp only [spec_DrawResultantOf.f]; exact Ev.bind d1 (Ev.now _)
    have dr2 : Ev (fun k => spec_DrawDiscriminantOf.f k l) (q, h) := by simp only [spec_DrawDiscriminantOf.f]; exact Ev.bind d2 (Ev.now _)
    have dr3 : Ev (fun k => spec_DrawCommonRoots.f k l) (p, f, g) := by simp only [spec_DrawCommonRoots.f]; exact Ev.bind d1 (Ev.now _)
    obtain ⟨s, e3, s3, i3⟩ := QSim.same q h (by omega)
    obtain ⟨r4, e4, b4, s4, i4⟩ := QPart.same q h (by omega)
    obtain ⟨r5, e5, b5, s5, i5⟩ := QCom.same p f g (by omega) (by omega)
    have k4 := like_same r4 (by omega)
    have k5 := like_same r5 (by omega)
    refine Ev.bind dr1 ?_
    refine Ev.bind (res_impl p f g) ?_
    refine Ev.bind (res_spec p f g (by omega) (by omega)) ?_
    simp only [if_true, bne_self_eq_false]
    refine Ev.succ ?_
    simp only [laws_FnResultants.j0, Bool.false_eq_true, if_false]
    refine Ev.bind dr2 ?_
    refine Ev.bind (dsc_impl q h) ?_
    refine Ev.bind (dsc_spec q h (by omega)) ?_
    simp only [if_true, bne_self_eq_false]
    refine Ev.succ ?_
    simp only [laws_FnResultants.j1, Bool.false_eq_true, if_false]
    refine Ev.bind i3 ?_
    refine Ev.bind s3 ?_
    simp only [if_true, bne_self_eq_false]
    refine Ev.succ ?_
    simp only [laws_FnResultants.j2, Bool.false_eq_true, if_false]
    refine Ev.bind i4 ?_
    refine Ev.bind s4 ?_
    simp only [if_true]
    refine Ev.bind k4 ?_
    refine Ev.succ ?_
    simp only [laws_FnResultants.j3, Bool.not_true, Bool.false_eq_true, if_false]
    refine Ev.bind dr3 ?_
    refine Ev.bind i5 ?_
    refine Ev.bind s5 ?_
    simp only [if_true]
    refine Ev.bind k5 ?_
    exact part4 i3 i4 i5
end Go.Proofs.Ytlmolloallhclaa.Pure

