/- FnExactComposePolys: the program's ComposePolys answers as the reference's at all arguments. No condition. -/
import Derived.Test.YtcimpcdgdffnpaaMcef3
import Derived.Test.YtcimpcdgdffnpaaMc1
import Derived.Test.YtcimpcdgdffnpaaMabcdef9
import Derived.Test.YtcimpcdgdffnpaaMc2
import Derived.Test.YtcimpcdgdffnpaaMabcdef2
import Derived.Test.YtcimpcdgdffnpaaMabcdef3
set_option linter.unusedVariables false
set_option linter.unusedSimpArgs false
namespace Go.Proofs.Ytcimpcdgdffnpaa.Pure
open Go.RowKit Go.Proofs.Ytcimpcdgdffnpaa.H Go.Proofs.YtcimpcdgdffnpaaW.PrintWords Go.Proofs.YtcimpcdgdffnpaaW.PrintLast Go.Proofs.YtcimpcdgdffnpaaW.PrintMore Go.Proofs.Ytcimpcdgdffnpaa.Num

theorem same (p : Int) (f g : List Int) (hf : f.length ≤ 1048576) (hg : g.length ≤ 1048576) : ∃ (r : List Int) (e : Int), r.length ≤ 20000 ∧ Ev (fun k => spec_ComposePolys.f k p f g) (r, e) ∧ Ev (fun k => impl_ComposePolys.f k p f g) (r, e) := by
  have h1 := spec_code p [f, g] (by simp) (by simp; omega)
  have h2 := impl_code2 p true f g
  by_cases hc : codeL p true [f, g] = 0
  · obtain ⟨hp, _, hq⟩ := codeL_0 hc
    have qf := hq f (by simp)
    have qg := hq g (by simp)
    have lf := qf.len
    have lg := qg.len
    rw [hc] at h1 h2
    have hs := spec_comp hp.p2 hp.pm qf.inR qg.inR qf.len qg.len
    have hi := impl_comp hp.p2 hp.pm qf.inR qg.inR qf.len qg.len
    by_cases hd : (f.length : Int) - 1 > 0 ∧ (g.length : Int) - 1 > 0 ∧ ((f.length : Int) - 1) * ((g.length : Int) - 1) > 24
    · obtain ⟨hd1, hd2, hd3⟩ := hd
      have hb := mul_bd (a := 24) (b := 24) (x := (f.length : Int) - 1) (y := (g.length : Int) - 1) (by omega) (by omega) (by omega) (by omega)
      refine ⟨[], 3, by simp, ?_, ?_⟩
      · simp only [spec_ComposePolys.f]
        refine Ev.bind h1 ?_
        simp (disch := omega) only [eq_self, if_true, mx, wm1, if_neg, w64, if_pos]
        exact Ev.now _
      · simp only [impl_ComposePolys.f]
        refine Ev.bind h2 ?_
        simp (disch := omega) only [eq_self, if_true, impl_deg, Option.bind_some, if_pos, w64]
        exact Ev.now _
    · refine ⟨compL p f g, 0, by have := compL_len (p := p) f g lg; omega, ?_, ?_⟩
      · simp only [spec_ComposePolys.f]
        refine Ev.bind h1 ?_
        have hz : ¬ (wrap64 ((mx ((f.length : Int) - 1) 0) * (mx ((g.length : Int) - 1) 0)) > 24) := by
          by_cases a1 : (f.length : Int) - 1 > 0
          · by_cases a2 : (g.length : Int) - 1 > 0
            · have hb := mul_bd (a := 24) (b := 24) (x := (f.length : Int) - 1) (y := (g.length : Int) - 1) (by omega) (by omega) (by omega) (by omega)
              simp (disch := omega) only [mx, if_neg, w64]
              intro hh; exact hd ⟨a1, a2, hh⟩
            · have e : mx ((g.length : Int) - 1) 0 = 0 := by unfold mx; split <;> omega
              rw [e, Int.mul_zero, w64 (by omega) (by omega)]; omega
          · have e : mx ((f.length : Int) - 1) 0 = 0 := by unfold mx; split <;> omega
            rw [e, Int.zero_mul, w64 (by omega) (by omega)]; omega
        simp (disch := omega) only [eq_self, if_true, wm1, if_neg hz]
        exact Ev.bind hs (Ev.now _)
      · simp only [impl_ComposePolys.f]
        refine Ev.bind h2 ?_
        simp (disch := omega) only [eq_self, if_true, impl_deg, Option.bind_some, hi]
        by_cases a1 : (f.length : Int) - 1 > 0
        · by_cases a2 : (g.length : Int) - 1 > 0
          · have hb := mul_bd (a := 24) (b := 24) (x := (f.length : Int) - 1) (y := (g.length : Int) - 1) (by omega) (by omega) (by omega) (by omega)
            have hz : ¬ (((f.length : Int) - 1) * ((g.length : Int) - 1) > 24) := fun hh => hd ⟨a1, a2, hh⟩
            simp (disch := omega) only [if_pos a1, if_pos a2, w64, if_neg hz]
            exact Ev.now _
          · simp only [if_pos a1, if_neg a2]
            exact Ev.now _
        · simp only [if_neg a1]
          exact Ev.now _
  · refine ⟨[], codeL p true [f, g], by simp, ?_, ?_⟩
    · simp only [spec_ComposePolys.f]
      refine Ev.bind h1 ?_
      simp only [if_neg hc]
      exact Ev.now _
    · simp only [impl_ComposePolys.f]
      refine Ev.bind h2 ?_
      simp only [if_neg hc]
      exact Ev.now _

theorem FnExactComposePolys : laws_FnExactComposePolys.Pure := by
  intro p f g _ _ _ _ _ _ _
  by_cases hl0 : (f.length : Int) > 1048576
  · exact ⟨0, by simp only [laws_FnExactComposePolys.f, if_pos hl0]⟩
  by_cases hl1 : (g.length : Int) > 1048576
  · exact ⟨0, by simp only [laws_FnExactComposePolys.f, if_neg hl0, if_pos hl1]⟩
  obtain ⟨r, e, hr, f1, f2⟩ := same p f g (by omega) (by omega)
  have f3 : Ev (fun k => laws_toInt64S.f k f) f := toI_same f (by omega)
  have f4 : Ev (fun k => laws_eqInt64S.f k f f) true := eqI_same f (by omega)
  have f5 : Ev (fun k => laws_toInt64S.f k g) g := toI_same g (by omega)
  have f6 : Ev (fun k => laws_eqInt64S.f k g g) true := eqI_same g (by omega)
  have f7 : Ev (fun k => laws_markInt64S.f k f (1)) (1 + f.length, up (1) f.length) := mark_up f (by omega) (1) (by omega) (by omega)
  have f8 : Ev (fun k => laws_markInt64S.f k g (1 + f.length)) (1 + f.length + g.length, up (1 + f.length) g.length) := mark_up g (by omega) (1 + f.length) (by omega) (by omega)
  have n1 : ¬ ((1 + f.length + g.length : Int) < 0) := by omega
  have f9 : Ev (fun k => laws_eqInt64S.f k r r) true := eqI_same r (by omega)
  have f10 : Ev (fun k => laws_markInt64S.f k r (1)) (1 + r.length, up (1) r.length) := mark_up r (by omega) (1) (by omega) (by omega)
  have f11 : Ev (fun k => laws_heldInt64S.f k (up (1) r.length) (1)) (1 + r.length) := held_up r.length (by omega) (1) (by omega) (by omega)
  have m0 : ¬ ((1 + r.length : Int) < 0) := by omega
  refine Ev.rounds ?_
  simp only [laws_FnExactComposePolys.f, if_neg hl0, if_neg hl1]
  repeat (first | exact Ev.now _ | (refine Ev.bind (by assumption) ?_; try simp only [Option.bind_some, bne_self_eq_false, Bool.false_eq_true, Bool.not_true, Bool.not_false, Bool.or_false, Bool.or_self, eq_self, if_true, if_false, ite_self, if_neg n1, if_neg m0]) | (refine Ev.succ ?_; simp only [laws_FnExactComposePolys.j0, laws_FnExactComposePolys.j1, laws_FnExactComposePolys.j2]; try simp only [Option.bind_some, bne_self_eq_false, Bool.false_eq_true, Bool.not_true, Bool.not_false, Bool.or_false, Bool.or_self, eq_self, if_true, if_false, ite_self, if_neg n1, if_neg m0]))
end Go.Proofs.Ytcimpcdgdffnpaa.Pure

