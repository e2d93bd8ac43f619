/- FnExactResultantOf: the program's ResultantOf answers as the reference's at all arguments. No condition. -/
import Derived.Test.YtlmolloallhclaaVFnExactResultantOf
import Derived.Test.YtlmolloallhclaaMa1
import Derived.Test.YtlmolloallhclaaMa2
import Derived.Test.YtlmolloallhclaaMab1
import Derived.Test.YtlmolloallhclaaRows
import Derived.Test.YtlmolloallhclaaYWSized
set_option linter.unusedVariables false
set_option linter.unusedSimpArgs false
namespace Go.Proofs.Ytlmolloallhclaa.Pure
open Go.RowKit Go.Proofs.Ytlmolloallhclaa.H Go.Proofs.YtlmolloallhclaaW.PrintWords Go.Proofs.YtlmolloallhclaaW.PrintLast Go.Proofs.YtlmolloallhclaaW.PrintMore Go.Proofs.Ytlmolloallhclaa.Num

theorem same (p : Int) (f g : List Int) (hf : f.length ≤ 1048576) (hg : g.length ≤ 1048576) : ∃ (r e : Int), Ev (fun k => spec_ResultantOf.f k p f g) (r, e) ∧ Ev (fun k => impl_ResultantOf.f k p f g) (r, e) :=
  ⟨(resA p f g).1, (resA p f g).2, res_spec p f g hf hg, res_impl p f g⟩

theorem FnExactResultantOf : laws_FnExactResultantOf.Pure := by
  intro p f g _ _ _ _ _ _ _
  by_cases hl0 : (f.length : Int) > 1048576
  · exact ⟨0, by simp only [laws_FnExactResultantOf.f, if_pos hl0]⟩
  by_cases hl1 : (g.length : Int) > 1048576
  · exact ⟨0, by simp only [laws_FnExactResultantOf.f, if_neg hl0, if_pos hl1]⟩
  obtain ⟨r, e, f1, f2⟩ := same p f g (by omega) (by omega)
  have f3 : Ev (fun k => laws_toInt64S.f k f) f := toI_same f (by omega)
  have f4 : Ev (fun k => laws_eqInt64S.f k f f) true := eqI_same f (by omega)
  have f5 : Ev (fun k => laws_toInt64S.f k g) g := toI_same g (by omega)
  have f6 : Ev (fun k => laws_eqInt64S.f k g g) true := eqI_same g (by omega)
  refine Ev.rounds ?_
  simp only [laws_FnExactResultantOf.f, if_neg hl0, if_neg hl1]
  repeat (first | exact Ev.now _ | (refine Ev.bind (by assumption) ?_; try simp only [Option.bind_some, bne_self_eq_false, Bool.false_eq_true, Bool.not_true, Bool.not_false, Bool.or_false, Bool.or_self, eq_self, if_true, if_false, ite_self]) | (refine Ev.succ ?_; simp only [laws_FnExactResultantOf.j0]; try simp only [Option.bind_some, bne_self_eq_false, Bool.false_eq_true, Bool.not_true, Bool.not_false, Bool.or_false, Bool.or_self, eq_self, if_true, if_false, ite_self]))
end Go.Proofs.Ytlmolloallhclaa.Pure

