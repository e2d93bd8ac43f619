/- FnExactDiscriminantOf: the program's DiscriminantOf answers as the reference's at all arguments. No condition. -/
import Derived.Test.YtlmolloallhclaaVFnExactDiscriminantOf
import Derived.Test.YtlmolloallhclaaMb2
import Derived.Test.YtlmolloallhclaaMb4
import Derived.Test.YtlmolloallhclaaMab1
import Derived.Test.YtlmolloallhclaaMb3
import Derived.Test.YtlmolloallhclaaRows
import Derived.Test.YtlmolloallhclaaYWSized
set_option linter.unusedVariables false
set_option linter.unusedSimpArgs false
namespace Go.Proofs.Ytlmolloallhclaa.Pure
open Go.RowKit Go.Proofs.Ytlmolloallhclaa.H Go.Proofs.YtlmolloallhclaaW.PrintWords Go.Proofs.YtlmolloallhclaaW.PrintLast Go.Proofs.YtlmolloallhclaaW.PrintMore Go.Proofs.Ytlmolloallhclaa.Num

theorem same (p : Int) (f : List Int) (hf : f.length ≤ 1048576) : ∃ (r e : Int), Ev (fun k => spec_DiscriminantOf.f k p f) (r, e) ∧ Ev (fun k => impl_DiscriminantOf.f k p f) (r, e) :=
  ⟨(dscA p f).1, (dscA p f).2, dsc_spec p f hf, dsc_impl p f⟩

theorem FnExactDiscriminantOf : laws_FnExactDiscriminantOf.Pure := by
  intro p f _ _ _ _
  by_cases hl0 : (f.length : Int) > 1048576
  · exact ⟨0, by simp only [laws_FnExactDiscriminantOf.f, if_pos hl0]⟩
  obtain ⟨r, e, f1, f2⟩ := same p f (by omega)
  have f3 : Ev (fun k => laws_toInt64S.f k f) f := toI_same f (by omega)
  have f4 : Ev (fun k => laws_eqInt64S.f k f f) true := eqI_same f (by omega)
  refine Ev.rounds ?_
  simp only [laws_FnExactDiscriminantOf.f, if_neg hl0]
  repeat (first | exact Ev.now _ | (refine Ev.bind (by assumption) ?_; try simp only [Option.bind_some, bne_self_eq_false, Bool.false_eq_true, Bool.not_true, Bool.not_false, Bool.or_false, Bool.or_self, eq_self, if_true, if_false, ite_self]) | (refine Ev.succ ?_; simp only [laws_FnExactDiscriminantOf.j0]; try simp only [Option.bind_some, bne_self_eq_false, Bool.false_eq_true, Bool.not_true, Bool.not_false, Bool.or_false, Bool.or_self, eq_self, if_true, if_false, ite_self]))
end Go.Proofs.Ytlmolloallhclaa.Pure

