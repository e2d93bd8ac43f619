/- FnExactIsJacobi: the program's IsJacobi answers as the reference's at all arguments (of at most 2^20 numbers: beyond that the law itself answers true). No condition. -/
import Derived.Test.YtepigphelclpcaaVFnExactIsJacobi
import Derived.Test.YtepigphelclpcaaMb4
import Derived.Test.YtepigphelclpcaaMab1
import Derived.Test.YtepigphelclpcaaMb3
import Derived.Test.YtepigphelclpcaaRows
import Derived.Test.YtepigphelclpcaaWSized
set_option linter.unusedVariables false
set_option linter.unusedSimpArgs false
namespace Go.Proofs.Ytepigphelclpcaa.Pure
open Go.RowKit Go.Proofs.Ytepigphelclpcaa.H Go.Proofs.YtepigphelclpcaaW.PrintWords Go.Proofs.YtepigphelclpcaaW.PrintLast Go.Proofs.Ytepigphelclpcaa.Num
theorem FnExactIsJacobi : laws_FnExactIsJacobi.Pure := by
  intro p A B _ _ hb _ _ hb2 _
  have hw : wrap64 (1048576 - (A.length : Int)) = 1048576 - (A.length : Int) := w64 (by omega) (by omega)
  refine Ev.rounds ?_ (r := true)
  simp only [laws_FnExactIsJacobi.f, laws_szJacobi.f, laws_szInt64S.f, hw]
  by_cases hl : (1048576 - (A.length : Int)) < 0
  · simp only [if_pos hl, Option.bind_some, if_pos (show (-1 : Int) < 0 by decide)]; exact Ev.now _
  · have hw2 : wrap64 (1048576 - (A.length : Int) - (B.length : Int)) = 1048576 - (A.length : Int) - (B.length : Int) := w64 (by omega) (by omega)
    simp only [if_neg hl, Option.bind_some, hw2]
    by_cases hl2 : (1048576 - (A.length : Int) - (B.length : Int)) < 0
    · simp only [if_pos hl2, Option.bind_some, if_pos (show (-1 : Int) < 0 by decide)]; exact Ev.now _
    · simp only [if_neg hl2, Option.bind_some]
      refine Ev.bind (toJ_same p A B (by omega) (by omega)) ?_
      refine Ev.bind (spec_jacobi p A B) ?_
      refine Ev.bind (toJ_same p A B (by omega) (by omega)) ?_
      refine Ev.bind (impl_jacobi p A B) ?_
      simp only [bne_self_eq_false, Bool.false_eq_true, if_false]
      refine Ev.bind (toJ_same p A B (by omega) (by omega)) ?_
      refine Ev.bind (eqJ_same p A B (by omega) (by omega)) ?_
      simp only [if_true]; exact Ev.now _
end Go.Proofs.Ytepigphelclpcaa.Pure

