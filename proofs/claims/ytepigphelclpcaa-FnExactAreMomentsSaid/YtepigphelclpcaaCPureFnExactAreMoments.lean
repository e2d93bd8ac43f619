/- FnExactAreMoments: the program's AreMoments answers as the reference's at all arguments (of at most 2^20 numbers: beyond that the law itself answers true). No condition. -/
import Derived.Test.YtepigphelclpcaaVFnExactAreMoments
import Derived.Test.YtepigphelclpcaaMa5
import Derived.Test.YtepigphelclpcaaMab1
import Derived.Test.YtepigphelclpcaaMa3
import Derived.Test.YtepigphelclpcaaRows
import Derived.Test.YtepigphelclpcaaWSized
set_option linter.unusedVariables false
set_option linter.unusedSimpArgs false
namespace Go.Proofs.Ytepigphelclpcaa.Pure
open Go.RowKit Go.Proofs.Ytepigphelclpcaa.H Go.Proofs.YtepigphelclpcaaW.PrintWords Go.Proofs.YtepigphelclpcaaW.PrintLast Go.Proofs.Ytepigphelclpcaa.Num
theorem FnExactAreMoments : laws_FnExactAreMoments.Pure := by
  intro p l _ _ hb _
  have hw : wrap64 (1048576 - (l.length : Int)) = 1048576 - (l.length : Int) := w64 (by omega) (by omega)
  refine Ev.rounds ?_ (r := true)
  simp only [laws_FnExactAreMoments.f, laws_szMoments.f, laws_szInt64S.f, hw]
  by_cases hl : (1048576 - (l.length : Int)) < 0
  · simp only [if_pos hl, Option.bind_some, if_pos (show (-1 : Int) < 0 by decide)]; exact Ev.now _
  · simp only [if_neg hl, Option.bind_some]
    refine Ev.bind (toM_same p l (by omega)) ?_
    refine Ev.bind (spec_moments p l (by omega)) ?_
    refine Ev.bind (toM_same p l (by omega)) ?_
    refine Ev.bind (impl_moments p l) ?_
    simp only [bne_self_eq_false, Bool.false_eq_true, if_false]
    refine Ev.bind (toM_same p l (by omega)) ?_
    refine Ev.bind (eqM_same p l (by omega)) ?_
    simp only [if_true]; exact Ev.now _
end Go.Proofs.Ytepigphelclpcaa.Pure

