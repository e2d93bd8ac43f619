/- FnExactPolyText: the program's PolyText answers as the reference's at all arguments. No condition beyond the listed variables, which the card ties. -/
import Derived.Test.YtmadpicanmjhhaaDoorVFnExactPolyText
import Derived.Test.YtmadpicanmjhhaaDoorMa6
import Derived.Test.YtmadpicanmjhhaaDoorMa3
import Derived.Test.YtmadpicanmjhhaaDoorRows
import Derived.Test.YtmadpicanmjhhaaDoorCards
import Derived.Test.YtmadpicanmjhhaaDoorTie
import Derived.Test.YtmadpicanmjhhaaDoorYWSized
set_option linter.unusedVariables false
set_option linter.unusedSimpArgs false
namespace Go.Proofs.YtmadpicanmjhhaaDoor.Pure
open Go.RowKit Go.Proofs.YtmadpicanmjhhaaDoor.H Go.Proofs.YtmadpicanmjhhaaDoorW.PrintWords Go.Proofs.YtmadpicanmjhhaaDoorW.PrintLast Go.Proofs.YtmadpicanmjhhaaDoorW.PrintMore Go.Proofs.YtmadpicanmjhhaaDoor.Num

theorem spec_ptA (p : Int) (l : List Int) (hl : l.length ≤ 1000000000) : Ev (fun k => spec_PolyText.f k p l) ((⟨(ptA p l).1.toArray⟩ : ByteArray), (ptA p l).2) := by
  have h := spec_code p [l] (by simp) (fun x hx => by rw [List.mem_singleton.1 hx]; exact hl)
  simp only [spec_PolyText.f, ptA]
  refine Ev.bind h ?_
  by_cases hc : codeL p true [l] = 0
  · obtain ⟨hp, _, hq⟩ := codeL_0 hc
    have hpo := hq l (by simp)
    have h2 := spec_text l (by have := hpo.len; omega) (fun x hx => by have := hpo.el x hx; have := hp.2.1; omega)
    simp only [if_pos hc]
    refine Ev.bind h2 ?_
    exact Ev.now _
  · simp only [if_neg hc]
    exact Ev.now _
theorem FnExactPolyText : laws_FnExactPolyText.Pure := by
  intro p l hl
  obtain ⟨K1, h1⟩ := toI_same l (by omega)
  obtain ⟨K2, h2⟩ := spec_ptA p l (by omega)
  obtain ⟨K3, h3⟩ := eqI_same l (by omega)
  exact ⟨K1 + K2 + K3, (ptA p l).1, (ptA p l).2, h1 _ (by omega), h2 _ (by omega), rfl, h3 _ (by omega)⟩
end Go.Proofs.YtmadpicanmjhhaaDoor.Pure

