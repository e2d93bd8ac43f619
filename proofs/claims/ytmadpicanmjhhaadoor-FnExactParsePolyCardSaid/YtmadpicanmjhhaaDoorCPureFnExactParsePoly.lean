/- FnExactParsePoly: the program's ParsePoly answers as the reference's at all arguments. No condition beyond the listed variables, which the card ties. -/
import Derived.Test.YtmadpicanmjhhaaDoorVFnExactParsePoly
import Derived.Test.YtmadpicanmjhhaaDoorMa8
import Derived.Test.YtmadpicanmjhhaaDoorMa9
import Derived.Test.YtmadpicanmjhhaaDoorRows
import Derived.Test.YtmadpicanmjhhaaDoorMa3
import Derived.Test.YtmadpicanmjhhaaDoorCards
import Derived.Test.YtmadpicanmjhhaaDoorTie
set_option linter.unusedVariables false
set_option linter.unusedSimpArgs false
namespace Go.Proofs.YtmadpicanmjhhaaDoor.Pure
open Go.RowKit Go.Proofs.YtmadpicanmjhhaaDoor.H Go.Proofs.YtmadpicanmjhhaaDoorW.PrintWords Go.Proofs.YtmadpicanmjhhaaDoorW.PrintLast Go.Proofs.YtmadpicanmjhhaaDoorW.PrintMore Go.Proofs.YtmadpicanmjhhaaDoor.Num

theorem prA_parA (p : Int) (t : List UInt8) : prA p t = parA p t := by
  unfold prA parA
  by_cases hp : primeB p = true
  · have hp2 := (primeB_iff.1 hp).2.1
    simp only [if_pos hp]
    by_cases ht : t = [48]
    · subst ht
      rw [parse_zero p]
      simp only [if_true]
      rw [if_pos ⟨polyB_nil p, rfl⟩]
    · simp only [if_neg ht]
      exact parse_eq hp2 ht
  · simp only [if_neg hp]
theorem parA_len (p : Int) (t : List UInt8) : (parA p t).1.length ≤ 25 := by
  unfold parA
  split
  · split
    · simp
    · split
      · rename_i h
        exact (polyB_iff.1 h).len
      · simp
  · simp
theorem FnExactParsePoly : laws_FnExactParsePoly.Pure := by
  intro p s hl
  obtain ⟨r, er, hA⟩ : ∃ r er, parA p s.data.toList = (r, er) := ⟨_, _, rfl⟩
  have hr := parA_len p s.data.toList
  rw [hA] at hr
  simp only at hr
  obtain ⟨K1, s1⟩ := spec_parse p s (by rw [ba_len]; exact hl)
  rw [hA] at s1
  obtain ⟨K3, s3⟩ := eqI_same r (by omega)
  obtain ⟨K7, s7⟩ := mark_up r (by omega) 1 (by omega) (by omega)
  obtain ⟨K9, s9⟩ := held_up r.length (by omega) 1 (by omega) (by omega)
  exact ⟨K1 + K3 + K7 + K9, r, _, er, _, s1 _ (by omega), (prA_parA p _).trans hA, s3 _ (by omega), s7 _ (by omega), s9 _ (by omega), by omega⟩
end Go.Proofs.YtmadpicanmjhhaaDoor.Pure

