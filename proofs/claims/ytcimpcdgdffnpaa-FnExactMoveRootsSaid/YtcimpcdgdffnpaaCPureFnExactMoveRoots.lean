/- FnExactMoveRoots: the program's MoveRoots answers as the reference's at all arguments. No condition. -/
import Derived.Test.YtcimpcdgdffnpaaMabcdef10
import Derived.Test.YtcimpcdgdffnpaaMd1
import Derived.Test.YtcimpcdgdffnpaaMabcdef1
import Derived.Test.YtcimpcdgdffnpaaMabcdef9
import Derived.Test.YtcimpcdgdffnpaaMd3
import Derived.Test.YtcimpcdgdffnpaaMabcdef2
import Derived.Test.YtcimpcdgdffnpaaMabcdef3
import Derived.Test.YtcimpcdgdffnpaaMd2
set_option linter.unusedVariables false
set_option linter.unusedSimpArgs false
namespace Go.Proofs.Ytcimpcdgdffnpaa.Pure
open Go.RowKit Go.Proofs.Ytcimpcdgdffnpaa.H Go.Proofs.YtcimpcdgdffnpaaW.PrintWords Go.Proofs.YtcimpcdgdffnpaaW.PrintLast Go.Proofs.YtcimpcdgdffnpaaW.PrintMore Go.Proofs.Ytcimpcdgdffnpaa.Num

theorem move_loop {p : Int} {f g : List Int} (hp : 2 ≤ p) (hp2 : p ≤ 10007) (rf : InR p f) (rg : InR p g) (lf : f.length ≤ 25) (lg : g.length ≤ 25) : ∀ n, n ≤ f.length → Ev (fun k => spec_MoveRoots.l0 k p f (compL p (f.drop n) g) g ((n : Int) - 1)) (compL p f g, 0) := by
  intro n
  induction n with
  | zero => intro _; refine Ev.succ ?_; simp (disch := omega) only [spec_MoveRoots.l0, if_neg, List.drop_zero]; exact Ev.now _
  | succ n ih =>
    intro hn
    have hc := rf.get (by omega) n
    have hl := compL_len (p := p) (f.drop (n + 1)) g lg
    rw [List.length_drop] at hl
    have hr := compL_inR (p := p) (by omega) (f.drop (n + 1)) g
    have hl2 := mulL_len p (compL p (f.drop (n + 1)) g) g
    have hr2 := mulL_inR (p := p) (by omega) (compL p (f.drop (n + 1)) g) g
    have e : compL p (f.drop n) g = addL p (mulL p (compL p (f.drop (n + 1)) g) g) [1] (f.getD n 0) := by
      rw [List.drop_eq_getElem_cons (show n < f.length by omega), List.getD_eq_getElem?_getD, List.getElem?_eq_getElem (show n < f.length by omega)]
      rfl
    have hi := ih (by omega)
    rw [e] at hi
    have h1 := spec_product hp hp2 (f := compL p (f.drop (n + 1)) g) (g := g) (by omega) (by omega) hr rg
    have h3 := spec_add (c := f.getD n 0) (f := mulL p (compL p (f.drop (n + 1)) g) g) (g := [1]) hp hp2 (by omega) (by simp) hr2 (InR.one (by omega)) (by omega) (by omega)
    refine Ev.succ ?_
    simp (disch := omega) only [spec_MoveRoots.l0, ws1, if_pos, rd_n, wm1]
    exact Ev.bind h1 (Ev.bind h3 hi)
theorem same (p : Int) (f : List Int) (c : Int) (hf : f.length ≤ 1048576) : ∃ (r : List Int) (e : Int), r.length ≤ 1000 ∧ Ev (fun k => spec_MoveRoots.f k p f c) (r, e) ∧ Ev (fun k => impl_MoveRoots.f k p f c) (r, e) := by
  have h1 := spec_code p [f] (by simp) (by simp; omega)
  have h2 := impl_code1 p (hasB p c) f
  rcases code_cases p (hasB p c) [f] with ⟨hc, hb⟩ | ⟨hc, hx, hb, hp⟩ | ⟨hc, hx, hb, hp, hq⟩
  · refine ⟨[], codeL p true [f], by simp, ?_, ?_⟩
    · simp only [spec_MoveRoots.f]
      refine Ev.bind h1 ?_
      simp only [if_neg hc]
      repeat (first | exact Ev.now _ | (refine Ev.bind (by assumption) ?_; try simp only [Option.bind_some, bne_self_eq_false, Bool.false_eq_true, Bool.not_true, Bool.not_false, Bool.or_false, Bool.or_self, eq_self, if_true, if_false, ite_self, if_neg hc]) | (refine Ev.succ ?_; simp only [spec_MoveRoots.j0, spec_MoveRoots.j1]; try simp only [Option.bind_some, bne_self_eq_false, Bool.false_eq_true, Bool.not_true, Bool.not_false, Bool.or_false, Bool.or_self, eq_self, if_true, if_false, ite_self, if_neg hc]))
    · rw [hb] at h2
      simp only [impl_MoveRoots.f]
      refine Ev.bind h2 ?_
      simp only [if_neg hc]
      exact Ev.now _
  · have hin := in_has hp c
    rw [hx] at hin
    rw [hc] at h1
    refine ⟨[], 2, by simp, ?_, ?_⟩
    · simp only [spec_MoveRoots.f]
      refine Ev.bind h1 ?_
      simp only [eq_self, if_true, hin, Option.bind_some, Bool.not_false]
      repeat (first | exact Ev.now _ | (refine Ev.bind (by assumption) ?_; try simp only [Option.bind_some, bne_self_eq_false, Bool.false_eq_true, Bool.not_true, Bool.not_false, Bool.or_false, Bool.or_self, eq_self, if_true, if_false, ite_self, show ¬ ((2 : Int) = 0) by omega]) | (refine Ev.succ ?_; simp only [spec_MoveRoots.j0, spec_MoveRoots.j1]; try simp only [Option.bind_some, bne_self_eq_false, Bool.false_eq_true, Bool.not_true, Bool.not_false, Bool.or_false, Bool.or_self, eq_self, if_true, if_false, ite_self, show ¬ ((2 : Int) = 0) by omega]))
    · rw [hb] at h2
      simp only [impl_MoveRoots.f]
      refine Ev.bind h2 ?_
      simp only [show ¬ ((2 : Int) = 0) by omega, if_false]
      exact Ev.now _
  · have hin := in_has hp c
    rw [hx] at hin
    rw [hc] at h1
    have hq := hq f (by simp)
    have hx' := hasB_iff.1 hx
    have hw : wrap64 (-c) = -c := w64 (by have := hp.pm; omega) (by omega)
    have hb2 := emod_bd (x := -c) hp.p0
    have hr2 : InR p [(-c) % p, 1] := fun y hy => by rcases List.mem_cons.1 hy with rfl | hy; exact hb2; rw [List.mem_singleton.1 hy]; have := hp.p2; omega
    have hs := move_loop hp.p2 hp.pm hq.inR hr2 hq.len (by simp) f.length (Nat.le_refl _)
    rw [List.drop_length] at hs
    have hi := impl_comp hp.p2 hp.pm hq.inR hr2 hq.len (by simp)
    refine ⟨compL p f [(-c) % p, 1], 0, by have := compL_len (p := p) f [(-c) % p, 1] (by simp); have := hq.len; omega, ?_, ?_⟩
    · simp only [spec_MoveRoots.f]
      refine Ev.bind h1 ?_
      simp only [eq_self, if_true, hin, Option.bind_some, Bool.not_true]
      refine Ev.succ ?_
      simp only [spec_MoveRoots.j0, Bool.false_eq_true, if_false]
      refine Ev.succ ?_
      simp only [spec_MoveRoots.j1, eq_self, if_true, hw, spec_mod hp.p0 (show p ≤ 1000000000 by have := hp.pm; omega), Option.bind_some, wm1 (show f.length ≤ 1000000000000 by have := hq.len; omega)]
      exact hs
    · rw [hb] at h2
      simp only [impl_MoveRoots.f]
      refine Ev.bind h2 ?_
      simp only [eq_self, if_true]
      simp only [hw, impl_mod hp.p0 (show p ≤ 1000000000 by have := hp.pm; omega), hi, Option.bind_some]
      exact Ev.now _

theorem FnExactMoveRoots : laws_FnExactMoveRoots.Pure := by
  intro p f c _ _ _ _ _
  by_cases hl0 : (f.length : Int) > 1048576
  · exact ⟨0, by simp only [laws_FnExactMoveRoots.f, if_pos hl0]⟩
  obtain ⟨r, e, hr, f1, f2⟩ := same p f c (by omega)
  have f3 : Ev (fun k => laws_toInt64S.f k f) f := toI_same f (by omega)
  have f4 : Ev (fun k => laws_eqInt64S.f k f f) true := eqI_same f (by omega)
  have f5 : Ev (fun k => laws_markInt64S.f k f (1)) (1 + f.length, up (1) f.length) := mark_up f (by omega) (1) (by omega) (by omega)
  have n1 : ¬ ((1 + f.length : Int) < 0) := by omega
  have f6 : Ev (fun k => laws_eqInt64S.f k r r) true := eqI_same r (by omega)
  have f7 : Ev (fun k => laws_markInt64S.f k r (1)) (1 + r.length, up (1) r.length) := mark_up r (by omega) (1) (by omega) (by omega)
  have f8 : Ev (fun k => laws_heldInt64S.f k (up (1) r.length) (1)) (1 + r.length) := held_up r.length (by omega) (1) (by omega) (by omega)
  have m0 : ¬ ((1 + r.length : Int) < 0) := by omega
  refine Ev.rounds ?_
  simp only [laws_FnExactMoveRoots.f, if_neg hl0]
  repeat (first | exact Ev.now _ | (refine Ev.bind (by assumption) ?_; try simp only [Option.bind_some, bne_self_eq_false, Bool.false_eq_true, Bool.not_true, Bool.not_false, Bool.or_false, Bool.or_self, eq_self, if_true, if_false, ite_self, if_neg n1, if_neg m0]) | (refine Ev.succ ?_; simp only [laws_FnExactMoveRoots.j0, laws_FnExactMoveRoots.j1, laws_FnExactMoveRoots.j2]; try simp only [Option.bind_some, bne_self_eq_false, Bool.false_eq_true, Bool.not_true, Bool.not_false, Bool.or_false, Bool.or_self, eq_self, if_true, if_false, ite_self, if_neg n1, if_neg m0]))
end Go.Proofs.Ytcimpcdgdffnpaa.Pure

