/- FnExactFindJacobi: the program's FindJacobi answers as the reference's at all arguments. No condition. -/
import Derived.Test.YtiffnigjblbakaaVFnExactFindJacobi
import Derived.Test.YtiffnigjblbakaaMa3
import Derived.Test.YtiffnigjblbakaaMa1
import Derived.Test.YtiffnigjblbakaaMa2
import Derived.Test.YtiffnigjblbakaaMa8
import Derived.Test.YtiffnigjblbakaaMa4
import Derived.Test.YtiffnigjblbakaaMa7
import Derived.Test.YtiffnigjblbakaaMa6
import Derived.Test.YtiffnigjblbakaaRows
import Derived.Test.YtiffnigjblbakaaYWSized
set_option linter.unusedVariables false
set_option linter.unusedSimpArgs false
namespace Go.Proofs.Ytiffnigjblbakaa.Pure
open Go.RowKit Go.Proofs.Ytiffnigjblbakaa.H Go.Proofs.YtiffnigjblbakaaW.PrintWords Go.Proofs.YtiffnigjblbakaaW.PrintLast Go.Proofs.YtiffnigjblbakaaW.PrintMore Go.Proofs.Ytiffnigjblbakaa.Num

theorem codeL_b {p : Int} {b : Bool} {ls : List (List Int)} (h : codeL p true ls ≠ 0) : codeL p b ls = codeL p true ls := by
  unfold codeL at h ⊢
  by_cases h1 : ls.all (polyB p) = true
  · rw [if_pos h1] at h ⊢
    rw [if_pos h1]
    by_cases h2 : primeB p = true
    · rw [if_pos (by rw [h2]; rfl)] at h; exact absurd rfl h
    · rw [Bool.not_eq_true] at h2; rw [h2]; rfl
  · rw [if_neg h1, if_neg h1]
theorem codeL_t {p : Int} {b : Bool} {ls : List (List Int)} (h : codeL p true ls = 0) : codeL p b ls = if b = true then 0 else 2 := by
  unfold codeL at h ⊢
  by_cases h1 : ls.all (polyB p) = true
  · rw [if_pos h1] at h ⊢
    by_cases h2 : primeB p = true
    · rw [h2]; rfl
    · rw [Bool.not_eq_true] at h2; rw [h2] at h; cases h
  · rw [if_neg h1] at h; cases h
theorem monic_spec (l : List Int) (d : Int) (h0 : 0 ≤ d) (h1 : d ≤ 1000) : spec_l03Monic.f l d = some (decide ((l.length : Int) = d + 1) && decide (rd l d = 1)) := by
  have hw : wrap64 (d + 1) = d + 1 := w64 (by omega) (by omega)
  unfold spec_l03Monic.f
  rw [hw]
  by_cases h : (l.length : Int) = d + 1
  · rw [if_pos h, if_pos h0, if_pos (by omega), decide_eq_true h, Bool.true_and]; rfl
  · rw [if_neg h, decide_eq_false h, Bool.false_and]
theorem in_unit (p b : Int) : spec_l01In.f b 1 (wrap64 (p - 1)) = some (unitB p b) := by
  unfold spec_l01In.f unitB
  by_cases h : 1 ≤ b
  · rw [if_pos h, decide_eq_true h, Bool.true_and]
  · rw [if_neg h, decide_eq_false h, Bool.false_and]
theorem same (p : Int) (f g : List Int) (b : Int) (hf : f.length ≤ 1048576) (hg : g.length ≤ 1048576) : ∃ (q : Int) (A B : List Int) (e : Int), A.length ≤ 1000 ∧ B.length ≤ 1000 ∧ Ev (fun k => spec_FindJacobi.f k p f g b) (q, A, B, e) ∧ Ev (fun k => impl_FindJacobi.f k p f g b) (q, A, B, e) := by
  have h1 := spec_code p [f, g] (by simp) (by simp; omega)
  have h2 := impl_code2 p (fjB p b f g) f g
  have wl : wrap64 ((f.length : Int) - 1) = (f.length : Int) - 1 := w64 (by omega) (by omega)
  by_cases hc : codeL p true [f, g] = 0
  · obtain ⟨hp, _, hq⟩ := codeL_0 hc
    have pf := hq f (by simp)
    have pg := hq g (by simp)
    have lf := pf.len
    have lg := pg.len
    rw [hc] at h1
    rw [codeL_t hc] at h2
    cases hb : fjB p b f g with
    | true =>
      rw [if_pos hb] at h2
      have hB := hb
      simp only [fjB, monB, withinB, Bool.and_eq_true, decide_eq_true_eq] at hB
      obtain ⟨hu, ⟨f0, f1⟩, ⟨g0, g1⟩, ⟨d1, d2⟩, dg⟩ := hB
      obtain ⟨n, hn⟩ : ∃ n : Nat, f.length = n + 2 := ⟨f.length - 2, by omega⟩
      have hgn : g.length = n + 1 := by omega
      have e1 : (f.length : Int) - 1 = ((n + 1 : Nat) : Int) := by omega
      have e2 : (g.length : Int) - 1 = ((n : Nat) : Int) := by omega
      have w2 : wrap64 (((n + 1 : Nat) : Int) - 1) = (n : Int) := by rw [w64 (by omega) (by omega)]; omega
      rw [e1, rd_co] at f1
      rw [e2, rd_co] at g1
      have mf : Mn p (n + 1) f := ⟨pf, by omega, f1⟩
      have mg : Mn p n g := ⟨pg, by omega, g1⟩
      have L0 : (List.replicate (n + 1) (0 : Int)).length = n + 1 := List.length_replicate ..
      have hs := spec_fj (b := b) (n := n + 1) hp (by omega) n f g (List.replicate (n + 1) 0) (List.replicate (n + 1) 0) mf mg L0 L0 (by omega)
      have hi := impl_fj (b := b) (n := n + 1) hp (by omega) n f g (List.replicate (n + 1) 0) (List.replicate (n + 1) 0) mf mg L0 L0 (by omega) (fun j hj => by rw [List.getD_eq_getElem?_getD, List.getElem?_replicate]; split <;> rfl)
      have hlen := fjF_len p b (n + 1) n f g (List.replicate (n + 1) 0) (List.replicate (n + 1) 0) L0 L0
      have S : Ev (fun k => spec_FindJacobi.f k p f g b) (fjS p (fjF p b n f g (List.replicate (n + 1) 0) (List.replicate (n + 1) 0))) := by
        simp only [spec_FindJacobi.f]
        refine Ev.bind h1 ?_
        simp only [wl.trans e1, eq_self, if_true, if_neg (show ¬ (((n + 1 : Nat) : Int) < 1) by omega), if_neg (show ¬ (((n + 1 : Nat) : Int) > 12) by omega), monic_spec f ((n + 1 : Nat) : Int) (by omega) (by omega), w2, monic_spec g (n : Int) (by omega) (by omega), in_unit, hu, rd_co, f1, g1, decide_eq_true (show (f.length : Int) = ((n + 1 : Nat) : Int) + 1 by omega), decide_eq_true (show (g.length : Int) = (n : Int) + 1 by omega), decide_true, Bool.and_self, Option.bind_some, Bool.not_true]
        refine Ev.succ ?_
        simp only [spec_FindJacobi.j0, Bool.false_eq_true, if_false]
        refine Ev.succ ?_
        simp only [spec_FindJacobi.j1, if_true, if_pos (show (0 : Int) ≤ ((n + 1 : Nat) : Int) by omega), Int.toNat_natCast, if_pos (show n + 1 ≤ 35184372088832 by omega), Option.bind_some, L0, if_pos (show (0 : Int) < ((n + 1 : Nat) : Int) by omega), w2]
        exact hs
      have I : Ev (fun k => impl_field_find.f k p f g b) (fjI p (fjF p b n f g (List.replicate (n + 1) 0) (List.replicate (n + 1) 0))) := by
        simp only [impl_field_find.f, deg_some f (by omega), Option.bind_some, e1, if_pos (show (0 : Int) ≤ ((n + 1 : Nat) : Int) by omega), Int.toNat_natCast, if_pos (show n + 1 ≤ 35184372088832 by omega), w2]
        exact hi
      cases hF : fjF p b n f g (List.replicate (n + 1) 0) (List.replicate (n + 1) 0) with
      | none =>
        rw [hF] at S I
        refine ⟨0, [], [], 5, by simp, by simp, S, ?_⟩
        simp only [impl_FindJacobi.f]
        refine Ev.bind h2 ?_
        simp only [eq_self, if_true]
        refine Ev.bind I ?_
        simp only [fjI, Bool.false_eq_true, if_false]; exact Ev.now _
      | some r =>
        obtain ⟨A', B'⟩ := r
        rw [hF] at S I
        obtain ⟨la, lb⟩ := hlen A' B' hF
        refine ⟨p, A', B', 0, by omega, by omega, S, ?_⟩
        simp only [impl_FindJacobi.f]
        refine Ev.bind h2 ?_
        simp only [eq_self, if_true]
        refine Ev.bind I ?_
        simp only [fjI, if_true]; exact Ev.now _
    | false =>
      rw [if_neg (by rw [hb]; decide)] at h2
      have sN : ∀ x, Ev (fun k => spec_FindJacobi.j0 k p f g b 0 x true) (0, [], [], 2) := fun x => by
        refine Ev.succ ?_; simp only [spec_FindJacobi.j0, if_true]
        refine Ev.succ ?_; simp only [spec_FindJacobi.j1, if_neg (show ¬ (2 : Int) = 0 by omega)]; exact Ev.now _
      refine ⟨0, [], [], 2, by simp, by simp, ?_, ?_⟩
      · simp only [spec_FindJacobi.f]
        refine Ev.bind h1 ?_
        simp only [wl, eq_self, if_true]
        by_cases c1 : (f.length : Int) - 1 < 1
        · simp only [if_pos c1]; exact sN _
        by_cases c2 : (f.length : Int) - 1 > 12
        · simp only [if_neg c1, if_pos c2]; exact sN _
        have w2 : wrap64 ((f.length : Int) - 1 - 1) = (f.length : Int) - 1 - 1 := w64 (by omega) (by omega)
        simp only [if_neg c1, if_neg c2, w2, monic_spec f ((f.length : Int) - 1) (by omega) (by omega), monic_spec g ((f.length : Int) - 1 - 1) (by omega) (by omega), in_unit, Option.bind_some]
        by_cases c3 : (decide ((f.length : Int) = (f.length : Int) - 1 + 1) && decide (rd f ((f.length : Int) - 1) = 1)) = true
        · by_cases c4 : (decide ((g.length : Int) = (f.length : Int) - 1 - 1 + 1) && decide (rd g ((f.length : Int) - 1 - 1) = 1)) = true
          · cases c5 : unitB p b with
            | true =>
              exfalso
              rw [Bool.and_eq_true, decide_eq_true_eq, decide_eq_true_eq] at c3 c4
              have : fjB p b f g = true := by
                simp only [fjB, monB, withinB, Bool.and_eq_true, decide_eq_true_eq]
                refine ⟨c5, ⟨by omega, c3.2⟩, ⟨by omega, ?_⟩, ⟨by omega, by omega⟩, by omega⟩
                rw [show (g.length : Int) - 1 = (f.length : Int) - 1 - 1 by omega]; exact c4.2
              rw [hb] at this; cases this
            | false => simp only [if_pos c3, if_pos c4]; exact sN _
          · simp only [if_pos c3, if_neg c4]; exact sN _
        · simp only [if_neg c3]; exact sN _
      · simp only [impl_FindJacobi.f]
        refine Ev.bind h2 ?_
        simp only [if_neg (show ¬ (2 : Int) = 0 by omega)]; exact Ev.now _
  · rw [codeL_b hc] at h2
    refine ⟨0, [], [], codeL p true [f, g], by simp, by simp, ?_, ?_⟩
    · simp only [spec_FindJacobi.f]
      refine Ev.bind h1 ?_
      simp only [if_neg hc]
      refine Ev.succ ?_; simp only [spec_FindJacobi.j0, Bool.false_eq_true, if_false]
      refine Ev.succ ?_; simp only [spec_FindJacobi.j1, if_neg hc]; exact Ev.now _
    · simp only [impl_FindJacobi.f]
      refine Ev.bind h2 ?_
      simp only [if_neg hc]
      exact Ev.now _


theorem FnExactFindJacobi : laws_FnExactFindJacobi.Pure := by
  intro p f g b _ _ _ _ _ _ _ _
  by_cases hl0 : (f.length : Int) > 1048576
  · exact ⟨0, by simp only [laws_FnExactFindJacobi.f, if_pos hl0]⟩
  by_cases hl1 : (g.length : Int) > 1048576
  · exact ⟨0, by simp only [laws_FnExactFindJacobi.f, if_neg hl0, if_pos hl1]⟩
  obtain ⟨q, A, B, e, hA, hB, f1, f2⟩ := same p f g b (by omega) (by omega)
  have f3 : Ev (fun k => laws_toInt64S.f k f) f := toI_same f (by omega)
  have f4 : Ev (fun k => laws_eqInt64S.f k f f) true := eqI_same f (by omega)
  have f5 : Ev (fun k => laws_toInt64S.f k g) g := toI_same g (by omega)
  have f6 : Ev (fun k => laws_eqInt64S.f k g g) true := eqI_same g (by omega)
  have f7 : Ev (fun k => laws_markInt64S.f k f 1) (1 + f.length, up 1 f.length) := mark_up f (by omega) 1 (by omega) (by omega)
  have f8 : Ev (fun k => laws_markInt64S.f k g (1 + f.length)) (1 + f.length + g.length, up (1 + f.length) g.length) := mark_up g (by omega) (1 + f.length) (by omega) (by omega)
  have f9 := eqJ_same q A B (by omega) (by omega)
  have f10 := markJ_up q A B (by omega) (by omega) 1 (by omega) (by omega)
  have f11 := heldJ_up q A.length B.length (by omega) (by omega) 1 (by omega) (by omega)
  have n1 : ¬ ((1 + f.length + g.length : Int) < 0) := by omega
  have n2 : ¬ ((1 + A.length + B.length : Int) < 0) := by omega
  refine Ev.rounds ?_
  simp only [laws_FnExactFindJacobi.f, if_neg hl0, if_neg hl1]
  repeat (first | exact Ev.now _ | (refine Ev.bind (by assumption) ?_; try simp only [Option.bind_some, bne_self_eq_false, Bool.false_eq_true, Bool.not_true, Bool.not_false, Bool.or_false, Bool.or_self, eq_self, if_true, if_false, ite_self, if_neg n1, if_neg n2]) | (refine Ev.succ ?_; simp only [laws_FnExactFindJacobi.j0, laws_FnExactFindJacobi.j1, laws_FnExactFindJacobi.j2]; try simp only [Option.bind_some, bne_self_eq_false, Bool.false_eq_true, Bool.not_true, Bool.not_false, Bool.or_false, Bool.or_self, eq_self, if_true, if_false, ite_self, if_neg n1, if_neg n2]))
end Go.Proofs.Ytiffnigjblbakaa.Pure

