/- FnRootMoves: moved and scaled polynomials have moved and scaled roots, reversed ones undo themselves. No condition. -/
import Derived.Test.YthiignohbooelaaVFnRootMoves
import Derived.Test.YthiignohbooelaaMa4
import Derived.Test.YthiignohbooelaaMab6
import Derived.Test.YthiignohbooelaaMa5
import Derived.Test.YthiignohbooelaaMab1
import Derived.Test.YthiignohbooelaaMa3
import Derived.Test.YthiignohbooelaaMa8
import Derived.Test.YthiignohbooelaaMa6
import Derived.Test.YthiignohbooelaaMa7
import Derived.Test.YthiignohbooelaaRows
import Derived.Test.YthiignohbooelaaYWSized
set_option linter.unusedVariables false
set_option linter.unusedSimpArgs false
namespace Go.Proofs.Ythiignohbooelaa.Pure
open Go.RowKit Go.Proofs.Ythiignohbooelaa.H Go.Proofs.YthiignohbooelaaW.PrintWords Go.Proofs.YthiignohbooelaaW.PrintLast Go.Proofs.YthiignohbooelaaW.PrintMore Go.Proofs.Ythiignohbooelaa.Num

namespace QMove
theorem move_loop {p : Int} {f g : List Int} (hp : 2 ≤ p) (hp2 : p ≤ 10007) (rf : InR p f) (rg : InR p g) (lf : f.length ≤ 25) (lg : g.length ≤ 25) : ∀ n, n ≤ f.length → Ev (fun k => spec_MoveRoots.l0 k p f (compL p (f.drop n) g) g ((n : Int) - 1)) (compL p f g, 0) := by
  intro n
  induction n with
  | zero => intro _; refine Ev.succ ?_; simp (disch := omega) only [spec_MoveRoots.l0, if_neg, List.drop_zero]; exact Ev.now _
  | succ n ih =>
    intro hn
    have hc := rf.get (by omega) n
    have hl := compL_len (p := p) (f.drop (n + 1)) g lg
    rw [List.length_drop] at hl
    have hr := compL_inR (p := p) (by omega) (f.drop (n + 1)) g
    have hl2 := mulL_len p (compL p (f.drop (n + 1)) g) g
    have hr2 := mulL_inR (p := p) (by omega) (compL p (f.drop (n + 1)) g) g
    have e : compL p (f.drop n) g = addL p (mulL p (compL p (f.drop (n + 1)) g) g) [1] (f.getD n 0) := by
      rw [List.drop_eq_getElem_cons (show n < f.length by omega), List.getD_eq_getElem?_getD, List.getElem?_eq_getElem (show n < f.length by omega)]
      rfl
    have hi := ih (by omega)
    rw [e] at hi
    have h1 := spec_product hp hp2 (f := compL p (f.drop (n + 1)) g) (g := g) (by omega) (by omega) hr rg
    have h3 := spec_add (c := f.getD n 0) (f := mulL p (compL p (f.drop (n + 1)) g) g) (g := [1]) hp hp2 (by omega) (by simp) hr2 (InR.one (by omega)) (by omega) (by omega)
    refine Ev.succ ?_
    simp (disch := omega) only [spec_MoveRoots.l0, ws1, if_pos, rd_n, wm1]
    exact Ev.bind h1 (Ev.bind h3 hi)
theorem same (p : Int) (f : List Int) (c : Int) (hf : f.length ≤ 1048576) : ∃ (r : List Int) (e : Int), r.length ≤ 1000 ∧ Ev (fun k => spec_MoveRoots.f k p f c) (r, e) ∧ Ev (fun k => impl_MoveRoots.f k p f c) (r, e) := by
  have h1 := spec_code p [f] (by simp) (by simp; omega)
  have h2 := impl_code1 p (hasB p c) f
  rcases code_cases p (hasB p c) [f] with ⟨hc, hb⟩ | ⟨hc, hx, hb, hp⟩ | ⟨hc, hx, hb, hp, hq⟩
  · refine ⟨[], codeL p true [f], by simp, ?_, ?_⟩
    · simp only [spec_MoveRoots.f]
      refine Ev.bind h1 ?_
      simp only [if_neg hc]
      repeat (first | exact Ev.now _ | (refine Ev.bind (by assumption) ?_; try simp only [Option.bind_some, bne_self_eq_false, Bool.false_eq_true, Bool.not_true, Bool.not_false, Bool.or_false, Bool.or_self, eq_self, if_true, if_false, ite_self, if_neg hc]) | (refine Ev.succ ?_; simp only [spec_MoveRoots.j0, spec_MoveRoots.j1]; try simp only [Option.bind_some, bne_self_eq_false, Bool.false_eq_true, Bool.not_true, Bool.not_false, Bool.or_false, Bool.or_self, eq_self, if_true, if_false, ite_self, if_neg hc]))
    · rw [hb] at h2
      simp only [impl_MoveRoots.f]
      refine Ev.bind h2 ?_
      simp only [if_neg hc]
      exact Ev.now _
  · have hin := in_has hp c
    rw [hx] at hin
    rw [hc] at h1
    refine ⟨[], 2, by simp, ?_, ?_⟩
    · simp only [spec_MoveRoots.f]
      refine Ev.bind h1 ?_
      simp only [eq_self, if_true, hin, Option.bind_some, Bool.not_false]
      repeat (first | exact Ev.now _ | (refine Ev.bind (by assumption) ?_; try simp only [Option.bind_some, bne_self_eq_false, Bool.false_eq_true, Bool.not_true, Bool.not_false, Bool.or_false, Bool.or_self, eq_self, if_true, if_false, ite_self, show ¬ ((2 : Int) = 0) by omega]) | (refine Ev.succ ?_; simp only [spec_MoveRoots.j0, spec_MoveRoots.j1]; try simp only [Option.bind_some, bne_self_eq_false, Bool.false_eq_true, Bool.not_true, Bool.not_false, Bool.or_false, Bool.or_self, eq_self, if_true, if_false, ite_self, show ¬ ((2 : Int) = 0) by omega]))
    · rw [hb] at h2
      simp only [impl_MoveRoots.f]
      refine Ev.bind h2 ?_
      simp only [show ¬ ((2 : Int) = 0) by omega, if_false]
      exact Ev.now _
  · have hin := in_has hp c
    rw [hx] at hin
    rw [hc] at h1
    have hq := hq f (by simp)
    have hx' := hasB_iff.1 hx
    have hw : wrap64 (-c) = -c := w64 (by have := hp.pm; omega) (by omega)
    have hb2 := emod_bd (x := -c) hp.p0
    have hr2 : InR p [(-c) % p, 1] := fun y hy => by rcases List.mem_cons.1 hy with rfl | hy; exact hb2; rw [List.mem_singleton.1 hy]; have := hp.p2; omega
    have hs := move_loop hp.p2 hp.pm hq.inR hr2 hq.len (by simp) f.length (Nat.le_refl _)
    rw [List.drop_length] at hs
    have hi := impl_comp hp.p2 hp.pm hq.inR hr2 hq.len (by simp)
    refine ⟨compL p f [(-c) % p, 1], 0, by have := compL_len (p := p) f [(-c) % p, 1] (by simp); have := hq.len; omega, ?_, ?_⟩
    · simp only [spec_MoveRoots.f]
      refine Ev.bind h1 ?_
      simp only [eq_self, if_true, hin, Option.bind_some, Bool.not_true]
      refine Ev.succ ?_
      simp only [spec_MoveRoots.j0, Bool.false_eq_true, if_false]
      refine Ev.succ ?_
      simp only [spec_MoveRoots.j1, eq_self, if_true, hw, spec_mod hp.p0 (show p ≤ 1000000000 by have := hp.pm; omega), Option.bind_some, wm1 (show f.length ≤ 1000000000000 by have := hq.len; omega)]
      exact hs
    · rw [hb] at h2
      simp only [impl_MoveRoots.f]
      refine Ev.bind h2 ?_
      simp only [eq_self, if_true]
      simp only [hw, impl_mod hp.p0 (show p ≤ 1000000000 by have := hp.pm; omega), hi, Option.bind_some]
      exact Ev.now _
end QMove
namespace QScale
theorem same (p : Int) (f : List Int) (c : Int) (hf : f.length ≤ 1048576) : ∃ (r : List Int) (e : Int), r.length ≤ 1000 ∧ Ev (fun k => spec_ScaleRoots.f k p f c) (r, e) ∧ Ev (fun k => impl_ScaleRoots.f k p f c) (r, e) := by
  have h1 := spec_code p [f] (by simp) (by simp; omega)
  have h2 := impl_code1 p (unitB p c) f
  rcases code_cases p (unitB p c) [f] with ⟨hc, hb⟩ | ⟨hc, hx, hb, hp⟩ | ⟨hc, hx, hb, hp, hq⟩
  · refine ⟨[], codeL p true [f], by simp, ?_, ?_⟩
    · simp only [spec_ScaleRoots.f]
      refine Ev.bind h1 ?_
      simp only [if_neg hc]
      repeat (first | exact Ev.now _ | (refine Ev.bind (by assumption) ?_; try simp only [Option.bind_some, bne_self_eq_false, Bool.false_eq_true, Bool.not_true, Bool.not_false, Bool.or_false, Bool.or_self, eq_self, if_true, if_false, ite_self, if_neg hc]) | (refine Ev.succ ?_; simp only [spec_ScaleRoots.j0, spec_ScaleRoots.j1]; try simp only [Option.bind_some, bne_self_eq_false, Bool.false_eq_true, Bool.not_true, Bool.not_false, Bool.or_false, Bool.or_self, eq_self, if_true, if_false, ite_self, if_neg hc]))
    · rw [hb] at h2
      simp only [impl_ScaleRoots.f]
      refine Ev.bind h2 ?_
      simp only [if_neg hc]
      exact Ev.now _
  · have hin := in_unit (p := p) c
    rw [hx] at hin
    rw [hc] at h1
    refine ⟨[], 2, by simp, ?_, ?_⟩
    · simp only [spec_ScaleRoots.f]
      refine Ev.bind h1 ?_
      simp only [eq_self, if_true, hin, Option.bind_some, Bool.not_false]
      repeat (first | exact Ev.now _ | (refine Ev.bind (by assumption) ?_; try simp only [Option.bind_some, bne_self_eq_false, Bool.false_eq_true, Bool.not_true, Bool.not_false, Bool.or_false, Bool.or_self, eq_self, if_true, if_false, ite_self, show ¬ ((2 : Int) = 0) by omega]) | (refine Ev.succ ?_; simp only [spec_ScaleRoots.j0, spec_ScaleRoots.j1]; try simp only [Option.bind_some, bne_self_eq_false, Bool.false_eq_true, Bool.not_true, Bool.not_false, Bool.or_false, Bool.or_self, eq_self, if_true, if_false, ite_self, show ¬ ((2 : Int) = 0) by omega]))
    · rw [hb] at h2
      simp only [impl_ScaleRoots.f]
      refine Ev.bind h2 ?_
      simp only [show ¬ ((2 : Int) = 0) by omega, if_false]
      exact Ev.now _
  · have hin := in_unit (p := p) c
    rw [hx] at hin
    rw [hc] at h1
    have hq := hq f (by simp)
    have hx' : 1 ≤ c ∧ c ≤ p - 1 := by unfold unitB at hx; rw [w64 (by have := hp.p2; omega) (by have := hp.pm; omega), Bool.and_eq_true, decide_eq_true_eq, decide_eq_true_eq] at hx; exact hx
    have hl := hq.len
    have hs := spec_scale (c := c) hp.p2 hp.pm (by omega) hq.inR (by omega) f.length (Nat.le_refl _)
    rw [List.drop_of_length_le (by rw [scL_len]; omega), Nat.sub_self, Int.pow_zero, List.append_nil, Int.emod_eq_of_lt (a := 1) (by omega) (by have := hp.p2; omega)] at hs
    have hi := impl_scale (c := c) hp.p2 hp.pm (by omega) hq.inR (by omega) f.length 0 (by omega)
    refine ⟨scL p c f, 0, by rw [scL_len]; have := hq.len; omega, ?_, ?_⟩
    · simp only [spec_ScaleRoots.f]
      refine Ev.bind h1 ?_
      simp only [eq_self, if_true, hin, Option.bind_some, Bool.not_true]
      refine Ev.succ ?_
      simp only [spec_ScaleRoots.j0, Bool.false_eq_true, if_false]
      refine Ev.succ ?_
      simp (disch := omega) only [spec_ScaleRoots.j1, eq_self, if_true, if_pos, Int.toNat_natCast, wm1]
      exact hs
    · rw [hb] at h2
      simp only [impl_ScaleRoots.f]
      refine Ev.bind h2 ?_
      simp only [eq_self, if_true]
      exact hi
end QScale
namespace QRev
theorem same (p : Int) (f : List Int) (hf : f.length ≤ 1048576) : ∃ (r : List Int) (e : Int), r.length ≤ 1000 ∧ Ev (fun k => spec_ReversePolynomial.f k p f) (r, e) ∧ Ev (fun k => impl_ReversePolynomial.f k p f) (r, e) := by
  have h1 := spec_code6 p [f] (by simp) (by simp; omega)
  have h2 := impl_fill1 p true f
  by_cases hc : fillL (codeL p true [f]) [f] = 0
  · obtain ⟨hp, _, hq⟩ := fillL_0 hc
    obtain ⟨pf, h0⟩ := hq f (by simp)
    have lf := pf.len
    rw [hc] at h1 h2
    by_cases hz : rd f 0 = 0
    · refine ⟨[], 5, by simp, ?_, ?_⟩
      · simp only [spec_ReversePolynomial.f]
        refine Ev.bind h1 ?_
        simp (disch := omega) only [eq_self, if_true, if_pos, hz, beq_self_eq_true]
        refine Ev.succ ?_
        simp only [spec_ReversePolynomial.j0, if_true]
        exact Ev.now _
      · simp only [impl_ReversePolynomial.f]
        refine Ev.bind h2 ?_
        simp (disch := omega) only [eq_self, if_true, if_pos, hz]
        exact Ev.now _
    · refine ⟨f.reverse, 0, by simp; omega, ?_, ?_⟩
      · simp only [spec_ReversePolynomial.f]
        refine Ev.bind h1 ?_
        simp (disch := omega) only [eq_self, if_true, if_pos, beq_eq_false_iff_ne.mpr hz]
        refine Ev.succ ?_
        simp only [spec_ReversePolynomial.j0, Bool.false_eq_true, if_false, eq_self, if_true]
        exact Ev.bind (spec_back f (by omega)) (Ev.now _)
      · simp only [impl_ReversePolynomial.f]
        refine Ev.bind h2 ?_
        simp (disch := omega) only [eq_self, if_true, if_pos, if_neg hz]
        exact Ev.bind (impl_reversed_ f (by omega)) (Ev.now _)
  · refine ⟨[], fillL (codeL p true [f]) [f], by simp, ?_, ?_⟩
    · simp only [spec_ReversePolynomial.f]
      refine Ev.bind h1 ?_
      simp only [if_neg hc]
      refine Ev.succ ?_
      simp only [spec_ReversePolynomial.j0, Bool.false_eq_true, if_false, if_neg hc]
      exact Ev.now _
    · simp only [impl_ReversePolynomial.f]
      refine Ev.bind h2 ?_
      simp only [if_neg hc]
      exact Ev.now _
end QRev

theorem ev_uniq {α : Type} {g : Nat → Option α} {a b : α} (h : Ev g a) (h' : Ev g b) : a = b := by
  obtain ⟨K, e⟩ := h
  obtain ⟨K', e'⟩ := h'
  have q := e (K + K') (by omega)
  have q' := e' (K + K') (by omega)
  try dsimp only at q q'
  rw [q] at q'; exact Option.some.inj q'
theorem like_loop (l : List Int) (hl : l.length ≤ 1000000) : ∀ (d i : Nat), i + d = l.length → Ev (fun k => laws_likeInts.l0 k l l (i : Int)) true
  | 0, i, h => by
    refine Ev.succ ?_
    simp (disch := omega) only [laws_likeInts.l0, if_neg]; exact Ev.now _
  | d + 1, i, h => by
    refine Ev.succ ?_
    simp (disch := omega) only [laws_likeInts.l0, if_pos, wp1]
    exact like_loop l hl d (i + 1) (by omega)
theorem like_same (l : List Int) (hl : l.length ≤ 1000000) : Ev (fun k => laws_likeInts.f k l l) true := by
  simp only [laws_likeInts.f, if_true]
  exact like_loop l hl l.length 0 (by omega)
theorem code_po {p : Int} {b : Bool} {ls : List (List Int)} (hp : IsP p) (hb : b = true) (hq : ∀ l ∈ ls, Po p l) : codeL p b ls = 0 := by
  unfold codeL
  rw [if_pos (List.all_eq_true.2 fun l hl => polyB_iff.2 (hq l hl)), if_pos (by rw [primeB_iff.2 hp, hb]; rfl)]
theorem pos1 {p : Int} {f : List Int} (pf : Po p f) : ∀ l ∈ [f], Po p l := fun l hl => by
  rw [List.mem_singleton.1 hl]; exact pf
theorem fill_po {p : Int} {b : Bool} {f : List Int} (hp : IsP p) (hb : b = true) (pf : Po p f) (h0 : 0 < f.length) : fillL (codeL p b [f]) [f] = 0 := by
  rw [code_po hp hb (pos1 pf)]; simp [fillL, h0]
theorem value_val {p x : Int} {f : List Int} (hp : IsP p) (pf : Po p f) (hx : 0 ≤ x ∧ x < p) : Ev (fun k => impl_ValueAt.f k p f x) (valL p f x, 0) := by
  have h2 := impl_code1 p (hasB p x) f
  rw [code_po hp (hasB_iff.2 hx) (pos1 pf)] at h2
  simp only [impl_ValueAt.f]
  refine Ev.bind h2 ?_
  simp only [if_true, impl_val hp.p2 hp.pm pf.inR hx, Option.bind_some]
  exact Ev.now _
theorem roots_val {p : Int} {f : List Int} (hp : IsP p) (pf : Po p f) (h0 : 0 < f.length) : Ev (fun k => impl_RootsIn.f k p f) (rootsL p f, 0) := by
  have h2 := impl_fill1 p true f
  rw [fill_po hp rfl pf h0] at h2
  have lf := pf.len
  simp only [impl_RootsIn.f]
  refine Ev.bind h2 ?_
  simp only [if_true]
  exact Ev.bind (impl_roots hp.p2 hp.pm (by omega) pf.inR) (Ev.now _)
theorem move_val {p a : Int} {f : List Int} (hp : IsP p) (pf : Po p f) (ha : 0 ≤ a ∧ a < p) : Ev (fun k => impl_MoveRoots.f k p f a) (compL p f [(-a) % p, 1], 0) := by
  have h2 := impl_code1 p (hasB p a) f
  rw [code_po hp (hasB_iff.2 ha) (pos1 pf)] at h2
  have hw : wrap64 (-a) = -a := w64 (by have := hp.pm; omega) (by omega)
  have hi := impl_comp hp.p2 hp.pm pf.inR (lin_inR hp.p2 a) pf.len (by simp)
  simp only [impl_MoveRoots.f]
  refine Ev.bind h2 ?_
  simp only [if_true, hw, impl_mod hp.p0 (show p ≤ 1000000000 by have := hp.pm; omega), hi, Option.bind_some]
  exact Ev.now _
theorem scale_val {p c : Int} {f : List Int} (hp : IsP p) (pf : Po p f) (hc : 1 ≤ c ∧ c ≤ p - 1) : Ev (fun k => impl_ScaleRoots.f k p f c) (scL p c f, 0) := by
  have h2 := impl_code1 p (unitB p c) f
  have hu : unitB p c = true := by
    unfold unitB
    rw [w64 (by have := hp.p2; omega) (by have := hp.pm; omega), Bool.and_eq_true, decide_eq_true_eq, decide_eq_true_eq]; exact hc
  rw [code_po hp hu (pos1 pf)] at h2
  have lf := pf.len
  simp only [impl_ScaleRoots.f]
  refine Ev.bind h2 ?_
  simp only [if_true]
  exact impl_scale (c := c) hp.p2 hp.pm (by omega) pf.inR (by omega) f.length 0 (by omega)
theorem rev_val {p : Int} {f : List Int} (hp : IsP p) (pf : Po p f) (h0 : 0 < f.length) (hz : co f 0 ≠ 0) : Ev (fun k => impl_ReversePolynomial.f k p f) (f.reverse, 0) := by
  have h2 := impl_fill1 p true f
  rw [fill_po hp rfl pf h0] at h2
  have lf := pf.len
  have hz' : ¬ rd f 0 = 0 := fun h => hz (by rw [← h]; exact (rd_n f 0).symm)
  simp only [impl_ReversePolynomial.f]
  refine Ev.bind h2 ?_
  simp (disch := omega) only [eq_self, if_true, if_pos, if_neg hz']
  exact Ev.bind (impl_reversed_ f (by omega)) (Ev.now _)
/-- where an answer has no error, the arguments were in their ranges -/
theorem move_ok {p a e : Int} {f r : List Int} (h : Ev (fun k => impl_MoveRoots.f k p f a) (r, e)) (he : e = 0) : IsP p ∧ Po p f ∧ (0 ≤ a ∧ a < p) ∧ r = compL p f [(-a) % p, 1] := by
  have h2 := impl_code1 p (hasB p a) f
  by_cases hc : codeL p (hasB p a) [f] = 0
  · obtain ⟨hp, hb, hq⟩ := codeL_0 hc
    have pf := hq f (by simp)
    have ha := hasB_iff.1 hb
    exact ⟨hp, pf, ha, congrArg Prod.fst (ev_uniq h (move_val hp pf ha))⟩
  · have q := ev_uniq h (show Ev (fun k => impl_MoveRoots.f k p f a) ([], codeL p (hasB p a) [f]) by
      simp only [impl_MoveRoots.f]
      refine Ev.bind h2 ?_
      simp only [if_neg hc]; exact Ev.now _)
    have q2 := congrArg Prod.snd q
    simp only at q2; omega
theorem move_bad {p a e : Int} {f r : List Int} (h : Ev (fun k => impl_MoveRoots.f k p f a) (r, e)) (he : e ≠ 0) : r = [] := by
  have h2 := impl_code1 p (hasB p a) f
  by_cases hc : codeL p (hasB p a) [f] = 0
  · obtain ⟨hp, hb, hq⟩ := codeL_0 hc
    have q := congrArg Prod.snd (ev_uniq h (move_val hp (hq f (by simp)) (hasB_iff.1 hb)))
    simp only at q; omega
  · exact congrArg Prod.fst (ev_uniq h (show Ev (fun k => impl_MoveRoots.f k p f a) ([], codeL p (hasB p a) [f]) by
      simp only [impl_MoveRoots.f]
      refine Ev.bind h2 ?_
      simp only [if_neg hc]; exact Ev.now _))
theorem scale_ok {p c e : Int} {f r : List Int} (h : Ev (fun k => impl_ScaleRoots.f k p f c) (r, e)) (he : e = 0) : IsP p ∧ Po p f ∧ (1 ≤ c ∧ c ≤ p - 1) ∧ r = scL p c f := by
  have h2 := impl_code1 p (unitB p c) f
  by_cases hc : codeL p (unitB p c) [f] = 0
  · obtain ⟨hp, hb, hq⟩ := codeL_0 hc
    have pf := hq f (by simp)
    have hc' : 1 ≤ c ∧ c ≤ p - 1 := by unfold unitB at hb; rw [w64 (by have := hp.p2; omega) (by have := hp.pm; omega), Bool.and_eq_true, decide_eq_true_eq, decide_eq_true_eq] at hb; exact hb
    exact ⟨hp, pf, hc', congrArg Prod.fst (ev_uniq h (scale_val hp pf hc'))⟩
  · have q := ev_uniq h (show Ev (fun k => impl_ScaleRoots.f k p f c) ([], codeL p (unitB p c) [f]) by
      simp only [impl_ScaleRoots.f]
      refine Ev.bind h2 ?_
      simp only [if_neg hc]; exact Ev.now _)
    have q2 := congrArg Prod.snd q
    simp only at q2; omega
theorem rev_ok {p e : Int} {f r : List Int} (h : Ev (fun k => impl_ReversePolynomial.f k p f) (r, e)) (he : e = 0) : IsP p ∧ Po p f ∧ 0 < f.length ∧ co f 0 ≠ 0 ∧ r = f.reverse := by
  have h2 := impl_fill1 p true f
  by_cases hc : fillL (codeL p true [f]) [f] = 0
  · obtain ⟨hp, _, hq⟩ := fillL_0 hc
    obtain ⟨pf, h0⟩ := hq f (by simp)
    have lf := pf.len
    by_cases hz : co f 0 = 0
    · have hz' : rd f 0 = 0 := (rd_n f 0).trans hz
      have q := ev_uniq h (show Ev (fun k => impl_ReversePolynomial.f k p f) ([], 5) by
        rw [hc] at h2
        simp only [impl_ReversePolynomial.f]
        refine Ev.bind h2 ?_
        simp (disch := omega) only [eq_self, if_true, if_pos, hz']
        exact Ev.now _)
      have q2 := congrArg Prod.snd q
      simp only at q2; omega
    · exact ⟨hp, pf, h0, hz, congrArg Prod.fst (ev_uniq h (rev_val hp pf h0 hz))⟩
  · have q := ev_uniq h (show Ev (fun k => impl_ReversePolynomial.f k p f) ([], fillL (codeL p true [f]) [f]) by
      simp only [impl_ReversePolynomial.f]
      refine Ev.bind h2 ?_
      simp only [if_neg hc]; exact Ev.now _)
    have q2 := congrArg Prod.snd q
    simp only at q2; omega
theorem rev_po {p : Int} {f : List Int} (hp : IsP p) (pf : Po p f) (h0 : 0 < f.length) (hz : co f 0 ≠ 0) : Po p f.reverse := by
  refine Po.of (by rw [List.length_reverse]; exact pf.len) (fun x hx => pf.inR x (List.mem_reverse.1 hx)) (.inr ?_)
  rw [List.length_reverse, co_reverse f _ (by omega), show f.length - 1 - (f.length - 1) = 0 by omega]
  exact hz
theorem part7 {p a e : Int} {f r : List Int} (h : Ev (fun k => impl_MoveRoots.f k p f a) (r, e)) (lf : f.length ≤ 1000000) : Ev (fun k => laws_FnRootMoves.j7 k p f a r e) true := by
  refine Ev.succ ?_
  by_cases he : e = 0
  · obtain ⟨hp, pf, ha, hr⟩ := move_ok h he
    have hp2 := hp.p2
    have hpm := hp.pm
    have hp0 : ¬ p = 0 := by omega
    have pr : Po p r := hr ▸ move_po hp.p0 pf.len
    have hw : wrap64 (p - a) = p - a := w64 (by omega) (by omega)
    have hbk : 0 ≤ (p - a) % p ∧ (p - a) % p < p := emod_bd hp.p0
    have b1 := move_val hp pr hbk
    have hback : compL p r [(-((p - a) % p)) % p, 1] = f := by
      rw [hr]
      refine move_back hp ?_ pf
      have h1 : cg p ((-((p - a) % p)) % p + (-a) % p) (-(p - a) + -a) := ((cg.mod _ _).trans (cg.mod _ _).neg).add (cg.mod _ _)
      refine h1.trans ⟨-1, by omega⟩
    rw [hback] at b1
    have b2 := value_val hp pr ha
    have b3 := value_val (x := 0) hp pf (by omega)
    have hv : valL p r a = valL p f 0 := by
      rw [hr, valL_comp hp.p2, valL_lin hp.p2, Int.sub_self, Int.zero_emod]
    have k1 := like_same f lf
    simp only [laws_FnRootMoves.j7, if_pos he, if_neg hp0, hw, tmod_nn (show 0 ≤ p - a by omega)]
    refine Ev.bind b1 ?_
    refine Ev.bind b2 ?_
    refine Ev.bind b3 ?_
    simp only [if_true]
    refine Ev.bind k1 ?_
    simp only [if_true, hv, beq_self_eq_true]
    exact Ev.now _
  · have hr := move_bad h he
    simp only [laws_FnRootMoves.j7, if_neg he, hr]
    exact Ev.now _
theorem part6 {p a e u e3 : Int} {f r g s : List Int} (h : Ev (fun k => impl_MoveRoots.f k p f a) (r, e)) (lf : f.length ≤ 1000000) (h3 : Ev (fun k => impl_ReversePolynomial.f k u g) (s, e3)) (lg : g.length ≤ 1000000) :
    Ev (fun k => laws_FnRootMoves.j6 k p f a r e u g s e3) true := by
  refine Ev.succ ?_
  by_cases he : e3 = 0
  · obtain ⟨hp, pf, h0, hz, hr⟩ := rev_ok h3 he
    have b1 := rev_val hp (rev_po hp pf h0 hz) (by rw [List.length_reverse]; exact h0) (by
      rw [co_reverse g 0 h0, Nat.sub_zero]
      have := pf.nz.top pf.inR hp.p0 h0
      omega)
    rw [List.reverse_reverse, ← hr] at b1
    have k1 := like_same g lg
    simp only [laws_FnRootMoves.j6, if_pos he]
    refine Ev.bind b1 ?_
    simp only [if_true]
    refine Ev.bind k1 ?_
    simp only [if_true]
    exact part7 h lf
  · simp only [laws_FnRootMoves.j6, if_neg he]
    exact part7 h lf
theorem part0 {p a e u e3 q c : Int} {f r g s t w : List Int} (h : Ev (fun k => impl_MoveRoots.f k p f a) (r, e)) (lf : f.length ≤ 1000000) (h3 : Ev (fun k => impl_ReversePolynomial.f k u g) (s, e3)) (lg : g.length ≤ 1000000)
    (hq : IsP q) (pt : Po q t) (hc : 1 ≤ c ∧ c ≤ q - 1) (hw : w = scL q c t) : ∀ d i, i + d = (rootsL q t).length →
    Ev (fun k => laws_FnRootMoves.l0 k p f a r e q c w u g s e3 (rootsL q t) (i : Int)) true := by
  have hq2 := hq.p2
  have hqm := hq.pm
  have lr := rootsL_len (p := q) hq.p0 hq.pm t
  intro d
  induction d with
  | zero =>
    intro i hi
    have q1 : ¬ ((i : Int) < ((rootsL q t).length : Int)) := by omega
    refine Ev.succ ?_
    simp only [laws_FnRootMoves.l0, if_neg q1]
    exact part6 h lf h3 lg
  | succ d ih =>
    intro i hi
    have q1 : (i : Int) < ((rootsL q t).length : Int) := by omega
    have q2 : (0 : Int) ≤ (i : Int) := by omega
    have q3 : ¬ q = 0 := by omega
    have hx : co (rootsL q t) i ∈ rootsL q t := by
      unfold co
      rw [List.getD_eq_getElem?_getD, List.getElem?_eq_getElem (by omega)]
      exact List.getElem_mem _
    obtain ⟨hb, hz⟩ := (mem_rootsL hq.p0).1 hx
    have m1 := mul_bd2 hqm hb (y := c) (by omega)
    have b1 := value_val (x := co (rootsL q t) i * c % q) hq (hw ▸ scale_po hq hc pt : Po q w) (emod_bd hq.p0)
    have hz2 : valL q w (co (rootsL q t) i * c % q) = 0 := by rw [hw]; exact (scale_root hq hc t).2 hz
    rw [hz2] at b1
    refine Ev.succ ?_
    simp only [laws_FnRootMoves.l0, if_pos q1, if_pos q2, if_neg q3, rd_n]
    rw [show ((rootsL q t).getD i 0) = co (rootsL q t) i from rfl, w64 (x := co (rootsL q t) i * c) (by omega) (by omega), tmod_nn m1.1]
    refine Ev.bind b1 ?_
    simp only [if_true]
    rw [wp1 (by omega)]
    exact ih (i + 1) (by omega)
theorem part2 {p a e u e3 q c e2 : Int} {f r g s t w : List Int} (h : Ev (fun k => impl_MoveRoots.f k p f a) (r, e)) (lf : f.length ≤ 1000000) (h3 : Ev (fun k => impl_ReversePolynomial.f k u g) (s, e3)) (lg : g.length ≤ 1000000)
    (h2 : Ev (fun k => impl_ScaleRoots.f k q t c) (w, e2)) : Ev (fun k => laws_FnRootMoves.j2 k p f a r e q t c w e2 u g s e3 false) true := by
  refine Ev.succ ?_
  simp only [laws_FnRootMoves.j2, Bool.false_eq_true, if_false]
  by_cases he : e2 = 0
  · obtain ⟨hq, pt, hc, hw⟩ := scale_ok h2 he
    simp only [if_pos he]
    refine Ev.succ ?_
    by_cases h0 : (t.length : Int) > 0
    · have b1 := roots_val hq pt (by omega)
      have pw : Po q w := hw ▸ scale_po hq hc pt
      have b2 := roots_val hq pw (by rw [hw, scL_len]; omega)
      have hl : (rootsL q w).length = (rootsL q t).length := by rw [hw]; exact scale_count hq hc t
      simp only [laws_FnRootMoves.j3, decide_eq_true h0, if_true]
      refine Ev.bind b1 ?_
      refine Ev.bind b2 ?_
      simp only [if_true, hl, bne_self_eq_false]
      refine Ev.succ ?_
      simp only [laws_FnRootMoves.j4, Bool.false_eq_true, if_false]
      exact part0 h lf h3 lg hq pt hc hw (rootsL q t).length 0 (by omega)
    · simp only [laws_FnRootMoves.j3, decide_eq_false h0, Bool.false_eq_true, if_false]
      exact part6 h lf h3 lg
  · simp only [if_neg he]
    refine Ev.succ ?_
    simp only [laws_FnRootMoves.j3, Bool.false_eq_true, if_false]
    exact part6 h lf h3 lg
theorem FnRootMoves : laws_FnRootMoves.Pure := by
  intro l _ _ hw0
  refine Ev.rounds ?_ (r := true)
  simp only [laws_FnRootMoves.f, laws_big.f, Option.bind_some]
  by_cases hl : (l.length : Int) > 4096
  · simp only [decide_eq_true hl, if_true]; exact Ev.now _
  · simp only [decide_eq_false hl, Bool.false_eq_true, if_false]
    have hb : Bytes l := ⟨by omega, fun x hx => by
      have h2 := hw0 x hx
      simp [Lit.wf, IntKind.min, IntKind.max, IntKind.signed, IntKind.bits] at h2
      omega⟩
    obtain ⟨p1, f1, a1, d1, l1⟩ := draw_moveroots hb
    obtain ⟨r1, e1, b1, s1, i1⟩ := QMove.same p1 f1 a1 (by omega)
    obtain ⟨p2, f2, a2, d2, l2⟩ := draw_scaleroots hb
    obtain ⟨r2, e2, b2, s2, i2⟩ := QScale.same p2 f2 a2 (by omega)
    obtain ⟨p3, f3, d3, l3⟩ := draw_reverse hb
    obtain ⟨r3, e3, b3, s3, i3⟩ := QRev.same p3 f3 (by omega)
    have k1 := like_same r1 (by omega)
    have k2 := like_same r2 (by omega)
    have k3 := like_same r3 (by omega)
    refine Ev.bind d1 ?_
    refine Ev.bind i1 ?_
    refine Ev.bind s1 ?_
    simp only [if_true]
    refine Ev.bind k1 ?_
    refine Ev.succ ?_
    simp only [laws_FnRootMoves.j0, Bool.not_true, Bool.false_eq_true, if_false]
    refine Ev.bind d2 ?_
    refine Ev.bind i2 ?_
    refine Ev.bind s2 ?_
    simp only [if_true]
    refine Ev.bind k2 ?_
    refine Ev.succ ?_
    simp only [laws_FnRootMoves.j1, Bool.not_true, Bool.false_eq_true, if_false]
    refine Ev.bind d3 ?_
    refine Ev.bind i3 ?_
    refine Ev.bind s3 ?_
    simp only [if_true]
    refine Ev.bind k3 ?_
    exact part2 i1 (by omega) i3 (by omega) i2
end Go.Proofs.Ythiignohbooelaa.Pure

