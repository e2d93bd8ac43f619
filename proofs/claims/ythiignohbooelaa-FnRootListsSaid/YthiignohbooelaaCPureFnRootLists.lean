/- FnRootLists: polynomials of roots split with these roots, multiplicities add up, power sums are those of the roots. No condition. -/
import Derived.Test.YthiignohbooelaaVFnRootLists
import Derived.Test.YthiignohbooelaaMa2
import Derived.Test.YthiignohbooelaaMa3
import Derived.Test.YthiignohbooelaaMa9
import Derived.Test.YthiignohbooelaaMa4
import Derived.Test.YthiignohbooelaaMa7
import Derived.Test.YthiignohbooelaaMa8
import Derived.Test.YthiignohbooelaaRows
import Derived.Test.YthiignohbooelaaYWSized
set_option linter.unusedVariables false
set_option linter.unusedSimpArgs false
namespace Go.Proofs.Ythiignohbooelaa.Pure
open Go.RowKit Go.Proofs.Ythiignohbooelaa.H Go.Proofs.YthiignohbooelaaW.PrintWords Go.Proofs.YthiignohbooelaaW.PrintLast Go.Proofs.YthiignohbooelaaW.PrintMore Go.Proofs.Ythiignohbooelaa.Num

namespace QOf
theorem same (p : Int) (f : List Int) (hf : f.length ≤ 1048576) : ∃ (r : List Int) (e : Int), r.length ≤ 1000 ∧ Ev (fun k => spec_PolynomialOfRoots.f k p f) (r, e) ∧ Ev (fun k => impl_PolynomialOfRoots.f k p f) (r, e) := by
  have h1 := spec_prime p
  have h2 := impl_numbers p f 0 24
  by_cases hpr : primeB p = true
  · have hp := primeB_iff.1 hpr
    have h3 := spec_numbers hp f (by omega)
    rw [hpr] at h1
    by_cases hl : (f.length : Int) > 24
    · have hw : withinB f.length 0 24 = false := by unfold withinB; rw [decide_eq_false (show ¬ (f.length : Int) ≤ 24 by omega), Bool.and_false]
      refine ⟨[], 2, by simp, ?_, ?_⟩
      · simp only [spec_PolynomialOfRoots.f]
        refine Ev.bind h1 ?_
        simp only [if_true, if_pos hl]
        exact Ev.now _
      · simp only [arNum, hpr, hw, Bool.true_and, Bool.false_and] at h2
        simp only [impl_PolynomialOfRoots.f]
        refine Ev.bind h2 ?_
        simp only [Bool.false_eq_true, if_false]
        exact Ev.now _
    · have hw : withinB f.length 0 24 = true := by unfold withinB; rw [decide_eq_true (show (f.length : Int) ≤ 24 by omega), decide_eq_true (show (0 : Int) ≤ f.length by omega)]; rfl
      simp only [arNum, hpr, hw, Bool.true_and] at h2
      cases ha : f.all (hasB p) with
      | true =>
        have hr : InR p f := fun x hx => hasB_iff.1 (List.all_eq_true.1 ha x hx)
        rw [ha] at h2 h3
        refine ⟨ofL p f f.length, 0, by have := ofL_len p f f.length; omega, ?_, ?_⟩
        · simp only [spec_PolynomialOfRoots.f]
          refine Ev.bind h1 ?_
          simp only [if_true, if_neg hl]
          refine Ev.bind h3 ?_
          simp only [if_true]
          exact Ev.bind (spec_of hp (by omega) hr) (Ev.now _)
        · simp only [impl_PolynomialOfRoots.f]
          refine Ev.bind h2 ?_
          simp only [if_true]
          exact Ev.bind (impl_of hp (by omega) hr) (Ev.now _)
      | false =>
        rw [ha] at h2 h3
        refine ⟨[], 2, by simp, ?_, ?_⟩
        · simp only [spec_PolynomialOfRoots.f]
          refine Ev.bind h1 ?_
          simp only [if_true, if_neg hl]
          refine Ev.bind h3 ?_
          simp only [Bool.false_eq_true, if_false]
          exact Ev.now _
        · simp only [impl_PolynomialOfRoots.f]
          refine Ev.bind h2 ?_
          simp only [Bool.false_eq_true, if_false]
          exact Ev.now _
  · have hpf : primeB p = false := by simpa using hpr
    rw [hpf] at h1
    simp only [arNum, hpf, Bool.false_and] at h2
    refine ⟨[], 2, by simp, ?_, ?_⟩
    · simp only [spec_PolynomialOfRoots.f]
      refine Ev.bind h1 ?_
      simp only [Bool.false_eq_true, if_false]
      exact Ev.now _
    · simp only [impl_PolynomialOfRoots.f]
      refine Ev.bind h2 ?_
      simp only [Bool.false_eq_true, if_false]
      exact Ev.now _
end QOf
namespace QRts
theorem same (p : Int) (f : List Int) (hf : f.length ≤ 1048576) : ∃ (r : List Int) (e : Int), r.length ≤ 20000 ∧ Ev (fun k => spec_RootsIn.f k p f) (r, e) ∧ Ev (fun k => impl_RootsIn.f k p f) (r, e) := by
  have h1 := spec_code6 p [f] (by simp) (by simp; omega)
  have h2 := impl_fill1 p true f
  by_cases hc : fillL (codeL p true [f]) [f] = 0
  · obtain ⟨hp, _, hq⟩ := fillL_0 hc
    obtain ⟨hq, h0⟩ := hq f (by simp)
    rw [hc] at h1 h2
    have hl := hq.len
    refine ⟨rootsL p f, 0, by have := rootsL_len hp.p0 hp.pm f; omega, ?_, ?_⟩
    · simp only [spec_RootsIn.f]
      refine Ev.bind h1 ?_
      simp only [eq_self, if_true]
      exact Ev.bind (spec_roots hp.p2 hp.pm (by omega) hq.inR) (Ev.now _)
    · simp only [impl_RootsIn.f]
      refine Ev.bind h2 ?_
      simp only [eq_self, if_true]
      exact Ev.bind (impl_roots hp.p2 hp.pm (by omega) hq.inR) (Ev.now _)
  · refine ⟨[], fillL (codeL p true [f]) [f], by simp, ?_, ?_⟩
    · simp only [spec_RootsIn.f]
      refine Ev.bind h1 ?_
      simp only [if_neg hc]
      exact Ev.now _
    · simp only [impl_RootsIn.f]
      refine Ev.bind h2 ?_
      simp only [if_neg hc]
      exact Ev.now _
end QRts
namespace QSpl
theorem same (p : Int) (f : List Int) (hf : f.length ≤ 1048576) : ∃ (r : Bool) (e : Int), Ev (fun k => spec_DoesSplit.f k p f) (r, e) ∧ Ev (fun k => impl_DoesSplit.f k p f) (r, e) := by
  have h1 := spec_code6 p [f] (by simp) (by simp; omega)
  have h2 := impl_fill1 p true f
  by_cases hc : fillL (codeL p true [f]) [f] = 0
  · obtain ⟨hp, _, hq⟩ := fillL_0 hc
    obtain ⟨pf, h0⟩ := hq f (by simp)
    have lf := pf.len
    rw [hc] at h1 h2
    refine ⟨splitB p f, 0, ?_, ?_⟩
    · simp only [spec_DoesSplit.f]
      refine Ev.bind h1 ?_
      simp only [eq_self, if_true]
      exact Ev.bind (spec_splits hp pf h0) (Ev.now _)
    · simp only [impl_DoesSplit.f]
      refine Ev.bind h2 ?_
      simp only [eq_self, if_true]
      exact Ev.bind (impl_splits hp pf h0) (Ev.now _)
  · refine ⟨false, fillL (codeL p true [f]) [f], ?_, ?_⟩
    · simp only [spec_DoesSplit.f]
      refine Ev.bind h1 ?_
      simp only [if_neg hc]
      exact Ev.now _
    · simp only [impl_DoesSplit.f]
      refine Ev.bind h2 ?_
      simp only [if_neg hc]
      exact Ev.now _
end QSpl
namespace QMul
theorem same (p : Int) (f : List Int) (c : Int) (hf : f.length ≤ 1048576) : ∃ (r e : Int), Ev (fun k => spec_MultiplicityOf.f k p f c) (r, e) ∧ Ev (fun k => impl_MultiplicityOf.f k p f c) (r, e) := by
  have h1 := spec_code p [f] (by simp) (by simp; omega)
  have h2 := impl_fill1 p (hasB p c) f
  have h3 := spec_code6 p [f] (by simp) (by simp; omega)
  rcases code_cases p (hasB p c) [f] with ⟨hc, hb⟩ | ⟨hc, hx, hb, hp⟩ | ⟨hc, hx, hb, hp, hq⟩
  · rw [hb] at h2
    have e : fillL (codeL p true [f]) [f] = codeL p true [f] := by unfold fillL; rw [if_neg hc]
    rw [e] at h2
    refine ⟨0, codeL p true [f], ?_, ?_⟩
    · simp only [spec_MultiplicityOf.f]
      refine Ev.bind h1 ?_
      simp only [if_neg hc]
      repeat (first | exact Ev.now _ | (refine Ev.bind (by assumption) ?_; try simp only [Option.bind_some, bne_self_eq_false, Bool.false_eq_true, Bool.not_true, Bool.not_false, Bool.or_false, Bool.or_self, eq_self, if_true, if_false, ite_self, if_neg hc]) | (refine Ev.succ ?_; simp only [spec_MultiplicityOf.j0, spec_MultiplicityOf.j1]; try simp only [Option.bind_some, bne_self_eq_false, Bool.false_eq_true, Bool.not_true, Bool.not_false, Bool.or_false, Bool.or_self, eq_self, if_true, if_false, ite_self, if_neg hc]))
    · simp only [impl_MultiplicityOf.f]
      refine Ev.bind h2 ?_
      simp only [if_neg hc]
      exact Ev.now _
  · have hin := in_has hp c
    rw [hx] at hin
    rw [hc] at h1
    rw [hb] at h2
    have e : fillL 2 [f] = 2 := by simp [fillL]
    rw [e] at h2
    refine ⟨0, 2, ?_, ?_⟩
    · simp only [spec_MultiplicityOf.f]
      refine Ev.bind h1 ?_
      simp only [eq_self, if_true, hin, Option.bind_some, Bool.not_false]
      repeat (first | exact Ev.now _ | (refine Ev.bind (by assumption) ?_; try simp only [Option.bind_some, bne_self_eq_false, Bool.false_eq_true, Bool.not_true, Bool.not_false, Bool.or_false, Bool.or_self, eq_self, if_true, if_false, ite_self, show ¬ ((2 : Int) = 0) by omega]) | (refine Ev.succ ?_; simp only [spec_MultiplicityOf.j0, spec_MultiplicityOf.j1]; try simp only [Option.bind_some, bne_self_eq_false, Bool.false_eq_true, Bool.not_true, Bool.not_false, Bool.or_false, Bool.or_self, eq_self, if_true, if_false, ite_self, show ¬ ((2 : Int) = 0) by omega]))
    · simp only [impl_MultiplicityOf.f]
      refine Ev.bind h2 ?_
      simp only [show ¬ ((2 : Int) = 0) by omega, if_false]
      exact Ev.now _
  · have hin := in_has hp c
    rw [hx] at hin
    rw [hc] at h1 h3
    rw [hb] at h2
    have pf := hq f (by simp)
    by_cases h0 : 0 < f.length
    · have e : fillL 0 [f] = 0 := by simp [fillL, h0]
      rw [e] at h2 h3
      refine ⟨multL p f c, 0, ?_, ?_⟩
      · simp only [spec_MultiplicityOf.f]
        refine Ev.bind h1 ?_
        simp only [eq_self, if_true, hin, Option.bind_some, Bool.not_true]
        refine Ev.succ ?_
        simp only [spec_MultiplicityOf.j0, Bool.false_eq_true, if_false]
        refine Ev.succ ?_
        simp only [spec_MultiplicityOf.j1, eq_self, if_true]
        refine Ev.bind h3 ?_
        simp only [eq_self, if_true]
        exact Ev.bind (spec_mult hp (hasB_iff.1 hx) pf h0) (Ev.now _)
      · simp only [impl_MultiplicityOf.f]
        refine Ev.bind h2 ?_
        simp only [eq_self, if_true]
        exact Ev.bind (impl_mult hp (hasB_iff.1 hx) pf h0) (Ev.now _)
    · have e : fillL 0 [f] = 5 := by simp [fillL, h0]
      rw [e] at h2 h3
      refine ⟨0, 5, ?_, ?_⟩
      · simp only [spec_MultiplicityOf.f]
        refine Ev.bind h1 ?_
        simp only [eq_self, if_true, hin, Option.bind_some, Bool.not_true]
        refine Ev.succ ?_
        simp only [spec_MultiplicityOf.j0, Bool.false_eq_true, if_false]
        refine Ev.succ ?_
        simp only [spec_MultiplicityOf.j1, eq_self, if_true]
        refine Ev.bind h3 ?_
        simp only [show ¬ ((5 : Int) = 0) by omega, if_false]
        exact Ev.now _
      · simp only [impl_MultiplicityOf.f]
        refine Ev.bind h2 ?_
        simp only [show ¬ ((5 : Int) = 0) by omega, if_false]
        exact Ev.now _
end QMul
namespace QPs
theorem same (p : Int) (f : List Int) (c : Int) (hf : f.length ≤ 1048576) : ∃ (r : List Int) (e : Int), r.length ≤ 1000 ∧ Ev (fun k => spec_PowerSums.f k p f c) (r, e) ∧ Ev (fun k => impl_PowerSums.f k p f c) (r, e) := by
  have h1 := spec_code p [f] (by simp) (by simp; omega)
  have h2 := impl_fill1 p (withinB c 0 24) f
  have h3 := spec_code6 p [f] (by simp) (by simp; omega)
  rcases code_cases p (withinB c 0 24) [f] with ⟨hc, hb⟩ | ⟨hc, hx, hb, hp⟩ | ⟨hc, hx, hb, hp, hq⟩
  · rw [hb] at h2
    have e : fillL (codeL p true [f]) [f] = codeL p true [f] := by unfold fillL; rw [if_neg hc]
    rw [e] at h2
    refine ⟨[], codeL p true [f], by simp, ?_, ?_⟩
    · simp only [spec_PowerSums.f]
      refine Ev.bind h1 ?_
      simp only [if_neg hc]
      repeat (first | exact Ev.now _ | (refine Ev.bind (by assumption) ?_; try simp only [Option.bind_some, bne_self_eq_false, Bool.false_eq_true, Bool.not_true, Bool.not_false, Bool.or_false, Bool.or_self, eq_self, if_true, if_false, ite_self, if_neg hc]) | (refine Ev.succ ?_; simp only [spec_PowerSums.j0, spec_PowerSums.j1, spec_PowerSums.j2]; try simp only [Option.bind_some, bne_self_eq_false, Bool.false_eq_true, Bool.not_true, Bool.not_false, Bool.or_false, Bool.or_self, eq_self, if_true, if_false, ite_self, if_neg hc]))
    · simp only [impl_PowerSums.f]
      refine Ev.bind h2 ?_
      simp only [if_neg hc]
      exact Ev.now _
  · have hin := in_within c 0 24
    rw [hx] at hin
    rw [hc] at h1
    rw [hb] at h2
    have e : fillL 2 [f] = 2 := by simp [fillL]
    rw [e] at h2
    refine ⟨[], 2, by simp, ?_, ?_⟩
    · simp only [spec_PowerSums.f]
      refine Ev.bind h1 ?_
      simp only [eq_self, if_true, hin, Option.bind_some, Bool.not_false]
      repeat (first | exact Ev.now _ | (refine Ev.bind (by assumption) ?_; try simp only [Option.bind_some, bne_self_eq_false, Bool.false_eq_true, Bool.not_true, Bool.not_false, Bool.or_false, Bool.or_self, eq_self, if_true, if_false, ite_self, show ¬ ((2 : Int) = 0) by omega]) | (refine Ev.succ ?_; simp only [spec_PowerSums.j0, spec_PowerSums.j1, spec_PowerSums.j2]; try simp only [Option.bind_some, bne_self_eq_false, Bool.false_eq_true, Bool.not_true, Bool.not_false, Bool.or_false, Bool.or_self, eq_self, if_true, if_false, ite_self, show ¬ ((2 : Int) = 0) by omega]))
    · simp only [impl_PowerSums.f]
      refine Ev.bind h2 ?_
      simp only [show ¬ ((2 : Int) = 0) by omega, if_false]
      exact Ev.now _
  · have hin := in_within c 0 24
    rw [hx] at hin
    rw [hc] at h1 h3
    rw [hb] at h2
    have pf := hq f (by simp)
    by_cases h0 : 0 < f.length
    · have e : fillL 0 [f] = 0 := by simp [fillL, h0]
      rw [e] at h2 h3
      have hc' : 0 ≤ c ∧ c ≤ 24 := by unfold withinB at hx; simpa using hx
      obtain ⟨N, rfl⟩ : ∃ N : Nat, c = N := ⟨c.toNat, by omega⟩
      have lf := pf.len
      have hp2 := hp.p2
      obtain ⟨d, hd⟩ : ∃ d, f.length = d + 1 := ⟨f.length - 1, by omega⟩
      have hs := spec_ps hp pf hd (N := N) (by omega) N 0 (by omega)
      simp only [psL, hd, Nat.add_sub_cancel] at hs
      refine ⟨psL p f N, 0, by rw [psL_len]; omega, ?_, ?_⟩
      · simp only [spec_PowerSums.f]
        refine Ev.bind h1 ?_
        simp only [eq_self, if_true, hin, Option.bind_some, Bool.not_true]
        refine Ev.succ ?_
        simp only [spec_PowerSums.j0, Bool.false_eq_true, if_false]
        refine Ev.succ ?_
        simp only [spec_PowerSums.j1, eq_self, if_true]
        refine Ev.bind h3 ?_
        refine Ev.succ ?_
        have q0 : ¬ p = 0 := by omega
        have q1 : wrap64 ((f.length : Int) - 1) = (d : Int) := by rw [w64 (by omega) (by omega)]; omega
        have q2 : (0 : Int) ≤ (d : Int) := by omega
        have q3 : (d : Int) < (f.length : Int) := by omega
        simp only [spec_PowerSums.j2, eq_self, if_true, if_neg q0, q1, if_pos q2, if_pos q3, rd_n, tmod_nn q2]
        exact Ev.bind (spec_inverse hp.p2 hp.pm) hs
      · simp only [impl_PowerSums.f]
        refine Ev.bind h2 ?_
        simp only [eq_self, if_true]
        exact Ev.bind (impl_powersums hp pf h0 (by omega)) (Ev.now _)
    · have e : fillL 0 [f] = 5 := by simp [fillL, h0]
      rw [e] at h2 h3
      refine ⟨[], 5, by simp, ?_, ?_⟩
      · simp only [spec_PowerSums.f]
        refine Ev.bind h1 ?_
        simp only [eq_self, if_true, hin, Option.bind_some, Bool.not_true]
        refine Ev.succ ?_
        simp only [spec_PowerSums.j0, Bool.false_eq_true, if_false]
        refine Ev.succ ?_
        simp only [spec_PowerSums.j1, eq_self, if_true]
        refine Ev.bind h3 ?_
        refine Ev.succ ?_
        simp only [spec_PowerSums.j2, show ¬ ((5 : Int) = 0) by omega, if_false]
        exact Ev.now _
      · simp only [impl_PowerSums.f]
        refine Ev.bind h2 ?_
        simp only [show ¬ ((5 : Int) = 0) by omega, if_false]
        exact Ev.now _
end QPs

theorem ev_uniq {α : Type} {g : Nat → Option α} {a b : α} (h : Ev g a) (h' : Ev g b) : a = b := by
  obtain ⟨K, e⟩ := h
  obtain ⟨K', e'⟩ := h'
  have q := e (K + K') (by omega)
  have q' := e' (K + K') (by omega)
  try dsimp only at q q'
  rw [q] at q'; exact Option.some.inj q'
theorem like_loop (l : List Int) (hl : l.length ≤ 1000000) : ∀ (d i : Nat), i + d = l.length → Ev (fun k => laws_likeInts.l0 k l l (i : Int)) true
  | 0, i, h => by
    refine Ev.succ ?_
    simp (disch := omega) only [laws_likeInts.l0, if_neg]; exact Ev.now _
  | d + 1, i, h => by
    refine Ev.succ ?_
    simp (disch := omega) only [laws_likeInts.l0, if_pos, wp1]
    exact like_loop l hl d (i + 1) (by omega)
theorem like_same (l : List Int) (hl : l.length ≤ 1000000) : Ev (fun k => laws_likeInts.f k l l) true := by
  simp only [laws_likeInts.f, if_true]
  exact like_loop l hl l.length 0 (by omega)
theorem code_po {p : Int} {b : Bool} {ls : List (List Int)} (hp : IsP p) (hb : b = true) (hq : ∀ l ∈ ls, Po p l) : codeL p b ls = 0 := by
  unfold codeL
  rw [if_pos (List.all_eq_true.2 fun l hl => polyB_iff.2 (hq l hl)), if_pos (by rw [primeB_iff.2 hp, hb]; rfl)]
theorem pos1 {p : Int} {f : List Int} (pf : Po p f) : ∀ l ∈ [f], Po p l := fun l hl => by
  rw [List.mem_singleton.1 hl]; exact pf
theorem fill_po {p : Int} {b : Bool} {f : List Int} (hp : IsP p) (hb : b = true) (pf : Po p f) (h0 : 0 < f.length) : fillL (codeL p b [f]) [f] = 0 := by
  rw [code_po hp hb (pos1 pf)]; simp [fillL, h0]
theorem roots_val {p : Int} {f : List Int} (hp : IsP p) (pf : Po p f) (h0 : 0 < f.length) : Ev (fun k => impl_RootsIn.f k p f) (rootsL p f, 0) := by
  have h2 := impl_fill1 p true f
  rw [fill_po hp rfl pf h0] at h2
  have lf := pf.len
  simp only [impl_RootsIn.f]
  refine Ev.bind h2 ?_
  simp only [if_true]
  exact Ev.bind (impl_roots hp.p2 hp.pm (by omega) pf.inR) (Ev.now _)
theorem roots_ok {p e : Int} {f r : List Int} (h : Ev (fun k => impl_RootsIn.f k p f) (r, e)) (he : e = 0) : IsP p ∧ Po p f ∧ 0 < f.length ∧ r = rootsL p f := by
  have h2 := impl_fill1 p true f
  by_cases hc : fillL (codeL p true [f]) [f] = 0
  · obtain ⟨hp, _, hq⟩ := fillL_0 hc
    obtain ⟨pf, h0⟩ := hq f (by simp)
    exact ⟨hp, pf, h0, congrArg Prod.fst (ev_uniq h (roots_val hp pf h0))⟩
  · have q := ev_uniq h (show Ev (fun k => impl_RootsIn.f k p f) ([], fillL (codeL p true [f]) [f]) by
      simp only [impl_RootsIn.f]
      refine Ev.bind h2 ?_
      simp only [if_neg hc]; exact Ev.now _)
    have q2 := congrArg Prod.snd q
    simp only at q2; omega
theorem splits_val {p : Int} {f : List Int} (hp : IsP p) (pf : Po p f) (h0 : 0 < f.length) : Ev (fun k => impl_DoesSplit.f k p f) (splitB p f, 0) := by
  have h2 := impl_fill1 p true f
  rw [fill_po hp rfl pf h0] at h2
  simp only [impl_DoesSplit.f]
  refine Ev.bind h2 ?_
  simp only [if_true]
  exact Ev.bind (impl_splits hp pf h0) (Ev.now _)
theorem mult_val {p r : Int} {f : List Int} (hp : IsP p) (pf : Po p f) (h0 : 0 < f.length) (hr : 0 ≤ r ∧ r < p) : Ev (fun k => impl_MultiplicityOf.f k p f r) (multL p f r, 0) := by
  have h2 := impl_fill1 p (hasB p r) f
  rw [fill_po hp (hasB_iff.2 hr) pf h0] at h2
  simp only [impl_MultiplicityOf.f]
  refine Ev.bind h2 ?_
  simp only [if_true]
  exact Ev.bind (impl_mult hp hr pf h0) (Ev.now _)
theorem sums_val {p : Int} {f : List Int} (hp : IsP p) (pf : Po p f) (h0 : 0 < f.length) : Ev (fun k => impl_PowerSums.f k p f 4) (psL p f 4, 0) := by
  have h2 := impl_fill1 p (withinB 4 0 24) f
  rw [fill_po hp (by rfl) pf h0] at h2
  simp only [impl_PowerSums.f]
  refine Ev.bind h2 ?_
  simp only [if_true]
  exact Ev.bind (impl_powersums hp pf h0 (N := 4) (by omega)) (Ev.now _)
/-- the polynomial of roots: where there is an error it is empty -/
theorem of_cases {p e : Int} {l r : List Int} (h : Ev (fun k => impl_PolynomialOfRoots.f k p l) (r, e)) : (e = 0 ∧ IsP p ∧ InR p l ∧ l.length ≤ 24 ∧ r = ofL p l l.length) ∨ (e ≠ 0 ∧ r = []) := by
  have h2 := impl_numbers p l 0 24
  cases ha : arNum p l 0 24 with
  | true =>
    rw [ha] at h2
    have ha' := ha
    simp only [arNum, Bool.and_eq_true] at ha'
    obtain ⟨a1, a2, a3⟩ := ha'
    have hp := primeB_iff.1 a1
    have hl : l.length ≤ 24 := by
      unfold withinB at a2
      rw [Bool.and_eq_true, decide_eq_true_eq, decide_eq_true_eq] at a2
      omega
    have hr : InR p l := fun x hx => hasB_iff.1 (List.all_eq_true.1 a3 x hx)
    have q := ev_uniq h (show Ev (fun k => impl_PolynomialOfRoots.f k p l) (ofL p l l.length, 0) by
      simp only [impl_PolynomialOfRoots.f]
      refine Ev.bind h2 ?_
      simp only [if_true]
      exact Ev.bind (impl_of hp hl hr) (Ev.now _))
    exact .inl ⟨congrArg Prod.snd q, hp, hr, hl, congrArg Prod.fst q⟩
  | false =>
    rw [ha] at h2
    have q := ev_uniq h (show Ev (fun k => impl_PolynomialOfRoots.f k p l) ([], 2) by
      simp only [impl_PolynomialOfRoots.f]
      refine Ev.bind h2 ?_
      simp only [Bool.false_eq_true, if_false]
      exact Ev.now _)
    have q2 := congrArg Prod.snd q
    simp only at q2
    exact .inr ⟨by omega, congrArg Prod.fst q⟩
theorem part3 {p : Int} {l a : List Int} (hp : IsP p) (rl : InR p l) (ll : l.length ≤ 24) {e i : Nat} (he : e ≤ 4) (hi : i < l.length) {tot : Int} (ht : 0 ≤ tot ∧ tot < p)
    (next : Ev (fun k => laws_FnRootLists.l2 k p l a (e : Int) ((tot + co l i ^ e) % p) ((i + 1 : Nat) : Int)) true) : ∀ d t, t + d = e →
    Ev (fun k => laws_FnRootLists.l3 k p l a (e : Int) tot (i : Int) (co l i ^ t % p) (t : Int)) true := by
  have hp2 := hp.p2
  have hpm := hp.pm
  have hp0 : ¬ p = 0 := by omega
  have hc := rl.co hp.p0 i
  intro d
  induction d with
  | zero =>
    intro t h
    obtain rfl : t = e := by omega
    have q1 : ¬ ((t : Int) < (t : Int)) := by omega
    have hb := emod_bd (x := co l i ^ t) hp.p0
    have hw : wrap64 (tot + co l i ^ t % p) = tot + co l i ^ t % p := w64 (by omega) (by omega)
    refine Ev.succ ?_
    simp only [laws_FnRootLists.l3, if_neg q1, if_neg hp0, hw, tmod_nn (show 0 ≤ tot + co l i ^ t % p by omega), ea_r, wp1 (show i ≤ 1000000000000 by omega)]
    exact next
  | succ d ih =>
    intro t h
    have q1 : (t : Int) < (e : Int) := by omega
    have q2 : (0 : Int) ≤ (i : Int) := by omega
    have q3 : (i : Int) < (l.length : Int) := by omega
    have hb := emod_bd (x := co l i ^ t) hp.p0
    have m1 := mul_bd2 hpm hb (y := co l i) (by omega)
    refine Ev.succ ?_
    simp only [laws_FnRootLists.l3, if_pos q1, if_pos q2, if_pos q3, if_neg hp0, rd_n]
    rw [show (l.getD i 0) = co l i from rfl, w64 (x := co l i ^ t % p * co l i) (by omega) (by omega), tmod_nn m1.1, em_l, ← Int.pow_succ, wp1 (by omega)]
    exact ih (t + 1) (by omega)
theorem part1 {p : Int} {l : List Int} (hp : IsP p) (rl : InR p l) (ll : l.length ≤ 24) : ∀ (d e : Nat), e + d = 5 → Ev (fun k => laws_FnRootLists.l1 k p l (psL p (ofL p l l.length) 4) (e : Int)) true := by
  have hp2 := hp.p2
  intro d
  induction d with
  | zero =>
    intro e h
    have q1 : ¬ ((e : Int) ≤ 4) := by omega
    refine Ev.succ ?_
    simp only [laws_FnRootLists.l1, if_neg q1]
    exact Ev.now _
  | succ d ih =>
    intro e h
    have q1 : (e : Int) ≤ 4 := by omega
    refine Ev.succ ?_
    simp only [laws_FnRootLists.l1, if_pos q1]
    have hn := ih (e + 1) (by omega)
    have inner : ∀ m i, i + m = l.length → Ev (fun k => laws_FnRootLists.l2 k p l (psL p (ofL p l l.length) 4) (e : Int) (su (fun j => co l j ^ e) i % p) (i : Int)) true := by
      intro m
      induction m with
      | zero =>
        intro i hi
        obtain rfl : i = l.length := by omega
        have q2 : ¬ ((l.length : Int) < (l.length : Int)) := by omega
        have q3 : (0 : Int) ≤ (e : Int) := by omega
        have q4 : (e : Int) < ((psL p (ofL p l l.length) 4).length : Int) := by rw [psL_len]; omega
        have q5 : su (fun j => co l j ^ e) l.length % p = rd (psL p (ofL p l l.length) 4) (e : Int) := by
          rw [rd_n]; exact (psL_val hp ll (by omega)).symm
        refine Ev.succ ?_
        simp only [laws_FnRootLists.l2, if_neg q2, if_pos q3, if_pos q4, if_pos q5, wp1 (show e ≤ 1000000000000 by omega)]
        exact hn
      | succ m ihm =>
        intro i hi
        have q2 : (i : Int) < (l.length : Int) := by omega
        have h2 := ihm (i + 1) (by omega)
        rw [su, ← ea_l] at h2
        have h3 := part3 (a := psL p (ofL p l l.length) 4) hp rl ll (e := e) (i := i) (by omega) (by omega) (emod_bd hp.p0) h2 e 0 (by omega)
        rw [Int.pow_zero, Int.emod_eq_of_lt (a := 1) (by omega) (by omega)] at h3
        refine Ev.succ ?_
        simp only [laws_FnRootLists.l2, if_pos q2]
        exact h3
    have h0 := inner l.length 0 (by omega)
    rw [su, Int.zero_emod] at h0
    exact h0
theorem part6 {p e : Int} {l f : List Int} (h : Ev (fun k => impl_PolynomialOfRoots.f k p l) (f, e)) : Ev (fun k => laws_FnRootLists.j6 k p l f e) true := by
  refine Ev.succ ?_
  rcases of_cases h with ⟨he, hp, hr, hl, hf⟩ | ⟨he, hf⟩
  · obtain ⟨pf, lf⟩ := ofL_po hp l l.length hl
    have b1 := splits_val hp pf (by omega)
    rw [ofL_splits hp hr hl] at b1
    have b2 := sums_val hp pf (by omega)
    have hw : wrap64 ((l.length : Int) + 1) = ((l.length + 1 : Nat) : Int) := wp1 (by omega)
    simp only [laws_FnRootLists.j6, if_pos he, hf, hw, lf, bne_self_eq_false]
    refine Ev.bind b1 ?_
    simp only [if_true]
    refine Ev.succ ?_
    simp only [laws_FnRootLists.j7, Bool.false_eq_true, if_false]
    refine Ev.bind b2 ?_
    simp only [if_true]
    exact part1 hp hr hl 5 0 (by omega)
  · simp only [laws_FnRootLists.j6, if_neg he, hf]
    exact Ev.now _
theorem part0 {p e q : Int} {l f g : List Int} (h : Ev (fun k => impl_PolynomialOfRoots.f k p l) (f, e)) (hq : IsP q) (pg : Po q g) (h0 : 0 < g.length) : ∀ d i, i + d = (rootsL q g).length →
    Ev (fun k => laws_FnRootLists.l0 k p l f e q g (rootsL q g) (splitB q g) 0 ((msum q g (rootsL q g) i : Nat) : Int) (i : Int)) true := by
  have hq2 := hq.p2
  have hqm := hq.pm
  have lg := pg.len
  have lr := rootsL_len (p := q) hq.p0 hq.pm g
  intro d
  induction d with
  | zero =>
    intro i hi
    obtain rfl : i = (rootsL q g).length := by omega
    have q1 : ¬ (((rootsL q g).length : Int) < ((rootsL q g).length : Int)) := by omega
    have hw : wrap64 ((g.length : Int) - 1) = (g.length : Int) - 1 := w64 (by omega) (by omega)
    have hs : splitB q g = (((msum q g (rootsL q g) (rootsL q g).length : Nat) : Int) == (g.length : Int) - 1) := by unfold splitB; rfl
    refine Ev.succ ?_
    simp only [laws_FnRootLists.l0, if_neg q1, if_true, hw, ← hs, bne_self_eq_false, Bool.false_eq_true, if_false]
    exact part6 h
  | succ d ih =>
    intro i hi
    have q1 : (i : Int) < ((rootsL q g).length : Int) := by omega
    have q2 : (0 : Int) ≤ (i : Int) := by omega
    have hx : co (rootsL q g) i ∈ rootsL q g := by
      unfold co
      rw [List.getD_eq_getElem?_getD, List.getElem?_eq_getElem (by omega)]
      exact List.getElem_mem _
    obtain ⟨hb, hz⟩ := (mem_rootsL hq.p0).1 hx
    have b1 := mult_val hq pg h0 hb
    have hm := mult_pos hq pg h0 hz
    have ml := msum_le q g (rootsL q g) lg (i + 1)
    have hms : msum q g (rootsL q g) (i + 1) = msum q g (rootsL q g) i + multL q g (co (rootsL q g) i) := rfl
    have q3 : ¬ ((multL q g (co (rootsL q g) i) : Int) < 1) := by omega
    have hw : wrap64 (((msum q g (rootsL q g) i : Nat) : Int) + (multL q g (co (rootsL q g) i) : Int)) = ((msum q g (rootsL q g) (i + 1) : Nat) : Int) := by rw [hms, w64 (by omega) (by omega)]; omega
    refine Ev.succ ?_
    simp only [laws_FnRootLists.l0, if_pos q1, if_pos q2, rd_n]
    rw [show ((rootsL q g).getD i 0) = co (rootsL q g) i from rfl]
    refine Ev.bind b1 ?_
    simp only [if_true, if_neg q3, hw, wp1 (show i ≤ 1000000000000 by omega)]
    exact ih (i + 1) (by omega)
theorem part4 {p e q e2 e3 : Int} {l f g r : List Int} {s : Bool} (h : Ev (fun k => impl_PolynomialOfRoots.f k p l) (f, e)) (h2 : Ev (fun k => impl_RootsIn.f k q g) (r, e2)) (h3 : Ev (fun k => impl_DoesSplit.f k q g) (s, e3)) :
    Ev (fun k => laws_FnRootLists.j4 k p l f e q g r e2 s e3 false) true := by
  refine Ev.succ ?_
  simp only [laws_FnRootLists.j4, Bool.false_eq_true, if_false]
  by_cases he : e2 = 0
  · obtain ⟨hq, pg, h0, hr⟩ := roots_ok h2 he
    have b := ev_uniq h3 (splits_val hq pg h0)
    have hs := congrArg Prod.fst b
    have hs3 := congrArg Prod.snd b
    simp only at hs hs3
    simp only [if_pos he, hr, hs, hs3]
    exact part0 h hq pg h0 (rootsL q g).length 0 (by omega)
  · simp only [if_neg he]
    exact part6 h
theorem FnRootLists : laws_FnRootLists.Pure := by
  intro l _ _ hw0
  refine Ev.rounds ?_ (r := true)
  simp only [laws_FnRootLists.f, laws_big.f, Option.bind_some]
  by_cases hl : (l.length : Int) > 4096
  · simp only [decide_eq_true hl, if_true]; exact Ev.now _
  · simp only [decide_eq_false hl, Bool.false_eq_true, if_false]
    have hb : Bytes l := ⟨by omega, fun x hx => by
      have h2 := hw0 x hx
      simp [Lit.wf, IntKind.min, IntKind.max, IntKind.signed, IntKind.bits] at h2
      omega⟩
    obtain ⟨p1, f1, d1, l1⟩ := draw_ofroots hb
    obtain ⟨r1, e1, b1, s1, i1⟩ := QOf.same p1 f1 (by omega)
    obtain ⟨p2, f2, d2, l2⟩ := draw_rootsin hb
    obtain ⟨r2, e2, b2, s2, i2⟩ := QRts.same p2 f2 (by omega)
    obtain ⟨r3, e3, s3, i3⟩ := QSpl.same p2 f2 (by omega)
    obtain ⟨p4, f4, a4, d4, l4⟩ := draw_multiplicity hb
    obtain ⟨r4, e4, s4, i4⟩ := QMul.same p4 f4 a4 (by omega)
    obtain ⟨p5, f5, a5, d5, l5⟩ := draw_powersums hb
    obtain ⟨r5, e5, b5, s5, i5⟩ := QPs.same p5 f5 a5 (by omega)
    have k1 := like_same r1 (by omega)
    have k2 := like_same r2 (by omega)
    have k5 := like_same r5 (by omega)
    refine Ev.bind d1 ?_
    refine Ev.bind i1 ?_
    refine Ev.bind s1 ?_
    simp only [if_true]
    refine Ev.bind k1 ?_
    refine Ev.succ ?_
    simp only [laws_FnRootLists.j0, Bool.not_true, Bool.false_eq_true, if_false]
    refine Ev.bind d2 ?_
    refine Ev.bind i2 ?_
    refine Ev.bind s2 ?_
    simp only [if_true]
    refine Ev.bind k2 ?_
    refine Ev.succ ?_
    simp only [laws_FnRootLists.j1, Bool.not_true, Bool.false_eq_true, if_false]
    refine Ev.bind i3 ?_
    refine Ev.bind s3 ?_
    simp only [if_true, bne_self_eq_false]
    refine Ev.succ ?_
    simp only [laws_FnRootLists.j2, Bool.false_eq_true, if_false]
    refine Ev.bind d4 ?_
    refine Ev.bind i4 ?_
    refine Ev.bind s4 ?_
    simp only [if_true, bne_self_eq_false]
    refine Ev.succ ?_
    simp only [laws_FnRootLists.j3, Bool.false_eq_true, if_false]
    refine Ev.bind d5 ?_
    refine Ev.bind i5 ?_
    refine Ev.bind s5 ?_
    simp only [if_true]
    refine Ev.bind k5 ?_
    exact part4 i1 i2 i3
end Go.Proofs.Ythiignohbooelaa.Pure

