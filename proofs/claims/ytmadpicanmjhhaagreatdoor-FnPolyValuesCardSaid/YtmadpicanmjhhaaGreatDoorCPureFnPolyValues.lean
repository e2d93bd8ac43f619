/- FnPolyValues: interpolation has its values, shifts undo themselves, values of compositions are values of values, and polynomials come back from their texts. No condition beyond the listed variables, which the card ties. -/
import Derived.Test.YtmadpicanmjhhaaGreatDoorVFnPolyValues
import Derived.Test.YtmadpicanmjhhaaGreatDoorMa6
import Derived.Test.YtmadpicanmjhhaaGreatDoorMa3
import Derived.Test.YtmadpicanmjhhaaGreatDoorMa8
import Derived.Test.YtmadpicanmjhhaaGreatDoorMa7
import Derived.Test.YtmadpicanmjhhaaGreatDoorMa5
import Derived.Test.YtmadpicanmjhhaaGreatDoorMa2
import Derived.Test.YtmadpicanmjhhaaGreatDoorMa9
import Derived.Test.YtmadpicanmjhhaaGreatDoorMa1
import Derived.Test.YtmadpicanmjhhaaGreatDoorMa4
import Derived.Test.YtmadpicanmjhhaaGreatDoorRows
import Derived.Test.YtmadpicanmjhhaaGreatDoorCards
import Derived.Test.YtmadpicanmjhhaaGreatDoorTie
import Derived.Test.YtmadpicanmjhhaaGreatDoorYWSized
set_option linter.unusedVariables false
set_option linter.unusedSimpArgs false
namespace Go.Proofs.YtmadpicanmjhhaaGreatDoor.Pure
open Go.RowKit Go.Proofs.YtmadpicanmjhhaaGreatDoor.H Go.Proofs.YtmadpicanmjhhaaGreatDoorW.PrintWords Go.Proofs.YtmadpicanmjhhaaGreatDoorW.PrintLast Go.Proofs.YtmadpicanmjhhaaGreatDoorW.PrintMore Go.Proofs.YtmadpicanmjhhaaGreatDoor.Num

theorem like_loop (l : List Int) (hl : l.length ≤ 1000000) : ∀ (d i : Nat), i + d = l.length → Ev (fun k => laws_likeInts.l0 k l l (i : Int)) true
  | 0, i, h => by
    refine Ev.succ ?_
    simp (disch := omega) only [laws_likeInts.l0, if_neg]; exact Ev.now _
  | d + 1, i, h => by
    refine Ev.succ ?_
    simp (disch := omega) only [laws_likeInts.l0, if_pos, wp1]
    exact like_loop l hl d (i + 1) (by omega)
theorem like_same (l : List Int) (hl : l.length ≤ 1000000) : Ev (fun k => laws_likeInts.f k l l) true := by
  simp only [laws_likeInts.f, if_true]
  exact like_loop l hl l.length 0 (by omega)
theorem code_po {p : Int} {b : Bool} {ls : List (List Int)} (hp : IsP p) (hb : b = true) (hq : ∀ l ∈ ls, Po p l) : codeL p b ls = 0 := by
  unfold codeL
  rw [if_pos (List.all_eq_true.2 fun l hl => polyB_iff.2 (hq l hl)), if_pos (by rw [primeB_iff.2 hp, hb]; rfl)]
theorem val_val {p x : Int} {f : List Int} (hp : IsP p) (pf : Po p f) (hx : 0 ≤ x ∧ x < p) : Ev (fun k => impl_ValueAt.f k p f x) (valL p f x, 0) := by
  have h2 := impl_code1 p (hasB p x) f
  rw [code_po hp (hasB_iff.2 hx) (fun l hl => by rw [List.mem_singleton.1 hl]; exact pf)] at h2
  have hi := impl_val hp.p2 hp.pm pf.inR hx
  simp only [impl_ValueAt.f]
  refine Ev.bind h2 ?_
  simp only [eq_self, if_true, hi, Option.bind_some]
  exact Ev.now _
theorem val_same (p : Int) (f : List Int) (c : Int) (hf : f.length ≤ 1048576) : ∃ (r : Int) (e : Int), Ev (fun k => spec_ValueAt.f k p f c) (r, e) ∧ Ev (fun k => impl_ValueAt.f k p f c) (r, e) := by
  have h1 := spec_code p [f] (by simp) (by simp; omega)
  have h2 := impl_code1 p (hasB p c) f
  rcases code_cases p (hasB p c) [f] with ⟨hc, hb⟩ | ⟨hc, hx, hb, hp⟩ | ⟨hc, hx, hb, hp, hq⟩
  · refine ⟨0, codeL p true [f], ?_, ?_⟩
    · simp only [spec_ValueAt.f]
      refine Ev.bind h1 ?_
      simp only [if_neg hc]
      repeat (first | exact Ev.now _ | (refine Ev.bind (by assumption) ?_; try simp only [Option.bind_some, bne_self_eq_false, Bool.false_eq_true, Bool.not_true, Bool.not_false, Bool.or_false, Bool.or_self, eq_self, if_true, if_false, ite_self, if_neg hc]) | (refine Ev.succ ?_; simp only [spec_ValueAt.j0]; try simp only [Option.bind_some, bne_self_eq_false, Bool.false_eq_true, Bool.not_true, Bool.not_false, Bool.or_false, Bool.or_self, eq_self, if_true, if_false, ite_self, if_neg hc]))
    · rw [hb] at h2
      simp only [impl_ValueAt.f]
      refine Ev.bind h2 ?_
      simp only [if_neg hc]
      exact Ev.now _
  · have hin := in_has hp c
    rw [hx] at hin
    rw [hc] at h1
    refine ⟨0, 2, ?_, ?_⟩
    · simp only [spec_ValueAt.f]
      refine Ev.bind h1 ?_
      simp only [eq_self, if_true, hin, Option.bind_some, Bool.not_false]
      repeat (first | exact Ev.now _ | (refine Ev.bind (by assumption) ?_; try simp only [Option.bind_some, bne_self_eq_false, Bool.false_eq_true, Bool.not_true, Bool.not_false, Bool.or_false, Bool.or_self, eq_self, if_true, if_false, ite_self, show ¬ ((2 : Int) = 0) by omega]) | (refine Ev.succ ?_; simp only [spec_ValueAt.j0]; try simp only [Option.bind_some, bne_self_eq_false, Bool.false_eq_true, Bool.not_true, Bool.not_false, Bool.or_false, Bool.or_self, eq_self, if_true, if_false, ite_self, show ¬ ((2 : Int) = 0) by omega]))
    · rw [hb] at h2
      simp only [impl_ValueAt.f]
      refine Ev.bind h2 ?_
      simp only [show ¬ ((2 : Int) = 0) by omega, if_false]
      exact Ev.now _
  · have hin := in_has hp c
    rw [hx] at hin
    rw [hc] at h1
    have hq := hq f (by simp)
    have hx' := hasB_iff.1 hx
    have hs := spec_val hp.p2 hp.pm (by have := hq.len; omega) hq.inR hx'
    have hi := impl_val hp.p2 hp.pm hq.inR hx'
    refine ⟨valL p f c, 0, ?_, ?_⟩
    · simp only [spec_ValueAt.f]
      refine Ev.bind h1 ?_
      simp only [eq_self, if_true, hin, Option.bind_some, Bool.not_true]
      repeat (first | exact Ev.now _ | (refine Ev.bind (by assumption) ?_; try simp only [Option.bind_some, bne_self_eq_false, Bool.false_eq_true, Bool.not_true, Bool.not_false, Bool.or_false, Bool.or_self, eq_self, if_true, if_false, ite_self]) | (refine Ev.succ ?_; simp only [spec_ValueAt.j0]; try simp only [Option.bind_some, bne_self_eq_false, Bool.false_eq_true, Bool.not_true, Bool.not_false, Bool.or_false, Bool.or_self, eq_self, if_true, if_false, ite_self]))
    · rw [hb] at h2
      simp only [impl_ValueAt.f]
      refine Ev.bind h2 ?_
      simp only [eq_self, if_true]
      simp only [hi, Option.bind_some]
      exact Ev.now _
theorem intF_inR {p : Int} (hp : 0 < p) (xs ys : List Int) : ∀ d i out base, InR p out → InR p (intF p xs ys d i out base)
  | 0, i, out, base, h => h
  | d + 1, i, out, base, h => intF_inR hp xs ys d (i + 1) _ _ (addL_inR hp h _ _)
theorem intF_nz (p : Int) (xs ys : List Int) : ∀ d i out base, Nz out → Nz (intF p xs ys d i out base)
  | 0, i, out, base, h => h
  | d + 1, i, out, base, h => intF_nz p xs ys d (i + 1) _ _ (addL_nz _ _ _ _)
theorem diff_get {xs : List Int} (h : diffB xs = true) : ∀ i j, i < j → j < xs.length → xs.getD i 0 ≠ xs.getD j 0 := fun i j hij hj => by
  have hn := (diffB_iff xs).1 h
  rw [List.getD_eq_getElem?_getD, List.getD_eq_getElem?_getD, List.getElem?_eq_getElem hj, List.getElem?_eq_getElem (show i < xs.length by omega)]
  exact List.pairwise_iff_getElem.1 hn i j (by omega) hj hij
theorem valL_one {p : Int} (hp : 2 ≤ p) (x : Int) : valL p [1] x = 1 := by
  show ((0 : Int) * x + 1) % p = 1
  rw [show (0 : Int) * x + 1 = 1 by omega, Int.emod_eq_of_lt (show (0 : Int) ≤ 1 by omega) (show (1 : Int) < p by omega)]
theorem interp_ans (p : Int) (xs ys : List Int) (hx : xs.length ≤ 1048576) (hy : ys.length ≤ 1048576) : ∃ (r : List Int) (e : Int), r.length ≤ 1000 ∧ Ev (fun k => spec_InterpolatePoly.f k p xs ys) (r, e) ∧ Ev (fun k => impl_InterpolatePoly.f k p xs ys) (r, e) ∧ (e = 0 → IsP p ∧ Po p r ∧ InR p xs ∧ r.length ≤ xs.length ∧ xs.length = ys.length ∧ ∀ i : Nat, i < xs.length → valL p r (xs.getD i 0) = ys.getD i 0) := by
  have h1 := spec_prime p
  have h2 := impl_nodes p xs ys 25 (by omega)
  cases hn : ndB p xs ys 25 with
  | true =>
    rw [hn] at h2
    obtain ⟨hp, c1, c2, rx, ry⟩ := ndB_iff hn
    have h3 := spec_points2 hp xs (by omega)
    have h4 := spec_points hp ys (by omega)
    have hs := spec_interp hp rx ry c2 (by omega) xs.length 0 [] [1] (by omega) (by simp) (by simp) InR.nil (InR.one (by have := hp.p2; omega))
    have hi := impl_interp hp rx ry c2 (by omega) xs.length 0 [] [1] (by omega) (by simp) (by simp) InR.nil (InR.one (by have := hp.p2; omega))
    have hl := intF_len p xs ys xs.length 0 [] [1] (by simp) (by simp)
    simp only [ndB, Bool.and_eq_true] at hn
    rw [hn.1] at h1
    rw [hn.2.2.2.1, hn.2.2.2.2.2] at h3
    rw [hn.2.2.2.2.1] at h4
    have hd := diff_get hn.2.2.2.2.2
    refine ⟨intF p xs ys xs.length 0 [] [1], 0, by omega, ?_, ?_, fun _ => ?_⟩
    · simp only [spec_InterpolatePoly.f]
      refine Ev.bind h1 ?_
      simp only [if_true, if_neg (show ¬ (xs.length : Int) > 25 by omega), if_pos (show (ys.length : Int) = xs.length by omega)]
      refine Ev.bind h3 ?_
      simp only [Bool.and_self, if_true]
      refine Ev.bind h4 ?_
      simp only [if_true]
      have hA : Ev (fun k => spec_l01Interpolate.f k p xs ys) (intF p xs ys xs.length 0 [] [1]) := by simp only [spec_l01Interpolate.f]; exact hs
      exact Ev.bind hA (Ev.now _)
    · simp only [impl_InterpolatePoly.f]
      refine Ev.bind h2 ?_
      simp only [if_true]
      have hA : Ev (fun k => impl_field_interpolate.f k p xs ys) (intF p xs ys xs.length 0 [] [1]) := by simp only [impl_field_interpolate.f]; exact hi
      exact Ev.bind hA (Ev.now _)
    · have hp2 := hp.p2
      refine ⟨hp, Po.of (by omega) (intF_inR (by omega) xs ys _ _ _ _ InR.nil) (intF_nz p xs ys _ _ _ _ (.inl rfl)), rx, by omega, by omega, ?_⟩
      exact intF_takes hp rx ry hd xs.length 0 [] [1] (by omega) InR.nil (InR.one (by omega)) (fun j hj => absurd hj (Nat.not_lt_zero _)) (fun j hj => absurd hj (Nat.not_lt_zero _)) (fun j _ _ => by rw [valL_one hp2]; decide)
  | false =>
    rw [hn] at h2
    refine ⟨[], 2, by simp, ?_, ?_, fun h => absurd h (by decide)⟩
    · simp only [spec_InterpolatePoly.f]
      refine Ev.bind h1 ?_
      cases hp : primeB p with
      | false => simp only [Bool.false_eq_true, if_false]; exact Ev.now _
      | true =>
        simp only [if_true]
        by_cases c1 : (xs.length : Int) > 25
        · simp only [if_pos c1]; exact Ev.now _
        · simp only [if_neg c1]
          by_cases c2 : ys.length = xs.length
          · simp only [if_pos (show (ys.length : Int) = xs.length by omega)]
            refine Ev.bind (spec_points2 (primeB_iff.1 hp) xs (by omega)) ?_
            cases ha : (xs.all (hasB p) && diffB xs) with
            | false => simp only [Bool.false_eq_true, if_false]; exact Ev.now _
            | true =>
              simp only [if_true]
              refine Ev.bind (spec_points (primeB_iff.1 hp) ys (by omega)) ?_
              have : ys.all (hasB p) = false := by
                cases hb : ys.all (hasB p) with
                | false => rfl
                | true =>
                  rw [Bool.and_eq_true] at ha
                  simp only [ndB, hp, ha.1, ha.2, hb, decide_eq_true c2, decide_eq_true (show (xs.length : Int) ≤ 25 by omega), Bool.and_self] at hn
                  exact absurd hn (by simp)
              simp only [this, Bool.false_eq_true, if_false]; exact Ev.now _
          · simp only [if_neg (show ¬ (ys.length : Int) = xs.length by omega)]; exact Ev.now _
    · simp only [impl_InterpolatePoly.f]
      refine Ev.bind h2 ?_
      simp only [Bool.false_eq_true, if_false]; exact Ev.now _
theorem shift_ans (p : Int) (f : List Int) (c : Int) (hf : f.length ≤ 1048576) : ∃ (r : List Int) (e : Int), r.length ≤ 1000 ∧ Ev (fun k => spec_ShiftPoly.f k p f c) (r, e) ∧ Ev (fun k => impl_ShiftPoly.f k p f c) (r, e) ∧ (e = 0 → IsP p ∧ Po p f ∧ (0 ≤ c ∧ c < p) ∧ r = compL p f [c, 1]) := by
  have h1 := spec_code p [f] (by simp) (by simp; omega)
  have h2 := impl_code1 p (hasB p c) f
  rcases code_cases p (hasB p c) [f] with ⟨hc, hb⟩ | ⟨hc, hx, hb, hp⟩ | ⟨hc, hx, hb, hp, hq⟩
  · refine ⟨[], codeL p true [f], by simp, ?_, ?_, fun h => absurd h hc⟩
    · simp only [spec_ShiftPoly.f]
      refine Ev.bind h1 ?_
      simp only [if_neg hc]
      repeat (first | exact Ev.now _ | (refine Ev.bind (by assumption) ?_; try simp only [Option.bind_some, bne_self_eq_false, Bool.false_eq_true, Bool.not_true, Bool.not_false, Bool.or_false, Bool.or_self, eq_self, if_true, if_false, ite_self, if_neg hc]) | (refine Ev.succ ?_; simp only [spec_ShiftPoly.j0]; try simp only [Option.bind_some, bne_self_eq_false, Bool.false_eq_true, Bool.not_true, Bool.not_false, Bool.or_false, Bool.or_self, eq_self, if_true, if_false, ite_self, if_neg hc]))
    · rw [hb] at h2
      simp only [impl_ShiftPoly.f]
      refine Ev.bind h2 ?_
      simp only [if_neg hc]
      exact Ev.now _
  · have hin := in_has hp c
    rw [hx] at hin
    rw [hc] at h1
    refine ⟨[], 2, by simp, ?_, ?_, fun h => absurd h (by decide)⟩
    · simp only [spec_ShiftPoly.f]
      refine Ev.bind h1 ?_
      simp only [eq_self, if_true, hin, Option.bind_some, Bool.not_false]
      repeat (first | exact Ev.now _ | (refine Ev.bind (by assumption) ?_; try simp only [Option.bind_some, bne_self_eq_false, Bool.false_eq_true, Bool.not_true, Bool.not_false, Bool.or_false, Bool.or_self, eq_self, if_true, if_false, ite_self, show ¬ ((2 : Int) = 0) by omega]) | (refine Ev.succ ?_; simp only [spec_ShiftPoly.j0]; try simp only [Option.bind_some, bne_self_eq_false, Bool.false_eq_true, Bool.not_true, Bool.not_false, Bool.or_false, Bool.or_self, eq_self, if_true, if_false, ite_self, show ¬ ((2 : Int) = 0) by omega]))
    · rw [hb] at h2
      simp only [impl_ShiftPoly.f]
      refine Ev.bind h2 ?_
      simp only [show ¬ ((2 : Int) = 0) by omega, if_false]
      exact Ev.now _
  · have hin := in_has hp c
    rw [hx] at hin
    rw [hc] at h1
    have hq := hq f (by simp)
    have hx' := hasB_iff.1 hx
    have hr2 : InR p [c, 1] := fun y hy => by rcases List.mem_cons.1 hy with rfl | hy; exact hx'; rw [List.mem_singleton.1 hy]; have := hp.p2; omega
    have hs := spec_comp hp.p2 hp.pm hq.inR hr2 hq.len (by simp)
    have hi := impl_comp hp.p2 hp.pm hq.inR hr2 hq.len (by simp)
    refine ⟨compL p f [c, 1], 0, by have := compL_len (p := p) f [c, 1] (by simp); have := hq.len; omega, ?_, ?_, fun _ => ⟨hp, hq, hx', rfl⟩⟩
    · simp only [spec_ShiftPoly.f]
      refine Ev.bind h1 ?_
      simp only [eq_self, if_true, hin, Option.bind_some, Bool.not_true]
      repeat (first | exact Ev.now _ | (refine Ev.bind (by assumption) ?_; try simp only [Option.bind_some, bne_self_eq_false, Bool.false_eq_true, Bool.not_true, Bool.not_false, Bool.or_false, Bool.or_self, eq_self, if_true, if_false, ite_self]) | (refine Ev.succ ?_; simp only [spec_ShiftPoly.j0]; try simp only [Option.bind_some, bne_self_eq_false, Bool.false_eq_true, Bool.not_true, Bool.not_false, Bool.or_false, Bool.or_self, eq_self, if_true, if_false, ite_self]))
    · rw [hb] at h2
      simp only [impl_ShiftPoly.f]
      refine Ev.bind h2 ?_
      simp only [eq_self, if_true]
      simp only [hi, Option.bind_some]
      exact Ev.now _
theorem shift_val {p c : Int} {f : List Int} (hp : IsP p) (pf : Po p f) (hc : 0 ≤ c ∧ c < p) : Ev (fun k => impl_ShiftPoly.f k p f c) (compL p f [c, 1], 0) := by
  have h2 := impl_code1 p (hasB p c) f
  rw [code_po hp (hasB_iff.2 hc) (fun l hl => by rw [List.mem_singleton.1 hl]; exact pf)] at h2
  have hp2 := hp.p2
  have hr2 : InR p [c, 1] := fun y hy => by rcases List.mem_cons.1 hy with rfl | hy; exact hc; rw [List.mem_singleton.1 hy]; omega
  have hi := impl_comp hp.p2 hp.pm pf.inR hr2 pf.len (by simp)
  simp only [impl_ShiftPoly.f]
  refine Ev.bind h2 ?_
  simp only [eq_self, if_true, hi, Option.bind_some]
  exact Ev.now _
theorem compL_deg (p : Int) (g : List Int) : ∀ f : List Int, (compL p f g).length ≤ (f.length - 1) * (g.length - 1) + 1
  | [] => by simp [compL]
  | c :: f => by
    have h1 := addL_len p (mulL p (compL p f g) g) [1] c
    have h2 := mulL_len p (compL p f g) g
    have ih := compL_deg p g f
    show (addL p (mulL p (compL p f g) g) [1] c).length ≤ _
    rw [List.length_cons, Nat.add_sub_cancel]
    rw [List.length_singleton] at h1
    cases f with
    | nil =>
      have e : (compL p [] g).length = 0 := by simp [compL]
      have e2 : mulL p (compL p [] g) g = [] := by
        have : compL p [] g = [] := List.eq_nil_of_length_eq_zero e
        rw [this]; simp [mulL]
      rw [e2] at h1 ⊢
      simp only [List.length_nil, Nat.zero_mul] at h1 ⊢
      omega
    | cons d f =>
      rw [List.length_cons, Nat.add_sub_cancel] at ih
      rw [List.length_cons, Nat.succ_mul]
      by_cases hg : g.length = 0
      · have e2 : mulL p (compL p (d :: f) g) g = [] := by
          have : g = [] := List.eq_nil_of_length_eq_zero hg
          rw [this]; simp [mulL]
        rw [e2] at h1 ⊢
        simp only [List.length_nil] at h1
        generalize f.length * (g.length - 1) = z
        omega
      · generalize f.length * (g.length - 1) = z at ih ⊢
        omega
theorem comp_ans (p : Int) (f g : List Int) (hf : f.length ≤ 1048576) (hg : g.length ≤ 1048576) : ∃ (r : List Int) (e : Int), r.length ≤ 20000 ∧ Ev (fun k => spec_ComposePolys.f k p f g) (r, e) ∧ Ev (fun k => impl_ComposePolys.f k p f g) (r, e) ∧ (e = 0 → IsP p ∧ Po p f ∧ Po p g ∧ Po p r ∧ r = compL p f g) := by
  have h1 := spec_code p [f, g] (by simp) (by simp; omega)
  have h2 := impl_code2 p true f g
  by_cases hc : codeL p true [f, g] = 0
  · obtain ⟨hp, _, hq⟩ := codeL_0 hc
    have qf := hq f (by simp)
    have qg := hq g (by simp)
    have lf := qf.len
    have lg := qg.len
    rw [hc] at h1 h2
    have hs := spec_comp hp.p2 hp.pm qf.inR qg.inR qf.len qg.len
    have hi := impl_comp hp.p2 hp.pm qf.inR qg.inR qf.len qg.len
    by_cases hd : (f.length : Int) - 1 > 0 ∧ (g.length : Int) - 1 > 0 ∧ ((f.length : Int) - 1) * ((g.length : Int) - 1) > 24
    · obtain ⟨hd1, hd2, hd3⟩ := hd
      have hb := mul_bd (a := 24) (b := 24) (x := (f.length : Int) - 1) (y := (g.length : Int) - 1) (by omega) (by omega) (by omega) (by omega)
      refine ⟨[], 3, by simp, ?_, ?_, fun h => absurd h (by decide)⟩
      · simp only [spec_ComposePolys.f]
        refine Ev.bind h1 ?_
        simp (disch := omega) only [eq_self, if_true, mx, wm1, if_neg, w64, if_pos]
        exact Ev.now _
      · simp only [impl_ComposePolys.f]
        refine Ev.bind h2 ?_
        simp (disch := omega) only [eq_self, if_true, impl_deg, Option.bind_some, if_pos, w64]
        exact Ev.now _
    · have hlen : (compL p f g).length ≤ 25 := by
        have h1 := compL_deg p g f
        have h2 : (f.length - 1) * (g.length - 1) ≤ 24 := by
          rcases Nat.lt_or_ge 24 ((f.length - 1) * (g.length - 1)) with h | h
          · exfalso
            have hf1 : 1 < f.length := by
              rcases Nat.lt_or_ge 1 f.length with h' | h'
              · exact h'
              · rw [show f.length - 1 = 0 by omega, Nat.zero_mul] at h; omega
            have hg1 : 1 < g.length := by
              rcases Nat.lt_or_ge 1 g.length with h' | h'
              · exact h'
              · rw [show g.length - 1 = 0 by omega, Nat.mul_zero] at h; omega
            refine hd ⟨by omega, by omega, ?_⟩
            rw [show (f.length : Int) - 1 = ((f.length - 1 : Nat) : Int) by omega, show (g.length : Int) - 1 = ((g.length - 1 : Nat) : Int) by omega, ← Int.natCast_mul]
            omega
          · exact h
        omega
      refine ⟨compL p f g, 0, by omega, ?_, ?_, fun _ => ⟨hp, qf, qg, Po.of hlen (compL_inR hp.p0 _ _) (compL_nz _ _ _), rfl⟩⟩
      · simp only [spec_ComposePolys.f]
        refine Ev.bind h1 ?_
        have hz : ¬ (wrap64 ((mx ((f.length : Int) - 1) 0) * (mx ((g.length : Int) - 1) 0)) > 24) := by
          by_cases a1 : (f.length : Int) - 1 > 0
          · by_cases a2 : (g.length : Int) - 1 > 0
            · have hb := mul_bd (a := 24) (b := 24) (x := (f.length : Int) - 1) (y := (g.length : Int) - 1) (by omega) (by omega) (by omega) (by omega)
              simp (disch := omega) only [mx, if_neg, w64]
              intro hh; exact hd ⟨a1, a2, hh⟩
            · have e : mx ((g.length : Int) - 1) 0 = 0 := by unfold mx; split <;> omega
              rw [e, Int.mul_zero, w64 (by omega) (by omega)]; omega
          · have e : mx ((f.length : Int) - 1) 0 = 0 := by unfold mx; split <;> omega
            rw [e, Int.zero_mul, w64 (by omega) (by omega)]; omega
        simp (disch := omega) only [eq_self, if_true, wm1, if_neg hz]
        exact Ev.bind hs (Ev.now _)
      · simp only [impl_ComposePolys.f]
        refine Ev.bind h2 ?_
        simp (disch := omega) only [eq_self, if_true, impl_deg, Option.bind_some, hi]
        by_cases a1 : (f.length : Int) - 1 > 0
        · by_cases a2 : (g.length : Int) - 1 > 0
          · have hb := mul_bd (a := 24) (b := 24) (x := (f.length : Int) - 1) (y := (g.length : Int) - 1) (by omega) (by omega) (by omega) (by omega)
            have hz : ¬ (((f.length : Int) - 1) * ((g.length : Int) - 1) > 24) := fun hh => hd ⟨a1, a2, hh⟩
            simp (disch := omega) only [if_pos a1, if_pos a2, w64, if_neg hz]
            exact Ev.now _
          · simp only [if_pos a1, if_neg a2]
            exact Ev.now _
        · simp only [if_neg a1]
          exact Ev.now _
  · refine ⟨[], codeL p true [f, g], by simp, ?_, ?_, fun h => absurd h hc⟩
    · simp only [spec_ComposePolys.f]
      refine Ev.bind h1 ?_
      simp only [if_neg hc]
      exact Ev.now _
    · simp only [impl_ComposePolys.f]
      refine Ev.bind h2 ?_
      simp only [if_neg hc]
      exact Ev.now _
theorem spec_ptA_ (p : Int) (l : List Int) (hl : l.length ≤ 1000000000) : Ev (fun k => spec_PolyText.f k p l) ((⟨(ptA p l).1.toArray⟩ : ByteArray), (ptA p l).2) := by
  have h := spec_code p [l] (by simp) (fun x hx => by rw [List.mem_singleton.1 hx]; exact hl)
  simp only [spec_PolyText.f, ptA]
  refine Ev.bind h ?_
  by_cases hc : codeL p true [l] = 0
  · obtain ⟨hp, _, hq⟩ := codeL_0 hc
    have hpo := hq l (by simp)
    have h2 := spec_text l (by have := hpo.len; omega) (fun x hx => by have := hpo.el x hx; have := hp.2.1; omega)
    simp only [if_pos hc]
    refine Ev.bind h2 ?_
    exact Ev.now _
  · simp only [if_neg hc]
    exact Ev.now _
theorem prA_parA_ (p : Int) (t : List UInt8) : prA p t = parA p t := by
  unfold prA parA
  by_cases hp : primeB p = true
  · have hp2 := (primeB_iff.1 hp).2.1
    simp only [if_pos hp]
    by_cases ht : t = [48]
    · subst ht
      rw [parse_zero p]
      simp only [if_true]
      rw [if_pos ⟨polyB_nil p, rfl⟩]
    · simp only [if_neg ht]
      exact parse_eq hp2 ht
  · simp only [if_neg hp]
theorem parA_len_ (p : Int) (t : List UInt8) : (parA p t).1.length ≤ 25 := by
  unfold parA
  split
  · split
    · simp
    · split
      · rename_i h
        exact (polyB_iff.1 h).len
      · simp
  · simp
theorem parse_text {p : Int} {h : List Int} (hp : IsP p) (ph : Po p h) : prA p (polyT h) = (h, 0) := by
  rw [prA_parA_]
  have hpm := hp.pm
  unfold parA
  rw [if_pos (primeB_iff.2 hp)]
  by_cases h0 : h.length = 0
  · have e : h = [] := List.eq_nil_of_length_eq_zero h0
    subst e
    rfl
  · have e : polyT h = Lib.join (h.reverse.map Lib.itoa) [44] := if_neg h0
    obtain ⟨n1, n2⟩ := numW_itoa h.reverse (fun x hx => by have := ph.el x (List.mem_reverse.1 hx); omega)
    have hne : h.reverse.map Lib.itoa ≠ [] := fun z => by
      have := congrArg List.length z
      rw [List.length_map, List.length_reverse] at this
      exact h0 this
    have hpt : parts 44 (polyT h) = h.reverse.map Lib.itoa := by
      rw [e]
      exact parts_join 44 _ hne n2
    have hmap : ((parts 44 (polyT h)).map numW).reverse = h := by rw [hpt, n1, List.reverse_reverse]
    have hn48 : polyT h ≠ [48] := fun z => by
      rw [z] at hmap
      have e0 : ((parts 44 [48]).map numW).reverse = [0] := by
        have h1 : parts 44 [48] = [Lib.decDigits 0] := by
          rw [decDigits_lo (by omega)]
          decide
        rw [h1, List.map_singleton, numW_dec (by omega)]
        rfl
      rw [e0] at hmap
      subst hmap
      rcases ph.last with l | l
      · exact absurd l (by simp)
      · exact l rfl
    rw [if_neg hn48, hmap, if_pos (polyB_iff.2 ph)]
theorem polyT_len {p : Int} {h : List Int} (hp : IsP p) (ph : Po p h) : (polyT h).length ≤ 1000000 := by
  have hpm := hp.pm
  have hl := ph.len
  unfold polyT
  split
  · simp
  · have := join_le (h.reverse.map Lib.itoa) (fun y hy => by
      obtain ⟨c, hc, rfl⟩ := List.mem_map.1 hy
      have := ph.el c (List.mem_reverse.1 hc)
      exact Lib.itoa_length_le c (by omega) (by omega))
    rw [List.length_map, List.length_reverse] at this
    omega
theorem Ev_all : ∀ (n : Nat) (g : Nat → Nat → Option (Int × Int)) (r : Nat → Int × Int), (∀ i, i < n → Ev (fun k => g i k) (r i)) → ∃ K, ∀ k, K ≤ k → ∀ i, i < n → g i k = some (r i)
  | 0, _, _, _ => ⟨0, fun _ _ i hi => absurd hi (Nat.not_lt_zero _)⟩
  | n + 1, g, r, h => by
    obtain ⟨K, hK⟩ := Ev_all n g r (fun i hi => h i (by omega))
    obtain ⟨K', hK'⟩ := h n (by omega)
    refine ⟨K + K', fun k hk i hi => ?_⟩
    by_cases e : i = n
    · subst e; exact hK' k (by omega)
    · exact hK k (by omega) i (by omega)
theorem partA {l : List Int} (hb : Bytes l) : ∃ K, ∀ k, K ≤ k → pvA k l := by
  obtain ⟨p, xs, ys, ⟨K1, d⟩, hx, hy⟩ := draw_interpolate hb
  obtain ⟨f, er, hf, ⟨K2, s⟩, ⟨K3, i⟩, z⟩ := interp_ans p xs ys (by omega) (by omega)
  obtain ⟨K4, lk⟩ := like_same f (by omega)
  obtain ⟨K5, v⟩ : ∃ K, ∀ k, K ≤ k → er = 0 → ∀ i : Nat, i < xs.length → impl_ValueAt.f k p f (xs.getD i 0) = some (ys.getD i 0, 0) := by
    by_cases he : er = 0
    · obtain ⟨hp, pf, rx, hl, hxy, ht⟩ := z he
      obtain ⟨K, hK⟩ := Ev_all xs.length (fun i k => impl_ValueAt.f k p f (xs.getD i 0)) (fun i => (ys.getD i 0, 0)) (fun i hi => by
        have := val_val hp pf (rx.get hp.p0 i)
        rw [ht i hi] at this
        exact this)
      exact ⟨K, fun k hk _ => hK k hk⟩
    · exact ⟨0, fun _ _ e => absurd e he⟩
  refine ⟨K1 + K2 + K3 + K4 + K5, fun k hk => ⟨p, xs, ys, f, er, d k (by omega), i k (by omega), s k (by omega), lk k (by omega), by omega, fun he => ?_⟩⟩
  obtain ⟨hp, pf, rx, hl, hxy, ht⟩ := z he
  exact ⟨hl, hxy, v k (by omega) he⟩
theorem partB {l : List Int} (hb : Bytes l) : ∃ K, ∀ k, K ≤ k → pvB k l := by
  obtain ⟨q, g, c, ⟨K1, d⟩, hg⟩ := draw_shiftpoly hb
  obtain ⟨s, er, hs, ⟨K2, sp⟩, ⟨K3, i⟩, z⟩ := shift_ans q g c (by omega)
  obtain ⟨K4, lk⟩ := like_same s (by omega)
  obtain ⟨K5, lg⟩ := like_same g (by omega)
  obtain ⟨K6, v⟩ : ∃ K, ∀ k, K ≤ k → er = 0 → q ≠ 0 ∧ impl_ShiftPoly.f k q s (Int.tmod (wrap64 (q - c)) q) = some (g, 0) := by
    by_cases he : er = 0
    · obtain ⟨hp, pg, hc, rfl⟩ := z he
      have hp2 := hp.p2
      have hpm := hp.pm
      have e1 : Int.tmod (wrap64 (q - c)) q = (q - c) % q := by rw [w64 (by omega) (by omega), tmod_nn (by omega)]
      have hr : 0 ≤ (q - c) % q ∧ (q - c) % q < q := emod_bd hp.p0
      have hab : cg q ((q - c) % q + c) 0 := ((cg.mod q (q - c)).add (cg.refl c)).trans ⟨1, by omega⟩
      have hback := move_back (a := (q - c) % q) (b := c) hp hab pg
      obtain ⟨K, hK⟩ := shift_val hp (move_po hp.p0 (b := c) pg.len) hr
      rw [hback] at hK
      exact ⟨K, fun k hk _ => ⟨by omega, by rw [e1]; exact hK k hk⟩⟩
    · exact ⟨0, fun _ _ e => absurd e he⟩
  exact ⟨K1 + K2 + K3 + K4 + K5 + K6, fun k hk => ⟨q, g, c, s, er, d k (by omega), i k (by omega), sp k (by omega), lk k (by omega), fun he => ⟨(v k (by omega) he).1, (v k (by omega) he).2, lg k (by omega)⟩⟩⟩
theorem partC {l : List Int} (hb : Bytes l) : ∃ K, ∀ k, K ≤ k → pvC k l := by
  obtain ⟨r, a, b, ⟨K1, d⟩, ha, hb2⟩ := draw_compose hb
  obtain ⟨m, er, hm, ⟨K2, sp⟩, ⟨K3, i⟩, z⟩ := comp_ans r a b (by omega) (by omega)
  obtain ⟨K4, lk⟩ := like_same m (by omega)
  obtain ⟨K5, v⟩ : ∃ K, ∀ k, K ≤ k → er = 0 → ∃ x y : Int, impl_ValueAt.f k r b 1 = some (x, 0) ∧ impl_ValueAt.f k r a x = some (y, 0) ∧ impl_ValueAt.f k r m 1 = some (y, 0) := by
    by_cases he : er = 0
    · obtain ⟨hp, pa, pb, pm, rfl⟩ := z he
      have hp2 := hp.p2
      obtain ⟨J1, v1⟩ := val_val hp pb (x := 1) (by omega)
      obtain ⟨J2, v2⟩ := val_val hp pa (valL_bd hp.p0 b 1)
      obtain ⟨J3, v3⟩ := val_val hp pm (x := 1) (by omega)
      rw [valL_comp hp2] at v3
      exact ⟨J1 + J2 + J3, fun k hk _ => ⟨_, _, v1 k (by omega), v2 k (by omega), v3 k (by omega)⟩⟩
    · exact ⟨0, fun _ _ e => absurd e he⟩
  exact ⟨K1 + K2 + K3 + K4 + K5, fun k hk => ⟨r, a, b, m, er, d k (by omega), i k (by omega), sp k (by omega), lk k (by omega), fun he => v k (by omega) he⟩⟩
theorem partD {l : List Int} (hb : Bytes l) : ∃ K, ∀ k, K ≤ k → pvD k l := by
  obtain ⟨s, h, ⟨K1, d⟩, hh⟩ := draw_polytext hb
  obtain ⟨K2, sp⟩ := spec_ptA_ s h (by omega)
  obtain ⟨K3, lk⟩ := like_same h (by omega)
  refine ⟨K1 + K2 + K3, fun k hk => ⟨s, h, (ptA s h).1, (ptA s h).2, d k (by omega), rfl, sp k (by omega), fun he => ?_⟩⟩
  by_cases hc : codeL s true [h] = 0
  · obtain ⟨hp, _, hq⟩ := codeL_0 hc
    have ph := hq h (by simp)
    have e : ptA s h = (polyT h, 0) := by unfold ptA; rw [if_pos hc]
    rw [e]
    exact ⟨polyT_len hp ph, parse_text hp ph, lk k (by omega)⟩
  · exfalso
    unfold ptA at he
    rw [if_neg hc] at he
    exact hc he
theorem partE {l : List Int} (hb : Bytes l) (hl : l.length ≤ 4096) : ∃ K, ∀ k, K ≤ k → pvE k l := by
  obtain ⟨t, line, ⟨K1, d⟩, hz⟩ := draw_parsepoly hb hl
  obtain ⟨rl, er, hA⟩ : ∃ r er, parA t line.data.toList = (r, er) := ⟨_, _, rfl⟩
  have hr := parA_len_ t line.data.toList
  rw [hA] at hr
  simp only at hr
  obtain ⟨K2, sp⟩ := spec_parse t line (by rw [ba_len]; exact hz)
  rw [hA] at sp
  obtain ⟨K3, lk⟩ := like_same rl (by omega)
  obtain ⟨u, f, x, ⟨K4, d2⟩, hf⟩ := draw_valueat hb
  obtain ⟨v, ev, ⟨K5, s2⟩, ⟨K6, i2⟩⟩ := val_same u f x (by omega)
  exact ⟨K1 + K2 + K3 + K4 + K5 + K6, fun k hk => ⟨t, line, rl, er, u, f, x, v, ev, d k (by omega), by omega, (prA_parA_ t _).trans hA, sp k (by omega), lk k (by omega), d2 k (by omega), i2 k (by omega), s2 k (by omega)⟩⟩
theorem FnPolyValues : laws_FnPolyValues.Pure := by
  intro l hl hby
  have hb : Bytes l := ⟨by omega, hby⟩
  obtain ⟨K1, h1⟩ := partA hb
  obtain ⟨K2, h2⟩ := partB hb
  obtain ⟨K3, h3⟩ := partC hb
  obtain ⟨K4, h4⟩ := partD hb
  obtain ⟨K5, h5⟩ := partE hb hl
  exact ⟨K1 + K2 + K3 + K4 + K5, h1 _ (by omega), h2 _ (by omega), h3 _ (by omega), h4 _ (by omega), h5 _ (by omega)⟩
end Go.Proofs.YtmadpicanmjhhaaGreatDoor.Pure

