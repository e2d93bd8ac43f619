/- FnPrimeNumbers: inverses have the product 1, powers add their exponents, powers of primes less 1 are 1, and the program's answers are the reference's: at every code. No condition. -/
import Derived.Test.YtepigphelclpcaaVFnPrimeNumbers
import Derived.Test.YtepigphelclpcaaMa6
import Derived.Test.YtepigphelclpcaaMa1
import Derived.Test.YtepigphelclpcaaMa4
import Derived.Test.YtepigphelclpcaaMa5
import Derived.Test.YtepigphelclpcaaRows
import Derived.Test.YtepigphelclpcaaWSized
set_option linter.unusedVariables false
set_option linter.unusedSimpArgs false
namespace Go.Proofs.Ytepigphelclpcaa.Pure
open Go.RowKit Go.Proofs.Ytepigphelclpcaa.H Go.Proofs.YtepigphelclpcaaW.PrintWords Go.Proofs.YtepigphelclpcaaW.PrintLast Go.Proofs.Ytepigphelclpcaa.Num
theorem last_ {l : List Int} {n : Int} (hn : Ev (fun k => spec_DrawIsPrime.f k l) n) : Ev (fun k => laws_FnPrimeNumbers.j4 k l false) true ∧ ∀ a b c d, Ev (fun k => laws_FnPrimeNumbers.j3 k l a b c d false) true := by
  have h2 := impl_prime n
  have h1 : Ev (fun k => spec_IsPrime.f k n) (primeB n) := by
    simp only [spec_IsPrime.f]; exact Ev.bind (spec_prime n) (Ev.now _)
  refine ⟨?_, fun a b c d => ?_⟩
  · refine Ev.succ ?_
    simp only [laws_FnPrimeNumbers.j4, Bool.false_eq_true, if_false]
    refine Ev.bind hn (Ev.bind h2 (Ev.bind h1 ?_))
    rw [beq_self_eq_true]; exact Ev.now _
  · refine Ev.succ ?_
    simp only [laws_FnPrimeNumbers.j3, Bool.false_eq_true, if_false]
    refine Ev.bind hn (Ev.bind h2 (Ev.bind h1 ?_))
    rw [beq_self_eq_true]; exact Ev.now _
theorem powers_ {l : List Int} (hb : Bytes l) : Ev (fun k => laws_FnPrimeNumbers.j1 k l) true := by
  obtain ⟨n, hn⟩ := draw_isprime hb
  obtain ⟨l4, l3⟩ := last_ hn
  obtain ⟨q, y, e, hd⟩ := draw_power hb
  refine Ev.succ ?_
  simp only [laws_FnPrimeNumbers.j1]
  refine Ev.bind hd ?_
  rcases power_of q y e with ⟨hq, y0, y1, e0, e1, hs, hi⟩ | ⟨hs, hi⟩
  · refine Ev.bind hi (Ev.bind hs ?_)
    simp only [if_true, bne_self_eq_false]
    refine Ev.succ ?_
    simp only [laws_FnPrimeNumbers.j2, Bool.false_eq_true, if_false, if_true]
    by_cases c : e < 1000000000
    · have hq0 := hq.1
      have hq1 := hq.2.1
      have hw : wrap64 (e + 1) = e + 1 := w64 (by omega) (by omega)
      have hp := impl_power_of hq y0 y1 (show 0 ≤ e + 1 by omega) (show e + 1 ≤ 1000000000 by omega)
      obtain ⟨b0, b1⟩ := emod_bd (x := y ^ e.toNat) (p := q) (by omega)
      obtain ⟨m0, m1⟩ := mul_bd (a := 10007) (b := 10007) b0 (by omega) y0 (by omega)
      have hw2 : wrap64 (y ^ e.toNat % q * y) = y ^ e.toNat % q * y := w64 (by omega) (by omega)
      have ht : Int.tmod (y ^ e.toNat % q * y) q = y ^ (e + 1).toNat % q := by
        rw [tmod_nn m0, em_l, show (e + 1).toNat = e.toNat + 1 by omega, Int.pow_succ]
      rw [decide_eq_true c]
      refine Ev.succ ?_
      simp only [laws_FnPrimeNumbers.j3, if_true, hw]
      refine Ev.bind hp ?_
      simp only [if_true, if_neg (show ¬ q = 0 by omega), hw2, ht, bne_self_eq_false]
      exact l4
    · rw [decide_eq_false c]; exact l3 _ _ _ _
  · refine Ev.bind hi (Ev.bind hs ?_)
    simp only [if_true, bne_self_eq_false]
    refine Ev.succ ?_
    simp only [laws_FnPrimeNumbers.j2, Bool.false_eq_true, if_false, if_neg (show ¬ (2 : Int) = 0 by decide)]
    exact l3 _ _ _ _
theorem FnPrimeNumbers : laws_FnPrimeNumbers.Pure := by
  intro l _ _ hw0
  refine Ev.rounds ?_ (r := true)
  simp only [laws_FnPrimeNumbers.f, laws_big.f, Option.bind_some]
  by_cases hl : (l.length : Int) > 4096
  · simp only [decide_eq_true hl, if_true]; exact Ev.now _
  · simp only [decide_eq_false hl, Bool.false_eq_true, if_false]
    have hb : Bytes l := ⟨by omega, fun x hx => by
      have h2 := hw0 x hx
      simp [Lit.wf, IntKind.min, IntKind.max, IntKind.signed, IntKind.bits] at h2
      omega⟩
    obtain ⟨p, x, hd⟩ := draw_inverse hb
    refine Ev.bind hd ?_
    rcases inverse_of p x with ⟨hp, x1, x2, hs, hi⟩ | ⟨hs, hi⟩
    · refine Ev.bind hi (Ev.bind hs ?_)
      have hp0 := hp.1
      have hp1 := hp.2.1
      simp only [if_true, bne_self_eq_false]
      refine Ev.succ ?_
      have hw : wrap64 (p - 1) = p - 1 := w64 (by omega) (by omega)
      have hpw := impl_power_of hp (show 0 ≤ x by omega) (show x < p by omega) (show 0 ≤ p - 1 by omega) (show p - 1 ≤ 1000000000 by omega)
      obtain ⟨b0, b1⟩ := emod_bd (x := x ^ (p - 2).toNat) (p := p) (by omega)
      obtain ⟨m0, m1⟩ := mul_bd (a := 10007) (b := 10007) (show 0 ≤ x by omega) (by omega) b0 (by omega)
      have hinv : x * (x ^ (p - 2).toNat % p) % p = 1 := by
        have h := (inv_cg (x := x) hp (by rw [Int.emod_eq_of_lt (by omega) (by omega)]; omega)).emod
        rw [h, Int.emod_eq_of_lt (by omega) (by omega)]
      have h1 : x ^ (p - 1).toNat % p = 1 := by
        rw [show (p - 1).toNat = (p - 2).toNat + 1 by omega, Int.pow_succ, Int.mul_comm, ← em_r]; exact hinv
      rw [h1] at hpw
      simp only [laws_FnPrimeNumbers.j0, Bool.false_eq_true, if_false, if_true, hw]
      refine Ev.bind hpw ?_
      simp only [if_true, if_neg (show ¬ p = 0 by omega), w64 (show -9223372036854775808 ≤ x * (x ^ (p - 2).toNat % p) by omega) (show x * (x ^ (p - 2).toNat % p) ≤ 9223372036854775807 by omega), tmod_nn m0, hinv]
      exact powers_ hb
    · refine Ev.bind hi (Ev.bind hs ?_)
      simp only [if_true, bne_self_eq_false]
      refine Ev.succ ?_
      simp only [laws_FnPrimeNumbers.j0, Bool.false_eq_true, if_false, if_neg (show ¬ (2 : Int) = 0 by decide)]
      exact powers_ hb
end Go.Proofs.Ytepigphelclpcaa.Pure

