/- FnExactCharacteristicPoly: the program's CharacteristicPoly answers as the reference's at all arguments. No condition. -/
import Derived.Test.YtlmolloallhclaaVFnExactCharacteristicPoly
import Derived.Test.YtlmolloallhclaaYHx0
import Derived.Test.YtlmolloallhclaaMa9
import Derived.Test.YtlmolloallhclaaMa7
import Derived.Test.YtlmolloallhclaaMa8
import Derived.Test.YtlmolloallhclaaRows
import Derived.Test.YtlmolloallhclaaYWSized
set_option linter.unusedVariables false
set_option linter.unusedSimpArgs false
namespace Go.Proofs.Ytlmolloallhclaa.Pure
open Go.RowKit Go.Proofs.Ytlmolloallhclaa.H Go.Proofs.YtlmolloallhclaaW.PrintWords Go.Proofs.YtlmolloallhclaaW.PrintLast Go.Proofs.YtlmolloallhclaaW.PrintMore Go.Proofs.Ytlmolloallhclaa.Num

theorem mem_tot : ∀ (ls : List (List Int)) (x : List Int), x ∈ ls → x.length ≤ tot ls
  | [], x, h => by simp at h
  | l :: ls, x, h => by
    rw [tot]
    rcases List.mem_cons.1 h with rfl | h
    · omega
    · have := mem_tot ls x h; omega
theorem szS_loop (ls : List (List Int)) (hl : ls.length ≤ 1048576) (hb : ∀ x ∈ ls, x.length ≤ 9223372036854775807) : ∀ (d i : Nat) (x : Int), i + d = ls.length → 0 ≤ x → x ≤ 1048576 → ∃ left, Ev (fun k => laws_szInt64SS.l0 k ls x (i : Int)) left ∧ (left < 0 ∨ (0 ≤ left ∧ left + tot (ls.drop i) = x)) := by
  intro d
  induction d with
  | zero =>
    intro i x hi h0 h1
    refine ⟨x, ?_, .inr ⟨h0, ?_⟩⟩
    · refine Ev.succ ?_
      simp only [laws_szInt64SS.l0, if_neg (show ¬ ((i : Int) < (ls.length : Int)) by omega)]
      exact Ev.now _
    · rw [List.drop_of_length_le (by omega), tot]; omega
  | succ d ih =>
    intro i x hi h0 h1
    have hil : i < ls.length := by omega
    have e1 : rd_L1 ls (i : Int) = ls[i] := by
      unfold rd_L1
      rw [Int.toNat_natCast, List.getD_eq_getElem?_getD, List.getElem?_eq_getElem hil]; rfl
    obtain ⟨m, hm⟩ : ∃ m, m = (ls[i]).length := ⟨_, rfl⟩
    have hmb : m ≤ 9223372036854775807 := by rw [hm]; exact hb _ (List.getElem_mem hil)
    have ew : wrap64 (x - (m : Int)) = x - m := w64 (by omega) (by omega)
    have hd : tot (ls.drop i) = m + tot (ls.drop (i + 1)) := by
      rw [List.drop_eq_getElem_cons hil, tot, hm]
    by_cases hx : x - (m : Int) < 0
    · refine ⟨-1, ?_, .inl (by omega)⟩
      refine Ev.succ ?_
      simp only [laws_szInt64SS.l0, if_pos (show (i : Int) < (ls.length : Int) by omega), if_pos (show (0 : Int) ≤ (i : Int) by omega), e1, laws_szInt64S.f, ← hm, ew, if_pos hx, Option.bind_some, if_pos (show (-1 : Int) < 0 by omega)]
      exact Ev.now _
    · obtain ⟨left, h2, h3⟩ := ih (i + 1) (x - m) (by omega) (by omega) (by omega)
      refine ⟨left, ?_, h3.imp id fun h => ⟨h.1, by rw [hd]; omega⟩⟩
      refine Ev.succ ?_
      simp only [laws_szInt64SS.l0, if_pos (show (i : Int) < (ls.length : Int) by omega), if_pos (show (0 : Int) ≤ (i : Int) by omega), e1, laws_szInt64S.f, ← hm, ew, if_neg hx, Option.bind_some, wp1 (show i ≤ 1000000000000 by omega)]
      exact h2
theorem szS_says (ls : List (List Int)) (hl : ls.length ≤ 9223372036854775807) (hb : ∀ x ∈ ls, x.length ≤ 9223372036854775807) : ∃ left, Ev (fun k => laws_szInt64SS.f k ls 1048576) left ∧ (left < 0 ∨ (0 ≤ left ∧ ls.length ≤ 1048576 ∧ tot ls ≤ 1048576)) := by
  obtain ⟨m, hm⟩ : ∃ m, m = ls.length := ⟨_, rfl⟩
  have ew : wrap64 ((1048576 : Int) - (m : Int)) = 1048576 - m := w64 (by omega) (by omega)
  by_cases hx : (1048576 : Int) - (m : Int) < 0
  · refine ⟨-1, ?_, .inl (by omega)⟩
    simp only [laws_szInt64SS.f, ← hm, ew, if_pos hx]
    exact Ev.now _
  · obtain ⟨left, h2, h3⟩ := szS_loop ls (by omega) hb ls.length 0 (1048576 - m) (by omega) (by omega) (by omega)
    refine ⟨left, ?_, h3.imp id fun h => ⟨h.1, by omega, by have := h.2; rw [List.drop_zero] at this; omega⟩⟩
    simp only [laws_szInt64SS.f, ← hm, ew, if_neg hx]
    exact h2
theorem toIS_loop : ∀ (todo pre : List (List Int)), (∀ l ∈ todo, l.length ≤ 1048576) → pre.length + todo.length ≤ 2000000 → Ev (fun k => laws_toInt64SS.l0 k (pre ++ todo) (pre ++ List.replicate todo.length []) (pre.length : Int)) (pre ++ todo)
  | [], pre, _, hl => by
    have q1 : ¬ ((pre.length : Int) < ((pre ++ ([] : List (List Int))).length : Int)) := by simp
    refine Ev.succ ?_
    simp only [laws_toInt64SS.l0, if_neg q1]
    exact Ev_to (Ev.now _) (by simp)
  | l :: todo, pre, hb, hl => by
    simp only [List.length_cons] at hl
    have q1 : ((pre.length : Int) < ((pre ++ l :: todo).length : Int)) := by simp; omega
    have q2 : (0 : Int) ≤ (pre.length : Int) := by omega
    have q3 : ((pre.length : Int) < ((pre ++ [] :: List.replicate todo.length ([] : List Int)).length : Int)) := by simp; omega
    have hm := toI_same l (hb l (by simp))
    have ih := toIS_loop todo (pre ++ [l]) (fun x hx => hb x (by simp [hx])) (by simp; omega)
    refine Ev.succ ?_
    simp only [laws_toInt64SS.l0, List.length_cons, List.replicate_succ, if_pos q1, if_pos q2, rd_mid]
    refine Ev.bind hm ?_
    simp only [if_pos q3, Int.toNat_natCast, set_mid, wp1 (show pre.length ≤ 1000000000000 by omega)]
    rw [show ((pre ++ [l]).length : Int) = ((pre.length + 1 : Nat) : Int) by simp, List.append_assoc pre [l] todo, List.singleton_append] at ih
    exact ih
theorem toIS_same (ls : List (List Int)) (hb : ∀ l ∈ ls, l.length ≤ 1048576) (hl : ls.length ≤ 2000000) : Ev (fun k => laws_toInt64SS.f k ls) ls := by
  have h := toIS_loop ls [] hb (by simpa using hl)
  simp only [List.nil_append, List.length_nil] at h
  simp only [laws_toInt64SS.f, if_pos (show (0 : Int) ≤ (ls.length : Int) by omega), Int.toNat_natCast, if_pos (show ls.length ≤ 11728124029610 by omega)]
  exact h
theorem chA_len (p : Int) (Q : List (List Int)) (r : List Int) (er : Int) (h : chA p Q = (r, er)) : r.length ≤ 13 := by
  by_cases hok : ChOk p Q
  · rw [chA_yes hok] at h
    injection h with h1 h2
    have := hok.2.1
    rw [← h1, dL_len]
    omega
  · rw [chA_no hok] at h
    injection h with h1 h2
    rw [← h1]; simp
theorem FnExactCharacteristicPoly : laws_FnExactCharacteristicPoly.Pure := by
  intro p Q hl hb
  obtain ⟨left, ⟨K1, s1⟩, h⟩ := szS_says Q hl hb
  by_cases hneg : left < 0
  · exact ⟨K1, left, s1 _ (Nat.le_refl _), .inl hneg⟩
  obtain ⟨_, hlen, htot⟩ := h.resolve_left hneg
  obtain ⟨r, er, hA⟩ : ∃ r er, chA p Q = (r, er) := ⟨_, _, rfl⟩
  have hr := chA_len p Q r er hA
  have hrow : ∀ x ∈ Q, x.length ≤ 1048576 := fun x hx => Nat.le_trans (mem_tot Q x hx) htot
  have bQ : ∀ l ∈ Q, l.length ≤ 2000000 := fun l hl => by have := hrow l hl; omega
  obtain ⟨K2, s2⟩ := toIS_same Q hrow (by omega)
  obtain ⟨K3, s3⟩ := eqI_same r (by omega)
  obtain ⟨K5, s5⟩ := eqS_same Q bQ (by omega)
  obtain ⟨K6, s6⟩ := markS_up Q bQ 1 (by omega) (by omega) (by omega)
  obtain ⟨K7, s7⟩ := mark_up r (by omega) 1 (by omega) (by omega)
  obtain ⟨K9, s9⟩ := held_up r.length (by omega) 1 (by omega) (by omega)
  exact ⟨K1 + K2 + K3 + K5 + K6 + K7 + K9, left, s1 _ (by omega), .inr ⟨hneg, r, _, _, er, _, _, fun x hx => by have := hrow x hx; omega, s2 _ (by omega), hA, s3 _ (by omega), s5 _ (by omega), s6 _ (by omega), by omega, s7 _ (by omega), s9 _ (by omega), by omega⟩⟩
end Go.Proofs.Ytlmolloallhclaa.Pure

