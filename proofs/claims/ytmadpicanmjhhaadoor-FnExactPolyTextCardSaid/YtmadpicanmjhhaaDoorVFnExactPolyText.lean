/- Plain laws that the claim of FnExactPolyText reaches: numbers modulo a prime, lists, and what the printed functions answer. -/
import Derived.Lib.ItoaLen
import Derived.Test.YtmadpicanmjhhaaDoorYWWords
import Derived.Test.YtmadpicanmjhhaaDoorYWMore
import Derived.Test.YtmadpicanmjhhaaDoorMa5
import Derived.Test.YtmadpicanmjhhaaDoorMa3
import Derived.Test.YtmadpicanmjhhaaDoorMa4
import Derived.Test.YtmadpicanmjhhaaDoorMa2
set_option linter.unusedVariables false
set_option linter.unusedSimpArgs false
namespace Go.Proofs.YtmadpicanmjhhaaDoor.H
open Go.RowKit Go.Proofs.YtmadpicanmjhhaaDoorW.PrintWords Go.Proofs.YtmadpicanmjhhaaDoorW.PrintLast Go.Proofs.YtmadpicanmjhhaaDoorW.PrintMore Go.Proofs.YtmadpicanmjhhaaDoor.Num
theorem Ev.succ {α : Type} {g : Nat → Option α} {r : α} (h : Ev (fun k => g (k + 1)) r) : Ev g r := by
 obtain ⟨K, h⟩ := h
 refine ⟨K + 1, fun k hk => ?_⟩
 obtain ⟨m, rfl⟩ : ∃ m, k = m + 1 := ⟨k - 1, by omega⟩
 exact h m (by omega)
theorem Ev_to {α : Type} {g : Nat → Option α} {r r' : α} (h : Ev g r) (e : r = r') : Ev g r' := e ▸ h
theorem wm1 {i : Nat} (h : i ≤ 1000000000000) : wrap64 ((i : Int) - 1) = (i : Int) - 1 := w64 (by omega) (by omega)
theorem ws1 {i : Nat} : ((i + 1 : Nat) : Int) - 1 = (i : Int) := by omega
theorem rd_n (l : List Int) (i : Nat) : rd l (i : Int) = l.getD i 0 := by simp [rd]
end Go.Proofs.YtmadpicanmjhhaaDoor.H
namespace Go.Proofs.YtmadpicanmjhhaaDoor.Num
open Go.RowKit
def cg (p a b : Int) : Prop := p ∣ a - b
theorem cg.trans {p a b c : Int} : cg p a b → cg p b c → cg p a c := fun ⟨k, h⟩ ⟨m, h'⟩ => ⟨k + m, by rw [Int.mul_add, ← h, ← h']; omega⟩
end Go.Proofs.YtmadpicanmjhhaaDoor.Num
namespace Go.Proofs.YtmadpicanmjhhaaDoor.H
open Go.RowKit Go.Proofs.YtmadpicanmjhhaaDoorW.PrintWords Go.Proofs.YtmadpicanmjhhaaDoorW.PrintLast Go.Proofs.YtmadpicanmjhhaaDoorW.PrintMore Go.Proofs.YtmadpicanmjhhaaDoor.Num
def InR (p : Int) (l : List Int) : Prop := ∀ x ∈ l, 0 ≤ x ∧ x < p
theorem InR.take {p : Int} {l : List Int} (h : InR p l) (n : Nat) : InR p (l.take n) := fun x hx => h x (List.mem_of_mem_take hx)
def co (l : List Int) (i : Nat) : Int := l.getD i 0
theorem co_ge {l : List Int} {i : Nat} (h : l.length ≤ i) : co l i = 0 := by simp [co, List.getD_eq_getElem?_getD, h]
def Nz (l : List Int) : Prop := l.length = 0 ∨ co l (l.length - 1) ≠ 0
theorem Nz.len_le {l : List Int} (h : Nz l) {n : Nat} (hz : ∀ i, n ≤ i → co l i = 0) : l.length ≤ n := by
 rcases h with h | h
 ·
  omega
 ·
  rcases Nat.lt_or_ge n l.length with hl | hl
  ·
   exact absurd (hz _ (by omega)) h
  ·
   exact hl
theorem Nz.ext {l l' : List Int} (h : Nz l) (h' : Nz l') (he : ∀ i, co l i = co l' i) : l = l' := by
 have h1 : l.length ≤ l'.length := h.len_le fun i hi => by rw [he]; exact co_ge hi
 have h2 : l'.length ≤ l.length := h'.len_le fun i hi => by rw [← he]; exact co_ge hi
 refine List.ext_getElem (by omega) fun i a b => ?_
 have := he i
 unfold co at this
 rwa [List.getD_eq_getElem?_getD, List.getD_eq_getElem?_getD, List.getElem?_eq_getElem a, List.getElem?_eq_getElem b] at this
theorem ba_app (a b : List UInt8) : (⟨a.toArray⟩ : ByteArray) ++ ⟨b.toArray⟩ = ⟨(a ++ b).toArray⟩ := by
 apply ByteArray.ext
 simp
theorem ba_size (a : List UInt8) : (⟨a.toArray⟩ : ByteArray).size = a.length := by simp [ByteArray.size]
theorem strOf_one (x : Int) : strOfNums [x] = ⟨[UInt8.ofNat x.toNat].toArray⟩ := rfl
theorem spec_dec (n : Nat) (hn : n ≤ 1000000000) : Ev (fun k => spec_l01Dec.f k (n : Int)) ⟨(Lib.decDigits n).toArray⟩ := by
 induction n using Nat.strongRecOn with
 | _ n ih =>
  have q0 : ¬ ((n : Int) < 0) := by omega
  by_cases h : n < 10
  ·
   have q1 : (n : Int) < 10 := by omega
   have e : (wrap64 (48 + (n : Int)) % 256).toNat = 48 + n := by rw [w64 (by omega) (by omega)]; omega
   refine Ev.succ ?_
   simp only [spec_l01Dec.f, if_neg q0, if_pos q1, strOf_one, e]
   rw [decDigits_lo h]
   exact Ev.now _
  ·
   have q1 : ¬ ((n : Int) < 10) := by omega
   have e1 : wrap64 (Int.tdiv (n : Int) 10) = ((n / 10 : Nat) : Int) := by
    rw [Int.tdiv_eq_ediv_of_nonneg (by omega), w64 (by omega) (by omega)]; omega
   have e2 : (wrap64 (48 + Int.tmod (n : Int) 10) % 256).toNat = 48 + n % 10 := by
    rw [Int.tmod_eq_emod_of_nonneg (by omega), w64 (by omega) (by omega)]; omega
   have h1 := ih (n / 10) (by omega) (by omega)
   refine Ev.succ ?_
   simp only [spec_l01Dec.f, if_neg q0, if_neg q1, e1]
   refine Ev.bind h1 ?_
   have hl := Lib.decDigits_length (n / 10)
   have hl2 : Lib.nDigits (n / 10) ≤ 20 := Lib.nDigits_le20 _ (by omega)
   have q2 : (⟨(Lib.decDigits (n / 10)).toArray⟩ : ByteArray).size + (⟨[UInt8.ofNat (48 + n % 10)].toArray⟩ : ByteArray).size ≤ 9223372036854775807 := by
    rw [ba_size, ba_size, hl]; simp; omega
   simp only [Option.bind_some, strOf_one, e2, if_pos q2]
   rw [ba_app, decDigits_hi h]
   exact Ev.now _
theorem itoa_nn {c : Int} (h : 0 ≤ c) : Lib.itoa c = Lib.decDigits c.toNat := by unfold Lib.itoa; rw [if_neg (by omega)]
theorem join_cons_ne (x : List UInt8) (ws : List (List UInt8)) (sep : List UInt8) (h : ws ≠ []) : Lib.join (x :: ws) sep = x ++ sep ++ Lib.join ws sep := by
 cases ws with
 | nil => exact absurd rfl h
 | cons y r => exact join_cons2 x y r sep
theorem spec_dec_i {c : Int} (h0 : 0 ≤ c) (h1 : c ≤ 1000000000) : Ev (fun k => spec_l01Dec.f k c) ⟨(Lib.itoa c).toArray⟩ := by
 obtain ⟨n, rfl⟩ : ∃ n : Nat, c = n := ⟨c.toNat, by omega⟩
 rw [itoa_nn h0, Int.toNat_natCast]
 exact spec_dec n (by omega)
theorem itoa_len {c : Int} (h0 : 0 ≤ c) (h1 : c ≤ 1000000000) : (Lib.itoa c).length ≤ 21 := Lib.itoa_length_le c (by omega) (by omega)
theorem spec_text (l : List Int) (hl : l.length ≤ 1000) (hb : ∀ x ∈ l, 0 ≤ x ∧ x ≤ 1000000000) : Ev (fun k => spec_l01Text.f k l) ⟨(if l.length = 0 then [48] else Lib.join (l.reverse.map Lib.itoa) [44]).toArray⟩ := by
 have loop : ∀ i (x3 : List UInt8), i + 1 ≤ l.length → x3.length + 22 * (i + 1) ≤ 100000 → Ev (fun k => spec_l01Text.l0 k l ⟨x3.toArray⟩ (i : Int)) ⟨(x3 ++ Lib.join ((l.take (i + 1)).reverse.map Lib.itoa) [44]).toArray⟩ := by
  intro i
  induction i with
  | zero =>
   intro x3 hi hx
   have hel := hb l[0] (List.getElem_mem _)
   have hd := spec_dec_i hel.1 hel.2
   have hdl := itoa_len hel.1 hel.2
   have e0 : rd l ((0 : Nat) : Int) = l[0] := by rw [rd_n, List.getD_eq_getElem?_getD, List.getElem?_eq_getElem (by omega)]; rfl
   have q1 : ((0 : Nat) : Int) ≥ 0 := by omega
   have q2 : (0 : Int) ≤ ((0 : Nat) : Int) := by omega
   have q3 : ((0 : Nat) : Int) < (l.length : Int) := by omega
   have q4 : (⟨x3.toArray⟩ : ByteArray).size + (⟨(Lib.itoa l[0]).toArray⟩ : ByteArray).size ≤ 9223372036854775807 := by rw [ba_size, ba_size]; omega
   have q5 : ¬ ((0 : Nat) : Int) > 0 := by omega
   have q6 : ¬ (((0 : Nat) : Int) - 1) ≥ 0 := by omega
   refine Ev.succ ?_
   simp only [spec_l01Text.l0, if_pos q1, if_pos q2, if_pos q3, e0]
   refine Ev.bind hd ?_
   simp only [if_pos q4, if_neg q5, wm1 (show 0 ≤ 1000000000000 by omega)]
   refine Ev.succ ?_
   simp only [spec_l01Text.l0, if_neg q6]
   refine Ev_to (Ev.now _) ?_
   have e1 : l.take (0 + 1) = [l[0]] := by
    rw [List.take_succ_eq_append_getElem (by omega)]; rfl
   rw [e1, ba_app]
   simp [Lib.join_one]
  | succ i ih =>
   intro x3 hi hx
   have hel := hb (l[i + 1]'(by omega)) (List.getElem_mem _)
   have hd := spec_dec_i hel.1 hel.2
   have hdl := itoa_len hel.1 hel.2
   have e0 : rd l ((i + 1 : Nat) : Int) = l[i + 1]'(by omega) := by rw [rd_n, List.getD_eq_getElem?_getD, List.getElem?_eq_getElem (by omega)]; rfl
   have h1 := ih (x3 ++ Lib.itoa (l[i + 1]'(by omega)) ++ [44]) (by omega) (by rw [List.length_append, List.length_append]; simp only [List.length_singleton]; omega)
   have q1 : ((i + 1 : Nat) : Int) ≥ 0 := by omega
   have q2 : (0 : Int) ≤ ((i + 1 : Nat) : Int) := by omega
   have q3 : ((i + 1 : Nat) : Int) < (l.length : Int) := by omega
   have q4 : (⟨x3.toArray⟩ : ByteArray).size + (⟨(Lib.itoa (l[i + 1]'(by omega))).toArray⟩ : ByteArray).size ≤ 9223372036854775807 := by rw [ba_size, ba_size]; omega
   have q5 : ((i + 1 : Nat) : Int) > 0 := by omega
   have q6 : ((⟨x3.toArray⟩ : ByteArray) ++ (⟨(Lib.itoa (l[i + 1]'(by omega))).toArray⟩ : ByteArray)).size + 1 ≤ 9223372036854775807 := by rw [ba_app, ba_size, List.length_append]; omega
   have e2 : ((⟨x3.toArray⟩ : ByteArray) ++ (⟨(Lib.itoa (l[i + 1]'(by omega))).toArray⟩ : ByteArray)) ++ (⟨#[44]⟩ : ByteArray) = ⟨(x3 ++ Lib.itoa (l[i + 1]'(by omega)) ++ [44]).toArray⟩ := by
    rw [ba_app]; exact ba_app _ [44]
   have w1 : wrap64 (((i + 1 : Nat) : Int) - 1) = (i : Int) := (wm1 (i := i + 1) (by omega)).trans ws1
   refine Ev.succ ?_
   simp only [spec_l01Text.l0, if_pos q1, if_pos q2, if_pos q3, e0]
   refine Ev.bind hd ?_
   simp only [if_pos q4, if_pos q5, if_pos q6, e2, w1]
   refine Ev_to h1 ?_
   have e3 : l.take (i + 1 + 1) = l.take (i + 1) ++ [l[i + 1]'(by omega)] := List.take_succ_eq_append_getElem (by omega)
   have hne : (l.take (i + 1)).reverse.map Lib.itoa ≠ [] := by
    intro h
    have := congrArg List.length h
    rw [List.length_map, List.length_reverse, List.length_take, List.length_nil] at this
    omega
   rw [e3, List.reverse_append, List.reverse_singleton, List.singleton_append, List.map_cons, join_cons_ne _ _ _ hne]
   simp [List.append_assoc]
 by_cases h0 : l.length = 0
 ·
  have q : (l.length : Int) = 0 := by omega
  simp only [spec_l01Text.f, if_pos q, if_pos h0]
  exact Ev.now _
 ·
  have q : ¬ (l.length : Int) = 0 := by omega
  obtain ⟨i, hi⟩ : ∃ i, l.length = i + 1 := ⟨l.length - 1, by omega⟩
  have h := loop i [] (by omega) (by simp; omega)
  have e : wrap64 ((l.length : Int) - 1) = (i : Int) := by rw [hi, wm1 (by omega)]; exact ws1
  rw [List.take_of_length_le (by omega), List.nil_append] at h
  simp only [spec_l01Text.f, if_neg q, if_neg h0, e]
  exact h
end Go.Proofs.YtmadpicanmjhhaaDoor.H
