/- Plain laws that the claim of FnExactParsePoly reaches: numbers modulo a prime, lists, and what the printed functions answer. -/
import Derived.Lib.ItoaLen
import Derived.Test.YtmadpicanmjhhaaDoorYWWords
import Derived.Test.YtmadpicanmjhhaaDoorYWMore
import Derived.Test.YtmadpicanmjhhaaDoorMa4
import Derived.Test.YtmadpicanmjhhaaDoorMa7
import Derived.Test.YtmadpicanmjhhaaDoorMa5
import Derived.Test.YtmadpicanmjhhaaDoorMa6
import Derived.Test.YtmadpicanmjhhaaDoorMa3
import Derived.Test.YtmadpicanmjhhaaDoorMa2
set_option linter.unusedVariables false
set_option linter.unusedSimpArgs false
namespace Go.Proofs.YtmadpicanmjhhaaDoor.Num
open Go.RowKit
def cg (p a b : Int) : Prop := p ∣ a - b
theorem cg.symm {p a b : Int} : cg p a b → cg p b a := fun ⟨k, h⟩ => ⟨-k, by rw [Int.mul_neg, ← h]; omega⟩
theorem cg.trans {p a b c : Int} : cg p a b → cg p b c → cg p a c := fun ⟨k, h⟩ ⟨m, h'⟩ => ⟨k + m, by rw [Int.mul_add, ← h, ← h']; omega⟩
end Go.Proofs.YtmadpicanmjhhaaDoor.Num
namespace Go.Proofs.YtmadpicanmjhhaaDoor.H
open Go.RowKit Go.Proofs.YtmadpicanmjhhaaDoorW.PrintWords Go.Proofs.YtmadpicanmjhhaaDoorW.PrintLast Go.Proofs.YtmadpicanmjhhaaDoorW.PrintMore Go.Proofs.YtmadpicanmjhhaaDoor.Num
def InR (p : Int) (l : List Int) : Prop := ∀ x ∈ l, 0 ≤ x ∧ x < p
theorem InR.take {p : Int} {l : List Int} (h : InR p l) (n : Nat) : InR p (l.take n) := fun x hx => h x (List.mem_of_mem_take hx)
theorem InR.drop {p : Int} {l : List Int} (h : InR p l) (n : Nat) : InR p (l.drop n) := fun x hx => h x (List.mem_of_mem_drop hx)
theorem itoa_nn {c : Int} (h : 0 ≤ c) : Lib.itoa c = Lib.decDigits c.toNat := by unfold Lib.itoa; rw [if_neg (by omega)]
def polyTx (f : List Int) : List UInt8 := if f.length = 0 then [48] else Lib.join (f.reverse.map Lib.itoa) [44]
theorem numsI_all : ∀ (ws : List (List UInt8)) (p : Int), p ≤ 1000000000 → (∀ w ∈ ws, 0 ≤ numW w ∧ numW w < p) → numsI ws = some (ws.map numW) ∧ (ws.map numW).map Lib.itoa = ws
 | [], p, _, _ => ⟨rfl, rfl⟩
 | w :: r, p, hp, h => by
  obtain ⟨h1, h2⟩ := numsI_all r p hp (fun u hu => h u (List.mem_cons_of_mem _ hu))
  obtain ⟨hw0, hw1⟩ := h w (by simp)
  obtain ⟨n, e, hl, hn⟩ := numW_inv hw0
  have hp1 : Lib.parseIntB 64 w = .ok (numW w) := by rw [e, hl]; exact parse_dec (by omega)
  have hi : Lib.itoa (numW w) = w := by rw [itoa_nn hw0, e, Int.toNat_natCast, ← hl]
  refine ⟨?_, ?_⟩
  ·
   rw [numsI, hp1, h1]; rfl
  ·
   rw [List.map_cons, List.map_cons, hi, h2]
theorem numW_itoa : ∀ (ns : List Int), (∀ x ∈ ns, 0 ≤ x ∧ x < 1000000000) → (ns.map Lib.itoa).map numW = ns ∧ ∀ w ∈ ns.map Lib.itoa, (44 : UInt8) ∉ w
 | [], _ => ⟨rfl, by simp⟩
 | x :: r, h => by
  obtain ⟨h1, h2⟩ := numW_itoa r (fun y hy => h y (List.mem_cons_of_mem _ hy))
  obtain ⟨hx0, hx1⟩ := h x (by simp)
  obtain ⟨n, rfl⟩ : ∃ n : Nat, x = n := ⟨x.toNat, by omega⟩
  have e : Lib.itoa (n : Int) = Lib.decDigits n := by rw [itoa_nn hx0, Int.toNat_natCast]
  refine ⟨?_, ?_⟩
  ·
   rw [List.map_cons, List.map_cons, h1, e, numW_dec (by omega)]
  ·
   intro w hw
   rw [List.map_cons] at hw
   rcases List.mem_cons.1 hw with rfl | hw
   ·
    rw [e]; exact dec_free n
   ·
    exact h2 w hw
theorem parse_eq {p : Int} (hp : p ≤ 10007) {t : List UInt8} (ht : t ≠ [48]) :
  (match numsI (parts 44 t) with
   | none => (([] : List Int), (6 : Int))
   | some ns => if polyB p ns.reverse = true ∧ polyTx ns.reverse = t then (ns.reverse, 0) else ([], 6)) =
  if polyB p ((parts 44 t).map numW).reverse = true then (((parts 44 t).map numW).reverse, 0) else ([], 6) := by
 by_cases hb : polyB p ((parts 44 t).map numW).reverse = true
 ·
  have hpo := polyB_iff.1 hb
  have hall : ∀ w ∈ parts 44 t, 0 ≤ numW w ∧ numW w < p := fun w hw => hpo.el _ (List.mem_reverse.2 (List.mem_map_of_mem hw))
  obtain ⟨h1, h2⟩ := numsI_all (parts 44 t) p (by omega) hall
  have hl : ¬ ((parts 44 t).map numW).reverse.length = 0 := by
   rw [List.length_reverse, List.length_map]
   intro h
   exact parts_ne 44 t (List.eq_nil_of_length_eq_zero h)
  have h3 : polyTx ((parts 44 t).map numW).reverse = t := by
   unfold polyTx
   rw [if_neg hl, List.reverse_reverse, h2, join_parts]
  rw [h1, if_pos hb]
  dsimp only
  rw [if_pos ⟨hb, h3⟩]
 ·
  rw [if_neg hb]
  cases hn : numsI (parts 44 t) with
  | none => rfl
  | some ns =>
   dsimp only
   rw [if_neg]
   rintro ⟨h1, h2⟩
   have hpo := polyB_iff.1 h1
   unfold polyTx at h2
   by_cases hl : ns.reverse.length = 0
   ·
    rw [if_pos hl] at h2
    exact ht h2.symm
   ·
    rw [if_neg hl, List.reverse_reverse] at h2
    obtain ⟨h3, h4⟩ := numW_itoa ns (fun x hx => by have := hpo.el x (List.mem_reverse.2 hx); omega)
    have h5 : parts 44 t = ns.map Lib.itoa := by
     rw [← h2]
     refine parts_join 44 _ ?_ h4
     intro h
     have := congrArg List.length h
     rw [List.length_map] at this
     rw [List.length_reverse] at hl
     exact hl this
    rw [h5, h3] at hb
    exact hb h1
theorem parse_zero (p : Int) : numsI (parts 44 [48]) = some [0] := by
 have h : parts 44 [48] = [Lib.decDigits 0] := by
  rw [decDigits_lo (by omega)]
  decide
 have h2 : Lib.parseIntB 64 (Lib.decDigits 0) = .ok ((0 : Nat) : Int) := parse_dec (by omega)
 rw [h, numsI, h2, numsI]
 rfl
theorem polyB_nil (p : Int) : polyB p [] = true := by
 unfold polyB
 simp
theorem ba_len (a : ByteArray) : a.data.toList.length = a.size := by rw [Array.length_toList]; rfl
theorem bt_nat (a : ByteArray) (i : Nat) (h : i < a.data.toList.length) : bt a (i : Int) = ((a.data.toList[i]'h).toNat : Int) := by
 have h2 : ((i : Int)).toNat < a.size := by rw [← ba_len]; omega
 unfold bt
 rw [dif_pos h2]
 simp only [Int.toNat_natCast, Array.getElem_toList]
 rfl
theorem digitVal_none {b : UInt8} (h : b.toNat < 48 ∨ 57 < b.toNat) : Lib.digitVal b = none := by
 unfold Lib.digitVal
 rw [if_neg (by omega)]
theorem digitVal_some {b : UInt8} (h1 : 48 ≤ b.toNat) (h2 : b.toNat ≤ 57) : Lib.digitVal b = some (b.toNat - 48) := by
 unfold Lib.digitVal
 rw [if_pos ⟨h1, h2⟩]
def numO : Option Nat → Int
 | some n => (n : Int)
 | none => -1
theorem spec_num_loop (a : ByteArray) (h9 : a.data.toList.length ≤ 9) : ∀ (d i acc : Nat), i + d = a.data.toList.length → acc < 10 ^ i → Ev (fun k => spec_l01Number.l0 k a (acc : Int) (i : Int)) (numO (Lib.decFrom acc (a.data.toList.drop i))) := by
 intro d
 induction d with
 | zero =>
  intro i acc h hacc
  have hs := ba_len a
  have q : ¬ ((i : Int) < (a.size : Int)) := by omega
  refine Ev.succ ?_
  simp only [spec_l01Number.l0, if_neg q]
  refine Ev_to (Ev.now _) ?_
  rw [List.drop_eq_nil_of_le (by omega)]
  rfl
 | succ d ih =>
  intro i acc h hacc
  have hs := ba_len a
  have hi : i < a.data.toList.length := by omega
  have q : ((i : Int) < (a.size : Int)) := by omega
  have q0 : (0 : Int) ≤ (i : Int) := by omega
  have hb := bt_nat a i hi
  rw [List.drop_eq_getElem_cons hi]
  generalize a.data.toList[i] = b at hb
  have hacc9 : acc < 1000000000 := Nat.lt_of_lt_of_le hacc (Nat.le_trans (Nat.pow_le_pow_right (by omega) (show i ≤ 9 by omega)) (by decide))
  have hpw : ∀ x, x ≤ 9 → acc * 10 + x < 10 ^ (i + 1) := fun x hx => by
   rw [Nat.pow_succ]
   generalize 10 ^ i = q at hacc
   omega
  clear hacc
  refine Ev.succ ?_
  simp only [spec_l01Number.l0, if_pos q, if_pos q0, hb]
  by_cases c1 : (b.toNat : Int) < 48
  ·
   simp only [if_pos c1]
   refine Ev_to (Ev.now _) ?_
   rw [Lib.decFrom, digitVal_none (by omega)]
   rfl
  ·
   by_cases c2 : (b.toNat : Int) > 57
   ·
    simp only [if_neg c1, if_pos c2]
    refine Ev_to (Ev.now _) ?_
    rw [Lib.decFrom, digitVal_none (by omega)]
    rfl
   ·
    simp only [if_neg c1, if_neg c2]
    have h1 := ih (i + 1) (acc * 10 + (b.toNat - 48)) (by omega) (hpw _ (by omega))
    have e2 : ((b.toNat : Int) - 48) % 256 = ((b.toNat - 48 : Nat) : Int) := by omega
    have e4 : (acc : Int) * 10 = ((acc * 10 : Nat) : Int) := by omega
    have e5 : ((acc * 10 : Nat) : Int) + ((b.toNat - 48 : Nat) : Int) = ((acc * 10 + (b.toNat - 48) : Nat) : Int) := by omega
    have b1 : acc * 10 + (b.toNat - 48) ≤ 1000000000000 := by omega
    have e1 : wrap64 ((acc * 10 : Nat) : Int) = ((acc * 10 : Nat) : Int) := w64 (by omega) (by omega)
    have e3 : wrap64 ((acc * 10 + (b.toNat - 48) : Nat) : Int) = ((acc * 10 + (b.toNat - 48) : Nat) : Int) := by
     clear e1
     exact w64 (by omega) (by omega)
    have e6 : wrap64 ((i : Int) + 1) = ((i + 1 : Nat) : Int) := by
     clear e1 e3
     exact wp1 (by omega)
    rw [e4, e1, e2, e5, e3, e6]
    clear e1 e3 e6
    have d1 := digitVal_some (b := b) (by omega) (by omega)
    rw [Lib.decFrom, d1]
    exact h1
theorem head_get (l : List UInt8) (h : 0 < l.length) : l.head? = some 48 ↔ ((l[0]'h).toNat : Int) = 48 := by
 cases l with
 | nil => simp at h
 | cons b r =>
  simp only [List.head?_cons, Option.some.injEq, List.getElem_cons_zero]
  constructor
  ·
   rintro rfl; rfl
  ·
   intro h
   apply UInt8.toNat_inj.1
   show b.toNat = 48
   omega
theorem spec_number (a : ByteArray) : Ev (fun k => spec_l01Number.f k a) (numW a.data.toList) := by
 have hs := ba_len a
 unfold numW
 by_cases c0 : a.data.toList.length = 0
 ·
  have q : (a.size : Int) = 0 := by omega
  simp only [spec_l01Number.f, if_pos q]
  rw [if_pos (.inl c0)]
  refine Ev.succ ?_
  simp only [spec_l01Number.j0, if_true]
  exact Ev.now _
 ·
  have q : ¬ (a.size : Int) = 0 := by omega
  by_cases c9 : 9 < a.data.toList.length
  ·
   have q9 : (a.size : Int) > 9 := by omega
   simp only [spec_l01Number.f, if_neg q, if_pos q9]
   rw [if_pos (.inr (.inl c9))]
   refine Ev.succ ?_
   simp only [spec_l01Number.j0, if_true]
   exact Ev.now _
  ·
   have q9 : ¬ (a.size : Int) > 9 := by omega
   have hlp := spec_num_loop a (by omega) a.data.toList.length 0 0 (by omega) (by omega)
   rw [List.drop_zero] at hlp
   by_cases c1 : 1 < a.data.toList.length
   ·
    have q1 : (a.size : Int) > 1 := by omega
    have q2 : (0 : Int) < (a.size : Int) := by omega
    have hb := bt_nat a 0 (by omega)
    have hh := head_get a.data.toList (by omega)
    simp only [spec_l01Number.f, if_neg q, if_neg q9, if_pos q1, if_pos q2]
    by_cases ch : a.data.toList.head? = some 48
    ·
     rw [if_pos (.inr (.inr ⟨c1, ch⟩))]
     have e : (bt a 0 == 48) = true := beq_iff_eq.mpr (hb.trans (hh.1 ch))
     rw [e]
     refine Ev.succ ?_
     simp only [spec_l01Number.j0, if_true]
     exact Ev.now _
    ·
     rw [if_neg (by rintro (h | h | h); exact c0 h; exact c9 h; exact ch h.2)]
     have e : (bt a 0 == 48) = false := beq_eq_false_iff_ne.mpr (fun h => ch (hh.2 (hb.symm.trans h)))
     rw [e]
     refine Ev_to (r := numO (Lib.decFrom 0 a.data.toList)) ?_ (by cases Lib.decFrom 0 a.data.toList <;> rfl)
     refine Ev.succ ?_
     simp only [spec_l01Number.j0, Bool.false_eq_true, if_false]
     exact hlp
   ·
    have q1 : ¬ (a.size : Int) > 1 := by omega
    simp only [spec_l01Number.f, if_neg q, if_neg q9, if_neg q1]
    rw [if_neg (by rintro (h | h | h); exact c0 h; exact c9 h; exact c1 h.1)]
    refine Ev_to (r := numO (Lib.decFrom 0 a.data.toList)) ?_ (by cases Lib.decFrom 0 a.data.toList <;> rfl)
    refine Ev.succ ?_
    simp only [spec_l01Number.j0, Bool.false_eq_true, if_false]
    exact hlp
def baOf (l : List UInt8) : ByteArray := ⟨l.toArray⟩
theorem ba_of_data {a : ByteArray} {l : List UInt8} (h : a.data.toList = l) : a = baOf l := by
 subst h
 unfold baOf
 cases a
 simp
theorem extract_ba (a : ByteArray) (i j : Nat) : a.extract i j = baOf ((a.data.toList.take j).drop i) := ba_of_data (by rw [Lib.extract_data, List.drop_take])
theorem spec_split_loop (a : ByteArray) (hl : a.data.toList.length ≤ 1048576) : ∀ (d i at_ : Nat) (x : List ByteArray), i + d = a.data.toList.length → at_ ≤ i → x.length ≤ i → Ev (fun k => spec_l01Split.l0 k a 44 x (at_ : Int) (i : Int)) (x ++ (((a.data.toList.take i).drop at_ ++ (parts 44 (a.data.toList.drop i)).headD []) :: (parts 44 (a.data.toList.drop i)).tail).map baOf) := by
 intro d
 induction d with
 | zero =>
  intro i at_ x h hat hx
  have hs := ba_len a
  have q1 : ¬ ((i : Int) < (a.size : Int)) := by omega
  have q2 : (0 : Int) ≤ (at_ : Int) := by omega
  have q3 : (at_ : Int) ≤ (a.size : Int) := by omega
  have q4 : x.length < 8796093022208 := by omega
  refine Ev.succ ?_
  simp only [spec_l01Split.l0, if_neg q1, if_pos q2, if_pos q3, if_pos q4]
  refine Ev_to (Ev.now _) ?_
  have hd : a.data.toList.drop i = [] := List.drop_eq_nil_of_le (by omega)
  have hsz : a.size = i := by omega
  rw [hd, extract_ba, Int.toNat_natCast, hsz]
  simp [parts]
 | succ d ih =>
  intro i at_ x h hat hx
  have hs := ba_len a
  have hi : i < a.data.toList.length := by omega
  have q1 : ((i : Int) < (a.size : Int)) := by omega
  have q2 : (0 : Int) ≤ (at_ : Int) := by omega
  have q3 : (at_ : Int) ≤ (i : Int) := by omega
  have q4 : x.length < 8796093022208 := by omega
  have q5 : (0 : Int) ≤ (i : Int) := by omega
  have q6 : (i : Int) ≤ (a.size : Int) := by omega
  have hb := bt_nat a i hi
  have hdr := List.drop_eq_getElem_cons hi
  have htk := List.take_succ_eq_append_getElem hi
  obtain ⟨u, us, hu⟩ := parts_form 44 (a.data.toList.drop (i + 1))
  refine Ev.succ ?_
  simp only [spec_l01Split.l0, if_pos q1, if_pos q5]
  by_cases c : bt a (i : Int) = 44
  ·
   have h1 := ih (i + 1) (i + 1) (x ++ [a.extract at_ i]) (by omega) (Nat.le_refl _) (by rw [List.length_append]; simp only [List.length_singleton]; omega)
   simp only [if_pos c, if_pos q2, if_pos q3, if_pos q6, if_pos q4, Int.toNat_natCast]
   rw [wp1 (by omega)]
   refine Ev_to h1 ?_
   have hb2 : a.data.toList[i] = 44 := by
    apply UInt8.toNat_inj.1
    show (a.data.toList[i]).toNat = 44
    omega
   rw [hdr, hb2, parts, if_pos rfl, hu, extract_ba]
   simp
  ·
   have h1 := ih (i + 1) at_ x (by omega) (by omega) (by omega)
   simp only [if_neg c]
   rw [wp1 (by omega)]
   refine Ev_to h1 ?_
   have hb2 : ¬ a.data.toList[i] = 44 := fun h => c (by rw [hb, h]; rfl)
   rw [hdr, parts, if_neg hb2, hu, htk, List.drop_append_of_le_length (by rw [List.length_take]; omega)]
   simp
theorem spec_split (a : ByteArray) (hl : a.data.toList.length ≤ 1048576) : Ev (fun k => spec_l01Split.f k a 44) ((parts 44 a.data.toList).map baOf) := by
 have h := spec_split_loop a hl a.data.toList.length 0 0 [] (by omega) (Nat.le_refl _) (by simp)
 obtain ⟨u, us, hu⟩ := parts_form 44 a.data.toList
 simp only [List.drop_zero] at h
 rw [hu] at h ⊢
 exact h
theorem spec_read_loop (p : Int) (ws : List (List UInt8)) : ∀ (n : Nat) (x : List Int), n ≤ ws.length → x.length + n ≤ 2000000 → Ev (fun k => spec_l01Read.l0 k p x (ws.map baOf) ((n : Int) - 1)) (x ++ ((ws.take n).map numW).reverse, polyB p (x ++ ((ws.take n).map numW).reverse)) := by
 intro n
 induction n with
 | zero =>
  intro x hn hx
  have q : ¬ (((0 : Nat) : Int) - 1 ≥ 0) := by omega
  refine Ev.succ ?_
  simp only [spec_l01Read.l0, if_neg q, List.take_zero, List.map_nil, List.reverse_nil, List.append_nil]
  exact Ev.bind (spec_poly p x (by omega)) (Ev.now _)
 | succ n ih =>
  intro x hn hx
  have q0 : ((n : Int)) ≥ 0 := by omega
  have q1 : (0 : Int) ≤ (n : Int) := by omega
  have q2 : (n : Int) < ((ws.map baOf).length : Int) := by rw [List.length_map]; omega
  have q3 : x.length < 17592186044416 := by omega
  have e0 : rdOf ByteArray.empty (ws.map baOf) (n : Int) = baOf (ws[n]'(by omega)) := by
   unfold rdOf
   rw [Int.toNat_natCast, List.getD_eq_getElem?_getD, List.getElem?_map, List.getElem?_eq_getElem (show n < ws.length by omega)]
   rfl
  have hnm := spec_number (baOf (ws[n]'(by omega)))
  have e1 : (baOf (ws[n]'(by omega))).data.toList = ws[n]'(by omega) := rfl
  rw [e1] at hnm
  have h1 := ih (x ++ [numW (ws[n]'(by omega))]) (by omega) (by rw [List.length_append]; simp only [List.length_singleton]; omega)
  refine Ev.succ ?_
  rw [ws1]
  simp only [spec_l01Read.l0, if_pos q0, if_pos q1, if_pos q2, e0]
  refine Ev.bind hnm ?_
  simp only [if_pos q3]
  rw [wm1 (by omega)]
  have e4 : x ++ [numW (ws[n]'(by omega))] ++ ((ws.take n).map numW).reverse = x ++ ((ws.take (n + 1)).map numW).reverse := by
   rw [List.take_succ_eq_append_getElem (show n < ws.length by omega), List.map_append, List.reverse_append, List.append_assoc]
   rfl
  rw [← e4]
  exact h1
theorem spec_read (p : Int) (a : ByteArray) (hl : a.data.toList.length ≤ 1048576) : Ev (fun k => spec_l01Read.f k p a) (if a.data.toList = [48] then ([], true) else (((parts 44 a.data.toList).map numW).reverse, polyB p ((parts 44 a.data.toList).map numW).reverse)) := by
 simp only [spec_l01Read.f, Option.bind_some]
 by_cases c : a.data.toList = [48]
 ·
  have c' : a.toList = [48] := by rw [ByteArray.toList_eq]; exact c
  simp only [if_pos c, if_pos c']
  exact Ev.now _
 ·
  have c' : ¬ a.toList = [48] := by rw [ByteArray.toList_eq]; exact c
  have hp := parts_size 44 a.data.toList
  simp only [if_neg c, if_neg c']
  refine Ev.bind (spec_split a hl) ?_
  have h := spec_read_loop p (parts 44 a.data.toList) (parts 44 a.data.toList).length [] (Nat.le_refl _) (by simp only [List.length_nil]; omega)
  rw [List.take_length, List.nil_append] at h
  rw [List.length_map, wm1 (by omega)]
  exact h
noncomputable def parA (p : Int) (t : List UInt8) : List Int × Int := if primeB p = true then (if t = [48] then ([], 0) else if polyB p ((parts 44 t).map numW).reverse = true then (((parts 44 t).map numW).reverse, 0) else ([], 6)) else ([], 2)
theorem spec_parse (p : Int) (a : ByteArray) (hl : a.data.toList.length ≤ 1048576) : Ev (fun k => spec_ParsePoly.f k p a) (parA p a.data.toList) := by
 simp only [spec_ParsePoly.f]
 refine Ev.bind (spec_prime p) ?_
 unfold parA
 by_cases hp : primeB p = true
 ·
  simp only [if_pos hp]
  refine Ev.bind (spec_read p a hl) ?_
  by_cases c : a.data.toList = [48]
  ·
   simp only [if_pos c]
   exact Ev.now _
  ·
   simp only [if_neg c]
   by_cases hb : polyB p ((parts 44 a.data.toList).map numW).reverse = true
   ·
    simp only [if_pos hb]
    exact Ev.now _
   ·
    simp only [if_neg hb]
    exact Ev.now _
 ·
  simp only [if_neg hp]
  exact Ev.now _
end Go.Proofs.YtmadpicanmjhhaaDoor.H
