/- The words that print.sh printed for this seat, as far as the claims reach them, and the session's own. -/
import Derived.Test.YtnigpjcnffgfgaaProg
import Derived.Test.YtnigpjcnffgfgaaYWWords
import Derived.Test.YtnigpjcnffgfgaaYWLast
import Derived.Test.YtnigpjcnffgfgaaYWTab
import Derived.Test.YtnigpjcnffgfgaaYWFour
import Derived.Test.YtnigpjcnffgfgaaYWQPut
import Derived.Test.YtnigpjcnffgfgaaYWApart
import Derived.Test.YtnigpjcnffgfgaaYWArr
import Derived.Test.YtnigpjcnffgfgaaYWZeros
import Derived.Test.YtnigpjcnffgfgaaYWFoot
import Derived.Test.YtnigpjcnffgfgaaYWKept
import Derived.Test.YtnigpjcnffgfgaaYWShare
import Derived.Test.YtnigpjcnffgfgaaYWN
import Derived.Test.YtnigpjcnffgfgaaYWFootNe
import Derived.Test.YtnigpjcnffgfgaaYWAt
import Derived.Test.YtnigpjcnffgfgaaYWEqStruct
import Derived.Test.YtnigpjcnffgfgaaYWRepsOne
import Derived.Test.YtnigpjcnffgfgaaYWInv
import Derived.Test.YtnigpjcnffgfgaaYWInvWords
import Derived.Test.YtnigpjcnffgfgaaYWGuard
import Derived.Test.YtnigpjcnffgfgaaYWNEv
import Derived.Test.YtnigpjcnffgfgaaYWMore
import Derived.Laws.CopyOwn
set_option linter.unusedVariables false
set_option linter.unusedSimpArgs false
namespace Go.Proofs.Ytnigpjcnffgfgaa.H
open Go.RowKit Go.Proofs.YtnigpjcnffgfgaaW.PrintWords Go.Proofs.YtnigpjcnffgfgaaW.PrintLast Go.Proofs.YtnigpjcnffgfgaaW.PrintMore
theorem rs {α : Type} {d : Kd α} {e : Nat} {W0 W : World} {base : Nat} {ok : Nat → Prop} {v : Value} {xs : List α} (h : Aside0 (d.R e W0 base ok v xs))
    (hw : Below W0.heap.size W0 W := by with_reducible (repeat (first | exact Below.refl _ _ | apply below_alloc | apply pw_below_drewN | apply below_drew1))) : d.R e W base ok v xs := Kd.R_below h.out hw
theorem cs {α : Type} {d : Kd α} {W0 W : World} {A : Option Addr} {n : Nat} {xs : List α} (h : d.C W0 A n xs)
    (hw : Below W0.heap.size W0 W := by with_reducible (repeat (first | exact Below.refl _ _ | apply below_alloc | apply pw_below_drewN | apply below_drew1))) : d.C W A n xs := Kd.C_below h hw
theorem bs {w W1 W : World} (h : Aside0 (Below w.heap.size w W1))
    (hw : Below W1.heap.size W1 W := by with_reducible (repeat (first | exact Below.refl _ _ | apply below_alloc | apply pw_below_drewN | apply below_drew1))) : Below w.heap.size w W := below_step h.out hw
theorem ea_ {α : Sort _} {a b : α} (h : a = b := by first | rfl | (simp; done) | (simp [*]; done)) : a = b := h
theorem goesM_ {P : Program} {ops : Array Oper} {Q : Exit → Act → World → Prop} {rest : List Oper} {oi : Oper} {a : Act} {w : World} (N : Option Tmp) (hd : oi.dst = N) (hg : oi.guard = none) {f : FuncId} {fn : Func} {aa : Array Operand} {ts : Array TypeId} (hf : P.funcs[f]? = some fn) (args : Array Value)
    (hop : oi.op = .call { callee := .value (.func f), args := aa, argTypes := ts }) (h : Calls P f args w fun e w' => ∃ v, e = .returned v ∧ wpList P ops Q rest (a.put N v) w')
    (hargs : aa.map a.eval = args := by (try simp only [List.map_toArray, List.map_cons, List.map_nil]); first | done | rfl | (simp only [List.length_drop, List.length_take]; rfl)) (hname : (fn.name == "runtime.NumGoroutine") = false := by kernel_rfl) (hb : fn.body.isSome = true := by rfl) : wpList P ops Q (oi :: rest) a w :=
  goesL_ N hd hg hf hname hb args hop hargs h
theorem pm_ {P : Program} {md : Region.Mode} {ops : Array Oper} {Q : Exit → Act → World → Prop} {S : World → Prop} {ds : List Nat} {T : Bool × List (List Nat × List Nat)} {i : Nat} {N : Option Tmp} {oi : Oper} {v : Value} {fuel : Nat} {l : Array Bool} {a a' : Act} {w : World} (HT : Aside0 (rtab md ops = T))
    (h : wpAnyLast P md ops Q S ds fuel (l.setIfInBounds i true) a' w) (hi : ops[i]? = some oi := by rfl) (hN : oi.dst = N := by rfl) (hc : anyT T l.toList (l.setIfInBounds i true).toList i = true := by kernel_rfl) (hQ : ∀ c a w, Q (.panic c) (a.put oi.dst v) w → Q (.panic c) a w := by exact fun _ _ _ h => h) (hw : Region.wanted oi (yielded ops a.tmps) = true := by rfl)
    (hy : ∀ w, (execOp a.eval oi).run P w = .ok (.value v) w := by intro w'; go_simp; with_reducible rfl) (ha : a.put N v = a' := by (simp only [Act.put, List.setIfInBounds_toArray, List.set_cons_zero, List.set_cons_succ, i64_w, i32_w]; rfl)) : wpAnyLast P md ops Q S ds (fuel + 1) l a w :=
  pure_ _ hi hN (any_of HT.out hc) hQ (Or.inl ⟨hw, hy⟩) ha h
theorem tm2_ {P : Program} {md : Region.Mode} {ops : Array Oper} {Q : Exit → Act → World → Prop} {S : World → Prop} {ds : List Nat} {T : Bool × List (List Nat × List Nat)} {B : List Nat} {i : Nat} {N : Option Tmp} {oi : Oper} {v : Value} {fuel : Nat} {l : Array Bool} {a a' : Act} {w : World} (HT : Aside0 (rtab md ops = T)) (HW : Aside0 (waitsOk T.2 B = true)) (hS : S w)
    (h : wpAnyLast P md ops Q S ds fuel (l.setIfInBounds i true) a' w) (hi : ops[i]? = some oi := by rfl) (hN : oi.dst = N := by rfl) (hc : takeW T B ds l.toList (l.setIfInBounds i true).toList i = true := by kernel_rfl) (hQ : ∀ c a w, Q (.panic c) (a.put oi.dst v) w → Q (.panic c) a w := by exact fun _ _ _ h => h) (hw : Region.wanted oi (yielded ops a.tmps) = true := by rfl)
    (hy : ∀ w, S w → (execOp a.eval oi).run P w = .ok (.value v) w := by rintro w' ⟨s0, s1⟩; go_simp; with_reducible rfl) (ha : a.put N v = a' := by (simp only [Act.put, List.setIfInBounds_toArray, List.set_cons_zero, List.set_cons_succ, i64_w, i32_w]; rfl)) : wpAnyLast P md ops Q S ds (fuel + 1) l a w :=
  take_ _ hi hN (take_ofW HT.out HW.out hc) hQ (Or.inl ⟨hw, hy⟩) hS ha h
theorem tm3_ {P : Program} {md : Region.Mode} {ops : Array Oper} {Q : Exit → Act → World → Prop} {S : World → Prop} {ds : List Nat} {T : Bool × List (List Nat × List Nat)} {B : List Nat} {i : Nat} {N : Option Tmp} {oi : Oper} {v : Value} {fuel : Nat} {l : Array Bool} {a a' : Act} {w : World} (HT : Aside0 (rtab md ops = T)) (HW : Aside0 (waitsOk T.2 B = true)) (hS : S w)
    (h : wpAnyLast P md ops Q S ds fuel (l.setIfInBounds i true) a' w) (hi : ops[i]? = some oi := by rfl) (hN : oi.dst = N := by rfl) (hc : takeW T B ds l.toList (l.setIfInBounds i true).toList i = true := by kernel_rfl) (hQ : ∀ c a w, Q (.panic c) (a.put oi.dst v) w → Q (.panic c) a w := by exact fun _ _ _ h => h) (hw : Region.wanted oi (yielded ops a.tmps) = true := by rfl)
    (hy : ∀ w, S w → (execOp a.eval oi).run P w = .ok (.value v) w := by rintro w' ⟨s0, s1, s2⟩; go_simp; with_reducible rfl) (ha : a.put N v = a' := by (simp only [Act.put, List.setIfInBounds_toArray, List.set_cons_zero, List.set_cons_succ, i64_w, i32_w]; rfl)) : wpAnyLast P md ops Q S ds (fuel + 1) l a w :=
  take_ _ hi hN (take_ofW HT.out HW.out hc) hQ (Or.inl ⟨hw, hy⟩) hS ha h
theorem nm_ {P : Program} {md : Region.Mode} {ops : Array Oper} {Q : Exit → Act → World → Prop} {S : World → Prop} {ds : List Nat} (N : Option Tmp) {v : Value} {fuel : Nat} {l : Array Bool} {a a' : Act} {w : World} (h : wpAnyLast P md ops Q S ds fuel l a' w)
    (ha : a.put N v = a' := by (simp only [Act.put, List.setIfInBounds_toArray, List.set_cons_zero, List.set_cons_succ, i64_w, i32_w]; rfl)) : wpAnyLast P md ops Q S ds fuel l (a.put N v) w := norm_ ha h
theorem oa_ {p : Prop} [Decidable p] (h : decide p = true := by first | (with_reducible assumption) | assumption) : p := of_decide_eq_true h
theorem as0 {p : Prop} (h : p) : Aside0 p := ⟨h⟩
theorem er_ {α : Sort _} {a b : α} (h : a = b := by first | rfl | (simp [errW_none, errW_some] <;> rfl) | (simp [*, errW_none, errW_some] <;> rfl)) : a = b := h
theorem dr_ {w w' : World} (h : Drawn0 w w' := by repeat (first | exact Drawn0.refl _ | apply Drawn0.step)) : Drawn0 w w' := h
def cpInto (xs ys : List Int) : List Int := ys ++ xs.drop ys.length
theorem copy_into {P : Program} {ops : Array Oper} {rest : List Oper} {o : Oper} {a : Act} {Q : Exit → Act → World → Prop} {w0 W : World} {base : Nat} {e : TypeId} (hgd : o.guard = none) (d s : Operand) (t : TypeId)
    (ho : o.op = .call { callee := .builtin .copy, args := #[d, s], argTypes := #[t, t] }) (hu : P.underlying t = some (.slice e)) (hsz : (P.info? e).map (·.size) = some 1) {ok : Nat → Prop} {v : Value} {xs : List Int} (ys : List Int) {A : Option Addr} {m c : Nat}
    (hd : a.eval d = v) (hs : a.eval s = .slice A m c) (HO : Kd.R (Kd.int .i64) e W base ok v xs) (HR : Kd.C (Kd.int .i64) W A m ys) (hm : ys.length ≤ xs.length) (HB : Below base w0 W)
    (h : ∀ w', Kd.R (Kd.int .i64) e w' base ok v (cpInto xs ys) → Below base w0 w' → wpList P ops Q rest (a.put o.dst (goInt ys.length)) w') : wpList P ops Q (o :: rest) a W := by
  obtain rfl : ys.length = m := Kd.C_len HR
  obtain ⟨h1, h2⟩ := Kd.own_of_R HO
  have nothing : ys.length = 0 → (∃ A' n' c', v = .slice A' n' c') → wpList P ops Q (o :: rest) a W := by
    rintro h0 ⟨A', n', c', rfl⟩
    have hy : ys = [] := List.eq_nil_of_length_eq_zero h0
    refine wpList_copy_nothing hgd d s t t ho e hu hsz A' A n' c' ys.length c hd hs (by rw [h0]; simp) ?_
    have := h W (by rw [hy]; simpa [cpInto] using HO) HB
    rw [h0] at this
    exact this
  rcases h2 with ⟨rfl, h0⟩ | ⟨g, cap, cur, rfl, hb, hh, hnc, hcm, hcs, ht⟩
  · exact nothing (by omega) ⟨_, _, _, rfl⟩
  · refine wpList_copy_splice hgd d s t t ho e hu hsz (some ⟨g, 0, none⟩) A xs.length cap ys.length c hd hs g 0 cur.toList e (by simpa using hh) (ys.map (Value.int .i64)) (by rw [List.length_map]; exact (Nat.min_eq_left hm).symm) ?_ (by simp; omega) (by simp [Value.oneCell']) base w0 HB hb ?_
    · intro hp
      rw [List.length_map] at hp
      obtain ⟨ad, rfl, _⟩ := Kd.at_int HR 0 (by omega) (by omega)
      refine ⟨rfl, ad, rfl, fun j u hj => ?_⟩
      obtain ⟨hl, hv⟩ := List.getElem?_eq_some_iff.1 hj
      rw [List.length_map] at hl
      obtain ⟨ad', e', hc⟩ := Kd.at_int HR j (by omega) (by omega)
      injection e' with e'
      subst e'
      rw [← hv]
      simpa [rd, List.getD_eq_getElem?_getD, hl] using hc
    · intro w' hw hbw
      have := h w' (Kd.R_of_own ⟨by simp [encs, cpInto], .inr ⟨g, cap, _, by simp [cpInto]; omega, hb, hw.out, by simp [cpInto]; omega, hcm, by simp [splice]; omega, ?_⟩⟩ (fun k hk => HO.1 k (by simpa [Value.ownBlock] using hk))) hbw
      · simpa using this
      · have hx : cur.toList.take xs.length = encs (Value.int .i64) xs := by simpa using ht
        simp only [splice, cpInto, List.length_map, Nat.mul_one, List.take_zero, List.nil_append, Nat.zero_add, List.length_append, List.length_drop, encs, List.map_append]
        rw [show ys.length + (xs.length - ys.length) = xs.length by omega, List.take_append]
        simp only [List.length_map]
        rw [List.take_of_length_le (by simpa using hm), ← List.drop_take, hx]
        simp [encs, List.map_drop]
end Go.Proofs.Ytnigpjcnffgfgaa.H
