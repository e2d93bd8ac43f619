/- The words that print.sh printed for this seat, as far as the claims reach them, and the session's own. -/
import Derived.Test.YtlmolloallhclaaProg
import Derived.Test.YtlmolloallhclaaYWWords
import Derived.Test.YtlmolloallhclaaYWLast
import Derived.Test.YtlmolloallhclaaYWTab
import Derived.Test.YtlmolloallhclaaYWFour
import Derived.Test.YtlmolloallhclaaYWQPut
import Derived.Test.YtlmolloallhclaaYWApart
import Derived.Test.YtlmolloallhclaaYWArr
import Derived.Test.YtlmolloallhclaaYWZeros
import Derived.Test.YtlmolloallhclaaYWFoot
import Derived.Test.YtlmolloallhclaaYWKept
import Derived.Test.YtlmolloallhclaaYWShare
import Derived.Test.YtlmolloallhclaaYWN
import Derived.Test.YtlmolloallhclaaYWFootNe
import Derived.Test.YtlmolloallhclaaYWAt
import Derived.Test.YtlmolloallhclaaYWEqStruct
import Derived.Test.YtlmolloallhclaaYWRepsOne
import Derived.Test.YtlmolloallhclaaYWInv
import Derived.Test.YtlmolloallhclaaYWInvWords
import Derived.Test.YtlmolloallhclaaYWGuard
import Derived.Test.YtlmolloallhclaaYWNEv
import Derived.Test.YtlmolloallhclaaYWMore
import Derived.Laws.CopyOwn
set_option linter.unusedVariables false
set_option linter.unusedSimpArgs false
namespace Go.Proofs.Ytlmolloallhclaa.H
open Go.RowKit Go.Proofs.YtlmolloallhclaaW.PrintWords Go.Proofs.YtlmolloallhclaaW.PrintLast Go.Proofs.YtlmolloallhclaaW.PrintMore
theorem rs {α : Type} {d : Kd α} {e : Nat} {W0 W : World} {base : Nat} {ok : Nat → Prop} {v : Value} {xs : List α} (h : Aside0 (d.R e W0 base ok v xs))
    (hw : Below W0.heap.size W0 W := by with_reducible (repeat (first | exact Below.refl _ _ | apply below_alloc | apply pw_below_drewN | apply below_drew1))) : d.R e W base ok v xs := Kd.R_below h.out hw
theorem cs {α : Type} {d : Kd α} {W0 W : World} {A : Option Addr} {n : Nat} {xs : List α} (h : d.C W0 A n xs)
    (hw : Below W0.heap.size W0 W := by with_reducible (repeat (first | exact Below.refl _ _ | apply below_alloc | apply pw_below_drewN | apply below_drew1))) : d.C W A n xs := Kd.C_below h hw
theorem bs {w W1 W : World} (h : Aside0 (Below w.heap.size w W1))
    (hw : Below W1.heap.size W1 W := by with_reducible (repeat (first | exact Below.refl _ _ | apply below_alloc | apply pw_below_drewN | apply below_drew1))) : Below w.heap.size w W := below_step h.out hw
theorem ea_ {α : Sort _} {a b : α} (h : a = b := by first | rfl | (simp; done) | (simp [*]; done)) : a = b := h
theorem goesM_ {P : Program} {ops : Array Oper} {Q : Exit → Act → World → Prop} {rest : List Oper} {oi : Oper} {a : Act} {w : World} (N : Option Tmp) (hd : oi.dst = N) (hg : oi.guard = none) {f : FuncId} {fn : Func} {aa : Array Operand} {ts : Array TypeId} (hf : P.funcs[f]? = some fn) (args : Array Value)
    (hop : oi.op = .call { callee := .value (.func f), args := aa, argTypes := ts }) (h : Calls P f args w fun e w' => ∃ v, e = .returned v ∧ wpList P ops Q rest (a.put N v) w')
    (hargs : aa.map a.eval = args := by (try simp only [List.map_toArray, List.map_cons, List.map_nil]); first | done | rfl | (simp only [List.length_drop, List.length_take]; rfl)) (hname : (fn.name == "runtime.NumGoroutine") = false := by kernel_rfl) (hb : fn.body.isSome = true := by rfl) : wpList P ops Q (oi :: rest) a w :=
  goesL_ N hd hg hf hname hb args hop hargs h
end Go.Proofs.Ytlmolloallhclaa.H
