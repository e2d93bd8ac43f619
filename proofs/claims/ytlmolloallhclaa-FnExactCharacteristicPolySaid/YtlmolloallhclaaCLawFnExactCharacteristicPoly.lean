-- written by wip/drive.py (the session's own program) over the translation; Lean checks it
import Derived.Test.YtlmolloallhclaaRows
import Derived.Test.YtlmolloallhclaaMa9
import Derived.Test.YtlmolloallhclaaCPureFnExactCharacteristicPoly
import Derived.WalkKit
import Derived.ProofKit
import Derived.OpenShut
import Derived.ShutString
import Derived.ChangeOld
import Derived.Below
import Derived.SizedLaws
import Derived.Deep.Matrix
import Derived.Test.YtlmolloallhclaaYWSized
namespace Go.Proofs.Ytlmolloallhclaa.fnExactCharacteristicPoly
open Go.ChangeShapes Go.WideShapes Go.ChangeAt Go.RowKit
open Go.ChangeMaps (open_string shut_string)
set_option linter.unusedVariables false
theorem own : ownKnob Try.prog.godebug = none := by kernel_rfl
theorem laidOut : laidOutB Try.prog = true := by kernel_rfl
def IsRow (k : IntKind) (w : World) (a : Option Addr) (len cap : Nat) (zs : List Int) : Prop :=
  (a = none ∧ len = 0 ∧ cap = 0 ∧ zs = []) ∨
  ∃ x, a = some x ∧ len ≤ cap ∧ cap ≤ maxLen ∧ zs.length = cap ∧ (∀ i, i < zs.length → w.cell? (x.add i) = some (.int k (zs.getD i 0))) ∧ ∀ n ∈ zs, (Lit.int k n).wf = true
set_option maxRecDepth 100000 in
theorem lifted (os : Os) (started : os.Started) (H : Type) (enc : TypeId × Value → H) :
    ReturnsInHanded {} Try.checked os 7 .any (Rows.fnExactCharacteristicPolySpec.pre6 enc Try.prog Try.f7 Rows.fnExactCharacteristicPolyRow.domain false) (Rows.fnExactCharacteristicPolySpec.post enc Try.prog Try.f7 false true false false) := by
  refine returnsInHanded_of_change_sized (C := Try.checked) own started (by kernel_rfl) Try.func7
    (ChangeSpec.witness6 (enc := enc) (C := Try.checked) false ⟨#[], #[.int .i64 0, .slice none 0 0], []⟩ 8 (by kernel_rfl) (by kernel_rfl) (by kernel_rfl) (by kernel_rfl)) ?_
  intro W base args ds gs before hval0 hW hcnd hsz0 _
  have hsz : (DataW.weightsEach Try.prog (Try.f7.params.toList ++ Rows.fnExactCharacteristicPolySpec.plain.varTypes Try.prog) (ds ++ gs)).all (· ≤ reachBytes) = true := hsz0
  have hval : ∀ (j : Nat) t v, Try.f7.params[j]? = some t → args[j]? = some v → Value.okWide Try.prog W .any base t v := hval0
  have hW' := hW
  obtain ⟨p, q, hA0, hV, rfl, hfz, hnd⟩ := hW
  have hA : DataW.TrodAll enc Try.prog W 0 (fun _ => true) true Try.f7.params.toList args.toList ds p := hA0
  rw [Try.params7] at hA hval hsz
  obtain ⟨v0, vs0, d0, ds0, p0, q0, hargs, rfl, rfl, h0, r0⟩ := trodAll_cons hA
  obtain ⟨v1, vs1, d1, ds1, p1, q1, rfl, rfl, rfl, h1, r1⟩ := trodAll_cons r0
  obtain ⟨rfl, rfl, rfl⟩ := trodAll_nil r1
  obtain rfl : args = #[v0, v1] := by cases args; simp_all
  obtain ⟨rfl, rfl⟩ := trodVars_none hV
  obtain ⟨a0, rfl, rfl, rfl, w0⟩ := open_int Try.underlying2 (hval 0 2 v0 rfl rfl) h0
  obtain ⟨a1, len1, cap1, rfl⟩ := okWide_slice Try.underlying23 (hval 1 23 v1 rfl rfl)
  have k1 := h1
  have lt1 : ∀ x ∈ p1, x.block < W.heap.size := by obtain ⟨m, hm⟩ := k1; exact DataW.trod_lt m _ _ _ hm
  obtain ⟨z1, w1, y1⟩ : ∃ zs : List (List Int), (zs.length = len1 ∧ Go.Proofs.YtlmolloallhclaaW.PrintWords.Kd.C (Go.Proofs.YtlmolloallhclaaW.PrintWords.Kd.slice 2 (Go.Proofs.YtlmolloallhclaaW.PrintWords.Kd.int .i64)) W a1 len1 zs) ∧ len1 ≤ cap1 := by
    obtain ⟨fuel, hf⟩ := h1
    rcases Go.Deep.open_int_rows Try.underlying23 Try.underlying22 Try.underlying2 (by kernel_rfl) (by kernel_rfl) hf with ⟨hcs, _⟩ | ⟨x, l, c, A, L, C, Z, hcs, _, hl, hm, _, hrows⟩
    · simp [Value.cells] at hcs
      obtain ⟨rfl, rfl, rfl⟩ := hcs
      exact ⟨[], ⟨rfl, rfl, by omega, fun h => by omega⟩, Nat.le_refl _⟩
    · simp [Value.cells] at hcs
      obtain ⟨rfl, rfl, rfl⟩ := hcs
      have each : ∀ r, r < cap1 → ∃ y : List Int, L r = y.length ∧ Go.Proofs.YtlmolloallhclaaW.PrintWords.Kd.C (Go.Proofs.YtlmolloallhclaaW.PrintWords.Kd.int .i64) W (A r) y.length y ∧ y.length ≤ C r := by
        intro r hr
        obtain ⟨hc, h1, h2, h3, h4, h5, h6⟩ := hrows r hr
        obtain ⟨y, e1, e2, e3, e4, e5⟩ := Go.Proofs.YtlmolloallhclaaW.PrintWords.ReadsInt.ofRowC (k := .i64) (w := W) (a := A r) (len := L r) (cap := C r) (zs := Z r) (by
          cases hA : A r with
          | none => exact .inl ⟨rfl, by have := h5 hA; omega, h5 hA, List.eq_nil_of_length_eq_zero (by have := h5 hA; omega)⟩
          | some a' => exact .inr ⟨a', rfl, h1, h2, h3, fun i hi => (h6 a' hA).2 i (by omega), h4⟩)
        exact ⟨y, e1, Go.Proofs.YtlmolloallhclaaW.PrintWords.Kd.C_of_reads (d := (0 : Int)) (h1 := fun _ => rfl) e2, e5⟩
      obtain ⟨y, hy⟩ := Go.Deep.choose_lt each
      refine ⟨(List.range len1).map y, ⟨by simp, ⟨by simp, Nat.le_trans hl hm, fun _ => ⟨_, rfl, fun j q hq => ?_⟩⟩⟩, hl⟩
      simp only [List.getElem?_map, Option.map_eq_some_iff] at hq
      obtain ⟨r, hr, rfl⟩ := hq
      obtain ⟨hlt, hre⟩ := List.getElem?_eq_some_iff.1 hr
      simp only [List.getElem_range] at hre
      subst hre
      rw [List.length_range] at hlt
      obtain ⟨e1, e2, e3⟩ := hy j (Nat.lt_of_lt_of_le hlt hl)
      refine ⟨[.slice (A j) (y j).length (C j)], rfl, ⟨_, _, rfl, e3, e2⟩, fun i u hu => ?_⟩
      cases i with
      | succ i => simp at hu
      | zero =>
        have := (hrows j (Nat.lt_of_lt_of_le hlt hl)).1
        simp only [List.getElem?_cons_zero, Option.some.injEq] at hu
        rw [← hu, ← e1]
        show W.cell? (x.add (j * 1 + 0)) = _
        rw [Nat.mul_one, Nat.add_zero]
        exact this
  clear hA0 hval0 hsz0 hsz
  refine (Go.Proofs.Ytlmolloallhclaa.H.laws_FnExactCharacteristicPoly.walk Pure.FnExactCharacteristicPoly a0 a1 len1 cap1 z1 W w0 w1 y1).mono fun e W' ⟨he, bel⟩ => ?_
  subst he
  exact ⟨_, rfl, _, _, _, [], _, [], hW', trodAll_mk1 (shut_bool Try.underlying4 _), (trodAll_cons_mk (shut_int Try.underlying2 w0) (trodAll_cons_mk (Below.trod laidOut (by kernel_rfl) (of_decide_eq_true (by kernel_rfl)) k1 bel lt1) trodAll_mk0)), rfl, bel.frame _, fun h => by cases h⟩
theorem and2 {a b : Bool} (ha : a = true) (hb : b = true) : (a && b) = true := by rw [ha, hb]; rfl
theorem fact0 : (Rows.fnExactCharacteristicPolyRow.wf (OpenSpec.ofChange Rows.fnExactCharacteristicPolySpec)) = true := by kernel_rfl
theorem fact1 : (laidOutB Try.pinned.checked.prog) = true := by kernel_rfl
theorem fact2 : (mapsRowed Try.pinned.checked.prog) = true := by kernel_rfl
theorem fact3 : (Try.f7.params.all (Try.pinned.checked.prog.readableRec ·)) = true := by kernel_rfl
theorem fact4 : (namedTie Try.pinned.checked.prog Rows.fnExactCharacteristicPolyRow.named Rows.fnExactCharacteristicPolySpec.vars) = true := by kernel_rfl
theorem fact5 : ((Rows.fnExactCharacteristicPolyRow.stops == [])) = true := by kernel_rfl
theorem fact6 : ((Try.pinned.checked.prog.stops == [])) = true := by kernel_rfl
theorem fact7 : ((Rows.fnExactCharacteristicPolyRow.knobs == [])) = true := by kernel_rfl
theorem fact8 : ((Try.pinned.checked.prog.stopKnobs == [])) = true := by kernel_rfl
theorem fact9 : ((Rows.fnExactCharacteristicPolyRow.inPlace == Try.pinned.checked.prog.inPlace 7)) = true := by kernel_rfl
theorem fact10 : ((Rows.fnExactCharacteristicPolyRow.unfollowed == Try.pinned.checked.prog.unfollowed 7)) = true := by kernel_rfl
theorem fact11 : ((Rows.fnExactCharacteristicPolyRow.recurses == Try.pinned.checked.prog.recurses 7)) = true := by kernel_rfl
theorem fact12 : ((Rows.fnExactCharacteristicPolyRow.named == Try.pinned.checked.prog.varsNamed 7)) = true := by kernel_rfl
theorem fact13 : ((Rows.fnExactCharacteristicPolyRow.maps == (Try.f7.params.toList ++ Rows.fnExactCharacteristicPolySpec.plain.varTypes Try.pinned.checked.prog).any (Try.pinned.checked.prog.mapsRec ·))) = true := by kernel_rfl
theorem fact14 : ((Rows.fnExactCharacteristicPolyRow.ifaces == (Try.f7.params.toList ++ Rows.fnExactCharacteristicPolySpec.plain.varTypes Try.pinned.checked.prog).any (Try.pinned.checked.prog.ifacesRec ·))) = true := by kernel_rfl
theorem fact15 : ((Rows.fnExactCharacteristicPolyRow.mapsOut == Try.pinned.checked.prog.mapsAmong Try.f7.resultTypes.toList)) = true := by kernel_rfl
theorem fact16 : ((Rows.fnExactCharacteristicPolyRow.loops == (Try.f7.params.toList ++ Rows.fnExactCharacteristicPolySpec.plain.varTypes Try.pinned.checked.prog).any (Try.pinned.checked.prog.loopsFrom ·))) = true := by kernel_rfl
theorem fact17 : ((Rows.fnExactCharacteristicPolyRow.wideKeys == (Try.f7.params.toList ++ Rows.fnExactCharacteristicPolySpec.plain.varTypes Try.pinned.checked.prog ++ Try.f7.resultTypes.toList).any (Try.pinned.checked.prog.wideKeysFrom ·))) = true := by kernel_rfl
theorem fact18 : (Rows.fnExactCharacteristicPolySpec.vars.all (Try.pinned.checked.prog.varReadable ·)) = true := by kernel_rfl
theorem fact19 : (Try.f7.resultTypes.all (fun t => Try.pinned.checked.prog.readableRec t && decide (t < Try.pinned.checked.prog.types.size))) = true := by kernel_rfl
theorem fact20 : ((Rows.fnExactCharacteristicPolyRow.ifacesOut == Try.f7.resultTypes.toList.any (Try.pinned.checked.prog.ifacesRec ·))) = true := by kernel_rfl
theorem fact21 : ((Rows.fnExactCharacteristicPolyRow.loopsOut == Try.f7.resultTypes.toList.any (Try.pinned.checked.prog.loopsFrom ·))) = true := by kernel_rfl
theorem fact22 : ((Rows.fnExactCharacteristicPolyRow.plainKeys == Try.pinned.checked.prog.plainKeys)) = true := by kernel_rfl
theorem fact23 : (Rows.fnExactCharacteristicPolyRow.shortTexts.isNone) = true := by kernel_rfl
theorem fact24 : (Try.pinned.checked.prog.stopsHeard) = true := by kernel_rfl
theorem fact25 : (Try.pinned.checked.prog.mayEnter) = true := by kernel_rfl
theorem fact26 : ((Rows.fnExactCharacteristicPolyRow.lifted == Try.pinned.checked.prog.liftsFinal)) = true := by kernel_rfl
theorem fact27 : ((Try.pinned.checked.prog.make == some Rows.fnExactCharacteristicPolyRow.make)) = true := by kernel_rfl
theorem fact29 : ((Rows.fnExactCharacteristicPolyRow.pinned == Rows.fnExactCharacteristicPolyRow.pinnedBy)) = true := by kernel_rfl
theorem fact30 : ((Rows.fnExactCharacteristicPolyRow.veiled == (Try.f7.params.toList ++ Rows.fnExactCharacteristicPolySpec.plain.varTypes Try.pinned.checked.prog ++ Try.f7.resultTypes.toList).any (Try.pinned.checked.prog.veiledRec ·))) = true := by kernel_rfl
theorem fact31 : (Rows.fnExactCharacteristicPolyRow.veiledFits Try.pinned.checked.prog Try.f7.params.toList (Try.f7.params.toList ++ Rows.fnExactCharacteristicPolySpec.plain.varTypes Try.pinned.checked.prog ++ Try.f7.resultTypes.toList)) = true := by kernel_rfl
theorem facts : joinedFacts Try.pinned.checked.prog 7 Try.f7 Rows.fnExactCharacteristicPolySpec Rows.fnExactCharacteristicPolyRow = true := by
  unfold joinedFacts
  exact (and2 (and2 (and2 (and2 (and2 (and2 (and2 (and2 (and2 (and2 (and2 (and2 (and2 (and2 (and2 (and2 (and2 (and2 (and2 (and2 (and2 (and2 (and2 (and2 (and2 (and2 (and2 (and2 (and2 (and2 (and2 fact0 fact1) fact2) fact3) fact4) fact5) fact6) fact7) fact8) fact9) fact10) fact11) fact12) fact13) fact14) fact15) fact16) fact17) fact18) fact19) fact20) fact21) fact22) fact23) fact24) fact25) fact26) fact27) (by kernel_rfl)) fact29) fact30) fact31)
theorem over : Rows.fnExactCharacteristicPolyRow.holds Try.pinned (OpenSpec.ofChange Rows.fnExactCharacteristicPolySpec) :=
  OpenClaim.holds_of_wide 7 Try.f7 rfl rfl rfl rfl rfl rfl rfl ⟨rfl, rfl, rfl, rfl, rfl⟩ rfl rfl rfl rfl rfl (by kernel_rfl) Try.func7 facts
    (of_decide_eq_true (by kernel_rfl)) (by unfold Func.isWrapper; first | (rw [if_pos (by decide +kernel)]; kernel_rfl) | (rw [if_neg (by decide +kernel)]; exact ⟨rfl, rfl⟩))
    (fun os started H enc _ => lifted os started H enc)
theorem proved : Rows.FnExactCharacteristicPolySaid := over
#print axioms proved
end Go.Proofs.Ytlmolloallhclaa.fnExactCharacteristicPoly
namespace Go.Proofs.Ytlmolloallhclaa
/-- The row, under a short name, for the claim. -/
theorem fnExactCharacteristicPoly_holds : Rows.FnExactCharacteristicPolySaid := fnExactCharacteristicPoly.proved
end Go.Proofs.Ytlmolloallhclaa
