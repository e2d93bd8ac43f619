/- Joined texts of a claim: the printed functions and what is proved of them. -/
import Derived.Test.YtmadpicanmjhhaaDoorMa1
import Derived.Test.YtmadpicanmjhhaaDoorMa3
import Derived.Test.YtmadpicanmjhhaaDoorMa8
import Derived.Test.YtmadpicanmjhhaaDoorYHx0
import Derived.Test.YtmadpicanmjhhaaDoorMa7
namespace Go.Proofs.YtmadpicanmjhhaaDoor.H
open Go.RowKit Go.Proofs.YtmadpicanmjhhaaDoorW.PrintWords Go.Proofs.YtmadpicanmjhhaaDoorW.PrintLast Go.Proofs.YtmadpicanmjhhaaDoorW.PrintMore
attribute [local go_sem] max2_int min2_int max_two min_two max_three min_three max_four min_four   -- for this text's walks alone
set_option linter.unusedVariables false
set_option linter.unusedSimpArgs false
set_option maxHeartbeats 8000000 in
set_option maxRecDepth 100000 in
theorem laws_FnExactParsePoly.calls (k : Nat) (a0 : Int) (s : ByteArray) (rl rm : List Int) (er m1 m : Int) (tp1 tp2 : TypeId) (p1 p2 : Value) (w : World)
  (hl : s.size ≤ 1048576) (hs : spec_ParsePoly.f k a0 s = some (rl, er)) (hp : prA a0 s.data.toList = (rl, er)) (q0 : laws_eqInt64S.f k rl rl = some true) (hm1 : laws_markInt64S.f k rl 1 = some (m1, rm)) (hh1 : laws_heldInt64S.f k rm 1 = some m1) (hm1' : ¬ m1 < 0)
  (hm : w.cell? ⟨2, 0, none⟩ = some (.int .i64 m)) (hsyn : w.var? Tryd.prog "strconv.ErrSyntax" = some #[.iface tp1 p1]) (hrng : w.var? Tryd.prog "strconv.ErrRange" = some #[.iface tp2 p2]) (htab : Lib.TabIs Tryd.prog w "internal/strconv.uint64pow10" .u64 Lib.pow10Tab) :
  Calls Tryd.prog 4 #[.int .i64 a0, .string s] w fun e w' => e = .returned (.bool true) ∧ Below w.heap.size w w' := by
 have HIP := fun (W : World) (hW : Below w.heap.size w W) => impl_ParsePoly.calls a0 s rl er m tp1 tp2 p1 p2 W hl hp (pw_cell_below hW hm) (var_below hsyn hW) (var_below hrng hW) (tab_below htab hW)
 have d1 : decide ((s.size : Int) > 1048576) = false := decide_eq_false (by omega)
 have d1' : decide (1048576 < (s.size : Int)) = false := decide_eq_false (by omega)
 have d3 : decide (m1 < 0) = false := decide_eq_false hm1'
 have HS := as0 hs
 have Q0 := as0 q0
 have M1 := as0 hm1
 have HH1 := as0 hh1
 clear hl hs hp q0 hm1 hh1 hm1' hm hsyn hrng htab
 have HB := as0 (Below.refl w.heap.size w)
 go_enter Tryd.func4, Tryd.ntmps4
 go_wp2_with fail
 go_at_call 9
 refine (spec_ParsePoly.calls k a0 s rl er _ HS.out).mono ?_
 rintro e w3 ⟨vs, rfl, os, bs⟩
 have HB := as0 (below_step HB.out bs)
 have S03 := as0 HB.out.size
 obtain ⟨As, cs', es, ls, rs⟩ := Kd.R_reads os
 subst es
 have FS := as0 (Kd.C_F (Kd.heap_int .i64) rs)
 have LS := as0 ls
 clear os bs rs ls
 go_wp2_with fail
 go_at_call 10
 refine (HIP _ HB.out).mono ?_
 rintro e w6 ⟨vg, rfl, og, bg⟩
 have FS := as0 (Kd.F_below FS.out bg)
 have OG := as0 (Kd.R_mono (ok' := fun k => w3.heap.size ≤ k) (Kd.R_bound og) (fun k hk => hk.2.1))
 have HB := as0 (below_step HB.out bg)
 clear og bg
 obtain ⟨Ag, cg, eg⟩ := Kd.R_slice OG.out
 subst eg
 go_wp2_with fail
 go_at_call 8
 refine (laws_eqInt64S.calls k Ag cg rl As cs' rl true _ (Kd.R_reads' OG.out).2.2 (Kd.R_reads' OG.out).2.1 (Kd.F_now FS.out) LS.out Q0.out).mono ?_
 rintro e w' ⟨rfl, dr⟩
 have b7 := dr.below
 clear dr
 have FS := as0 (Kd.F_below FS.out b7)
 have OG := as0 (Kd.R_below OG.out b7)
 have HB := as0 (below_step HB.out b7)
 clear b7
 go_wp2_with fail
 go_at_call 11
 refine (laws_markInt64S.calls k _ _ rl 1 m1 rm w _ HB.out (Kd.R_lower OG.out S03.out) M1.out).mono ?_
 rintro e w15 ⟨rfl, og, hb, hk⟩
 have FS := as0 (Kd.F_kept FS.out hk fun k_ h1 h2 => Nat.lt_irrefl _ (Nat.lt_of_lt_of_le h1 h2))
 have NG := as0 (Kd.R_reads' og).1
 have CG := as0 (Kd.R_reads' og).2.1
 have RG := as0 (Kd.R_reads' og).2.2
 have HB := as0 hb
 clear hk hb og OG
 go_wp2_with fail
 go_at_call 12
 refine (NG.out ▸ laws_heldInt64S.calls k Ag cg rm 1 m1 _ RG.out (NG.out ▸ CG.out) HH1.out : Calls Tryd.prog 12 #[.slice Ag rl.length cg, .int .i64 1] _ _).mono ?_
 rintro e w' ⟨rfl, dr⟩
 have b17 := dr.below
 clear dr
 have FS := as0 (Kd.F_below FS.out b17)
 have RG := as0 (Kd.C_below RG.out b17)
 have HB := as0 (below_step HB.out b17)
 clear b17
 go_wp2_with fail
 go_at_call 10
 refine (HIP _ HB.out).mono ?_
 rintro e w20 ⟨vi, rfl, oi, bg⟩
 have FS := as0 (Kd.F_below FS.out bg)
 have RG := as0 (Kd.C_below RG.out bg)
 have OI := as0 oi
 have HB := as0 (below_step HB.out bg)
 clear oi bg HIP
 obtain ⟨Ai, ci, ei⟩ := Kd.R_slice OI.out
 subst ei
 go_wp2_with fail
 go_at_call 8
 refine (laws_eqInt64S.calls k Ai ci rl As cs' rl true _ (Kd.R_reads' OI.out).2.2 (Kd.R_reads' OI.out).2.1 (Kd.F_now FS.out) LS.out Q0.out).mono ?_
 rintro e w' ⟨rfl, dr⟩
 have b21 := dr.below
 clear dr
 have RG := as0 (Kd.C_below RG.out b21)
 have HB := as0 (below_step HB.out b21)
 clear b21 FS OI
 go_wp2_with fail
 go_at_call 12
 refine (NG.out ▸ laws_heldInt64S.calls k Ag cg rm 1 m1 _ RG.out (NG.out ▸ CG.out) HH1.out : Calls Tryd.prog 12 #[.slice Ag rl.length cg, .int .i64 1] _ _).mono ?_
 rintro e w' ⟨rfl, dr⟩
 have b23 := dr.below
 clear dr
 have HB := as0 (below_step HB.out b23)
 clear b23
 go_wp2_with fail
 go_ret
 exact ⟨rfl, HB.out⟩
def laws_FnExactParsePoly.Pure : Prop := ∀ (a0 : Int) (s : ByteArray), s.size ≤ 1048576 → ∃ (k : Nat) (rl rm : List Int) (er m1 : Int), spec_ParsePoly.f k a0 s = some (rl, er) ∧ prA a0 s.data.toList = (rl, er) ∧ laws_eqInt64S.f k rl rl = some true ∧ laws_markInt64S.f k rl 1 = some (m1, rm) ∧ laws_heldInt64S.f k rm 1 = some m1 ∧ ¬ m1 < 0
set_option maxHeartbeats 8000000 in
set_option maxRecDepth 100000 in
theorem laws_FnExactParsePoly.walk (P : laws_FnExactParsePoly.Pure) (a0 : Int) (s : ByteArray) (m : Int) (tp1 tp2 : TypeId) (p1 p2 : Value) (w : World)
  (hm : w.cell? ⟨2, 0, none⟩ = some (.int .i64 m)) (hsyn : w.var? Tryd.prog "strconv.ErrSyntax" = some #[.iface tp1 p1]) (hrng : w.var? Tryd.prog "strconv.ErrRange" = some #[.iface tp2 p2]) (htab : Lib.TabIs Tryd.prog w "internal/strconv.uint64pow10" .u64 Lib.pow10Tab) :
  Calls Tryd.prog 4 #[.int .i64 a0, .string s] w fun e w' => e = .returned (.bool true) ∧ Below w.heap.size w w' := by
 by_cases hl : s.size ≤ 1048576
 ·
  obtain ⟨k, rl, rm, er, m1, h1, h2, h3, h4, h5, h6⟩ := P a0 s hl
  exact laws_FnExactParsePoly.calls k a0 s rl rm er m1 m tp1 tp2 p1 p2 w hl h1 h2 h3 h4 h5 h6 hm hsyn hrng htab
 ·
  have d1 : decide ((s.size : Int) > 1048576) = true := decide_eq_true (by omega)
  have d1' : decide (1048576 < (s.size : Int)) = true := decide_eq_true (by omega)
  have HB := as0 (Below.refl w.heap.size w)
  clear hl hm hsyn hrng htab P
  go_enter Tryd.func4, Tryd.ntmps4
  go_wp2_with fail
  go_ret
  exact ⟨rfl, HB.out⟩
end Go.Proofs.YtmadpicanmjhhaaDoor.H
