/- Joined texts of a claim: the printed functions and what is proved of them. -/
import Derived.Test.YtmadpicanmjhhaaGreatDoorShelf
import Derived.Test.YtmadpicanmjhhaaGreatDoorMa7
import Derived.Test.YtmadpicanmjhhaaGreatDoorMa1
import Derived.Test.YtmadpicanmjhhaaGreatDoorMa4
import Derived.Test.YtmadpicanmjhhaaGreatDoorMa5
import Derived.Test.YtmadpicanmjhhaaGreatDoorYHx0
namespace Go.Proofs.YtmadpicanmjhhaaGreatDoor.H
open Go.RowKit Go.Proofs.YtmadpicanmjhhaaGreatDoorW.PrintWords Go.Proofs.YtmadpicanmjhhaaGreatDoorW.PrintLast Go.Proofs.YtmadpicanmjhhaaGreatDoorW.PrintMore
attribute [local go_sem] max2_int min2_int max_two min_two max_three min_three max_four min_four   -- for this text's walks alone
set_option linter.unusedVariables false
set_option linter.unusedSimpArgs false
noncomputable def prA (p : Int) (t : List UInt8) : List Int × Int :=
 if Num.primeB p = true then
  match numsI (parts 44 t) with
  | none => ([], 6)
  | some ns => if polyB p (if t = [48] then [] else ns.reverse) = true ∧ polyT (if t = [48] then [] else ns.reverse) = t then ((if t = [48] then [] else ns.reverse), 0) else ([], 6)
 else ([], 2)
theorem var_below {P : Program} {w W : World} {name : String} {cs : Array Value} (h : w.var? P name = some cs) (hb : Below w.heap.size w W) : W.var? P name = some cs := by
 unfold World.var? at *
 cases hg : P.globalNamed name with
 | none => simp [hg] at h
 | some g =>
  simp only [hg, Option.bind_some] at h ⊢
  have hlt : g < w.heap.size := by
   rcases Nat.lt_or_ge g w.heap.size with h' | h'
   ·
    exact h'
   ·
    rw [Array.getElem?_eq_none h'] at h; simp at h
  rw [hb.block g hlt]
  exact h
theorem parseInt_calls (s : ByteArray) (hs : s.size ≤ 2147483648) (tp1 tp2 : TypeId) (p1 p2 : Value) (w : World) (hsyn : w.var? Tryz.prog "strconv.ErrSyntax" = some #[.iface tp1 p1]) (hrng : w.var? Tryz.prog "strconv.ErrRange" = some #[.iface tp2 p2]) :
  Calls Tryz.prog 53 #[.string s, .int .i64 10, .int .i64 64] w fun e w' => ∃ (v : Int) (q : Value), e = .returned (.tuple #[.int .i64 v, q]) ∧ ((q = .nilIface ∧ Lib.parseIntB 64 s.data.toList = .ok v) ∨ ((∃ N, q = .iface 116 (.pointer (some ⟨N, 0, none⟩))) ∧ ∀ x, Lib.parseIntB 64 s.data.toList ≠ .ok x)) ∧ Below w.heap.size w w' := by
 cases h : Lib.parseIntB 64 s.data.toList with
 | ok v =>
  refine (Tryz.strconv_ParseInt_10_at64_ok s (by omega) v h w).mono ?_
  rintro e w' ⟨rfl, hw⟩
  refine ⟨v, _, rfl, .inl ⟨rfl, rfl⟩, ?_⟩
  rcases hw with rfl | ⟨t, rfl⟩
  ·
   exact Below.refl _ _
  ·
   exact Lib.bytesWorld_below _ _ _
 | range =>
  refine (Tryz.strconv_ParseInt_10_at64_range_var s (by omega) h tp2 p2 w hrng).mono ?_
  rintro e w' ⟨N, rfl, _, _, hb⟩
  exact ⟨_, _, rfl, .inr ⟨⟨N, rfl⟩, fun x hx => by cases hx⟩, hb⟩
 | _ =>
  refine (Tryz.strconv_ParseInt_10_at64_syntax_var s (by omega) (fun v hv => by rw [h] at hv; cases hv) (fun hv => by rw [h] at hv; cases hv) tp1 p1 w hsyn).mono ?_
  rintro e w' ⟨N, rfl, _, _, hb⟩
  exact ⟨0, _, rfl, .inr ⟨⟨N, rfl⟩, fun x hx => by cases hx⟩, hb⟩
theorem split_len (s : ByteArray) : (Lib.splitB ⟨#[44]⟩ 0 (Lib.countB s ⟨#[44]⟩) s).length = Lib.countB s ⟨#[44]⟩ + 1 := Lib.splitB_all ⟨#[44]⟩ (by decide) 0 _ s rfl
theorem split_data (s : ByteArray) : (Lib.splitB ⟨#[44]⟩ 0 (Lib.countB s ⟨#[44]⟩) s).map (·.data.toList) = parts 44 s.data.toList := by
 rw [Lib.splitB_data]
 exact split_parts 44 s.data.toList
theorem split_calls (s : ByteArray) (m : Int) (w w0 : World) (hs : s.size ≤ 2147483648) (hm : w.cell? ⟨2, 0, none⟩ = some (.int .i64 m)) (hb : w0.heap.size ≤ w.heap.size) :
  Calls Tryz.prog 52 #[.string s, .string ⟨#[44]⟩] w fun e w' => ∃ (ws : List ByteArray) (A : Option Addr), e = .returned (.slice A ws.length ws.length) ∧ ws.map (·.data.toList) = parts 44 s.data.toList ∧ Kd.R Kd.string 9 w' w0.heap.size (fun _ => True) (.slice A ws.length ws.length) ws ∧ Below w.heap.size w w' := by
 have hl := split_len s
 have hd := split_data s
 refine (Tryz.strings_Split s ⟨#[44]⟩ m w (by omega) hm (by decide)).mono ?_
 rintro e w' ⟨rfl, rfl⟩
 generalize Lib.splitB ⟨#[44]⟩ 0 (Lib.countB s ⟨#[44]⟩) s = ws at hl hd ⊢
 rw [← hl]
 refine ⟨ws, _, rfl, hd, ?_, below_alloc (Below.refl _ _) _⟩
 refine Kd.R_of_own ?_ (fun _ _ => trivial)
 have hmx : ws.length ≤ maxLen := by
  have := parts_size 44 s.data.toList
  rw [← hd, List.length_map] at this
  have hs2 : s.data.toList.length = s.size := by rw [Array.length_toList]; rfl
  rw [hs2] at this
  have : (2147483649 : Nat) ≤ maxLen := by decide
  omega
 have := World.ownsRow_lit (base := w0.heap.size) (e := 9) (size := 1) w (ws.map Value.string).toArray ws.length hb hmx (by simp)
 simpa [encs] using this
set_option maxRecDepth 100000 in
set_option maxHeartbeats 8000000 in
theorem impl_ParsePoly.calls (p : Int) (s : ByteArray) (r1 : List Int) (er : Int) (m : Int) (tp1 tp2 : TypeId) (p1 p2 : Value) (w : World) (hsz : s.size ≤ 2147483648) (h : prA p s.data.toList = (r1, er)) (hm : w.cell? ⟨2, 0, none⟩ = some (.int .i64 m))
  (hsyn : w.var? Tryz.prog "strconv.ErrSyntax" = some #[.iface tp1 p1]) (hrng : w.var? Tryz.prog "strconv.ErrRange" = some #[.iface tp2 p2]) (htab : Lib.TabIs Tryz.prog w "internal/strconv.uint64pow10" .u64 Lib.pow10Tab) :
  Calls Tryz.prog 19 #[.int .i64 p, .string s] w fun e w' => ∃ v0_ : Value, e = .returned (.tuple #[v0_, .int .i64 er]) ∧ Kd.R (Kd.int .i64) 2 w' w.heap.size (fun _ => True) v0_ r1 ∧ Below w.heap.size w w' := by
 have HB := as0 (Below.refl w.heap.size w)
 obtain ⟨k0, hk0⟩ := impl_prime p
 have HP := as0 (hk0 k0 (Nat.le_refl _))
 clear hk0
 have HSP := as0 (fun W (hW : Below w.heap.size w W) => split_calls s m W w hsz (pw_cell_below hW hm) hW.size)
 have HPI := as0 (fun (u : ByteArray) (hu : u.size ≤ 2147483648) W (hW : Below w.heap.size w W) => parseInt_calls u hu tp1 tp2 p1 p2 W (var_below hsyn hW) (var_below hrng hW))
 have HTB := as0 (fun W (hW : Below w.heap.size w W) => tab_below htab hW)
 have HSZ := as0 hsz
 clear hm hsyn hrng htab hsz
 unfold prA at h
 by_cases hp : Num.primeB p = true
 ·
  rw [if_pos hp] at h
  rw [hp] at HP
  have HPP := as0 (Num.primeB_iff.1 hp)
  have H := as0 h
  clear h hp
  go_enter Tryz.func19, Tryz.ntmps19
  go_wp2_with fail
  go_at_call 51
  refine (impl_IsPrime.calls k0 p true _ HP.out).mono ?_
  rintro e w1 ⟨rfl, hd⟩
  have HB := as0 (below_step HB.out hd.below)
  clear hd
  go_wp2_with fail
  go_at_call 52
  refine (HSP.out w1 HB.out).mono ?_
  rintro e w2 ⟨ws, A, rfl, hws, hR, b2⟩
  have HB := as0 (below_step HB.out b2)
  have HWS := as0 hws
  have HW := as0 hR
  clear b2 hws hR
  have HL : ws.length ≤ 2147483649 := by
   have h1 := parts_size 44 s.data.toList
   have h2 : s.data.toList.length = s.size := by rw [Array.length_toList]; rfl
   rw [← HWS.out, List.length_map] at h1
   have := HSZ.out
   omega
  have HLE := as0 HL
  clear HL
  obtain ⟨W, hW⟩ : ∃ W, W = parts 44 s.data.toList := ⟨_, rfl⟩
  have HWL : W.length = ws.length := by rw [hW, ← HWS.out, List.length_map]
  have HWW := as0 hW
  have HWLE := as0 HWL
  clear hW HWL
  go_wp2_with fail
  go_loopg [6, 17] ws.length (fun kq v6 v17 w' => ∃ (x : List Int) (i : Nat), v17 = .int .i64 (i : Int) ∧ Aside0 (i + kq = ws.length) ∧ Aside0 (x.length = i) ∧ Aside0 (numsI W = (numsI (W.drop i)).map (x ++ ·)) ∧ Aside0 (Kd.R (Kd.int .i64) 2 w' w.heap.size (fun _ => True) v6 x) ∧ Aside0 (Kd.R Kd.string 9 w' w.heap.size (fun _ => True) (.slice A ws.length ws.length) ws) ∧ Aside0 (Below w.heap.size w w'))
  case atStart => exact ⟨[], 0, rfl, ⟨by omega⟩, ⟨rfl⟩, ⟨by simp⟩, ⟨Kd.R_nil _ _ _ _ _⟩, HW, HB⟩
  case round =>
   clear HW HB
   obtain ⟨x, i, rfl, HG, HXL, HN, HX, HW, HB⟩ := hrel
   have hg := HG.out
   by_cases hi : i < ws.length
   ·
    have d1 : decide ((i : Int) < (ws.length : Int)) = true := decide_eq_true (by omega)
    obtain ⟨q, rfl⟩ : ∃ q, gk = q + 1 := ⟨gk - 1, by omega⟩
    obtain ⟨ad, e1, hc⟩ := Kd.at_string (Kd.R_reads' HW.out).2.2 (i : Int) (by omega) (by omega)
    cases e1
    obtain ⟨u, hu⟩ : ∃ u, u = rdOf ByteArray.empty ws (i : Int) := ⟨_, rfl⟩
    rw [← hu, Int.toNat_natCast] at hc
    have HU := as0 hu
    clear hu
    have p1 : ((0 : Int) ≤ (i : Int)) = True := eq_true (by omega)
    have q1 : ((i : Int) < (ws.length : Int)) = True := eq_true (by omega)
    have hWi : W[i]? = some u.data.toList := by
     rw [HWW.out, ← HWS.out, List.getElem?_map, HU.out]
     unfold rdOf
     rw [Int.toNat_natCast, List.getD_eq_getElem?_getD, List.getElem?_eq_getElem hi]
     rfl
    have hus : u.size ≤ 2147483648 := by
     have h1 := parts_len 44 s.data.toList u.data.toList (HWW.out ▸ List.mem_of_getElem? hWi)
     have h2 : s.data.toList.length = s.size := by rw [Array.length_toList]; rfl
     have h3 : u.data.toList.length = u.size := by rw [Array.length_toList]; rfl
     have := HSZ.out
     omega
    have HI := as0 hi
    have HWI := as0 hWi
    have HUS := as0 hus
    clear hi hg hWi hus
    go_wp2_with fail
    go_at_call 53
    refine (HPI.out u HUS.out _ HB.out).mono ?_
    rintro e w3 ⟨v, qv, rfl, hcase, hb3⟩
    have HX3 := as0 (Kd.R_below HX.out hb3)
    have HW3 := as0 (Kd.R_below HW.out hb3)
    have HB3 := as0 (below_step HB.out hb3)
    clear HX HW HB hb3
    rcases hcase with ⟨rfl, hv⟩ | ⟨⟨N, rfl⟩, hv⟩
    ·
     have HN1 := as0 (numsI_step HN.out HWI.out hv)
     clear hv HN
     obtain ⟨y, hy⟩ : ∃ y, y = x ++ [v] := ⟨_, rfl⟩
     rw [← hy] at HN1
     have HY := as0 hy
     clear hy
     go_wp2_with ((with_reducible refine gate_builtin (b := .append) (xs := #[.tmp 28, .tmp 30]) rfl ?_); at_builtin; refine Kd.R_append (Kd.int .i64) (w0 := w) w.heap.size rfl (.tmp 28) (.tmp 30) 24 2 (.int .i64 0) 8 rfl Tryz.underlying24 info2 rfl (by decide) (by omega) u6 x v [.int .i64 v] (fun _ => True) (fun _ => False) rfl rfl ?aP (fun _ hk => hk.elim) ?aF ?aO ?aB ?aS ?aL ?_; (case aP => exact rfl); (case aB => exact (bs HB3)); (case aF => exact (fun _ _ => trivial)); (case aO => exact (rs HX3)); (case aS => exact (below_size (bs HB3))); (case aL => have := HXL.out; have := HI.out; have := HLE.out; omega); intro v169 w16 ho hb hg hat; rw [← HY.out] at ho; have n0_ := as0 (Kd.R_over' (rs HW3) (Kd.R_typed (rs HX3)) (by decide) hg); have n1_ := as0 (hb); have n2_ := as0 (ho); clear HW3; clear HB3; clear HX3; have HW := n0_; have HB := n1_; have HX := n2_; clear n0_ n1_ n2_; clear ho hb hg hat)
     go_roundg q
     case measure => have := HG.out; omega
     case rel => exact ⟨y, i + 1, by first | (rw [wp1 (by have := HI.out; have := HLE.out; omega)]) | (show Value.int .i64 (wrap64 ((i : Int) + 1)) = _; rw [wp1 (by have := HI.out; have := HLE.out; omega)]), ⟨by have := HG.out; omega⟩, ⟨by rw [HY.out]; simp [HXL.out]⟩, HN1, HX, HW, HB⟩
    ·
     have HF := as0 (numsI_fail HN.out HWI.out hv)
     clear hv HN
     have hH := H.out
     rw [← HWW.out, HF.out] at hH
     dsimp only at hH
     injection hH with e1 e2
     subst e1 e2
     go_wp2_with fail
     go_ret2
     exact ⟨_, rfl, Kd.R_nil _ _ _ _ _, HB3.out⟩
   ·
    have hie : i = ws.length := by omega
    subst hie
    have d1 : decide ((ws.length : Int) < (ws.length : Int)) = false := decide_eq_false (by omega)
    have HNE : numsI W = some x := numsI_end (by have := HN.out; rw [← HWLE.out] at this; exact this)
    have hH := H.out
    rw [← HWW.out, HNE] at hH
    dsimp only at hH
    obtain ⟨k2, hk2⟩ := impl_reverse_ x (by have := HXL.out; have := HLE.out; omega)
    have HRV := slices_Reverse_int64_int64.calls k2 (fun _ => True) u6 x x.reverse w wr HB.out HX.out (hk2 k2 (Nat.le_refl _))
    have HH := as0 hH
    clear hk2 hH HNE hg hi HX HW HB HN HXL HG
    obtain ⟨f, hf⟩ : ∃ f, f = x.reverse := ⟨_, rfl⟩
    rw [← hf] at HRV HH
    clear hf
    go_wp2_with fail
    go_at_call 54
    refine HRV.mono ?_
    rintro e w4 ⟨rfl, o4, b4, _⟩
    have HB := as0 b4
    have HX := as0 (Kd.R_mono (ok' := fun _ => True) o4 (fun _ _ => trivial))
    clear o4 b4 HRV
    by_cases ht : s.data.toList = [48]
    ·
     have hH := HH.out
     simp only [if_pos ht] at hH
     have d2 : (s.toList == ([48] : List UInt8)) = true := beq_iff_eq.mpr (by rw [ByteArray.toList_eq]; exact ht)
     have d3 : (s.toList != ([48] : List UInt8)) = false := bne_eq_false_iff_eq.mpr (by rw [ByteArray.toList_eq]; exact ht)
     have hnil : Kd.R (Kd.int .i64) 2 w4 w.heap.size (fun _ => True) (.slice none ([] : List Int).length 0) [] := Kd.R_nil _ _ _ _ _
     clear ht HX HH
     have HIP : ∀ b, polyB p ([] : List Int) = b → ∀ W, Below w4.heap.size w4 W → Calls Tryz.prog 55 #[.int .i64 p, .slice none 0 0] W fun e w' => e = .returned (.bool b) ∧ Below W.heap.size W w' := fun b hb W hW =>
      impl_IsPoly.calls p none 0 ([] : List Int) b W (Kd.C_below (Kd.R_reads' hnil).2.2 hW) (Kd.R_reads' hnil).2.1 (by rw [← hb]; rfl)
     have HPT : polyB p ([] : List Int) = true → ∀ W, Below w4.heap.size w4 W → Calls Tryz.prog 49 #[.slice none 0 0] W fun e w' => e = .returned (.string ⟨(polyT ([] : List Int)).toArray⟩) ∧ Below W.heap.size W w' := fun hb W hW => by
      have hpo := polyB_iff.1 hb
      have hin := hpo.el
      have hle := hpo.len
      have hp2 := HPP.out.2.1
      exact impl_polyText.calls none 0 ([] : List Int) W (Kd.C_below (Kd.R_reads' hnil).2.2 hW) (Kd.R_reads' hnil).2.1 (fun x hx => by have := hin x hx; omega) (by omega) (HTB.out W (below_step HB.out hW))
     have HRX := as0 hnil
     by_cases hb : polyB p ([] : List Int) = true
     ·
      have HIP' := HIP true hb
      have HPT' := HPT hb
      clear HIP HPT
      obtain ⟨st, hst⟩ : ∃ st : ByteArray, st = ⟨(polyT ([] : List Int)).toArray⟩ := ⟨_, rfl⟩
      rw [← hst] at HPT'
      have hsd : st.toList = polyT ([] : List Int) := by rw [hst, ByteArray.toList_eq]
      by_cases he : polyT ([] : List Int) = s.data.toList
      ·
       rw [if_pos ⟨hb, he⟩] at hH
       injection hH with e1 e2
       subst e1 e2
       have g1 : st.toList = s.toList := by rw [hsd, he, ByteArray.toList_eq]
       have g2 : (st.toList == s.toList) = true := beq_iff_eq.mpr g1
       have g3 : (st.toList != s.toList) = false := bne_eq_false_iff_eq.mpr g1
       clear hst hsd he g1 hb
       go_wp2_with fail
       go_at_call 55
       refine (HIP' _ (Below.refl _ _)).mono ?_
       rintro e w5 ⟨rfl, b5⟩
       have HB5 := as0 b5
       clear b5 HIP'
       go_wp2_with fail
       go_at_call 49
       refine (HPT' _ HB5.out).mono ?_
       rintro e w6 ⟨rfl, b6⟩
       have HB6 := as0 (below_step HB5.out b6)
       clear b6 HPT' HB5
       go_wp2_with fail
       go_ret2
       exact ⟨_, rfl, Kd.R_below HRX.out HB6.out, below_step HB.out HB6.out⟩
      ·
       rw [if_neg (fun h => he h.2)] at hH
       injection hH with e1 e2
       subst e1 e2
       have g1 : ¬ st.toList = s.toList := by rw [hsd, ByteArray.toList_eq]; exact he
       have g2 : (st.toList == s.toList) = false := beq_eq_false_iff_ne.mpr g1
       have g3 : (st.toList != s.toList) = true := bne_iff_ne.mpr g1
       clear hst hsd he g1 hb
       go_wp2_with fail
       go_at_call 55
       refine (HIP' _ (Below.refl _ _)).mono ?_
       rintro e w5 ⟨rfl, b5⟩
       have HB5 := as0 b5
       clear b5 HIP'
       go_wp2_with fail
       go_at_call 49
       refine (HPT' _ HB5.out).mono ?_
       rintro e w6 ⟨rfl, b6⟩
       have HB6 := as0 (below_step HB5.out b6)
       clear b6 HPT' HB5
       go_wp2_with fail
       go_ret2
       exact ⟨_, rfl, Kd.R_nil _ _ _ _ _, below_step HB.out HB6.out⟩
     ·
      rw [if_neg (fun h => hb h.1)] at hH
      injection hH with e1 e2
      subst e1 e2
      have HIP' := HIP false (by simpa using hb)
      clear HIP HPT hb
      go_wp2_with fail
      go_at_call 55
      refine (HIP' _ (Below.refl _ _)).mono ?_
      rintro e w5 ⟨rfl, b5⟩
      have HB5 := as0 b5
      clear b5 HIP'
      go_wp2_with fail
      go_ret2
      exact ⟨_, rfl, Kd.R_nil _ _ _ _ _, below_step HB.out HB5.out⟩
    ·
     have hH := HH.out
     simp only [if_neg ht] at hH
     have d2 : (s.toList == ([48] : List UInt8)) = false := beq_eq_false_iff_ne.mpr (by rw [ByteArray.toList_eq]; exact ht)
     have d3 : (s.toList != ([48] : List UInt8)) = true := bne_iff_ne.mpr (by rw [ByteArray.toList_eq]; exact ht)
     obtain ⟨A6, c6, rfl⟩ := Kd.R_slice HX.out
     clear ht HH
     have HIP : ∀ b, polyB p f = b → ∀ W, Below w4.heap.size w4 W → Calls Tryz.prog 55 #[.int .i64 p, .slice A6 f.length c6] W fun e w' => e = .returned (.bool b) ∧ Below W.heap.size W w' := fun b hb W hW =>
      impl_IsPoly.calls p A6 c6 f b W (Kd.C_below (Kd.R_reads' HX.out).2.2 hW) (Kd.R_reads' HX.out).2.1 (by rw [← hb]; rfl)
     have HPT : polyB p f = true → ∀ W, Below w4.heap.size w4 W → Calls Tryz.prog 49 #[.slice A6 f.length c6] W fun e w' => e = .returned (.string ⟨(polyT f).toArray⟩) ∧ Below W.heap.size W w' := fun hb W hW => by
      have hpo := polyB_iff.1 hb
      have hin := hpo.el
      have hle := hpo.len
      have hp2 := HPP.out.2.1
      exact impl_polyText.calls A6 c6 f W (Kd.C_below (Kd.R_reads' HX.out).2.2 hW) (Kd.R_reads' HX.out).2.1 (fun x hx => by have := hin x hx; omega) (by omega) (HTB.out W (below_step HB.out hW))
     have HRX := as0 HX.out
     by_cases hb : polyB p f = true
     ·
      have HIP' := HIP true hb
      have HPT' := HPT hb
      clear HIP HPT
      obtain ⟨st, hst⟩ : ∃ st : ByteArray, st = ⟨(polyT f).toArray⟩ := ⟨_, rfl⟩
      rw [← hst] at HPT'
      have hsd : st.toList = polyT f := by rw [hst, ByteArray.toList_eq]
      by_cases he : polyT f = s.data.toList
      ·
       rw [if_pos ⟨hb, he⟩] at hH
       injection hH with e1 e2
       subst e1 e2
       have g1 : st.toList = s.toList := by rw [hsd, he, ByteArray.toList_eq]
       have g2 : (st.toList == s.toList) = true := beq_iff_eq.mpr g1
       have g3 : (st.toList != s.toList) = false := bne_eq_false_iff_eq.mpr g1
       clear hst hsd he g1 hb
       go_wp2_with fail
       go_at_call 55
       refine (HIP' _ (Below.refl _ _)).mono ?_
       rintro e w5 ⟨rfl, b5⟩
       have HB5 := as0 b5
       clear b5 HIP'
       go_wp2_with fail
       go_at_call 49
       refine (HPT' _ HB5.out).mono ?_
       rintro e w6 ⟨rfl, b6⟩
       have HB6 := as0 (below_step HB5.out b6)
       clear b6 HPT' HB5
       go_wp2_with fail
       go_ret2
       exact ⟨_, rfl, Kd.R_below HRX.out HB6.out, below_step HB.out HB6.out⟩
      ·
       rw [if_neg (fun h => he h.2)] at hH
       injection hH with e1 e2
       subst e1 e2
       have g1 : ¬ st.toList = s.toList := by rw [hsd, ByteArray.toList_eq]; exact he
       have g2 : (st.toList == s.toList) = false := beq_eq_false_iff_ne.mpr g1
       have g3 : (st.toList != s.toList) = true := bne_iff_ne.mpr g1
       clear hst hsd he g1 hb
       go_wp2_with fail
       go_at_call 55
       refine (HIP' _ (Below.refl _ _)).mono ?_
       rintro e w5 ⟨rfl, b5⟩
       have HB5 := as0 b5
       clear b5 HIP'
       go_wp2_with fail
       go_at_call 49
       refine (HPT' _ HB5.out).mono ?_
       rintro e w6 ⟨rfl, b6⟩
       have HB6 := as0 (below_step HB5.out b6)
       clear b6 HPT' HB5
       go_wp2_with fail
       go_ret2
       exact ⟨_, rfl, Kd.R_nil _ _ _ _ _, below_step HB.out HB6.out⟩
     ·
      rw [if_neg (fun h => hb h.1)] at hH
      injection hH with e1 e2
      subst e1 e2
      have HIP' := HIP false (by simpa using hb)
      clear HIP HPT hb
      go_wp2_with fail
      go_at_call 55
      refine (HIP' _ (Below.refl _ _)).mono ?_
      rintro e w5 ⟨rfl, b5⟩
      have HB5 := as0 b5
      clear b5 HIP'
      go_wp2_with fail
      go_ret2
      exact ⟨_, rfl, Kd.R_nil _ _ _ _ _, below_step HB.out HB5.out⟩
 ·
  rw [if_neg hp] at h
  injection h with h1 h2
  subst h1 h2
  rw [Bool.not_eq_true] at hp
  rw [hp] at HP
  clear hp
  go_enter Tryz.func19, Tryz.ntmps19
  go_wp2_with fail
  go_at_call 51
  refine (impl_IsPrime.calls k0 p false _ HP.out).mono ?_
  rintro e w1 ⟨rfl, hd⟩
  have HB := as0 (below_step HB.out hd.below)
  clear hd
  go_wp2_with fail
  go_ret2
  exact ⟨_, rfl, Kd.R_nil _ _ _ _ _, HB.out⟩
def spec_l01Damage.f (s0_0 : List Int) (s0_1 : Int) (s0_2 : Int) (a1 : ByteArray) : Option (ByteArray × Int × Int) := (some (([(⟨#[48]⟩ : ByteArray), (⟨#[49]⟩ : ByteArray), (⟨#[50]⟩ : ByteArray), (⟨#[57]⟩ : ByteArray), (⟨#[44]⟩ : ByteArray), (⟨#[45]⟩ : ByteArray), (⟨#[32]⟩ : ByteArray), (⟨#[59]⟩ : ByteArray), (⟨#[120]⟩ : ByteArray), (⟨#[10]⟩ : ByteArray)] : List ByteArray) : List ByteArray)).bind fun y710 => ((spec_l01Next.f s0_0 s0_1 s0_2 (y710.length : Int)).bind fun bt713 => (if 0 ≤ bt713.1 then (if bt713.1 < (y710.length : Int) then (if (a1.size : Int) = 0 then (some (rdOf ByteArray.empty y710 bt713.1, bt713.2.1, bt713.2.2)) else ((spec_l01Next.f s0_0 bt713.2.1 bt713.2.2 (a1.size : Int)).bind fun bt717 => ((spec_l01Next.f s0_0 bt717.2.1 bt717.2.2 3).bind fun bt720 => (if bt720.1 = 0 then (if 0 ≤ bt717.1 then (if bt717.1 ≤ (a1.size : Int) then (if (a1.extract 0 (bt717.1 : Int).toNat).size + (rdOf ByteArray.empty y710 bt713.1).size ≤ 9223372036854775807 then (if 0 ≤ (wrap64 (bt717.1 + 1)) then (if (wrap64 (bt717.1 + 1)) ≤ (a1.size : Int) then (if ((a1.extract 0 (bt717.1 : Int).toNat) ++ (rdOf ByteArray.empty y710 bt713.1)).size + (a1.extract ((wrap64 (bt717.1 + 1)) : Int).toNat a1.size).size ≤ 9223372036854775807 then (some (((a1.extract 0 (bt717.1 : Int).toNat) ++ (rdOf ByteArray.empty y710 bt713.1)) ++ (a1.extract ((wrap64 (bt717.1 + 1)) : Int).toNat a1.size), bt720.2.1, bt720.2.2)) else (none)) else (none)) else (none)) else (none)) else (none)) else (none)) else (if bt720.1 = 1 then (if 0 ≤ bt717.1 then (if bt717.1 ≤ (a1.size : Int) then (if 0 ≤ (wrap64 (bt717.1 + 1)) then (if (wrap64 (bt717.1 + 1)) ≤ (a1.size : Int) then (if (a1.extract 0 (bt717.1 : Int).toNat).size + (a1.extract ((wrap64 (bt717.1 + 1)) : Int).toNat a1.size).size ≤ 9223372036854775807 then (some ((a1.extract 0 (bt717.1 : Int).toNat) ++ (a1.extract ((wrap64 (bt717.1 + 1)) : Int).toNat a1.size), bt720.2.1, bt720.2.2)) else (none)) else (none)) else (none)) else (none)) else (none)) else (if 0 ≤ bt717.1 then (if bt717.1 ≤ (a1.size : Int) then (if (a1.extract 0 (bt717.1 : Int).toNat).size + (rdOf ByteArray.empty y710 bt713.1).size ≤ 9223372036854775807 then (if ((a1.extract 0 (bt717.1 : Int).toNat) ++ (rdOf ByteArray.empty y710 bt713.1)).size + (a1.extract (bt717.1 : Int).toNat a1.size).size ≤ 9223372036854775807 then (some (((a1.extract 0 (bt717.1 : Int).toNat) ++ (rdOf ByteArray.empty y710 bt713.1)) ++ (a1.extract (bt717.1 : Int).toNat a1.size), bt720.2.1, bt720.2.2)) else (none)) else (none)) else (none)) else (none))))))) else (none)) else (none)))
set_option maxHeartbeats 8000000 in
set_option maxRecDepth 100000 in
theorem spec_l01Damage.calls (g : Nat) (s0_0 : List Int) (s0_1 : Int) (s0_2 : Int) (a1 : ByteArray) (r1 : ByteArray) (r2 : Int) (r3 : Int) (w0 w : World) (hI : IsS77 w0 w g s0_0 s0_1 s0_2) (hB : Below w0.heap.size w0 w) (h : spec_l01Damage.f s0_0 s0_1 s0_2 a1 = some (r1, r2, r3)) :
  Calls Tryz.prog 56 #[.pointer (some ⟨g, 0, none⟩), .string a1] w fun e w' => e = .returned (.string r1) ∧ IsS77 w0 w' g s0_0 r2 r3 ∧ Below w0.heap.size w0 w' ∧ KeepBut w w' g none := by
 have HI0 := as0 hI
 have HK := as0 (KeepBut.refl w g none)
 have HL := as0 hB.size
 clear hI
 have HW0 := as0 hB.size
 have HB := as0 hB
 clear hB
 have H : ((some (([(⟨#[48]⟩ : ByteArray), (⟨#[49]⟩ : ByteArray), (⟨#[50]⟩ : ByteArray), (⟨#[57]⟩ : ByteArray), (⟨#[44]⟩ : ByteArray), (⟨#[45]⟩ : ByteArray), (⟨#[32]⟩ : ByteArray), (⟨#[59]⟩ : ByteArray), (⟨#[120]⟩ : ByteArray), (⟨#[10]⟩ : ByteArray)] : List ByteArray) : List ByteArray)).bind fun y710 => ((spec_l01Next.f s0_0 s0_1 s0_2 (y710.length : Int)).bind fun bt713 => (if 0 ≤ bt713.1 then (if bt713.1 < (y710.length : Int) then (if (a1.size : Int) = 0 then (some (rdOf ByteArray.empty y710 bt713.1, bt713.2.1, bt713.2.2)) else ((spec_l01Next.f s0_0 bt713.2.1 bt713.2.2 (a1.size : Int)).bind fun bt717 => ((spec_l01Next.f s0_0 bt717.2.1 bt717.2.2 3).bind fun bt720 => (if bt720.1 = 0 then (if 0 ≤ bt717.1 then (if bt717.1 ≤ (a1.size : Int) then (if (a1.extract 0 (bt717.1 : Int).toNat).size + (rdOf ByteArray.empty y710 bt713.1).size ≤ 9223372036854775807 then (if 0 ≤ (wrap64 (bt717.1 + 1)) then (if (wrap64 (bt717.1 + 1)) ≤ (a1.size : Int) then (if ((a1.extract 0 (bt717.1 : Int).toNat) ++ (rdOf ByteArray.empty y710 bt713.1)).size + (a1.extract ((wrap64 (bt717.1 + 1)) : Int).toNat a1.size).size ≤ 9223372036854775807 then (some (((a1.extract 0 (bt717.1 : Int).toNat) ++ (rdOf ByteArray.empty y710 bt713.1)) ++ (a1.extract ((wrap64 (bt717.1 + 1)) : Int).toNat a1.size), bt720.2.1, bt720.2.2)) else (none)) else (none)) else (none)) else (none)) else (none)) else (none)) else (if bt720.1 = 1 then (if 0 ≤ bt717.1 then (if bt717.1 ≤ (a1.size : Int) then (if 0 ≤ (wrap64 (bt717.1 + 1)) then (if (wrap64 (bt717.1 + 1)) ≤ (a1.size : Int) then (if (a1.extract 0 (bt717.1 : Int).toNat).size + (a1.extract ((wrap64 (bt717.1 + 1)) : Int).toNat a1.size).size ≤ 9223372036854775807 then (some ((a1.extract 0 (bt717.1 : Int).toNat) ++ (a1.extract ((wrap64 (bt717.1 + 1)) : Int).toNat a1.size), bt720.2.1, bt720.2.2)) else (none)) else (none)) else (none)) else (none)) else (none)) else (if 0 ≤ bt717.1 then (if bt717.1 ≤ (a1.size : Int) then (if (a1.extract 0 (bt717.1 : Int).toNat).size + (rdOf ByteArray.empty y710 bt713.1).size ≤ 9223372036854775807 then (if ((a1.extract 0 (bt717.1 : Int).toNat) ++ (rdOf ByteArray.empty y710 bt713.1)).size + (a1.extract (bt717.1 : Int).toNat a1.size).size ≤ 9223372036854775807 then (some (((a1.extract 0 (bt717.1 : Int).toNat) ++ (rdOf ByteArray.empty y710 bt713.1)) ++ (a1.extract (bt717.1 : Int).toNat a1.size), bt720.2.1, bt720.2.2)) else (none)) else (none)) else (none)) else (none))))))) else (none)) else (none)))) = some (r1, r2, r3) := h
 clear h
 obtain ⟨y710, hy710⟩ : ∃ y_ : List ByteArray, y_ = (([(⟨#[48]⟩ : ByteArray), (⟨#[49]⟩ : ByteArray), (⟨#[50]⟩ : ByteArray), (⟨#[57]⟩ : ByteArray), (⟨#[44]⟩ : ByteArray), (⟨#[45]⟩ : ByteArray), (⟨#[32]⟩ : ByteArray), (⟨#[59]⟩ : ByteArray), (⟨#[120]⟩ : ByteArray), (⟨#[10]⟩ : ByteArray)] : List ByteArray)) := ⟨_, rfl⟩
 replace H : ((spec_l01Next.f s0_0 s0_1 s0_2 (y710.length : Int)).bind fun bt713 => (if 0 ≤ bt713.1 then (if bt713.1 < (y710.length : Int) then (if (a1.size : Int) = 0 then (some (rdOf ByteArray.empty y710 bt713.1, bt713.2.1, bt713.2.2)) else ((spec_l01Next.f s0_0 bt713.2.1 bt713.2.2 (a1.size : Int)).bind fun bt717 => ((spec_l01Next.f s0_0 bt717.2.1 bt717.2.2 3).bind fun bt720 => (if bt720.1 = 0 then (if 0 ≤ bt717.1 then (if bt717.1 ≤ (a1.size : Int) then (if (a1.extract 0 (bt717.1 : Int).toNat).size + (rdOf ByteArray.empty y710 bt713.1).size ≤ 9223372036854775807 then (if 0 ≤ (wrap64 (bt717.1 + 1)) then (if (wrap64 (bt717.1 + 1)) ≤ (a1.size : Int) then (if ((a1.extract 0 (bt717.1 : Int).toNat) ++ (rdOf ByteArray.empty y710 bt713.1)).size + (a1.extract ((wrap64 (bt717.1 + 1)) : Int).toNat a1.size).size ≤ 9223372036854775807 then (some (((a1.extract 0 (bt717.1 : Int).toNat) ++ (rdOf ByteArray.empty y710 bt713.1)) ++ (a1.extract ((wrap64 (bt717.1 + 1)) : Int).toNat a1.size), bt720.2.1, bt720.2.2)) else (none)) else (none)) else (none)) else (none)) else (none)) else (none)) else (if bt720.1 = 1 then (if 0 ≤ bt717.1 then (if bt717.1 ≤ (a1.size : Int) then (if 0 ≤ (wrap64 (bt717.1 + 1)) then (if (wrap64 (bt717.1 + 1)) ≤ (a1.size : Int) then (if (a1.extract 0 (bt717.1 : Int).toNat).size + (a1.extract ((wrap64 (bt717.1 + 1)) : Int).toNat a1.size).size ≤ 9223372036854775807 then (some ((a1.extract 0 (bt717.1 : Int).toNat) ++ (a1.extract ((wrap64 (bt717.1 + 1)) : Int).toNat a1.size), bt720.2.1, bt720.2.2)) else (none)) else (none)) else (none)) else (none)) else (none)) else (if 0 ≤ bt717.1 then (if bt717.1 ≤ (a1.size : Int) then (if (a1.extract 0 (bt717.1 : Int).toNat).size + (rdOf ByteArray.empty y710 bt713.1).size ≤ 9223372036854775807 then (if ((a1.extract 0 (bt717.1 : Int).toNat) ++ (rdOf ByteArray.empty y710 bt713.1)).size + (a1.extract (bt717.1 : Int).toNat a1.size).size ≤ 9223372036854775807 then (some (((a1.extract 0 (bt717.1 : Int).toNat) ++ (rdOf ByteArray.empty y710 bt713.1)) ++ (a1.extract (bt717.1 : Int).toNat a1.size), bt720.2.1, bt720.2.2)) else (none)) else (none)) else (none)) else (none))))))) else (none)) else (none))) = some (r1, r2, r3) := by first | (rw [hy710]; with_reducible exact H) | (have H2_ := (Option.bind_some _ _).symm.trans H; rw [hy710]; with_reducible exact H2_) | (have H2_ := (Option.bind_some _ _).symm.trans H; with_reducible exact H2_) | with_reducible exact H | (rw [hy710]; exact H) | exact H
 have Ny710 := as0 hy710
 clear hy710
 replace H := Option.bind_eq_some_iff.mp H
 obtain ⟨⟨t713, t714, t715⟩, A30, H⟩ := H
 have A3 := as0 A30
 clear A30
 by_cases c4 : 0 ≤ t713
 ·
  rw [if_pos c4] at H
  have c4b0 : decide (0 ≤ t713) = true := decide_eq_true c4
  clear c4
  by_cases c5 : t713 < (y710.length : Int)
  ·
   rw [if_pos c5] at H
   have c5b0 : decide (t713 < (y710.length : Int)) = true := decide_eq_true c5
   clear c5
   by_cases c6 : (a1.size : Int) = 0
   ·
    rw [if_pos c6] at H
    have c6b0 : ((a1.size : Int) == 0) = true := beq_iff_eq.mpr c6
    have c6b1 : ((a1.size : Int) != 0) = false := bne_eq_false_iff_eq.mpr c6
    clear c6
    simp only [Option.some.injEq, Prod.mk.injEq] at H
    obtain ⟨rfl, rfl, rfl⟩ := H
    go_enter Tryz.func56, Tryz.ntmps56
    go_wp2_with (first | ((with_reducible refine gate_dst (N := 8) rfl ?_); refine Kd.R_lit Kd.string _ 9 ?hg (N := 8) ?hd (xs := ([(⟨#[48]⟩ : ByteArray), (⟨#[49]⟩ : ByteArray), (⟨#[50]⟩ : ByteArray), (⟨#[57]⟩ : ByteArray), (⟨#[44]⟩ : ByteArray), (⟨#[45]⟩ : ByteArray), (⟨#[32]⟩ : ByteArray), (⟨#[59]⟩ : ByteArray), (⟨#[120]⟩ : ByteArray), (⟨#[10]⟩ : ByteArray)] : List ByteArray)) (inner := [.string (⟨#[48]⟩ : ByteArray), .string (⟨#[49]⟩ : ByteArray), .string (⟨#[50]⟩ : ByteArray), .string (⟨#[57]⟩ : ByteArray), .string (⟨#[44]⟩ : ByteArray), .string (⟨#[45]⟩ : ByteArray), .string (⟨#[32]⟩ : ByteArray), .string (⟨#[59]⟩ : ByteArray), .string (⟨#[120]⟩ : ByteArray), .string (⟨#[10]⟩ : ByteArray)]) (ok := fun _ => True) (okp := fun _ => True) ?hr ?hp (fun _ hk => hk) trivial (Below.refl _ _) (Nat.le_refl _) (by simp) ?_; (case hd => rfl); (case hg => rfl); (case hr => first | (go_simp; done) | (go_simp; rfl)); (case hp => exact (Reps.one (show Kd.M Kd.string _ _ _ (⟨#[48]⟩ : ByteArray) [.string (⟨#[48]⟩ : ByteArray)] from rfl) (Reps.one (show Kd.M Kd.string _ _ _ (⟨#[49]⟩ : ByteArray) [.string (⟨#[49]⟩ : ByteArray)] from rfl) (Reps.one (show Kd.M Kd.string _ _ _ (⟨#[50]⟩ : ByteArray) [.string (⟨#[50]⟩ : ByteArray)] from rfl) (Reps.one (show Kd.M Kd.string _ _ _ (⟨#[57]⟩ : ByteArray) [.string (⟨#[57]⟩ : ByteArray)] from rfl) (Reps.one (show Kd.M Kd.string _ _ _ (⟨#[44]⟩ : ByteArray) [.string (⟨#[44]⟩ : ByteArray)] from rfl) (Reps.one (show Kd.M Kd.string _ _ _ (⟨#[45]⟩ : ByteArray) [.string (⟨#[45]⟩ : ByteArray)] from rfl) (Reps.one (show Kd.M Kd.string _ _ _ (⟨#[32]⟩ : ByteArray) [.string (⟨#[32]⟩ : ByteArray)] from rfl) (Reps.one (show Kd.M Kd.string _ _ _ (⟨#[59]⟩ : ByteArray) [.string (⟨#[59]⟩ : ByteArray)] from rfl) (Reps.one (show Kd.M Kd.string _ _ _ (⟨#[120]⟩ : ByteArray) [.string (⟨#[120]⟩ : ByteArray)] from rfl) (Reps.one (show Kd.M Kd.string _ _ _ (⟨#[10]⟩ : ByteArray) [.string (⟨#[10]⟩ : ByteArray)] from rfl) (Reps.none _ _)))))))))))); intro v711 w7 ho8 hb hg_ hnew_; clear hg_ hnew_; (first | rw [← Ny710.out] at ho8 | (simp only [Int.reduceToNat] at ho8; rw [← Ny710.out] at ho8)); have n0_ := as0 (Kd.R_lower ho8 (keep_size (w := w) (g := g) (row := none) (by repeat (first | (with_reducible first | exact HK.out | apply KeepBut.set_ | apply keep_drewN | apply keep_drew | apply keep_alloc) | exact HK.out)))); have n1_ := as0 (IsS77.below (by repeat (first | (with_reducible first | exact HI0.out | apply IsS77.alloc | apply IsS77.drewN | apply IsS77.drew | apply IsS77.set_1 | apply IsS77.set_2) | exact HI0.out)) hb); have n2_ := as0 (KeepBut.trans (by repeat (first | (with_reducible first | exact HK.out | apply KeepBut.set_ | apply keep_drewN | apply keep_drew | apply keep_alloc) | exact HK.out)) (KeepBut.of_below hb g none) (.inl rfl)); have n3_ := as0 (below_step (by repeat (first | (with_reducible first | exact HB.out | apply below_alloc | apply pw_below_drewN | apply below_drew1 | refine below_set ?_ (IsS77.ge HI0.out)) | exact HB.out)) hb); clear HI0; clear HK; clear HB; have HO712 := n0_; have HI0 := n1_; have HK := n2_; have HB := n3_; clear n0_ n1_ n2_ n3_; clear hb ho8; obtain ⟨Ao9, co9, eo9⟩ := Kd.R_slice HO712.out; subst eo9) | (go_at_call 26; (with_reducible refine (spec_l01Next.calls g s0_0 s0_1 s0_2 (y710.length : Int) t713 t714 t715 w0 _ ?side1 ?side2 A3.out).mono ?_); (case side1 => repeat (first | (with_reducible first | exact HI0.out | apply IsS77.alloc | apply IsS77.drewN | apply IsS77.drew | apply IsS77.set_1 | apply IsS77.set_2) | exact HI0.out)); (case side2 => repeat (first | (with_reducible first | exact HB.out | apply below_alloc | apply pw_below_drewN | apply below_drew1 | refine below_set ?_ (IsS77.ge HI0.out)) | exact HB.out)); rintro e w10 ⟨rfl, hi, hb, hk⟩; have n0_ := as0 (Kd.R_mono (Kd.R_keep (IsS77.apart (show IsS77 w0 _ g s0_0 s0_1 s0_2 from by repeat (first | (with_reducible first | exact HI0.out | apply IsS77.alloc | apply IsS77.drewN | apply IsS77.drew | apply IsS77.set_1 | apply IsS77.set_2) | exact HI0.out)) (rs HO712) (by decide)) hk (fun _ h => h.2)) (fun _ h => h.1)); have n1_ := as0 (KeepBut.trans (by repeat (first | (with_reducible first | exact HK.out | apply KeepBut.set_ | apply keep_drewN | apply keep_drew | apply keep_alloc) | exact HK.out)) hk (.inl rfl)); have n2_ := as0 (hb); have n3_ := as0 (hi); clear HO712; clear HK; clear HB; clear HI0; have HO712 := n0_; have HK := n1_; have HB := n2_; have HI0 := n3_; clear n0_ n1_ n2_ n3_; (try clear hb); (try clear hb2); (try clear hk); (try clear hi); have p716 : 0 ≤ (t713 : Int) := oa_; have q716 : t713 < (y710.length : Int) := oa_; obtain ⟨ad716, e716, hx716_0⟩ := Kd.at_string (Kd.R_reads' HO712.out).2.2 t713 p716 q716; cases e716; replace p716 := eq_true p716; replace q716 := eq_true q716))
    repeat (go_quiet (first | ((with_reducible refine gate_dst (N := 8) rfl ?_); refine Kd.R_lit Kd.string _ 9 ?hg (N := 8) ?hd (xs := ([(⟨#[48]⟩ : ByteArray), (⟨#[49]⟩ : ByteArray), (⟨#[50]⟩ : ByteArray), (⟨#[57]⟩ : ByteArray), (⟨#[44]⟩ : ByteArray), (⟨#[45]⟩ : ByteArray), (⟨#[32]⟩ : ByteArray), (⟨#[59]⟩ : ByteArray), (⟨#[120]⟩ : ByteArray), (⟨#[10]⟩ : ByteArray)] : List ByteArray)) (inner := [.string (⟨#[48]⟩ : ByteArray), .string (⟨#[49]⟩ : ByteArray), .string (⟨#[50]⟩ : ByteArray), .string (⟨#[57]⟩ : ByteArray), .string (⟨#[44]⟩ : ByteArray), .string (⟨#[45]⟩ : ByteArray), .string (⟨#[32]⟩ : ByteArray), .string (⟨#[59]⟩ : ByteArray), .string (⟨#[120]⟩ : ByteArray), .string (⟨#[10]⟩ : ByteArray)]) (ok := fun _ => True) (okp := fun _ => True) ?hr ?hp (fun _ hk => hk) trivial (Below.refl _ _) (Nat.le_refl _) (by simp) ?_; (case hd => rfl); (case hg => rfl); (case hr => first | (go_simp; done) | (go_simp; rfl)); (case hp => exact (Reps.one (show Kd.M Kd.string _ _ _ (⟨#[48]⟩ : ByteArray) [.string (⟨#[48]⟩ : ByteArray)] from rfl) (Reps.one (show Kd.M Kd.string _ _ _ (⟨#[49]⟩ : ByteArray) [.string (⟨#[49]⟩ : ByteArray)] from rfl) (Reps.one (show Kd.M Kd.string _ _ _ (⟨#[50]⟩ : ByteArray) [.string (⟨#[50]⟩ : ByteArray)] from rfl) (Reps.one (show Kd.M Kd.string _ _ _ (⟨#[57]⟩ : ByteArray) [.string (⟨#[57]⟩ : ByteArray)] from rfl) (Reps.one (show Kd.M Kd.string _ _ _ (⟨#[44]⟩ : ByteArray) [.string (⟨#[44]⟩ : ByteArray)] from rfl) (Reps.one (show Kd.M Kd.string _ _ _ (⟨#[45]⟩ : ByteArray) [.string (⟨#[45]⟩ : ByteArray)] from rfl) (Reps.one (show Kd.M Kd.string _ _ _ (⟨#[32]⟩ : ByteArray) [.string (⟨#[32]⟩ : ByteArray)] from rfl) (Reps.one (show Kd.M Kd.string _ _ _ (⟨#[59]⟩ : ByteArray) [.string (⟨#[59]⟩ : ByteArray)] from rfl) (Reps.one (show Kd.M Kd.string _ _ _ (⟨#[120]⟩ : ByteArray) [.string (⟨#[120]⟩ : ByteArray)] from rfl) (Reps.one (show Kd.M Kd.string _ _ _ (⟨#[10]⟩ : ByteArray) [.string (⟨#[10]⟩ : ByteArray)] from rfl) (Reps.none _ _)))))))))))); intro v711 w7 ho8 hb hg_ hnew_; clear hg_ hnew_; (first | rw [← Ny710.out] at ho8 | (simp only [Int.reduceToNat] at ho8; rw [← Ny710.out] at ho8)); have n0_ := as0 (Kd.R_lower ho8 (keep_size (w := w) (g := g) (row := none) (by repeat (first | (with_reducible first | exact HK.out | apply KeepBut.set_ | apply keep_drewN | apply keep_drew | apply keep_alloc) | exact HK.out)))); have n1_ := as0 (IsS77.below (by repeat (first | (with_reducible first | exact HI0.out | apply IsS77.alloc | apply IsS77.drewN | apply IsS77.drew | apply IsS77.set_1 | apply IsS77.set_2) | exact HI0.out)) hb); have n2_ := as0 (KeepBut.trans (by repeat (first | (with_reducible first | exact HK.out | apply KeepBut.set_ | apply keep_drewN | apply keep_drew | apply keep_alloc) | exact HK.out)) (KeepBut.of_below hb g none) (.inl rfl)); have n3_ := as0 (below_step (by repeat (first | (with_reducible first | exact HB.out | apply below_alloc | apply pw_below_drewN | apply below_drew1 | refine below_set ?_ (IsS77.ge HI0.out)) | exact HB.out)) hb); clear HI0; clear HK; clear HB; have HO712 := n0_; have HI0 := n1_; have HK := n2_; have HB := n3_; clear n0_ n1_ n2_ n3_; clear hb ho8; obtain ⟨Ao9, co9, eo9⟩ := Kd.R_slice HO712.out; subst eo9) | (go_at_call 26; (with_reducible refine (spec_l01Next.calls g s0_0 s0_1 s0_2 (y710.length : Int) t713 t714 t715 w0 _ ?side1 ?side2 A3.out).mono ?_); (case side1 => repeat (first | (with_reducible first | exact HI0.out | apply IsS77.alloc | apply IsS77.drewN | apply IsS77.drew | apply IsS77.set_1 | apply IsS77.set_2) | exact HI0.out)); (case side2 => repeat (first | (with_reducible first | exact HB.out | apply below_alloc | apply pw_below_drewN | apply below_drew1 | refine below_set ?_ (IsS77.ge HI0.out)) | exact HB.out)); rintro e w10 ⟨rfl, hi, hb, hk⟩; have n0_ := as0 (Kd.R_mono (Kd.R_keep (IsS77.apart (show IsS77 w0 _ g s0_0 s0_1 s0_2 from by repeat (first | (with_reducible first | exact HI0.out | apply IsS77.alloc | apply IsS77.drewN | apply IsS77.drew | apply IsS77.set_1 | apply IsS77.set_2) | exact HI0.out)) (rs HO712) (by decide)) hk (fun _ h => h.2)) (fun _ h => h.1)); have n1_ := as0 (KeepBut.trans (by repeat (first | (with_reducible first | exact HK.out | apply KeepBut.set_ | apply keep_drewN | apply keep_drew | apply keep_alloc) | exact HK.out)) hk (.inl rfl)); have n2_ := as0 (hb); have n3_ := as0 (hi); clear HO712; clear HK; clear HB; clear HI0; have HO712 := n0_; have HK := n1_; have HB := n2_; have HI0 := n3_; clear n0_ n1_ n2_ n3_; (try clear hb); (try clear hb2); (try clear hk); (try clear hi); have p716 : 0 ≤ (t713 : Int) := oa_; have q716 : t713 < (y710.length : Int) := oa_; obtain ⟨ad716, e716, hx716_0⟩ := Kd.at_string (Kd.R_reads' HO712.out).2.2 t713 p716 q716; cases e716; replace p716 := eq_true p716; replace q716 := eq_true q716)); try go_wp2_with (first | ((with_reducible refine gate_dst (N := 8) rfl ?_); refine Kd.R_lit Kd.string _ 9 ?hg (N := 8) ?hd (xs := ([(⟨#[48]⟩ : ByteArray), (⟨#[49]⟩ : ByteArray), (⟨#[50]⟩ : ByteArray), (⟨#[57]⟩ : ByteArray), (⟨#[44]⟩ : ByteArray), (⟨#[45]⟩ : ByteArray), (⟨#[32]⟩ : ByteArray), (⟨#[59]⟩ : ByteArray), (⟨#[120]⟩ : ByteArray), (⟨#[10]⟩ : ByteArray)] : List ByteArray)) (inner := [.string (⟨#[48]⟩ : ByteArray), .string (⟨#[49]⟩ : ByteArray), .string (⟨#[50]⟩ : ByteArray), .string (⟨#[57]⟩ : ByteArray), .string (⟨#[44]⟩ : ByteArray), .string (⟨#[45]⟩ : ByteArray), .string (⟨#[32]⟩ : ByteArray), .string (⟨#[59]⟩ : ByteArray), .string (⟨#[120]⟩ : ByteArray), .string (⟨#[10]⟩ : ByteArray)]) (ok := fun _ => True) (okp := fun _ => True) ?hr ?hp (fun _ hk => hk) trivial (Below.refl _ _) (Nat.le_refl _) (by simp) ?_; (case hd => rfl); (case hg => rfl); (case hr => first | (go_simp; done) | (go_simp; rfl)); (case hp => exact (Reps.one (show Kd.M Kd.string _ _ _ (⟨#[48]⟩ : ByteArray) [.string (⟨#[48]⟩ : ByteArray)] from rfl) (Reps.one (show Kd.M Kd.string _ _ _ (⟨#[49]⟩ : ByteArray) [.string (⟨#[49]⟩ : ByteArray)] from rfl) (Reps.one (show Kd.M Kd.string _ _ _ (⟨#[50]⟩ : ByteArray) [.string (⟨#[50]⟩ : ByteArray)] from rfl) (Reps.one (show Kd.M Kd.string _ _ _ (⟨#[57]⟩ : ByteArray) [.string (⟨#[57]⟩ : ByteArray)] from rfl) (Reps.one (show Kd.M Kd.string _ _ _ (⟨#[44]⟩ : ByteArray) [.string (⟨#[44]⟩ : ByteArray)] from rfl) (Reps.one (show Kd.M Kd.string _ _ _ (⟨#[45]⟩ : ByteArray) [.string (⟨#[45]⟩ : ByteArray)] from rfl) (Reps.one (show Kd.M Kd.string _ _ _ (⟨#[32]⟩ : ByteArray) [.string (⟨#[32]⟩ : ByteArray)] from rfl) (Reps.one (show Kd.M Kd.string _ _ _ (⟨#[59]⟩ : ByteArray) [.string (⟨#[59]⟩ : ByteArray)] from rfl) (Reps.one (show Kd.M Kd.string _ _ _ (⟨#[120]⟩ : ByteArray) [.string (⟨#[120]⟩ : ByteArray)] from rfl) (Reps.one (show Kd.M Kd.string _ _ _ (⟨#[10]⟩ : ByteArray) [.string (⟨#[10]⟩ : ByteArray)] from rfl) (Reps.none _ _)))))))))))); intro v711 w7 ho8 hb hg_ hnew_; clear hg_ hnew_; (first | rw [← Ny710.out] at ho8 | (simp only [Int.reduceToNat] at ho8; rw [← Ny710.out] at ho8)); have n0_ := as0 (Kd.R_lower ho8 (keep_size (w := w) (g := g) (row := none) (by repeat (first | (with_reducible first | exact HK.out | apply KeepBut.set_ | apply keep_drewN | apply keep_drew | apply keep_alloc) | exact HK.out)))); have n1_ := as0 (IsS77.below (by repeat (first | (with_reducible first | exact HI0.out | apply IsS77.alloc | apply IsS77.drewN | apply IsS77.drew | apply IsS77.set_1 | apply IsS77.set_2) | exact HI0.out)) hb); have n2_ := as0 (KeepBut.trans (by repeat (first | (with_reducible first | exact HK.out | apply KeepBut.set_ | apply keep_drewN | apply keep_drew | apply keep_alloc) | exact HK.out)) (KeepBut.of_below hb g none) (.inl rfl)); have n3_ := as0 (below_step (by repeat (first | (with_reducible first | exact HB.out | apply below_alloc | apply pw_below_drewN | apply below_drew1 | refine below_set ?_ (IsS77.ge HI0.out)) | exact HB.out)) hb); clear HI0; clear HK; clear HB; have HO712 := n0_; have HI0 := n1_; have HK := n2_; have HB := n3_; clear n0_ n1_ n2_ n3_; clear hb ho8; obtain ⟨Ao9, co9, eo9⟩ := Kd.R_slice HO712.out; subst eo9) | (go_at_call 26; (with_reducible refine (spec_l01Next.calls g s0_0 s0_1 s0_2 (y710.length : Int) t713 t714 t715 w0 _ ?side1 ?side2 A3.out).mono ?_); (case side1 => repeat (first | (with_reducible first | exact HI0.out | apply IsS77.alloc | apply IsS77.drewN | apply IsS77.drew | apply IsS77.set_1 | apply IsS77.set_2) | exact HI0.out)); (case side2 => repeat (first | (with_reducible first | exact HB.out | apply below_alloc | apply pw_below_drewN | apply below_drew1 | refine below_set ?_ (IsS77.ge HI0.out)) | exact HB.out)); rintro e w10 ⟨rfl, hi, hb, hk⟩; have n0_ := as0 (Kd.R_mono (Kd.R_keep (IsS77.apart (show IsS77 w0 _ g s0_0 s0_1 s0_2 from by repeat (first | (with_reducible first | exact HI0.out | apply IsS77.alloc | apply IsS77.drewN | apply IsS77.drew | apply IsS77.set_1 | apply IsS77.set_2) | exact HI0.out)) (rs HO712) (by decide)) hk (fun _ h => h.2)) (fun _ h => h.1)); have n1_ := as0 (KeepBut.trans (by repeat (first | (with_reducible first | exact HK.out | apply KeepBut.set_ | apply keep_drewN | apply keep_drew | apply keep_alloc) | exact HK.out)) hk (.inl rfl)); have n2_ := as0 (hb); have n3_ := as0 (hi); clear HO712; clear HK; clear HB; clear HI0; have HO712 := n0_; have HK := n1_; have HB := n2_; have HI0 := n3_; clear n0_ n1_ n2_ n3_; (try clear hb); (try clear hb2); (try clear hk); (try clear hi); have p716 : 0 ≤ (t713 : Int) := oa_; have q716 : t713 < (y710.length : Int) := oa_; obtain ⟨ad716, e716, hx716_0⟩ := Kd.at_string (Kd.R_reads' HO712.out).2.2 t713 p716 q716; cases e716; replace p716 := eq_true p716; replace q716 := eq_true q716)))
    go_ret
    exact ⟨er_, by repeat (first | (with_reducible first | exact HI0.out | apply IsS77.alloc | apply IsS77.drewN | apply IsS77.drew | apply IsS77.set_1 | apply IsS77.set_2) | exact HI0.out), by repeat (first | (with_reducible first | exact HB.out | apply below_alloc | apply pw_below_drewN | apply below_drew1 | refine below_set ?_ (IsS77.ge HI0.out)) | exact HB.out), by repeat (first | (with_reducible first | exact HK.out | apply KeepBut.set_ | apply keep_drewN | apply keep_drew | apply keep_alloc) | exact HK.out)⟩
   ·
    rw [if_neg c6] at H
    have c6b0 : ((a1.size : Int) == 0) = false := beq_eq_false_iff_ne.mpr c6
    have c6b1 : ((a1.size : Int) != 0) = true := bne_iff_ne.mpr c6
    replace H := Option.bind_eq_some_iff.mp H
    obtain ⟨⟨t717, t718, t719⟩, A110, H⟩ := H
    have A11 := as0 A110
    clear A110
    replace H := Option.bind_eq_some_iff.mp H
    obtain ⟨⟨t720, t721, t722⟩, A120, H⟩ := H
    have A12 := as0 A120
    clear A120
    by_cases c13 : t720 = 0
    ·
     rw [if_pos c13] at H
     have c13b0 : (t720 == 0) = true := beq_iff_eq.mpr c13
     have c13b1 : (t720 != 0) = false := bne_eq_false_iff_eq.mpr c13
     clear c13
     by_cases c14 : 0 ≤ t717
     ·
      rw [if_pos c14] at H
      have c14b0 := eq_true c14
      have c14b1 : decide (0 ≤ t717) = true := decide_eq_true c14
      clear c14
      by_cases c15 : t717 ≤ (a1.size : Int)
      ·
       rw [if_pos c15] at H
       have c15b0 := eq_true c15
       have c15b1 : decide (t717 ≤ (a1.size : Int)) = true := decide_eq_true c15
       clear c15
       by_cases c16 : (a1.extract 0 (t717 : Int).toNat).size + (rdOf ByteArray.empty y710 t713).size ≤ 9223372036854775807
       ·
        rw [if_pos c16] at H
        have c16b0 := eq_true c16
        have c16b1 : decide ((a1.extract 0 (t717 : Int).toNat).size + (rdOf ByteArray.empty y710 t713).size ≤ 9223372036854775807) = true := decide_eq_true c16
        try have c16b2 : (9223372036854775807 < (a1.extract 0 (t717 : Int).toNat).size + (rdOf ByteArray.empty y710 t713).size) = False := eq_false (Nat.not_lt.2 c16)
        obtain ⟨ji17, hji17⟩ : ∃ j_ : Int, (wrap64 (t717 + 1)) = j_ := ⟨_, rfl⟩
        replace H : (if 0 ≤ (ji17) then (if (ji17) ≤ (a1.size : Int) then (if ((a1.extract 0 (t717 : Int).toNat) ++ (rdOf ByteArray.empty y710 t713)).size + (a1.extract ((ji17) : Int).toNat a1.size).size ≤ 9223372036854775807 then (some (((a1.extract 0 (t717 : Int).toNat) ++ (rdOf ByteArray.empty y710 t713)) ++ (a1.extract ((ji17) : Int).toNat a1.size), t721, t722)) else (none)) else (none)) else (none)) = some (r1, r2, r3) := by first | (rw [hji17] at H; exact H) | (simp only [hji17] at H ⊢; exact H)
        (try rw [hji17] at A3)
        (try rw [hji17] at A11)
        (try rw [hji17] at A12)
        have hji17w : (IntKind.i64.wrap (t717 + 1)) = ji17 := (i64_w _).trans hji17
        by_cases c18 : 0 ≤ (ji17)
        ·
         rw [if_pos c18] at H
         have c18b0 := eq_true c18
         have c18b1 : decide (0 ≤ (ji17)) = true := decide_eq_true c18
         clear c18
         by_cases c19 : (ji17) ≤ (a1.size : Int)
         ·
          rw [if_pos c19] at H
          have c19b0 := eq_true c19
          have c19b1 : decide ((ji17) ≤ (a1.size : Int)) = true := decide_eq_true c19
          clear c19
          by_cases c20 : ((a1.extract 0 (t717 : Int).toNat) ++ (rdOf ByteArray.empty y710 t713)).size + (a1.extract ((ji17) : Int).toNat a1.size).size ≤ 9223372036854775807
          ·
           rw [if_pos c20] at H
           have c20b0 := eq_true c20
           have c20b1 : decide (((a1.extract 0 (t717 : Int).toNat) ++ (rdOf ByteArray.empty y710 t713)).size + (a1.extract ((ji17) : Int).toNat a1.size).size ≤ 9223372036854775807) = true := decide_eq_true c20
           try have c20b2 : (9223372036854775807 < ((a1.extract 0 (t717 : Int).toNat) ++ (rdOf ByteArray.empty y710 t713)).size + (a1.extract ((ji17) : Int).toNat a1.size).size) = False := eq_false (Nat.not_lt.2 c20)
           simp only [Option.some.injEq, Prod.mk.injEq] at H
           obtain ⟨rfl, rfl, rfl⟩ := H
           go_enter Tryz.func56, Tryz.ntmps56
           go_wp2_with (first | ((with_reducible refine gate_dst (N := 8) rfl ?_); refine Kd.R_lit Kd.string _ 9 ?hg (N := 8) ?hd (xs := ([(⟨#[48]⟩ : ByteArray), (⟨#[49]⟩ : ByteArray), (⟨#[50]⟩ : ByteArray), (⟨#[57]⟩ : ByteArray), (⟨#[44]⟩ : ByteArray), (⟨#[45]⟩ : ByteArray), (⟨#[32]⟩ : ByteArray), (⟨#[59]⟩ : ByteArray), (⟨#[120]⟩ : ByteArray), (⟨#[10]⟩ : ByteArray)] : List ByteArray)) (inner := [.string (⟨#[48]⟩ : ByteArray), .string (⟨#[49]⟩ : ByteArray), .string (⟨#[50]⟩ : ByteArray), .string (⟨#[57]⟩ : ByteArray), .string (⟨#[44]⟩ : ByteArray), .string (⟨#[45]⟩ : ByteArray), .string (⟨#[32]⟩ : ByteArray), .string (⟨#[59]⟩ : ByteArray), .string (⟨#[120]⟩ : ByteArray), .string (⟨#[10]⟩ : ByteArray)]) (ok := fun _ => True) (okp := fun _ => True) ?hr ?hp (fun _ hk => hk) trivial (Below.refl _ _) (Nat.le_refl _) (by simp) ?_; (case hd => rfl); (case hg => rfl); (case hr => first | (go_simp; done) | (go_simp; rfl)); (case hp => exact (Reps.one (show Kd.M Kd.string _ _ _ (⟨#[48]⟩ : ByteArray) [.string (⟨#[48]⟩ : ByteArray)] from rfl) (Reps.one (show Kd.M Kd.string _ _ _ (⟨#[49]⟩ : ByteArray) [.string (⟨#[49]⟩ : ByteArray)] from rfl) (Reps.one (show Kd.M Kd.string _ _ _ (⟨#[50]⟩ : ByteArray) [.string (⟨#[50]⟩ : ByteArray)] from rfl) (Reps.one (show Kd.M Kd.string _ _ _ (⟨#[57]⟩ : ByteArray) [.string (⟨#[57]⟩ : ByteArray)] from rfl) (Reps.one (show Kd.M Kd.string _ _ _ (⟨#[44]⟩ : ByteArray) [.string (⟨#[44]⟩ : ByteArray)] from rfl) (Reps.one (show Kd.M Kd.string _ _ _ (⟨#[45]⟩ : ByteArray) [.string (⟨#[45]⟩ : ByteArray)] from rfl) (Reps.one (show Kd.M Kd.string _ _ _ (⟨#[32]⟩ : ByteArray) [.string (⟨#[32]⟩ : ByteArray)] from rfl) (Reps.one (show Kd.M Kd.string _ _ _ (⟨#[59]⟩ : ByteArray) [.string (⟨#[59]⟩ : ByteArray)] from rfl) (Reps.one (show Kd.M Kd.string _ _ _ (⟨#[120]⟩ : ByteArray) [.string (⟨#[120]⟩ : ByteArray)] from rfl) (Reps.one (show Kd.M Kd.string _ _ _ (⟨#[10]⟩ : ByteArray) [.string (⟨#[10]⟩ : ByteArray)] from rfl) (Reps.none _ _)))))))))))); intro v711 w21 ho22 hb hg_ hnew_; clear hg_ hnew_; (first | rw [← Ny710.out] at ho22 | (simp only [Int.reduceToNat] at ho22; rw [← Ny710.out] at ho22)); have n0_ := as0 (Kd.R_lower ho22 (keep_size (w := w) (g := g) (row := none) (by repeat (first | (with_reducible first | exact HK.out | apply KeepBut.set_ | apply keep_drewN | apply keep_drew | apply keep_alloc) | exact HK.out)))); have n1_ := as0 (IsS77.below (by repeat (first | (with_reducible first | exact HI0.out | apply IsS77.alloc | apply IsS77.drewN | apply IsS77.drew | apply IsS77.set_1 | apply IsS77.set_2) | exact HI0.out)) hb); have n2_ := as0 (KeepBut.trans (by repeat (first | (with_reducible first | exact HK.out | apply KeepBut.set_ | apply keep_drewN | apply keep_drew | apply keep_alloc) | exact HK.out)) (KeepBut.of_below hb g none) (.inl rfl)); have n3_ := as0 (below_step (by repeat (first | (with_reducible first | exact HB.out | apply below_alloc | apply pw_below_drewN | apply below_drew1 | refine below_set ?_ (IsS77.ge HI0.out)) | exact HB.out)) hb); clear HI0; clear HK; clear HB; have HO712 := n0_; have HI0 := n1_; have HK := n2_; have HB := n3_; clear n0_ n1_ n2_ n3_; clear hb ho22; obtain ⟨Ao23, co23, eo23⟩ := Kd.R_slice HO712.out; subst eo23) | (go_at_call 26; (with_reducible refine (spec_l01Next.calls g s0_0 s0_1 s0_2 (y710.length : Int) t713 t714 t715 w0 _ ?side1 ?side2 A3.out).mono ?_); (case side1 => repeat (first | (with_reducible first | exact HI0.out | apply IsS77.alloc | apply IsS77.drewN | apply IsS77.drew | apply IsS77.set_1 | apply IsS77.set_2) | exact HI0.out)); (case side2 => repeat (first | (with_reducible first | exact HB.out | apply below_alloc | apply pw_below_drewN | apply below_drew1 | refine below_set ?_ (IsS77.ge HI0.out)) | exact HB.out)); rintro e w24 ⟨rfl, hi, hb, hk⟩; have n0_ := as0 (Kd.R_mono (Kd.R_keep (IsS77.apart (show IsS77 w0 _ g s0_0 s0_1 s0_2 from by repeat (first | (with_reducible first | exact HI0.out | apply IsS77.alloc | apply IsS77.drewN | apply IsS77.drew | apply IsS77.set_1 | apply IsS77.set_2) | exact HI0.out)) (rs HO712) (by decide)) hk (fun _ h => h.2)) (fun _ h => h.1)); have n1_ := as0 (KeepBut.trans (by repeat (first | (with_reducible first | exact HK.out | apply KeepBut.set_ | apply keep_drewN | apply keep_drew | apply keep_alloc) | exact HK.out)) hk (.inl rfl)); have n2_ := as0 (hb); have n3_ := as0 (hi); clear HO712; clear HK; clear HB; clear HI0; have HO712 := n0_; have HK := n1_; have HB := n2_; have HI0 := n3_; clear n0_ n1_ n2_ n3_; (try clear hb); (try clear hb2); (try clear hk); (try clear hi); have p716 : 0 ≤ (t713 : Int) := oa_; have q716 : t713 < (y710.length : Int) := oa_; obtain ⟨ad716, e716, hx716_0⟩ := Kd.at_string (Kd.R_reads' HO712.out).2.2 t713 p716 q716; cases e716; replace p716 := eq_true p716; replace q716 := eq_true q716) | (go_at_call 26; (with_reducible refine (spec_l01Next.calls g s0_0 t714 t715 (a1.size : Int) t717 t718 t719 w0 _ ?side1 ?side2 A11.out).mono ?_); (case side1 => repeat (first | (with_reducible first | exact HI0.out | apply IsS77.alloc | apply IsS77.drewN | apply IsS77.drew | apply IsS77.set_1 | apply IsS77.set_2) | exact HI0.out)); (case side2 => repeat (first | (with_reducible first | exact HB.out | apply below_alloc | apply pw_below_drewN | apply below_drew1 | refine below_set ?_ (IsS77.ge HI0.out)) | exact HB.out)); rintro e w25 ⟨rfl, hi, hb, hk⟩; have n0_ := as0 (Kd.R_mono (Kd.R_keep (IsS77.apart (show IsS77 w0 _ g s0_0 t714 t715 from by repeat (first | (with_reducible first | exact HI0.out | apply IsS77.alloc | apply IsS77.drewN | apply IsS77.drew | apply IsS77.set_1 | apply IsS77.set_2) | exact HI0.out)) (rs HO712) (by decide)) hk (fun _ h => h.2)) (fun _ h => h.1)); have n1_ := as0 (KeepBut.trans (by repeat (first | (with_reducible first | exact HK.out | apply KeepBut.set_ | apply keep_drewN | apply keep_drew | apply keep_alloc) | exact HK.out)) hk (.inl rfl)); have n2_ := as0 (hb); have n3_ := as0 (hi); clear HO712; clear HK; clear HB; clear HI0; have HO712 := n0_; have HK := n1_; have HB := n2_; have HI0 := n3_; clear n0_ n1_ n2_ n3_; (try clear hb); (try clear hb2); (try clear hk); (try clear hi)) | (go_at_call 26; (with_reducible refine (spec_l01Next.calls g s0_0 t718 t719 3 t720 t721 t722 w0 _ ?side1 ?side2 A12.out).mono ?_); (case side1 => repeat (first | (with_reducible first | exact HI0.out | apply IsS77.alloc | apply IsS77.drewN | apply IsS77.drew | apply IsS77.set_1 | apply IsS77.set_2) | exact HI0.out)); (case side2 => repeat (first | (with_reducible first | exact HB.out | apply below_alloc | apply pw_below_drewN | apply below_drew1 | refine below_set ?_ (IsS77.ge HI0.out)) | exact HB.out)); rintro e w26 ⟨rfl, hi, hb, hk⟩; have n0_ := as0 (Kd.R_mono (Kd.R_keep (IsS77.apart (show IsS77 w0 _ g s0_0 t718 t719 from by repeat (first | (with_reducible first | exact HI0.out | apply IsS77.alloc | apply IsS77.drewN | apply IsS77.drew | apply IsS77.set_1 | apply IsS77.set_2) | exact HI0.out)) (rs HO712) (by decide)) hk (fun _ h => h.2)) (fun _ h => h.1)); have n1_ := as0 (KeepBut.trans (by repeat (first | (with_reducible first | exact HK.out | apply KeepBut.set_ | apply keep_drewN | apply keep_drew | apply keep_alloc) | exact HK.out)) hk (.inl rfl)); have n2_ := as0 (hb); have n3_ := as0 (hi); clear HO712; clear HK; clear HB; clear HI0; have HO712 := n0_; have HK := n1_; have HB := n2_; have HI0 := n3_; clear n0_ n1_ n2_ n3_; (try clear hb); (try clear hb2); (try clear hk); (try clear hi)))
           repeat (go_quiet (first | ((with_reducible refine gate_dst (N := 8) rfl ?_); refine Kd.R_lit Kd.string _ 9 ?hg (N := 8) ?hd (xs := ([(⟨#[48]⟩ : ByteArray), (⟨#[49]⟩ : ByteArray), (⟨#[50]⟩ : ByteArray), (⟨#[57]⟩ : ByteArray), (⟨#[44]⟩ : ByteArray), (⟨#[45]⟩ : ByteArray), (⟨#[32]⟩ : ByteArray), (⟨#[59]⟩ : ByteArray), (⟨#[120]⟩ : ByteArray), (⟨#[10]⟩ : ByteArray)] : List ByteArray)) (inner := [.string (⟨#[48]⟩ : ByteArray), .string (⟨#[49]⟩ : ByteArray), .string (⟨#[50]⟩ : ByteArray), .string (⟨#[57]⟩ : ByteArray), .string (⟨#[44]⟩ : ByteArray), .string (⟨#[45]⟩ : ByteArray), .string (⟨#[32]⟩ : ByteArray), .string (⟨#[59]⟩ : ByteArray), .string (⟨#[120]⟩ : ByteArray), .string (⟨#[10]⟩ : ByteArray)]) (ok := fun _ => True) (okp := fun _ => True) ?hr ?hp (fun _ hk => hk) trivial (Below.refl _ _) (Nat.le_refl _) (by simp) ?_; (case hd => rfl); (case hg => rfl); (case hr => first | (go_simp; done) | (go_simp; rfl)); (case hp => exact (Reps.one (show Kd.M Kd.string _ _ _ (⟨#[48]⟩ : ByteArray) [.string (⟨#[48]⟩ : ByteArray)] from rfl) (Reps.one (show Kd.M Kd.string _ _ _ (⟨#[49]⟩ : ByteArray) [.string (⟨#[49]⟩ : ByteArray)] from rfl) (Reps.one (show Kd.M Kd.string _ _ _ (⟨#[50]⟩ : ByteArray) [.string (⟨#[50]⟩ : ByteArray)] from rfl) (Reps.one (show Kd.M Kd.string _ _ _ (⟨#[57]⟩ : ByteArray) [.string (⟨#[57]⟩ : ByteArray)] from rfl) (Reps.one (show Kd.M Kd.string _ _ _ (⟨#[44]⟩ : ByteArray) [.string (⟨#[44]⟩ : ByteArray)] from rfl) (Reps.one (show Kd.M Kd.string _ _ _ (⟨#[45]⟩ : ByteArray) [.string (⟨#[45]⟩ : ByteArray)] from rfl) (Reps.one (show Kd.M Kd.string _ _ _ (⟨#[32]⟩ : ByteArray) [.string (⟨#[32]⟩ : ByteArray)] from rfl) (Reps.one (show Kd.M Kd.string _ _ _ (⟨#[59]⟩ : ByteArray) [.string (⟨#[59]⟩ : ByteArray)] from rfl) (Reps.one (show Kd.M Kd.string _ _ _ (⟨#[120]⟩ : ByteArray) [.string (⟨#[120]⟩ : ByteArray)] from rfl) (Reps.one (show Kd.M Kd.string _ _ _ (⟨#[10]⟩ : ByteArray) [.string (⟨#[10]⟩ : ByteArray)] from rfl) (Reps.none _ _)))))))))))); intro v711 w21 ho22 hb hg_ hnew_; clear hg_ hnew_; (first | rw [← Ny710.out] at ho22 | (simp only [Int.reduceToNat] at ho22; rw [← Ny710.out] at ho22)); have n0_ := as0 (Kd.R_lower ho22 (keep_size (w := w) (g := g) (row := none) (by repeat (first | (with_reducible first | exact HK.out | apply KeepBut.set_ | apply keep_drewN | apply keep_drew | apply keep_alloc) | exact HK.out)))); have n1_ := as0 (IsS77.below (by repeat (first | (with_reducible first | exact HI0.out | apply IsS77.alloc | apply IsS77.drewN | apply IsS77.drew | apply IsS77.set_1 | apply IsS77.set_2) | exact HI0.out)) hb); have n2_ := as0 (KeepBut.trans (by repeat (first | (with_reducible first | exact HK.out | apply KeepBut.set_ | apply keep_drewN | apply keep_drew | apply keep_alloc) | exact HK.out)) (KeepBut.of_below hb g none) (.inl rfl)); have n3_ := as0 (below_step (by repeat (first | (with_reducible first | exact HB.out | apply below_alloc | apply pw_below_drewN | apply below_drew1 | refine below_set ?_ (IsS77.ge HI0.out)) | exact HB.out)) hb); clear HI0; clear HK; clear HB; have HO712 := n0_; have HI0 := n1_; have HK := n2_; have HB := n3_; clear n0_ n1_ n2_ n3_; clear hb ho22; obtain ⟨Ao23, co23, eo23⟩ := Kd.R_slice HO712.out; subst eo23) | (go_at_call 26; (with_reducible refine (spec_l01Next.calls g s0_0 s0_1 s0_2 (y710.length : Int) t713 t714 t715 w0 _ ?side1 ?side2 A3.out).mono ?_); (case side1 => repeat (first | (with_reducible first | exact HI0.out | apply IsS77.alloc | apply IsS77.drewN | apply IsS77.drew | apply IsS77.set_1 | apply IsS77.set_2) | exact HI0.out)); (case side2 => repeat (first | (with_reducible first | exact HB.out | apply below_alloc | apply pw_below_drewN | apply below_drew1 | refine below_set ?_ (IsS77.ge HI0.out)) | exact HB.out)); rintro e w24 ⟨rfl, hi, hb, hk⟩; have n0_ := as0 (Kd.R_mono (Kd.R_keep (IsS77.apart (show IsS77 w0 _ g s0_0 s0_1 s0_2 from by repeat (first | (with_reducible first | exact HI0.out | apply IsS77.alloc | apply IsS77.drewN | apply IsS77.drew | apply IsS77.set_1 | apply IsS77.set_2) | exact HI0.out)) (rs HO712) (by decide)) hk (fun _ h => h.2)) (fun _ h => h.1)); have n1_ := as0 (KeepBut.trans (by repeat (first | (with_reducible first | exact HK.out | apply KeepBut.set_ | apply keep_drewN | apply keep_drew | apply keep_alloc) | exact HK.out)) hk (.inl rfl)); have n2_ := as0 (hb); have n3_ := as0 (hi); clear HO712; clear HK; clear HB; clear HI0; have HO712 := n0_; have HK := n1_; have HB := n2_; have HI0 := n3_; clear n0_ n1_ n2_ n3_; (try clear hb); (try clear hb2); (try clear hk); (try clear hi); have p716 : 0 ≤ (t713 : Int) := oa_; have q716 : t713 < (y710.length : Int) := oa_; obtain ⟨ad716, e716, hx716_0⟩ := Kd.at_string (Kd.R_reads' HO712.out).2.2 t713 p716 q716; cases e716; replace p716 := eq_true p716; replace q716 := eq_true q716) | (go_at_call 26; (with_reducible refine (spec_l01Next.calls g s0_0 t714 t715 (a1.size : Int) t717 t718 t719 w0 _ ?side1 ?side2 A11.out).mono ?_); (case side1 => repeat (first | (with_reducible first | exact HI0.out | apply IsS77.alloc | apply IsS77.drewN | apply IsS77.drew | apply IsS77.set_1 | apply IsS77.set_2) | exact HI0.out)); (case side2 => repeat (first | (with_reducible first | exact HB.out | apply below_alloc | apply pw_below_drewN | apply below_drew1 | refine below_set ?_ (IsS77.ge HI0.out)) | exact HB.out)); rintro e w25 ⟨rfl, hi, hb, hk⟩; have n0_ := as0 (Kd.R_mono (Kd.R_keep (IsS77.apart (show IsS77 w0 _ g s0_0 t714 t715 from by repeat (first | (with_reducible first | exact HI0.out | apply IsS77.alloc | apply IsS77.drewN | apply IsS77.drew | apply IsS77.set_1 | apply IsS77.set_2) | exact HI0.out)) (rs HO712) (by decide)) hk (fun _ h => h.2)) (fun _ h => h.1)); have n1_ := as0 (KeepBut.trans (by repeat (first | (with_reducible first | exact HK.out | apply KeepBut.set_ | apply keep_drewN | apply keep_drew | apply keep_alloc) | exact HK.out)) hk (.inl rfl)); have n2_ := as0 (hb); have n3_ := as0 (hi); clear HO712; clear HK; clear HB; clear HI0; have HO712 := n0_; have HK := n1_; have HB := n2_; have HI0 := n3_; clear n0_ n1_ n2_ n3_; (try clear hb); (try clear hb2); (try clear hk); (try clear hi)) | (go_at_call 26; (with_reducible refine (spec_l01Next.calls g s0_0 t718 t719 3 t720 t721 t722 w0 _ ?side1 ?side2 A12.out).mono ?_); (case side1 => repeat (first | (with_reducible first | exact HI0.out | apply IsS77.alloc | apply IsS77.drewN | apply IsS77.drew | apply IsS77.set_1 | apply IsS77.set_2) | exact HI0.out)); (case side2 => repeat (first | (with_reducible first | exact HB.out | apply below_alloc | apply pw_below_drewN | apply below_drew1 | refine below_set ?_ (IsS77.ge HI0.out)) | exact HB.out)); rintro e w26 ⟨rfl, hi, hb, hk⟩; have n0_ := as0 (Kd.R_mono (Kd.R_keep (IsS77.apart (show IsS77 w0 _ g s0_0 t718 t719 from by repeat (first | (with_reducible first | exact HI0.out | apply IsS77.alloc | apply IsS77.drewN | apply IsS77.drew | apply IsS77.set_1 | apply IsS77.set_2) | exact HI0.out)) (rs HO712) (by decide)) hk (fun _ h => h.2)) (fun _ h => h.1)); have n1_ := as0 (KeepBut.trans (by repeat (first | (with_reducible first | exact HK.out | apply KeepBut.set_ | apply keep_drewN | apply keep_drew | apply keep_alloc) | exact HK.out)) hk (.inl rfl)); have n2_ := as0 (hb); have n3_ := as0 (hi); clear HO712; clear HK; clear HB; clear HI0; have HO712 := n0_; have HK := n1_; have HB := n2_; have HI0 := n3_; clear n0_ n1_ n2_ n3_; (try clear hb); (try clear hb2); (try clear hk); (try clear hi))); try go_wp2_with (first | ((with_reducible refine gate_dst (N := 8) rfl ?_); refine Kd.R_lit Kd.string _ 9 ?hg (N := 8) ?hd (xs := ([(⟨#[48]⟩ : ByteArray), (⟨#[49]⟩ : ByteArray), (⟨#[50]⟩ : ByteArray), (⟨#[57]⟩ : ByteArray), (⟨#[44]⟩ : ByteArray), (⟨#[45]⟩ : ByteArray), (⟨#[32]⟩ : ByteArray), (⟨#[59]⟩ : ByteArray), (⟨#[120]⟩ : ByteArray), (⟨#[10]⟩ : ByteArray)] : List ByteArray)) (inner := [.string (⟨#[48]⟩ : ByteArray), .string (⟨#[49]⟩ : ByteArray), .string (⟨#[50]⟩ : ByteArray), .string (⟨#[57]⟩ : ByteArray), .string (⟨#[44]⟩ : ByteArray), .string (⟨#[45]⟩ : ByteArray), .string (⟨#[32]⟩ : ByteArray), .string (⟨#[59]⟩ : ByteArray), .string (⟨#[120]⟩ : ByteArray), .string (⟨#[10]⟩ : ByteArray)]) (ok := fun _ => True) (okp := fun _ => True) ?hr ?hp (fun _ hk => hk) trivial (Below.refl _ _) (Nat.le_refl _) (by simp) ?_; (case hd => rfl); (case hg => rfl); (case hr => first | (go_simp; done) | (go_simp; rfl)); (case hp => exact (Reps.one (show Kd.M Kd.string _ _ _ (⟨#[48]⟩ : ByteArray) [.string (⟨#[48]⟩ : ByteArray)] from rfl) (Reps.one (show Kd.M Kd.string _ _ _ (⟨#[49]⟩ : ByteArray) [.string (⟨#[49]⟩ : ByteArray)] from rfl) (Reps.one (show Kd.M Kd.string _ _ _ (⟨#[50]⟩ : ByteArray) [.string (⟨#[50]⟩ : ByteArray)] from rfl) (Reps.one (show Kd.M Kd.string _ _ _ (⟨#[57]⟩ : ByteArray) [.string (⟨#[57]⟩ : ByteArray)] from rfl) (Reps.one (show Kd.M Kd.string _ _ _ (⟨#[44]⟩ : ByteArray) [.string (⟨#[44]⟩ : ByteArray)] from rfl) (Reps.one (show Kd.M Kd.string _ _ _ (⟨#[45]⟩ : ByteArray) [.string (⟨#[45]⟩ : ByteArray)] from rfl) (Reps.one (show Kd.M Kd.string _ _ _ (⟨#[32]⟩ : ByteArray) [.string (⟨#[32]⟩ : ByteArray)] from rfl) (Reps.one (show Kd.M Kd.string _ _ _ (⟨#[59]⟩ : ByteArray) [.string (⟨#[59]⟩ : ByteArray)] from rfl) (Reps.one (show Kd.M Kd.string _ _ _ (⟨#[120]⟩ : ByteArray) [.string (⟨#[120]⟩ : ByteArray)] from rfl) (Reps.one (show Kd.M Kd.string _ _ _ (⟨#[10]⟩ : ByteArray) [.string (⟨#[10]⟩ : ByteArray)] from rfl) (Reps.none _ _)))))))))))); intro v711 w21 ho22 hb hg_ hnew_; clear hg_ hnew_; (first | rw [← Ny710.out] at ho22 | (simp only [Int.reduceToNat] at ho22; rw [← Ny710.out] at ho22)); have n0_ := as0 (Kd.R_lower ho22 (keep_size (w := w) (g := g) (row := none) (by repeat (first | (with_reducible first | exact HK.out | apply KeepBut.set_ | apply keep_drewN | apply keep_drew | apply keep_alloc) | exact HK.out)))); have n1_ := as0 (IsS77.below (by repeat (first | (with_reducible first | exact HI0.out | apply IsS77.alloc | apply IsS77.drewN | apply IsS77.drew | apply IsS77.set_1 | apply IsS77.set_2) | exact HI0.out)) hb); have n2_ := as0 (KeepBut.trans (by repeat (first | (with_reducible first | exact HK.out | apply KeepBut.set_ | apply keep_drewN | apply keep_drew | apply keep_alloc) | exact HK.out)) (KeepBut.of_below hb g none) (.inl rfl)); have n3_ := as0 (below_step (by repeat (first | (with_reducible first | exact HB.out | apply below_alloc | apply pw_below_drewN | apply below_drew1 | refine below_set ?_ (IsS77.ge HI0.out)) | exact HB.out)) hb); clear HI0; clear HK; clear HB; have HO712 := n0_; have HI0 := n1_; have HK := n2_; have HB := n3_; clear n0_ n1_ n2_ n3_; clear hb ho22; obtain ⟨Ao23, co23, eo23⟩ := Kd.R_slice HO712.out; subst eo23) | (go_at_call 26; (with_reducible refine (spec_l01Next.calls g s0_0 s0_1 s0_2 (y710.length : Int) t713 t714 t715 w0 _ ?side1 ?side2 A3.out).mono ?_); (case side1 => repeat (first | (with_reducible first | exact HI0.out | apply IsS77.alloc | apply IsS77.drewN | apply IsS77.drew | apply IsS77.set_1 | apply IsS77.set_2) | exact HI0.out)); (case side2 => repeat (first | (with_reducible first | exact HB.out | apply below_alloc | apply pw_below_drewN | apply below_drew1 | refine below_set ?_ (IsS77.ge HI0.out)) | exact HB.out)); rintro e w24 ⟨rfl, hi, hb, hk⟩; have n0_ := as0 (Kd.R_mono (Kd.R_keep (IsS77.apart (show IsS77 w0 _ g s0_0 s0_1 s0_2 from by repeat (first | (with_reducible first | exact HI0.out | apply IsS77.alloc | apply IsS77.drewN | apply IsS77.drew | apply IsS77.set_1 | apply IsS77.set_2) | exact HI0.out)) (rs HO712) (by decide)) hk (fun _ h => h.2)) (fun _ h => h.1)); have n1_ := as0 (KeepBut.trans (by repeat (first | (with_reducible first | exact HK.out | apply KeepBut.set_ | apply keep_drewN | apply keep_drew | apply keep_alloc) | exact HK.out)) hk (.inl rfl)); have n2_ := as0 (hb); have n3_ := as0 (hi); clear HO712; clear HK; clear HB; clear HI0; have HO712 := n0_; have HK := n1_; have HB := n2_; have HI0 := n3_; clear n0_ n1_ n2_ n3_; (try clear hb); (try clear hb2); (try clear hk); (try clear hi); have p716 : 0 ≤ (t713 : Int) := oa_; have q716 : t713 < (y710.length : Int) := oa_; obtain ⟨ad716, e716, hx716_0⟩ := Kd.at_string (Kd.R_reads' HO712.out).2.2 t713 p716 q716; cases e716; replace p716 := eq_true p716; replace q716 := eq_true q716) | (go_at_call 26; (with_reducible refine (spec_l01Next.calls g s0_0 t714 t715 (a1.size : Int) t717 t718 t719 w0 _ ?side1 ?side2 A11.out).mono ?_); (case side1 => repeat (first | (with_reducible first | exact HI0.out | apply IsS77.alloc | apply IsS77.drewN | apply IsS77.drew | apply IsS77.set_1 | apply IsS77.set_2) | exact HI0.out)); (case side2 => repeat (first | (with_reducible first | exact HB.out | apply below_alloc | apply pw_below_drewN | apply below_drew1 | refine below_set ?_ (IsS77.ge HI0.out)) | exact HB.out)); rintro e w25 ⟨rfl, hi, hb, hk⟩; have n0_ := as0 (Kd.R_mono (Kd.R_keep (IsS77.apart (show IsS77 w0 _ g s0_0 t714 t715 from by repeat (first | (with_reducible first | exact HI0.out | apply IsS77.alloc | apply IsS77.drewN | apply IsS77.drew | apply IsS77.set_1 | apply IsS77.set_2) | exact HI0.out)) (rs HO712) (by decide)) hk (fun _ h => h.2)) (fun _ h => h.1)); have n1_ := as0 (KeepBut.trans (by repeat (first | (with_reducible first | exact HK.out | apply KeepBut.set_ | apply keep_drewN | apply keep_drew | apply keep_alloc) | exact HK.out)) hk (.inl rfl)); have n2_ := as0 (hb); have n3_ := as0 (hi); clear HO712; clear HK; clear HB; clear HI0; have HO712 := n0_; have HK := n1_; have HB := n2_; have HI0 := n3_; clear n0_ n1_ n2_ n3_; (try clear hb); (try clear hb2); (try clear hk); (try clear hi)) | (go_at_call 26; (with_reducible refine (spec_l01Next.calls g s0_0 t718 t719 3 t720 t721 t722 w0 _ ?side1 ?side2 A12.out).mono ?_); (case side1 => repeat (first | (with_reducible first | exact HI0.out | apply IsS77.alloc | apply IsS77.drewN | apply IsS77.drew | apply IsS77.set_1 | apply IsS77.set_2) | exact HI0.out)); (case side2 => repeat (first | (with_reducible first | exact HB.out | apply below_alloc | apply pw_below_drewN | apply below_drew1 | refine below_set ?_ (IsS77.ge HI0.out)) | exact HB.out)); rintro e w26 ⟨rfl, hi, hb, hk⟩; have n0_ := as0 (Kd.R_mono (Kd.R_keep (IsS77.apart (show IsS77 w0 _ g s0_0 t718 t719 from by repeat (first | (with_reducible first | exact HI0.out | apply IsS77.alloc | apply IsS77.drewN | apply IsS77.drew | apply IsS77.set_1 | apply IsS77.set_2) | exact HI0.out)) (rs HO712) (by decide)) hk (fun _ h => h.2)) (fun _ h => h.1)); have n1_ := as0 (KeepBut.trans (by repeat (first | (with_reducible first | exact HK.out | apply KeepBut.set_ | apply keep_drewN | apply keep_drew | apply keep_alloc) | exact HK.out)) hk (.inl rfl)); have n2_ := as0 (hb); have n3_ := as0 (hi); clear HO712; clear HK; clear HB; clear HI0; have HO712 := n0_; have HK := n1_; have HB := n2_; have HI0 := n3_; clear n0_ n1_ n2_ n3_; (try clear hb); (try clear hb2); (try clear hk); (try clear hi))))
           go_ret
           exact ⟨by first | rfl | (simp [errW_none, errW_some] <;> rfl) | (simp only [← hji17]; first | rfl | (simp [errW_none, errW_some] <;> rfl)) | (simp [*, errW_none, errW_some] <;> rfl), by repeat (first | (with_reducible first | exact HI0.out | apply IsS77.alloc | apply IsS77.drewN | apply IsS77.drew | apply IsS77.set_1 | apply IsS77.set_2) | exact HI0.out), by repeat (first | (with_reducible first | exact HB.out | apply below_alloc | apply pw_below_drewN | apply below_drew1 | refine below_set ?_ (IsS77.ge HI0.out)) | exact HB.out), by repeat (first | (with_reducible first | exact HK.out | apply KeepBut.set_ | apply keep_drewN | apply keep_drew | apply keep_alloc) | exact HK.out)⟩
          ·
           rw [if_neg c20] at H
           exact absurd H (by simp)
         ·
          rw [if_neg c19] at H
          exact absurd H (by simp)
        ·
         rw [if_neg c18] at H
         exact absurd H (by simp)
       ·
        rw [if_neg c16] at H
        exact absurd H (by simp)
      ·
       rw [if_neg c15] at H
       exact absurd H (by simp)
     ·
      rw [if_neg c14] at H
      exact absurd H (by simp)
    ·
     rw [if_neg c13] at H
     have c13b0 : (t720 == 0) = false := beq_eq_false_iff_ne.mpr c13
     have c13b1 : (t720 != 0) = true := bne_iff_ne.mpr c13
     by_cases c27 : t720 = 1
     ·
      rw [if_pos c27] at H
      have c27b0 : (t720 == 1) = true := beq_iff_eq.mpr c27
      have c27b1 : (t720 != 1) = false := bne_eq_false_iff_eq.mpr c27
      clear c27
      by_cases c28 : 0 ≤ t717
      ·
       rw [if_pos c28] at H
       have c28b0 := eq_true c28
       have c28b1 : decide (0 ≤ t717) = true := decide_eq_true c28
       clear c28
       by_cases c29 : t717 ≤ (a1.size : Int)
       ·
        rw [if_pos c29] at H
        have c29b0 := eq_true c29
        have c29b1 : decide (t717 ≤ (a1.size : Int)) = true := decide_eq_true c29
        clear c29
        obtain ⟨ji30, hji30⟩ : ∃ j_ : Int, (wrap64 (t717 + 1)) = j_ := ⟨_, rfl⟩
        replace H : (if 0 ≤ (ji30) then (if (ji30) ≤ (a1.size : Int) then (if (a1.extract 0 (t717 : Int).toNat).size + (a1.extract ((ji30) : Int).toNat a1.size).size ≤ 9223372036854775807 then (some ((a1.extract 0 (t717 : Int).toNat) ++ (a1.extract ((ji30) : Int).toNat a1.size), t721, t722)) else (none)) else (none)) else (none)) = some (r1, r2, r3) := by first | (rw [hji30] at H; exact H) | (simp only [hji30] at H ⊢; exact H)
        (try rw [hji30] at A3)
        (try rw [hji30] at A11)
        (try rw [hji30] at A12)
        have hji30w : (IntKind.i64.wrap (t717 + 1)) = ji30 := (i64_w _).trans hji30
        by_cases c31 : 0 ≤ (ji30)
        ·
         rw [if_pos c31] at H
         have c31b0 := eq_true c31
         have c31b1 : decide (0 ≤ (ji30)) = true := decide_eq_true c31
         clear c31
         by_cases c32 : (ji30) ≤ (a1.size : Int)
         ·
          rw [if_pos c32] at H
          have c32b0 := eq_true c32
          have c32b1 : decide ((ji30) ≤ (a1.size : Int)) = true := decide_eq_true c32
          clear c32
          by_cases c33 : (a1.extract 0 (t717 : Int).toNat).size + (a1.extract ((ji30) : Int).toNat a1.size).size ≤ 9223372036854775807
          ·
           rw [if_pos c33] at H
           have c33b0 := eq_true c33
           have c33b1 : decide ((a1.extract 0 (t717 : Int).toNat).size + (a1.extract ((ji30) : Int).toNat a1.size).size ≤ 9223372036854775807) = true := decide_eq_true c33
           try have c33b2 : (9223372036854775807 < (a1.extract 0 (t717 : Int).toNat).size + (a1.extract ((ji30) : Int).toNat a1.size).size) = False := eq_false (Nat.not_lt.2 c33)
           simp only [Option.some.injEq, Prod.mk.injEq] at H
           obtain ⟨rfl, rfl, rfl⟩ := H
           go_enter Tryz.func56, Tryz.ntmps56
           go_wp2_with (first | ((with_reducible refine gate_dst (N := 8) rfl ?_); refine Kd.R_lit Kd.string _ 9 ?hg (N := 8) ?hd (xs := ([(⟨#[48]⟩ : ByteArray), (⟨#[49]⟩ : ByteArray), (⟨#[50]⟩ : ByteArray), (⟨#[57]⟩ : ByteArray), (⟨#[44]⟩ : ByteArray), (⟨#[45]⟩ : ByteArray), (⟨#[32]⟩ : ByteArray), (⟨#[59]⟩ : ByteArray), (⟨#[120]⟩ : ByteArray), (⟨#[10]⟩ : ByteArray)] : List ByteArray)) (inner := [.string (⟨#[48]⟩ : ByteArray), .string (⟨#[49]⟩ : ByteArray), .string (⟨#[50]⟩ : ByteArray), .string (⟨#[57]⟩ : ByteArray), .string (⟨#[44]⟩ : ByteArray), .string (⟨#[45]⟩ : ByteArray), .string (⟨#[32]⟩ : ByteArray), .string (⟨#[59]⟩ : ByteArray), .string (⟨#[120]⟩ : ByteArray), .string (⟨#[10]⟩ : ByteArray)]) (ok := fun _ => True) (okp := fun _ => True) ?hr ?hp (fun _ hk => hk) trivial (Below.refl _ _) (Nat.le_refl _) (by simp) ?_; (case hd => rfl); (case hg => rfl); (case hr => first | (go_simp; done) | (go_simp; rfl)); (case hp => exact (Reps.one (show Kd.M Kd.string _ _ _ (⟨#[48]⟩ : ByteArray) [.string (⟨#[48]⟩ : ByteArray)] from rfl) (Reps.one (show Kd.M Kd.string _ _ _ (⟨#[49]⟩ : ByteArray) [.string (⟨#[49]⟩ : ByteArray)] from rfl) (Reps.one (show Kd.M Kd.string _ _ _ (⟨#[50]⟩ : ByteArray) [.string (⟨#[50]⟩ : ByteArray)] from rfl) (Reps.one (show Kd.M Kd.string _ _ _ (⟨#[57]⟩ : ByteArray) [.string (⟨#[57]⟩ : ByteArray)] from rfl) (Reps.one (show Kd.M Kd.string _ _ _ (⟨#[44]⟩ : ByteArray) [.string (⟨#[44]⟩ : ByteArray)] from rfl) (Reps.one (show Kd.M Kd.string _ _ _ (⟨#[45]⟩ : ByteArray) [.string (⟨#[45]⟩ : ByteArray)] from rfl) (Reps.one (show Kd.M Kd.string _ _ _ (⟨#[32]⟩ : ByteArray) [.string (⟨#[32]⟩ : ByteArray)] from rfl) (Reps.one (show Kd.M Kd.string _ _ _ (⟨#[59]⟩ : ByteArray) [.string (⟨#[59]⟩ : ByteArray)] from rfl) (Reps.one (show Kd.M Kd.string _ _ _ (⟨#[120]⟩ : ByteArray) [.string (⟨#[120]⟩ : ByteArray)] from rfl) (Reps.one (show Kd.M Kd.string _ _ _ (⟨#[10]⟩ : ByteArray) [.string (⟨#[10]⟩ : ByteArray)] from rfl) (Reps.none _ _)))))))))))); intro v711 w34 ho35 hb hg_ hnew_; clear hg_ hnew_; (first | rw [← Ny710.out] at ho35 | (simp only [Int.reduceToNat] at ho35; rw [← Ny710.out] at ho35)); have n0_ := as0 (Kd.R_lower ho35 (keep_size (w := w) (g := g) (row := none) (by repeat (first | (with_reducible first | exact HK.out | apply KeepBut.set_ | apply keep_drewN | apply keep_drew | apply keep_alloc) | exact HK.out)))); have n1_ := as0 (IsS77.below (by repeat (first | (with_reducible first | exact HI0.out | apply IsS77.alloc | apply IsS77.drewN | apply IsS77.drew | apply IsS77.set_1 | apply IsS77.set_2) | exact HI0.out)) hb); have n2_ := as0 (KeepBut.trans (by repeat (first | (with_reducible first | exact HK.out | apply KeepBut.set_ | apply keep_drewN | apply keep_drew | apply keep_alloc) | exact HK.out)) (KeepBut.of_below hb g none) (.inl rfl)); have n3_ := as0 (below_step (by repeat (first | (with_reducible first | exact HB.out | apply below_alloc | apply pw_below_drewN | apply below_drew1 | refine below_set ?_ (IsS77.ge HI0.out)) | exact HB.out)) hb); clear HI0; clear HK; clear HB; have HO712 := n0_; have HI0 := n1_; have HK := n2_; have HB := n3_; clear n0_ n1_ n2_ n3_; clear hb ho35; obtain ⟨Ao36, co36, eo36⟩ := Kd.R_slice HO712.out; subst eo36) | (go_at_call 26; (with_reducible refine (spec_l01Next.calls g s0_0 s0_1 s0_2 (y710.length : Int) t713 t714 t715 w0 _ ?side1 ?side2 A3.out).mono ?_); (case side1 => repeat (first | (with_reducible first | exact HI0.out | apply IsS77.alloc | apply IsS77.drewN | apply IsS77.drew | apply IsS77.set_1 | apply IsS77.set_2) | exact HI0.out)); (case side2 => repeat (first | (with_reducible first | exact HB.out | apply below_alloc | apply pw_below_drewN | apply below_drew1 | refine below_set ?_ (IsS77.ge HI0.out)) | exact HB.out)); rintro e w37 ⟨rfl, hi, hb, hk⟩; have n0_ := as0 (Kd.R_mono (Kd.R_keep (IsS77.apart (show IsS77 w0 _ g s0_0 s0_1 s0_2 from by repeat (first | (with_reducible first | exact HI0.out | apply IsS77.alloc | apply IsS77.drewN | apply IsS77.drew | apply IsS77.set_1 | apply IsS77.set_2) | exact HI0.out)) (rs HO712) (by decide)) hk (fun _ h => h.2)) (fun _ h => h.1)); have n1_ := as0 (KeepBut.trans (by repeat (first | (with_reducible first | exact HK.out | apply KeepBut.set_ | apply keep_drewN | apply keep_drew | apply keep_alloc) | exact HK.out)) hk (.inl rfl)); have n2_ := as0 (hb); have n3_ := as0 (hi); clear HO712; clear HK; clear HB; clear HI0; have HO712 := n0_; have HK := n1_; have HB := n2_; have HI0 := n3_; clear n0_ n1_ n2_ n3_; (try clear hb); (try clear hb2); (try clear hk); (try clear hi); have p716 : 0 ≤ (t713 : Int) := oa_; have q716 : t713 < (y710.length : Int) := oa_; obtain ⟨ad716, e716, hx716_0⟩ := Kd.at_string (Kd.R_reads' HO712.out).2.2 t713 p716 q716; cases e716; replace p716 := eq_true p716; replace q716 := eq_true q716) | (go_at_call 26; (with_reducible refine (spec_l01Next.calls g s0_0 t714 t715 (a1.size : Int) t717 t718 t719 w0 _ ?side1 ?side2 A11.out).mono ?_); (case side1 => repeat (first | (with_reducible first | exact HI0.out | apply IsS77.alloc | apply IsS77.drewN | apply IsS77.drew | apply IsS77.set_1 | apply IsS77.set_2) | exact HI0.out)); (case side2 => repeat (first | (with_reducible first | exact HB.out | apply below_alloc | apply pw_below_drewN | apply below_drew1 | refine below_set ?_ (IsS77.ge HI0.out)) | exact HB.out)); rintro e w38 ⟨rfl, hi, hb, hk⟩; have n0_ := as0 (Kd.R_mono (Kd.R_keep (IsS77.apart (show IsS77 w0 _ g s0_0 t714 t715 from by repeat (first | (with_reducible first | exact HI0.out | apply IsS77.alloc | apply IsS77.drewN | apply IsS77.drew | apply IsS77.set_1 | apply IsS77.set_2) | exact HI0.out)) (rs HO712) (by decide)) hk (fun _ h => h.2)) (fun _ h => h.1)); have n1_ := as0 (KeepBut.trans (by repeat (first | (with_reducible first | exact HK.out | apply KeepBut.set_ | apply keep_drewN | apply keep_drew | apply keep_alloc) | exact HK.out)) hk (.inl rfl)); have n2_ := as0 (hb); have n3_ := as0 (hi); clear HO712; clear HK; clear HB; clear HI0; have HO712 := n0_; have HK := n1_; have HB := n2_; have HI0 := n3_; clear n0_ n1_ n2_ n3_; (try clear hb); (try clear hb2); (try clear hk); (try clear hi)) | (go_at_call 26; (with_reducible refine (spec_l01Next.calls g s0_0 t718 t719 3 t720 t721 t722 w0 _ ?side1 ?side2 A12.out).mono ?_); (case side1 => repeat (first | (with_reducible first | exact HI0.out | apply IsS77.alloc | apply IsS77.drewN | apply IsS77.drew | apply IsS77.set_1 | apply IsS77.set_2) | exact HI0.out)); (case side2 => repeat (first | (with_reducible first | exact HB.out | apply below_alloc | apply pw_below_drewN | apply below_drew1 | refine below_set ?_ (IsS77.ge HI0.out)) | exact HB.out)); rintro e w39 ⟨rfl, hi, hb, hk⟩; have n0_ := as0 (Kd.R_mono (Kd.R_keep (IsS77.apart (show IsS77 w0 _ g s0_0 t718 t719 from by repeat (first | (with_reducible first | exact HI0.out | apply IsS77.alloc | apply IsS77.drewN | apply IsS77.drew | apply IsS77.set_1 | apply IsS77.set_2) | exact HI0.out)) (rs HO712) (by decide)) hk (fun _ h => h.2)) (fun _ h => h.1)); have n1_ := as0 (KeepBut.trans (by repeat (first | (with_reducible first | exact HK.out | apply KeepBut.set_ | apply keep_drewN | apply keep_drew | apply keep_alloc) | exact HK.out)) hk (.inl rfl)); have n2_ := as0 (hb); have n3_ := as0 (hi); clear HO712; clear HK; clear HB; clear HI0; have HO712 := n0_; have HK := n1_; have HB := n2_; have HI0 := n3_; clear n0_ n1_ n2_ n3_; (try clear hb); (try clear hb2); (try clear hk); (try clear hi)))
           repeat (go_quiet (first | ((with_reducible refine gate_dst (N := 8) rfl ?_); refine Kd.R_lit Kd.string _ 9 ?hg (N := 8) ?hd (xs := ([(⟨#[48]⟩ : ByteArray), (⟨#[49]⟩ : ByteArray), (⟨#[50]⟩ : ByteArray), (⟨#[57]⟩ : ByteArray), (⟨#[44]⟩ : ByteArray), (⟨#[45]⟩ : ByteArray), (⟨#[32]⟩ : ByteArray), (⟨#[59]⟩ : ByteArray), (⟨#[120]⟩ : ByteArray), (⟨#[10]⟩ : ByteArray)] : List ByteArray)) (inner := [.string (⟨#[48]⟩ : ByteArray), .string (⟨#[49]⟩ : ByteArray), .string (⟨#[50]⟩ : ByteArray), .string (⟨#[57]⟩ : ByteArray), .string (⟨#[44]⟩ : ByteArray), .string (⟨#[45]⟩ : ByteArray), .string (⟨#[32]⟩ : ByteArray), .string (⟨#[59]⟩ : ByteArray), .string (⟨#[120]⟩ : ByteArray), .string (⟨#[10]⟩ : ByteArray)]) (ok := fun _ => True) (okp := fun _ => True) ?hr ?hp (fun _ hk => hk) trivial (Below.refl _ _) (Nat.le_refl _) (by simp) ?_; (case hd => rfl); (case hg => rfl); (case hr => first | (go_simp; done) | (go_simp; rfl)); (case hp => exact (Reps.one (show Kd.M Kd.string _ _ _ (⟨#[48]⟩ : ByteArray) [.string (⟨#[48]⟩ : ByteArray)] from rfl) (Reps.one (show Kd.M Kd.string _ _ _ (⟨#[49]⟩ : ByteArray) [.string (⟨#[49]⟩ : ByteArray)] from rfl) (Reps.one (show Kd.M Kd.string _ _ _ (⟨#[50]⟩ : ByteArray) [.string (⟨#[50]⟩ : ByteArray)] from rfl) (Reps.one (show Kd.M Kd.string _ _ _ (⟨#[57]⟩ : ByteArray) [.string (⟨#[57]⟩ : ByteArray)] from rfl) (Reps.one (show Kd.M Kd.string _ _ _ (⟨#[44]⟩ : ByteArray) [.string (⟨#[44]⟩ : ByteArray)] from rfl) (Reps.one (show Kd.M Kd.string _ _ _ (⟨#[45]⟩ : ByteArray) [.string (⟨#[45]⟩ : ByteArray)] from rfl) (Reps.one (show Kd.M Kd.string _ _ _ (⟨#[32]⟩ : ByteArray) [.string (⟨#[32]⟩ : ByteArray)] from rfl) (Reps.one (show Kd.M Kd.string _ _ _ (⟨#[59]⟩ : ByteArray) [.string (⟨#[59]⟩ : ByteArray)] from rfl) (Reps.one (show Kd.M Kd.string _ _ _ (⟨#[120]⟩ : ByteArray) [.string (⟨#[120]⟩ : ByteArray)] from rfl) (Reps.one (show Kd.M Kd.string _ _ _ (⟨#[10]⟩ : ByteArray) [.string (⟨#[10]⟩ : ByteArray)] from rfl) (Reps.none _ _)))))))))))); intro v711 w34 ho35 hb hg_ hnew_; clear hg_ hnew_; (first | rw [← Ny710.out] at ho35 | (simp only [Int.reduceToNat] at ho35; rw [← Ny710.out] at ho35)); have n0_ := as0 (Kd.R_lower ho35 (keep_size (w := w) (g := g) (row := none) (by repeat (first | (with_reducible first | exact HK.out | apply KeepBut.set_ | apply keep_drewN | apply keep_drew | apply keep_alloc) | exact HK.out)))); have n1_ := as0 (IsS77.below (by repeat (first | (with_reducible first | exact HI0.out | apply IsS77.alloc | apply IsS77.drewN | apply IsS77.drew | apply IsS77.set_1 | apply IsS77.set_2) | exact HI0.out)) hb); have n2_ := as0 (KeepBut.trans (by repeat (first | (with_reducible first | exact HK.out | apply KeepBut.set_ | apply keep_drewN | apply keep_drew | apply keep_alloc) | exact HK.out)) (KeepBut.of_below hb g none) (.inl rfl)); have n3_ := as0 (below_step (by repeat (first | (with_reducible first | exact HB.out | apply below_alloc | apply pw_below_drewN | apply below_drew1 | refine below_set ?_ (IsS77.ge HI0.out)) | exact HB.out)) hb); clear HI0; clear HK; clear HB; have HO712 := n0_; have HI0 := n1_; have HK := n2_; have HB := n3_; clear n0_ n1_ n2_ n3_; clear hb ho35; obtain ⟨Ao36, co36, eo36⟩ := Kd.R_slice HO712.out; subst eo36) | (go_at_call 26; (with_reducible refine (spec_l01Next.calls g s0_0 s0_1 s0_2 (y710.length : Int) t713 t714 t715 w0 _ ?side1 ?side2 A3.out).mono ?_); (case side1 => repeat (first | (with_reducible first | exact HI0.out | apply IsS77.alloc | apply IsS77.drewN | apply IsS77.drew | apply IsS77.set_1 | apply IsS77.set_2) | exact HI0.out)); (case side2 => repeat (first | (with_reducible first | exact HB.out | apply below_alloc | apply pw_below_drewN | apply below_drew1 | refine below_set ?_ (IsS77.ge HI0.out)) | exact HB.out)); rintro e w37 ⟨rfl, hi, hb, hk⟩; have n0_ := as0 (Kd.R_mono (Kd.R_keep (IsS77.apart (show IsS77 w0 _ g s0_0 s0_1 s0_2 from by repeat (first | (with_reducible first | exact HI0.out | apply IsS77.alloc | apply IsS77.drewN | apply IsS77.drew | apply IsS77.set_1 | apply IsS77.set_2) | exact HI0.out)) (rs HO712) (by decide)) hk (fun _ h => h.2)) (fun _ h => h.1)); have n1_ := as0 (KeepBut.trans (by repeat (first | (with_reducible first | exact HK.out | apply KeepBut.set_ | apply keep_drewN | apply keep_drew | apply keep_alloc) | exact HK.out)) hk (.inl rfl)); have n2_ := as0 (hb); have n3_ := as0 (hi); clear HO712; clear HK; clear HB; clear HI0; have HO712 := n0_; have HK := n1_; have HB := n2_; have HI0 := n3_; clear n0_ n1_ n2_ n3_; (try clear hb); (try clear hb2); (try clear hk); (try clear hi); have p716 : 0 ≤ (t713 : Int) := oa_; have q716 : t713 < (y710.length : Int) := oa_; obtain ⟨ad716, e716, hx716_0⟩ := Kd.at_string (Kd.R_reads' HO712.out).2.2 t713 p716 q716; cases e716; replace p716 := eq_true p716; replace q716 := eq_true q716) | (go_at_call 26; (with_reducible refine (spec_l01Next.calls g s0_0 t714 t715 (a1.size : Int) t717 t718 t719 w0 _ ?side1 ?side2 A11.out).mono ?_); (case side1 => repeat (first | (with_reducible first | exact HI0.out | apply IsS77.alloc | apply IsS77.drewN | apply IsS77.drew | apply IsS77.set_1 | apply IsS77.set_2) | exact HI0.out)); (case side2 => repeat (first | (with_reducible first | exact HB.out | apply below_alloc | apply pw_below_drewN | apply below_drew1 | refine below_set ?_ (IsS77.ge HI0.out)) | exact HB.out)); rintro e w38 ⟨rfl, hi, hb, hk⟩; have n0_ := as0 (Kd.R_mono (Kd.R_keep (IsS77.apart (show IsS77 w0 _ g s0_0 t714 t715 from by repeat (first | (with_reducible first | exact HI0.out | apply IsS77.alloc | apply IsS77.drewN | apply IsS77.drew | apply IsS77.set_1 | apply IsS77.set_2) | exact HI0.out)) (rs HO712) (by decide)) hk (fun _ h => h.2)) (fun _ h => h.1)); have n1_ := as0 (KeepBut.trans (by repeat (first | (with_reducible first | exact HK.out | apply KeepBut.set_ | apply keep_drewN | apply keep_drew | apply keep_alloc) | exact HK.out)) hk (.inl rfl)); have n2_ := as0 (hb); have n3_ := as0 (hi); clear HO712; clear HK; clear HB; clear HI0; have HO712 := n0_; have HK := n1_; have HB := n2_; have HI0 := n3_; clear n0_ n1_ n2_ n3_; (try clear hb); (try clear hb2); (try clear hk); (try clear hi)) | (go_at_call 26; (with_reducible refine (spec_l01Next.calls g s0_0 t718 t719 3 t720 t721 t722 w0 _ ?side1 ?side2 A12.out).mono ?_); (case side1 => repeat (first | (with_reducible first | exact HI0.out | apply IsS77.alloc | apply IsS77.drewN | apply IsS77.drew | apply IsS77.set_1 | apply IsS77.set_2) | exact HI0.out)); (case side2 => repeat (first | (with_reducible first | exact HB.out | apply below_alloc | apply pw_below_drewN | apply below_drew1 | refine below_set ?_ (IsS77.ge HI0.out)) | exact HB.out)); rintro e w39 ⟨rfl, hi, hb, hk⟩; have n0_ := as0 (Kd.R_mono (Kd.R_keep (IsS77.apart (show IsS77 w0 _ g s0_0 t718 t719 from by repeat (first | (with_reducible first | exact HI0.out | apply IsS77.alloc | apply IsS77.drewN | apply IsS77.drew | apply IsS77.set_1 | apply IsS77.set_2) | exact HI0.out)) (rs HO712) (by decide)) hk (fun _ h => h.2)) (fun _ h => h.1)); have n1_ := as0 (KeepBut.trans (by repeat (first | (with_reducible first | exact HK.out | apply KeepBut.set_ | apply keep_drewN | apply keep_drew | apply keep_alloc) | exact HK.out)) hk (.inl rfl)); have n2_ := as0 (hb); have n3_ := as0 (hi); clear HO712; clear HK; clear HB; clear HI0; have HO712 := n0_; have HK := n1_; have HB := n2_; have HI0 := n3_; clear n0_ n1_ n2_ n3_; (try clear hb); (try clear hb2); (try clear hk); (try clear hi))); try go_wp2_with (first | ((with_reducible refine gate_dst (N := 8) rfl ?_); refine Kd.R_lit Kd.string _ 9 ?hg (N := 8) ?hd (xs := ([(⟨#[48]⟩ : ByteArray), (⟨#[49]⟩ : ByteArray), (⟨#[50]⟩ : ByteArray), (⟨#[57]⟩ : ByteArray), (⟨#[44]⟩ : ByteArray), (⟨#[45]⟩ : ByteArray), (⟨#[32]⟩ : ByteArray), (⟨#[59]⟩ : ByteArray), (⟨#[120]⟩ : ByteArray), (⟨#[10]⟩ : ByteArray)] : List ByteArray)) (inner := [.string (⟨#[48]⟩ : ByteArray), .string (⟨#[49]⟩ : ByteArray), .string (⟨#[50]⟩ : ByteArray), .string (⟨#[57]⟩ : ByteArray), .string (⟨#[44]⟩ : ByteArray), .string (⟨#[45]⟩ : ByteArray), .string (⟨#[32]⟩ : ByteArray), .string (⟨#[59]⟩ : ByteArray), .string (⟨#[120]⟩ : ByteArray), .string (⟨#[10]⟩ : ByteArray)]) (ok := fun _ => True) (okp := fun _ => True) ?hr ?hp (fun _ hk => hk) trivial (Below.refl _ _) (Nat.le_refl _) (by simp) ?_; (case hd => rfl); (case hg => rfl); (case hr => first | (go_simp; done) | (go_simp; rfl)); (case hp => exact (Reps.one (show Kd.M Kd.string _ _ _ (⟨#[48]⟩ : ByteArray) [.string (⟨#[48]⟩ : ByteArray)] from rfl) (Reps.one (show Kd.M Kd.string _ _ _ (⟨#[49]⟩ : ByteArray) [.string (⟨#[49]⟩ : ByteArray)] from rfl) (Reps.one (show Kd.M Kd.string _ _ _ (⟨#[50]⟩ : ByteArray) [.string (⟨#[50]⟩ : ByteArray)] from rfl) (Reps.one (show Kd.M Kd.string _ _ _ (⟨#[57]⟩ : ByteArray) [.string (⟨#[57]⟩ : ByteArray)] from rfl) (Reps.one (show Kd.M Kd.string _ _ _ (⟨#[44]⟩ : ByteArray) [.string (⟨#[44]⟩ : ByteArray)] from rfl) (Reps.one (show Kd.M Kd.string _ _ _ (⟨#[45]⟩ : ByteArray) [.string (⟨#[45]⟩ : ByteArray)] from rfl) (Reps.one (show Kd.M Kd.string _ _ _ (⟨#[32]⟩ : ByteArray) [.string (⟨#[32]⟩ : ByteArray)] from rfl) (Reps.one (show Kd.M Kd.string _ _ _ (⟨#[59]⟩ : ByteArray) [.string (⟨#[59]⟩ : ByteArray)] from rfl) (Reps.one (show Kd.M Kd.string _ _ _ (⟨#[120]⟩ : ByteArray) [.string (⟨#[120]⟩ : ByteArray)] from rfl) (Reps.one (show Kd.M Kd.string _ _ _ (⟨#[10]⟩ : ByteArray) [.string (⟨#[10]⟩ : ByteArray)] from rfl) (Reps.none _ _)))))))))))); intro v711 w34 ho35 hb hg_ hnew_; clear hg_ hnew_; (first | rw [← Ny710.out] at ho35 | (simp only [Int.reduceToNat] at ho35; rw [← Ny710.out] at ho35)); have n0_ := as0 (Kd.R_lower ho35 (keep_size (w := w) (g := g) (row := none) (by repeat (first | (with_reducible first | exact HK.out | apply KeepBut.set_ | apply keep_drewN | apply keep_drew | apply keep_alloc) | exact HK.out)))); have n1_ := as0 (IsS77.below (by repeat (first | (with_reducible first | exact HI0.out | apply IsS77.alloc | apply IsS77.drewN | apply IsS77.drew | apply IsS77.set_1 | apply IsS77.set_2) | exact HI0.out)) hb); have n2_ := as0 (KeepBut.trans (by repeat (first | (with_reducible first | exact HK.out | apply KeepBut.set_ | apply keep_drewN | apply keep_drew | apply keep_alloc) | exact HK.out)) (KeepBut.of_below hb g none) (.inl rfl)); have n3_ := as0 (below_step (by repeat (first | (with_reducible first | exact HB.out | apply below_alloc | apply pw_below_drewN | apply below_drew1 | refine below_set ?_ (IsS77.ge HI0.out)) | exact HB.out)) hb); clear HI0; clear HK; clear HB; have HO712 := n0_; have HI0 := n1_; have HK := n2_; have HB := n3_; clear n0_ n1_ n2_ n3_; clear hb ho35; obtain ⟨Ao36, co36, eo36⟩ := Kd.R_slice HO712.out; subst eo36) | (go_at_call 26; (with_reducible refine (spec_l01Next.calls g s0_0 s0_1 s0_2 (y710.length : Int) t713 t714 t715 w0 _ ?side1 ?side2 A3.out).mono ?_); (case side1 => repeat (first | (with_reducible first | exact HI0.out | apply IsS77.alloc | apply IsS77.drewN | apply IsS77.drew | apply IsS77.set_1 | apply IsS77.set_2) | exact HI0.out)); (case side2 => repeat (first | (with_reducible first | exact HB.out | apply below_alloc | apply pw_below_drewN | apply below_drew1 | refine below_set ?_ (IsS77.ge HI0.out)) | exact HB.out)); rintro e w37 ⟨rfl, hi, hb, hk⟩; have n0_ := as0 (Kd.R_mono (Kd.R_keep (IsS77.apart (show IsS77 w0 _ g s0_0 s0_1 s0_2 from by repeat (first | (with_reducible first | exact HI0.out | apply IsS77.alloc | apply IsS77.drewN | apply IsS77.drew | apply IsS77.set_1 | apply IsS77.set_2) | exact HI0.out)) (rs HO712) (by decide)) hk (fun _ h => h.2)) (fun _ h => h.1)); have n1_ := as0 (KeepBut.trans (by repeat (first | (with_reducible first | exact HK.out | apply KeepBut.set_ | apply keep_drewN | apply keep_drew | apply keep_alloc) | exact HK.out)) hk (.inl rfl)); have n2_ := as0 (hb); have n3_ := as0 (hi); clear HO712; clear HK; clear HB; clear HI0; have HO712 := n0_; have HK := n1_; have HB := n2_; have HI0 := n3_; clear n0_ n1_ n2_ n3_; (try clear hb); (try clear hb2); (try clear hk); (try clear hi); have p716 : 0 ≤ (t713 : Int) := oa_; have q716 : t713 < (y710.length : Int) := oa_; obtain ⟨ad716, e716, hx716_0⟩ := Kd.at_string (Kd.R_reads' HO712.out).2.2 t713 p716 q716; cases e716; replace p716 := eq_true p716; replace q716 := eq_true q716) | (go_at_call 26; (with_reducible refine (spec_l01Next.calls g s0_0 t714 t715 (a1.size : Int) t717 t718 t719 w0 _ ?side1 ?side2 A11.out).mono ?_); (case side1 => repeat (first | (with_reducible first | exact HI0.out | apply IsS77.alloc | apply IsS77.drewN | apply IsS77.drew | apply IsS77.set_1 | apply IsS77.set_2) | exact HI0.out)); (case side2 => repeat (first | (with_reducible first | exact HB.out | apply below_alloc | apply pw_below_drewN | apply below_drew1 | refine below_set ?_ (IsS77.ge HI0.out)) | exact HB.out)); rintro e w38 ⟨rfl, hi, hb, hk⟩; have n0_ := as0 (Kd.R_mono (Kd.R_keep (IsS77.apart (show IsS77 w0 _ g s0_0 t714 t715 from by repeat (first | (with_reducible first | exact HI0.out | apply IsS77.alloc | apply IsS77.drewN | apply IsS77.drew | apply IsS77.set_1 | apply IsS77.set_2) | exact HI0.out)) (rs HO712) (by decide)) hk (fun _ h => h.2)) (fun _ h => h.1)); have n1_ := as0 (KeepBut.trans (by repeat (first | (with_reducible first | exact HK.out | apply KeepBut.set_ | apply keep_drewN | apply keep_drew | apply keep_alloc) | exact HK.out)) hk (.inl rfl)); have n2_ := as0 (hb); have n3_ := as0 (hi); clear HO712; clear HK; clear HB; clear HI0; have HO712 := n0_; have HK := n1_; have HB := n2_; have HI0 := n3_; clear n0_ n1_ n2_ n3_; (try clear hb); (try clear hb2); (try clear hk); (try clear hi)) | (go_at_call 26; (with_reducible refine (spec_l01Next.calls g s0_0 t718 t719 3 t720 t721 t722 w0 _ ?side1 ?side2 A12.out).mono ?_); (case side1 => repeat (first | (with_reducible first | exact HI0.out | apply IsS77.alloc | apply IsS77.drewN | apply IsS77.drew | apply IsS77.set_1 | apply IsS77.set_2) | exact HI0.out)); (case side2 => repeat (first | (with_reducible first | exact HB.out | apply below_alloc | apply pw_below_drewN | apply below_drew1 | refine below_set ?_ (IsS77.ge HI0.out)) | exact HB.out)); rintro e w39 ⟨rfl, hi, hb, hk⟩; have n0_ := as0 (Kd.R_mono (Kd.R_keep (IsS77.apart (show IsS77 w0 _ g s0_0 t718 t719 from by repeat (first | (with_reducible first | exact HI0.out | apply IsS77.alloc | apply IsS77.drewN | apply IsS77.drew | apply IsS77.set_1 | apply IsS77.set_2) | exact HI0.out)) (rs HO712) (by decide)) hk (fun _ h => h.2)) (fun _ h => h.1)); have n1_ := as0 (KeepBut.trans (by repeat (first | (with_reducible first | exact HK.out | apply KeepBut.set_ | apply keep_drewN | apply keep_drew | apply keep_alloc) | exact HK.out)) hk (.inl rfl)); have n2_ := as0 (hb); have n3_ := as0 (hi); clear HO712; clear HK; clear HB; clear HI0; have HO712 := n0_; have HK := n1_; have HB := n2_; have HI0 := n3_; clear n0_ n1_ n2_ n3_; (try clear hb); (try clear hb2); (try clear hk); (try clear hi))))
           go_ret
           exact ⟨by first | rfl | (simp [errW_none, errW_some] <;> rfl) | (simp only [← hji30]; first | rfl | (simp [errW_none, errW_some] <;> rfl)) | (simp [*, errW_none, errW_some] <;> rfl), by repeat (first | (with_reducible first | exact HI0.out | apply IsS77.alloc | apply IsS77.drewN | apply IsS77.drew | apply IsS77.set_1 | apply IsS77.set_2) | exact HI0.out), by repeat (first | (with_reducible first | exact HB.out | apply below_alloc | apply pw_below_drewN | apply below_drew1 | refine below_set ?_ (IsS77.ge HI0.out)) | exact HB.out), by repeat (first | (with_reducible first | exact HK.out | apply KeepBut.set_ | apply keep_drewN | apply keep_drew | apply keep_alloc) | exact HK.out)⟩
          ·
           rw [if_neg c33] at H
           exact absurd H (by simp)
         ·
          rw [if_neg c32] at H
          exact absurd H (by simp)
        ·
         rw [if_neg c31] at H
         exact absurd H (by simp)
       ·
        rw [if_neg c29] at H
        exact absurd H (by simp)
      ·
       rw [if_neg c28] at H
       exact absurd H (by simp)
     ·
      rw [if_neg c27] at H
      have c27b0 : (t720 == 1) = false := beq_eq_false_iff_ne.mpr c27
      have c27b1 : (t720 != 1) = true := bne_iff_ne.mpr c27
      by_cases c40 : 0 ≤ t717
      ·
       rw [if_pos c40] at H
       have c40b0 := eq_true c40
       have c40b1 : decide (0 ≤ t717) = true := decide_eq_true c40
       clear c40
       by_cases c41 : t717 ≤ (a1.size : Int)
       ·
        rw [if_pos c41] at H
        have c41b0 := eq_true c41
        have c41b1 : decide (t717 ≤ (a1.size : Int)) = true := decide_eq_true c41
        clear c41
        by_cases c42 : (a1.extract 0 (t717 : Int).toNat).size + (rdOf ByteArray.empty y710 t713).size ≤ 9223372036854775807
        ·
         rw [if_pos c42] at H
         have c42b0 := eq_true c42
         have c42b1 : decide ((a1.extract 0 (t717 : Int).toNat).size + (rdOf ByteArray.empty y710 t713).size ≤ 9223372036854775807) = true := decide_eq_true c42
         try have c42b2 : (9223372036854775807 < (a1.extract 0 (t717 : Int).toNat).size + (rdOf ByteArray.empty y710 t713).size) = False := eq_false (Nat.not_lt.2 c42)
         have c43b0 := eq_true (oa_ : 0 ≤ t717)
         have c44b0 := eq_true (oa_ : t717 ≤ (a1.size : Int))
         by_cases c45 : ((a1.extract 0 (t717 : Int).toNat) ++ (rdOf ByteArray.empty y710 t713)).size + (a1.extract (t717 : Int).toNat a1.size).size ≤ 9223372036854775807
         ·
          rw [if_pos c45] at H
          have c45b0 := eq_true c45
          have c45b1 : decide (((a1.extract 0 (t717 : Int).toNat) ++ (rdOf ByteArray.empty y710 t713)).size + (a1.extract (t717 : Int).toNat a1.size).size ≤ 9223372036854775807) = true := decide_eq_true c45
          try have c45b2 : (9223372036854775807 < ((a1.extract 0 (t717 : Int).toNat) ++ (rdOf ByteArray.empty y710 t713)).size + (a1.extract (t717 : Int).toNat a1.size).size) = False := eq_false (Nat.not_lt.2 c45)
          simp only [Option.some.injEq, Prod.mk.injEq] at H
          obtain ⟨rfl, rfl, rfl⟩ := H
          go_enter Tryz.func56, Tryz.ntmps56
          go_wp2_with (first | ((with_reducible refine gate_dst (N := 8) rfl ?_); refine Kd.R_lit Kd.string _ 9 ?hg (N := 8) ?hd (xs := ([(⟨#[48]⟩ : ByteArray), (⟨#[49]⟩ : ByteArray), (⟨#[50]⟩ : ByteArray), (⟨#[57]⟩ : ByteArray), (⟨#[44]⟩ : ByteArray), (⟨#[45]⟩ : ByteArray), (⟨#[32]⟩ : ByteArray), (⟨#[59]⟩ : ByteArray), (⟨#[120]⟩ : ByteArray), (⟨#[10]⟩ : ByteArray)] : List ByteArray)) (inner := [.string (⟨#[48]⟩ : ByteArray), .string (⟨#[49]⟩ : ByteArray), .string (⟨#[50]⟩ : ByteArray), .string (⟨#[57]⟩ : ByteArray), .string (⟨#[44]⟩ : ByteArray), .string (⟨#[45]⟩ : ByteArray), .string (⟨#[32]⟩ : ByteArray), .string (⟨#[59]⟩ : ByteArray), .string (⟨#[120]⟩ : ByteArray), .string (⟨#[10]⟩ : ByteArray)]) (ok := fun _ => True) (okp := fun _ => True) ?hr ?hp (fun _ hk => hk) trivial (Below.refl _ _) (Nat.le_refl _) (by simp) ?_; (case hd => rfl); (case hg => rfl); (case hr => first | (go_simp; done) | (go_simp; rfl)); (case hp => exact (Reps.one (show Kd.M Kd.string _ _ _ (⟨#[48]⟩ : ByteArray) [.string (⟨#[48]⟩ : ByteArray)] from rfl) (Reps.one (show Kd.M Kd.string _ _ _ (⟨#[49]⟩ : ByteArray) [.string (⟨#[49]⟩ : ByteArray)] from rfl) (Reps.one (show Kd.M Kd.string _ _ _ (⟨#[50]⟩ : ByteArray) [.string (⟨#[50]⟩ : ByteArray)] from rfl) (Reps.one (show Kd.M Kd.string _ _ _ (⟨#[57]⟩ : ByteArray) [.string (⟨#[57]⟩ : ByteArray)] from rfl) (Reps.one (show Kd.M Kd.string _ _ _ (⟨#[44]⟩ : ByteArray) [.string (⟨#[44]⟩ : ByteArray)] from rfl) (Reps.one (show Kd.M Kd.string _ _ _ (⟨#[45]⟩ : ByteArray) [.string (⟨#[45]⟩ : ByteArray)] from rfl) (Reps.one (show Kd.M Kd.string _ _ _ (⟨#[32]⟩ : ByteArray) [.string (⟨#[32]⟩ : ByteArray)] from rfl) (Reps.one (show Kd.M Kd.string _ _ _ (⟨#[59]⟩ : ByteArray) [.string (⟨#[59]⟩ : ByteArray)] from rfl) (Reps.one (show Kd.M Kd.string _ _ _ (⟨#[120]⟩ : ByteArray) [.string (⟨#[120]⟩ : ByteArray)] from rfl) (Reps.one (show Kd.M Kd.string _ _ _ (⟨#[10]⟩ : ByteArray) [.string (⟨#[10]⟩ : ByteArray)] from rfl) (Reps.none _ _)))))))))))); intro v711 w46 ho47 hb hg_ hnew_; clear hg_ hnew_; (first | rw [← Ny710.out] at ho47 | (simp only [Int.reduceToNat] at ho47; rw [← Ny710.out] at ho47)); have n0_ := as0 (Kd.R_lower ho47 (keep_size (w := w) (g := g) (row := none) (by repeat (first | (with_reducible first | exact HK.out | apply KeepBut.set_ | apply keep_drewN | apply keep_drew | apply keep_alloc) | exact HK.out)))); have n1_ := as0 (IsS77.below (by repeat (first | (with_reducible first | exact HI0.out | apply IsS77.alloc | apply IsS77.drewN | apply IsS77.drew | apply IsS77.set_1 | apply IsS77.set_2) | exact HI0.out)) hb); have n2_ := as0 (KeepBut.trans (by repeat (first | (with_reducible first | exact HK.out | apply KeepBut.set_ | apply keep_drewN | apply keep_drew | apply keep_alloc) | exact HK.out)) (KeepBut.of_below hb g none) (.inl rfl)); have n3_ := as0 (below_step (by repeat (first | (with_reducible first | exact HB.out | apply below_alloc | apply pw_below_drewN | apply below_drew1 | refine below_set ?_ (IsS77.ge HI0.out)) | exact HB.out)) hb); clear HI0; clear HK; clear HB; have HO712 := n0_; have HI0 := n1_; have HK := n2_; have HB := n3_; clear n0_ n1_ n2_ n3_; clear hb ho47; obtain ⟨Ao48, co48, eo48⟩ := Kd.R_slice HO712.out; subst eo48) | (go_at_call 26; (with_reducible refine (spec_l01Next.calls g s0_0 s0_1 s0_2 (y710.length : Int) t713 t714 t715 w0 _ ?side1 ?side2 A3.out).mono ?_); (case side1 => repeat (first | (with_reducible first | exact HI0.out | apply IsS77.alloc | apply IsS77.drewN | apply IsS77.drew | apply IsS77.set_1 | apply IsS77.set_2) | exact HI0.out)); (case side2 => repeat (first | (with_reducible first | exact HB.out | apply below_alloc | apply pw_below_drewN | apply below_drew1 | refine below_set ?_ (IsS77.ge HI0.out)) | exact HB.out)); rintro e w49 ⟨rfl, hi, hb, hk⟩; have n0_ := as0 (Kd.R_mono (Kd.R_keep (IsS77.apart (show IsS77 w0 _ g s0_0 s0_1 s0_2 from by repeat (first | (with_reducible first | exact HI0.out | apply IsS77.alloc | apply IsS77.drewN | apply IsS77.drew | apply IsS77.set_1 | apply IsS77.set_2) | exact HI0.out)) (rs HO712) (by decide)) hk (fun _ h => h.2)) (fun _ h => h.1)); have n1_ := as0 (KeepBut.trans (by repeat (first | (with_reducible first | exact HK.out | apply KeepBut.set_ | apply keep_drewN | apply keep_drew | apply keep_alloc) | exact HK.out)) hk (.inl rfl)); have n2_ := as0 (hb); have n3_ := as0 (hi); clear HO712; clear HK; clear HB; clear HI0; have HO712 := n0_; have HK := n1_; have HB := n2_; have HI0 := n3_; clear n0_ n1_ n2_ n3_; (try clear hb); (try clear hb2); (try clear hk); (try clear hi); have p716 : 0 ≤ (t713 : Int) := oa_; have q716 : t713 < (y710.length : Int) := oa_; obtain ⟨ad716, e716, hx716_0⟩ := Kd.at_string (Kd.R_reads' HO712.out).2.2 t713 p716 q716; cases e716; replace p716 := eq_true p716; replace q716 := eq_true q716) | (go_at_call 26; (with_reducible refine (spec_l01Next.calls g s0_0 t714 t715 (a1.size : Int) t717 t718 t719 w0 _ ?side1 ?side2 A11.out).mono ?_); (case side1 => repeat (first | (with_reducible first | exact HI0.out | apply IsS77.alloc | apply IsS77.drewN | apply IsS77.drew | apply IsS77.set_1 | apply IsS77.set_2) | exact HI0.out)); (case side2 => repeat (first | (with_reducible first | exact HB.out | apply below_alloc | apply pw_below_drewN | apply below_drew1 | refine below_set ?_ (IsS77.ge HI0.out)) | exact HB.out)); rintro e w50 ⟨rfl, hi, hb, hk⟩; have n0_ := as0 (Kd.R_mono (Kd.R_keep (IsS77.apart (show IsS77 w0 _ g s0_0 t714 t715 from by repeat (first | (with_reducible first | exact HI0.out | apply IsS77.alloc | apply IsS77.drewN | apply IsS77.drew | apply IsS77.set_1 | apply IsS77.set_2) | exact HI0.out)) (rs HO712) (by decide)) hk (fun _ h => h.2)) (fun _ h => h.1)); have n1_ := as0 (KeepBut.trans (by repeat (first | (with_reducible first | exact HK.out | apply KeepBut.set_ | apply keep_drewN | apply keep_drew | apply keep_alloc) | exact HK.out)) hk (.inl rfl)); have n2_ := as0 (hb); have n3_ := as0 (hi); clear HO712; clear HK; clear HB; clear HI0; have HO712 := n0_; have HK := n1_; have HB := n2_; have HI0 := n3_; clear n0_ n1_ n2_ n3_; (try clear hb); (try clear hb2); (try clear hk); (try clear hi)) | (go_at_call 26; (with_reducible refine (spec_l01Next.calls g s0_0 t718 t719 3 t720 t721 t722 w0 _ ?side1 ?side2 A12.out).mono ?_); (case side1 => repeat (first | (with_reducible first | exact HI0.out | apply IsS77.alloc | apply IsS77.drewN | apply IsS77.drew | apply IsS77.set_1 | apply IsS77.set_2) | exact HI0.out)); (case side2 => repeat (first | (with_reducible first | exact HB.out | apply below_alloc | apply pw_below_drewN | apply below_drew1 | refine below_set ?_ (IsS77.ge HI0.out)) | exact HB.out)); rintro e w51 ⟨rfl, hi, hb, hk⟩; have n0_ := as0 (Kd.R_mono (Kd.R_keep (IsS77.apart (show IsS77 w0 _ g s0_0 t718 t719 from by repeat (first | (with_reducible first | exact HI0.out | apply IsS77.alloc | apply IsS77.drewN | apply IsS77.drew | apply IsS77.set_1 | apply IsS77.set_2) | exact HI0.out)) (rs HO712) (by decide)) hk (fun _ h => h.2)) (fun _ h => h.1)); have n1_ := as0 (KeepBut.trans (by repeat (first | (with_reducible first | exact HK.out | apply KeepBut.set_ | apply keep_drewN | apply keep_drew | apply keep_alloc) | exact HK.out)) hk (.inl rfl)); have n2_ := as0 (hb); have n3_ := as0 (hi); clear HO712; clear HK; clear HB; clear HI0; have HO712 := n0_; have HK := n1_; have HB := n2_; have HI0 := n3_; clear n0_ n1_ n2_ n3_; (try clear hb); (try clear hb2); (try clear hk); (try clear hi)))
          repeat (go_quiet (first | ((with_reducible refine gate_dst (N := 8) rfl ?_); refine Kd.R_lit Kd.string _ 9 ?hg (N := 8) ?hd (xs := ([(⟨#[48]⟩ : ByteArray), (⟨#[49]⟩ : ByteArray), (⟨#[50]⟩ : ByteArray), (⟨#[57]⟩ : ByteArray), (⟨#[44]⟩ : ByteArray), (⟨#[45]⟩ : ByteArray), (⟨#[32]⟩ : ByteArray), (⟨#[59]⟩ : ByteArray), (⟨#[120]⟩ : ByteArray), (⟨#[10]⟩ : ByteArray)] : List ByteArray)) (inner := [.string (⟨#[48]⟩ : ByteArray), .string (⟨#[49]⟩ : ByteArray), .string (⟨#[50]⟩ : ByteArray), .string (⟨#[57]⟩ : ByteArray), .string (⟨#[44]⟩ : ByteArray), .string (⟨#[45]⟩ : ByteArray), .string (⟨#[32]⟩ : ByteArray), .string (⟨#[59]⟩ : ByteArray), .string (⟨#[120]⟩ : ByteArray), .string (⟨#[10]⟩ : ByteArray)]) (ok := fun _ => True) (okp := fun _ => True) ?hr ?hp (fun _ hk => hk) trivial (Below.refl _ _) (Nat.le_refl _) (by simp) ?_; (case hd => rfl); (case hg => rfl); (case hr => first | (go_simp; done) | (go_simp; rfl)); (case hp => exact (Reps.one (show Kd.M Kd.string _ _ _ (⟨#[48]⟩ : ByteArray) [.string (⟨#[48]⟩ : ByteArray)] from rfl) (Reps.one (show Kd.M Kd.string _ _ _ (⟨#[49]⟩ : ByteArray) [.string (⟨#[49]⟩ : ByteArray)] from rfl) (Reps.one (show Kd.M Kd.string _ _ _ (⟨#[50]⟩ : ByteArray) [.string (⟨#[50]⟩ : ByteArray)] from rfl) (Reps.one (show Kd.M Kd.string _ _ _ (⟨#[57]⟩ : ByteArray) [.string (⟨#[57]⟩ : ByteArray)] from rfl) (Reps.one (show Kd.M Kd.string _ _ _ (⟨#[44]⟩ : ByteArray) [.string (⟨#[44]⟩ : ByteArray)] from rfl) (Reps.one (show Kd.M Kd.string _ _ _ (⟨#[45]⟩ : ByteArray) [.string (⟨#[45]⟩ : ByteArray)] from rfl) (Reps.one (show Kd.M Kd.string _ _ _ (⟨#[32]⟩ : ByteArray) [.string (⟨#[32]⟩ : ByteArray)] from rfl) (Reps.one (show Kd.M Kd.string _ _ _ (⟨#[59]⟩ : ByteArray) [.string (⟨#[59]⟩ : ByteArray)] from rfl) (Reps.one (show Kd.M Kd.string _ _ _ (⟨#[120]⟩ : ByteArray) [.string (⟨#[120]⟩ : ByteArray)] from rfl) (Reps.one (show Kd.M Kd.string _ _ _ (⟨#[10]⟩ : ByteArray) [.string (⟨#[10]⟩ : ByteArray)] from rfl) (Reps.none _ _)))))))))))); intro v711 w46 ho47 hb hg_ hnew_; clear hg_ hnew_; (first | rw [← Ny710.out] at ho47 | (simp only [Int.reduceToNat] at ho47; rw [← Ny710.out] at ho47)); have n0_ := as0 (Kd.R_lower ho47 (keep_size (w := w) (g := g) (row := none) (by repeat (first | (with_reducible first | exact HK.out | apply KeepBut.set_ | apply keep_drewN | apply keep_drew | apply keep_alloc) | exact HK.out)))); have n1_ := as0 (IsS77.below (by repeat (first | (with_reducible first | exact HI0.out | apply IsS77.alloc | apply IsS77.drewN | apply IsS77.drew | apply IsS77.set_1 | apply IsS77.set_2) | exact HI0.out)) hb); have n2_ := as0 (KeepBut.trans (by repeat (first | (with_reducible first | exact HK.out | apply KeepBut.set_ | apply keep_drewN | apply keep_drew | apply keep_alloc) | exact HK.out)) (KeepBut.of_below hb g none) (.inl rfl)); have n3_ := as0 (below_step (by repeat (first | (with_reducible first | exact HB.out | apply below_alloc | apply pw_below_drewN | apply below_drew1 | refine below_set ?_ (IsS77.ge HI0.out)) | exact HB.out)) hb); clear HI0; clear HK; clear HB; have HO712 := n0_; have HI0 := n1_; have HK := n2_; have HB := n3_; clear n0_ n1_ n2_ n3_; clear hb ho47; obtain ⟨Ao48, co48, eo48⟩ := Kd.R_slice HO712.out; subst eo48) | (go_at_call 26; (with_reducible refine (spec_l01Next.calls g s0_0 s0_1 s0_2 (y710.length : Int) t713 t714 t715 w0 _ ?side1 ?side2 A3.out).mono ?_); (case side1 => repeat (first | (with_reducible first | exact HI0.out | apply IsS77.alloc | apply IsS77.drewN | apply IsS77.drew | apply IsS77.set_1 | apply IsS77.set_2) | exact HI0.out)); (case side2 => repeat (first | (with_reducible first | exact HB.out | apply below_alloc | apply pw_below_drewN | apply below_drew1 | refine below_set ?_ (IsS77.ge HI0.out)) | exact HB.out)); rintro e w49 ⟨rfl, hi, hb, hk⟩; have n0_ := as0 (Kd.R_mono (Kd.R_keep (IsS77.apart (show IsS77 w0 _ g s0_0 s0_1 s0_2 from by repeat (first | (with_reducible first | exact HI0.out | apply IsS77.alloc | apply IsS77.drewN | apply IsS77.drew | apply IsS77.set_1 | apply IsS77.set_2) | exact HI0.out)) (rs HO712) (by decide)) hk (fun _ h => h.2)) (fun _ h => h.1)); have n1_ := as0 (KeepBut.trans (by repeat (first | (with_reducible first | exact HK.out | apply KeepBut.set_ | apply keep_drewN | apply keep_drew | apply keep_alloc) | exact HK.out)) hk (.inl rfl)); have n2_ := as0 (hb); have n3_ := as0 (hi); clear HO712; clear HK; clear HB; clear HI0; have HO712 := n0_; have HK := n1_; have HB := n2_; have HI0 := n3_; clear n0_ n1_ n2_ n3_; (try clear hb); (try clear hb2); (try clear hk); (try clear hi); have p716 : 0 ≤ (t713 : Int) := oa_; have q716 : t713 < (y710.length : Int) := oa_; obtain ⟨ad716, e716, hx716_0⟩ := Kd.at_string (Kd.R_reads' HO712.out).2.2 t713 p716 q716; cases e716; replace p716 := eq_true p716; replace q716 := eq_true q716) | (go_at_call 26; (with_reducible refine (spec_l01Next.calls g s0_0 t714 t715 (a1.size : Int) t717 t718 t719 w0 _ ?side1 ?side2 A11.out).mono ?_); (case side1 => repeat (first | (with_reducible first | exact HI0.out | apply IsS77.alloc | apply IsS77.drewN | apply IsS77.drew | apply IsS77.set_1 | apply IsS77.set_2) | exact HI0.out)); (case side2 => repeat (first | (with_reducible first | exact HB.out | apply below_alloc | apply pw_below_drewN | apply below_drew1 | refine below_set ?_ (IsS77.ge HI0.out)) | exact HB.out)); rintro e w50 ⟨rfl, hi, hb, hk⟩; have n0_ := as0 (Kd.R_mono (Kd.R_keep (IsS77.apart (show IsS77 w0 _ g s0_0 t714 t715 from by repeat (first | (with_reducible first | exact HI0.out | apply IsS77.alloc | apply IsS77.drewN | apply IsS77.drew | apply IsS77.set_1 | apply IsS77.set_2) | exact HI0.out)) (rs HO712) (by decide)) hk (fun _ h => h.2)) (fun _ h => h.1)); have n1_ := as0 (KeepBut.trans (by repeat (first | (with_reducible first | exact HK.out | apply KeepBut.set_ | apply keep_drewN | apply keep_drew | apply keep_alloc) | exact HK.out)) hk (.inl rfl)); have n2_ := as0 (hb); have n3_ := as0 (hi); clear HO712; clear HK; clear HB; clear HI0; have HO712 := n0_; have HK := n1_; have HB := n2_; have HI0 := n3_; clear n0_ n1_ n2_ n3_; (try clear hb); (try clear hb2); (try clear hk); (try clear hi)) | (go_at_call 26; (with_reducible refine (spec_l01Next.calls g s0_0 t718 t719 3 t720 t721 t722 w0 _ ?side1 ?side2 A12.out).mono ?_); (case side1 => repeat (first | (with_reducible first | exact HI0.out | apply IsS77.alloc | apply IsS77.drewN | apply IsS77.drew | apply IsS77.set_1 | apply IsS77.set_2) | exact HI0.out)); (case side2 => repeat (first | (with_reducible first | exact HB.out | apply below_alloc | apply pw_below_drewN | apply below_drew1 | refine below_set ?_ (IsS77.ge HI0.out)) | exact HB.out)); rintro e w51 ⟨rfl, hi, hb, hk⟩; have n0_ := as0 (Kd.R_mono (Kd.R_keep (IsS77.apart (show IsS77 w0 _ g s0_0 t718 t719 from by repeat (first | (with_reducible first | exact HI0.out | apply IsS77.alloc | apply IsS77.drewN | apply IsS77.drew | apply IsS77.set_1 | apply IsS77.set_2) | exact HI0.out)) (rs HO712) (by decide)) hk (fun _ h => h.2)) (fun _ h => h.1)); have n1_ := as0 (KeepBut.trans (by repeat (first | (with_reducible first | exact HK.out | apply KeepBut.set_ | apply keep_drewN | apply keep_drew | apply keep_alloc) | exact HK.out)) hk (.inl rfl)); have n2_ := as0 (hb); have n3_ := as0 (hi); clear HO712; clear HK; clear HB; clear HI0; have HO712 := n0_; have HK := n1_; have HB := n2_; have HI0 := n3_; clear n0_ n1_ n2_ n3_; (try clear hb); (try clear hb2); (try clear hk); (try clear hi))); try go_wp2_with (first | ((with_reducible refine gate_dst (N := 8) rfl ?_); refine Kd.R_lit Kd.string _ 9 ?hg (N := 8) ?hd (xs := ([(⟨#[48]⟩ : ByteArray), (⟨#[49]⟩ : ByteArray), (⟨#[50]⟩ : ByteArray), (⟨#[57]⟩ : ByteArray), (⟨#[44]⟩ : ByteArray), (⟨#[45]⟩ : ByteArray), (⟨#[32]⟩ : ByteArray), (⟨#[59]⟩ : ByteArray), (⟨#[120]⟩ : ByteArray), (⟨#[10]⟩ : ByteArray)] : List ByteArray)) (inner := [.string (⟨#[48]⟩ : ByteArray), .string (⟨#[49]⟩ : ByteArray), .string (⟨#[50]⟩ : ByteArray), .string (⟨#[57]⟩ : ByteArray), .string (⟨#[44]⟩ : ByteArray), .string (⟨#[45]⟩ : ByteArray), .string (⟨#[32]⟩ : ByteArray), .string (⟨#[59]⟩ : ByteArray), .string (⟨#[120]⟩ : ByteArray), .string (⟨#[10]⟩ : ByteArray)]) (ok := fun _ => True) (okp := fun _ => True) ?hr ?hp (fun _ hk => hk) trivial (Below.refl _ _) (Nat.le_refl _) (by simp) ?_; (case hd => rfl); (case hg => rfl); (case hr => first | (go_simp; done) | (go_simp; rfl)); (case hp => exact (Reps.one (show Kd.M Kd.string _ _ _ (⟨#[48]⟩ : ByteArray) [.string (⟨#[48]⟩ : ByteArray)] from rfl) (Reps.one (show Kd.M Kd.string _ _ _ (⟨#[49]⟩ : ByteArray) [.string (⟨#[49]⟩ : ByteArray)] from rfl) (Reps.one (show Kd.M Kd.string _ _ _ (⟨#[50]⟩ : ByteArray) [.string (⟨#[50]⟩ : ByteArray)] from rfl) (Reps.one (show Kd.M Kd.string _ _ _ (⟨#[57]⟩ : ByteArray) [.string (⟨#[57]⟩ : ByteArray)] from rfl) (Reps.one (show Kd.M Kd.string _ _ _ (⟨#[44]⟩ : ByteArray) [.string (⟨#[44]⟩ : ByteArray)] from rfl) (Reps.one (show Kd.M Kd.string _ _ _ (⟨#[45]⟩ : ByteArray) [.string (⟨#[45]⟩ : ByteArray)] from rfl) (Reps.one (show Kd.M Kd.string _ _ _ (⟨#[32]⟩ : ByteArray) [.string (⟨#[32]⟩ : ByteArray)] from rfl) (Reps.one (show Kd.M Kd.string _ _ _ (⟨#[59]⟩ : ByteArray) [.string (⟨#[59]⟩ : ByteArray)] from rfl) (Reps.one (show Kd.M Kd.string _ _ _ (⟨#[120]⟩ : ByteArray) [.string (⟨#[120]⟩ : ByteArray)] from rfl) (Reps.one (show Kd.M Kd.string _ _ _ (⟨#[10]⟩ : ByteArray) [.string (⟨#[10]⟩ : ByteArray)] from rfl) (Reps.none _ _)))))))))))); intro v711 w46 ho47 hb hg_ hnew_; clear hg_ hnew_; (first | rw [← Ny710.out] at ho47 | (simp only [Int.reduceToNat] at ho47; rw [← Ny710.out] at ho47)); have n0_ := as0 (Kd.R_lower ho47 (keep_size (w := w) (g := g) (row := none) (by repeat (first | (with_reducible first | exact HK.out | apply KeepBut.set_ | apply keep_drewN | apply keep_drew | apply keep_alloc) | exact HK.out)))); have n1_ := as0 (IsS77.below (by repeat (first | (with_reducible first | exact HI0.out | apply IsS77.alloc | apply IsS77.drewN | apply IsS77.drew | apply IsS77.set_1 | apply IsS77.set_2) | exact HI0.out)) hb); have n2_ := as0 (KeepBut.trans (by repeat (first | (with_reducible first | exact HK.out | apply KeepBut.set_ | apply keep_drewN | apply keep_drew | apply keep_alloc) | exact HK.out)) (KeepBut.of_below hb g none) (.inl rfl)); have n3_ := as0 (below_step (by repeat (first | (with_reducible first | exact HB.out | apply below_alloc | apply pw_below_drewN | apply below_drew1 | refine below_set ?_ (IsS77.ge HI0.out)) | exact HB.out)) hb); clear HI0; clear HK; clear HB; have HO712 := n0_; have HI0 := n1_; have HK := n2_; have HB := n3_; clear n0_ n1_ n2_ n3_; clear hb ho47; obtain ⟨Ao48, co48, eo48⟩ := Kd.R_slice HO712.out; subst eo48) | (go_at_call 26; (with_reducible refine (spec_l01Next.calls g s0_0 s0_1 s0_2 (y710.length : Int) t713 t714 t715 w0 _ ?side1 ?side2 A3.out).mono ?_); (case side1 => repeat (first | (with_reducible first | exact HI0.out | apply IsS77.alloc | apply IsS77.drewN | apply IsS77.drew | apply IsS77.set_1 | apply IsS77.set_2) | exact HI0.out)); (case side2 => repeat (first | (with_reducible first | exact HB.out | apply below_alloc | apply pw_below_drewN | apply below_drew1 | refine below_set ?_ (IsS77.ge HI0.out)) | exact HB.out)); rintro e w49 ⟨rfl, hi, hb, hk⟩; have n0_ := as0 (Kd.R_mono (Kd.R_keep (IsS77.apart (show IsS77 w0 _ g s0_0 s0_1 s0_2 from by repeat (first | (with_reducible first | exact HI0.out | apply IsS77.alloc | apply IsS77.drewN | apply IsS77.drew | apply IsS77.set_1 | apply IsS77.set_2) | exact HI0.out)) (rs HO712) (by decide)) hk (fun _ h => h.2)) (fun _ h => h.1)); have n1_ := as0 (KeepBut.trans (by repeat (first | (with_reducible first | exact HK.out | apply KeepBut.set_ | apply keep_drewN | apply keep_drew | apply keep_alloc) | exact HK.out)) hk (.inl rfl)); have n2_ := as0 (hb); have n3_ := as0 (hi); clear HO712; clear HK; clear HB; clear HI0; have HO712 := n0_; have HK := n1_; have HB := n2_; have HI0 := n3_; clear n0_ n1_ n2_ n3_; (try clear hb); (try clear hb2); (try clear hk); (try clear hi); have p716 : 0 ≤ (t713 : Int) := oa_; have q716 : t713 < (y710.length : Int) := oa_; obtain ⟨ad716, e716, hx716_0⟩ := Kd.at_string (Kd.R_reads' HO712.out).2.2 t713 p716 q716; cases e716; replace p716 := eq_true p716; replace q716 := eq_true q716) | (go_at_call 26; (with_reducible refine (spec_l01Next.calls g s0_0 t714 t715 (a1.size : Int) t717 t718 t719 w0 _ ?side1 ?side2 A11.out).mono ?_); (case side1 => repeat (first | (with_reducible first | exact HI0.out | apply IsS77.alloc | apply IsS77.drewN | apply IsS77.drew | apply IsS77.set_1 | apply IsS77.set_2) | exact HI0.out)); (case side2 => repeat (first | (with_reducible first | exact HB.out | apply below_alloc | apply pw_below_drewN | apply below_drew1 | refine below_set ?_ (IsS77.ge HI0.out)) | exact HB.out)); rintro e w50 ⟨rfl, hi, hb, hk⟩; have n0_ := as0 (Kd.R_mono (Kd.R_keep (IsS77.apart (show IsS77 w0 _ g s0_0 t714 t715 from by repeat (first | (with_reducible first | exact HI0.out | apply IsS77.alloc | apply IsS77.drewN | apply IsS77.drew | apply IsS77.set_1 | apply IsS77.set_2) | exact HI0.out)) (rs HO712) (by decide)) hk (fun _ h => h.2)) (fun _ h => h.1)); have n1_ := as0 (KeepBut.trans (by repeat (first | (with_reducible first | exact HK.out | apply KeepBut.set_ | apply keep_drewN | apply keep_drew | apply keep_alloc) | exact HK.out)) hk (.inl rfl)); have n2_ := as0 (hb); have n3_ := as0 (hi); clear HO712; clear HK; clear HB; clear HI0; have HO712 := n0_; have HK := n1_; have HB := n2_; have HI0 := n3_; clear n0_ n1_ n2_ n3_; (try clear hb); (try clear hb2); (try clear hk); (try clear hi)) | (go_at_call 26; (with_reducible refine (spec_l01Next.calls g s0_0 t718 t719 3 t720 t721 t722 w0 _ ?side1 ?side2 A12.out).mono ?_); (case side1 => repeat (first | (with_reducible first | exact HI0.out | apply IsS77.alloc | apply IsS77.drewN | apply IsS77.drew | apply IsS77.set_1 | apply IsS77.set_2) | exact HI0.out)); (case side2 => repeat (first | (with_reducible first | exact HB.out | apply below_alloc | apply pw_below_drewN | apply below_drew1 | refine below_set ?_ (IsS77.ge HI0.out)) | exact HB.out)); rintro e w51 ⟨rfl, hi, hb, hk⟩; have n0_ := as0 (Kd.R_mono (Kd.R_keep (IsS77.apart (show IsS77 w0 _ g s0_0 t718 t719 from by repeat (first | (with_reducible first | exact HI0.out | apply IsS77.alloc | apply IsS77.drewN | apply IsS77.drew | apply IsS77.set_1 | apply IsS77.set_2) | exact HI0.out)) (rs HO712) (by decide)) hk (fun _ h => h.2)) (fun _ h => h.1)); have n1_ := as0 (KeepBut.trans (by repeat (first | (with_reducible first | exact HK.out | apply KeepBut.set_ | apply keep_drewN | apply keep_drew | apply keep_alloc) | exact HK.out)) hk (.inl rfl)); have n2_ := as0 (hb); have n3_ := as0 (hi); clear HO712; clear HK; clear HB; clear HI0; have HO712 := n0_; have HK := n1_; have HB := n2_; have HI0 := n3_; clear n0_ n1_ n2_ n3_; (try clear hb); (try clear hb2); (try clear hk); (try clear hi))))
          go_ret
          exact ⟨er_, by repeat (first | (with_reducible first | exact HI0.out | apply IsS77.alloc | apply IsS77.drewN | apply IsS77.drew | apply IsS77.set_1 | apply IsS77.set_2) | exact HI0.out), by repeat (first | (with_reducible first | exact HB.out | apply below_alloc | apply pw_below_drewN | apply below_drew1 | refine below_set ?_ (IsS77.ge HI0.out)) | exact HB.out), by repeat (first | (with_reducible first | exact HK.out | apply KeepBut.set_ | apply keep_drewN | apply keep_drew | apply keep_alloc) | exact HK.out)⟩
         ·
          rw [if_neg c45] at H
          exact absurd H (by simp)
        ·
         rw [if_neg c42] at H
         exact absurd H (by simp)
       ·
        rw [if_neg c41] at H
        exact absurd H (by simp)
      ·
       rw [if_neg c40] at H
       exact absurd H (by simp)
  ·
   rw [if_neg c5] at H
   exact absurd H (by simp)
 ·
  rw [if_neg c4] at H
  exact absurd H (by simp)
def spec_DrawParsePoly.l0 : Nat → Int → ByteArray → List Int → Int → Int → Option (Int × ByteArray)
 | 0, _, _, _, _, _ => none
 | k + 1, x5, x7, x727000, x727001, x727002 => (spec_l01Next.f x727000 x727001 x727002 3).bind fun bt734 => (if bt734.1 = 0 then ((spec_l01Damage.f x727000 bt734.2.1 bt734.2.2 x7).bind fun bt737 => (spec_DrawParsePoly.l0 k x5 bt737.1 x727000 bt737.2.1 bt737.2.2)) else (some (x5, x7)))
def spec_DrawParsePoly.f (k : Nat) (l0 : List Int) : Option (Int × ByteArray) := (spec_l01From.f k l0).bind fun bt723 => ((spec_l01One.f k bt723.1 bt723.2.1 bt723.2.2).bind fun bt727 => ((spec_l01Text.f k bt727.2.1).bind fun t733 => (spec_DrawParsePoly.l0 k bt727.1 t733 bt723.1 bt727.2.2.1 bt727.2.2.2)))
set_option maxHeartbeats 8000000 in
set_option maxRecDepth 100000 in
theorem spec_DrawParsePoly.calls (k : Nat) (A0 : Option Addr) (c0 : Nat) (l0 : List Int) (r1 : Int) (r2 : ByteArray) (w : World) (hr0 : Kd.C (Kd.int .u8) w A0 l0.length l0) (hc0 : l0.length ≤ c0) (h : spec_DrawParsePoly.f k l0 = some (r1, r2)) :
  Calls Tryz.prog 20 #[.slice A0 l0.length c0] w fun e w' => e = .returned (.tuple #[.int .i64 r1, .string r2]) ∧ Below w.heap.size w w' := by
 have HR0 := as0 hr0
 have HC0 := as0 hc0
 clear hr0 hc0
 have HB := as0 (Below.refl w.heap.size w)
 have H : ((spec_l01From.f k l0).bind fun bt723 => ((spec_l01One.f k bt723.1 bt723.2.1 bt723.2.2).bind fun bt727 => ((spec_l01Text.f k bt727.2.1).bind fun t733 => (spec_DrawParsePoly.l0 k bt727.1 t733 bt723.1 bt727.2.2.1 bt727.2.2.2)))) = some (r1, r2) := h
 clear h
 replace H := Option.bind_eq_some_iff.mp H
 obtain ⟨⟨t723, t724, t725⟩, A20, H⟩ := H
 have A2 := as0 A20
 clear A20
 replace H := Option.bind_eq_some_iff.mp H
 obtain ⟨⟨t727, t728, t731, t732⟩, A30, H⟩ := H
 have A3 := as0 A30
 clear A30
 replace H := Option.bind_eq_some_iff.mp H
 obtain ⟨t733, A40, H⟩ := H
 have A4 := as0 A40
 clear A40
 have H' := as0 H
 clear H
 go_enter Tryz.func20, Tryz.ntmps20
 go_wp2_with (first | ((with_reducible refine gate_callee (f := 24) rfl ?_); refine goesM_ (some 9) rfl rfl Tryz.func24 #[.slice A0 l0.length c0] rfl ?_; (with_reducible refine (spec_l01From.calls k _ _ l0 t723 t724 t725 w _ ?side1 ?side2 ?side3 A2.out).mono ?_); (case side1 => exact bs HB); (case side2 => exact HR0.out); (case side3 => exact HC0.out); rintro e w5 ⟨g726, rfl, hi, hb, hb2⟩; refine ⟨_, rfl, ?_⟩; have n0_ := as0 (hb); have n1_ := as0 (hi); clear HB; have HB := n0_; have HI726 := n1_; clear n0_ n1_; (try clear hb); (try clear hb2); (try clear hk); (try clear hi)) | ((with_reducible refine gate_callee (f := 38) rfl ?_); refine goesM_ (some 12) rfl rfl Tryz.func38 #[.pointer (some ⟨g726, 0, none⟩)] rfl ?_; (with_reducible refine (spec_l01One.calls k g726 t723 t724 t725 t727 t728 t731 t732 w _ ?side1 ?side2 A3.out).mono ?_); (case side1 => repeat (first | (with_reducible first | exact HI726.out | apply IsS77.alloc | apply IsS77.drewN | apply IsS77.drew | apply IsS77.set_1 | apply IsS77.set_2) | exact HI726.out)); (case side2 => repeat (first | (with_reducible first | exact HB.out | apply below_alloc | apply pw_below_drewN | apply below_drew1 | refine below_set ?_ (IsS77.ge HI726.out)) | exact HB.out)); rintro e w6 ⟨v729, rfl, ho0, hi, hb, hk⟩; refine ⟨_, rfl, ?_⟩; have n0_ := as0 (Kd.R_lower ho0 (below_size (by repeat (first | (with_reducible first | exact HB.out | apply below_alloc | apply pw_below_drewN | apply below_drew1 | refine below_set ?_ (IsS77.ge HI726.out)) | exact HB.out)))); have n1_ := as0 (hb); have n2_ := as0 (hi); clear HB; clear HI726; have HO730 := n0_; have HB := n1_; have HI726 := n2_; clear n0_ n1_ n2_; (try clear hb); (try clear hb2); (try clear hk); (try clear hi); (try clear ho0); obtain ⟨Ao7, co7, eo7⟩ := Kd.R_slice HO730.out; subst eo7) | ((with_reducible refine gate_callee (f := 50) rfl ?_); refine goesM_ (some 16) rfl rfl Tryz.func50 #[.slice Ao7 t728.length co7] rfl ?_; (with_reducible refine (spec_l01Text.calls k _ _ t728 t733 _ ?side1 ?side2 A4.out).mono ?_); (case side1 => exact cs ((Kd.R_reads' HO730.out).2.2)); (case side2 => exact (Kd.R_reads' HO730.out).2.1); rintro e w8 ⟨rfl, hb⟩; refine ⟨_, rfl, ?_⟩; have n0_ := as0 (Kd.R_below (rs HO730) hb); have n1_ := as0 (IsS77.below (by repeat (first | (with_reducible first | exact HI726.out | apply IsS77.alloc | apply IsS77.drewN | apply IsS77.drew | apply IsS77.set_1 | apply IsS77.set_2) | exact HI726.out)) hb); have n2_ := as0 (below_step (by repeat (first | (with_reducible first | exact HB.out | apply below_alloc | apply pw_below_drewN | apply below_drew1 | refine below_set ?_ (IsS77.ge HI726.out)) | exact HB.out)) hb); clear HO730; clear HI726; clear HB; have HO730 := n0_; have HI726 := n1_; have HB := n2_; clear n0_ n1_ n2_; (try clear hb); (try clear hb2); (try clear hk); (try clear hi)))
 go_loopg [7] k (fun kq v7 w' => ∃ (x7_1 : ByteArray) (x727001_1 : Int) (x727002_1 : Int), v7 = .string x7_1 ∧ Aside0 (spec_DrawParsePoly.l0 kq t727 x7_1 t723 x727001_1 x727002_1 = some (r1, r2)) ∧ Aside0 (kq ≤ k) ∧ Aside0 (IsS77 w w' g726 t723 x727001_1 x727002_1) ∧ Aside0 (Below w.heap.size w w'))
 case atStart => exact ⟨(t733), (t731), (t732), ea_, H', ⟨Nat.le_refl _⟩, ⟨by repeat (first | (with_reducible first | exact HI726.out | apply IsS77.alloc | apply IsS77.drewN | apply IsS77.drew | apply IsS77.set_1 | apply IsS77.set_2) | exact HI726.out)⟩, ⟨by repeat (first | (with_reducible first | exact HB.out | apply below_alloc | apply pw_below_drewN | apply below_drew1 | refine below_set ?_ (IsS77.ge HI726.out)) | exact HB.out)⟩⟩
 case round =>
  clear H'
  try clear c2
  try clear p2
  try clear c3
  try clear c5
  obtain ⟨x7_1, x727001_1, x727002_1, rfl, HA, HK1, HI726, HB⟩ := hrel
  cases gk with
  | zero => exact absurd HA.out (by simp [spec_DrawParsePoly.l0])
  | succ k1 =>
   have H := HA.out
   clear HA
   simp only [spec_DrawParsePoly.l0] at H
   replace H := Option.bind_eq_some_iff.mp H
   obtain ⟨⟨t734, t735, t736⟩, A90, H⟩ := H
   have A9 := as0 A90
   clear A90
   by_cases c10 : t734 = 0
   ·
    rw [if_pos c10] at H
    have c10b0 : (t734 == 0) = true := beq_iff_eq.mpr c10
    have c10b1 : (t734 != 0) = false := bne_eq_false_iff_eq.mpr c10
    clear c10
    replace H := Option.bind_eq_some_iff.mp H
    obtain ⟨⟨t737, t738, t739⟩, A110, H⟩ := H
    have A11 := as0 A110
    clear A110
    have H' := as0 H
    clear H
    go_wp2_with (first | ((with_reducible refine gate_callee (f := 26) rfl ?_); refine goesM_ (some 18) rfl rfl Tryz.func26 #[.pointer (some ⟨g726, 0, none⟩), .int .i64 3] rfl ?_; (with_reducible refine (spec_l01Next.calls g726 t723 x727001_1 x727002_1 3 t734 t735 t736 w _ ?side1 ?side2 A9.out).mono ?_); (case side1 => repeat (first | (with_reducible first | exact HI726.out | apply IsS77.alloc | apply IsS77.drewN | apply IsS77.drew | apply IsS77.set_1 | apply IsS77.set_2) | exact HI726.out)); (case side2 => repeat (first | (with_reducible first | exact HB.out | apply below_alloc | apply pw_below_drewN | apply below_drew1 | refine below_set ?_ (IsS77.ge HI726.out)) | exact HB.out)); rintro e w12 ⟨rfl, hi, hb, hk⟩; refine ⟨_, rfl, ?_⟩; have n0_ := as0 (hb); have n1_ := as0 (hi); clear HB; clear HI726; have HB := n0_; have HI726 := n1_; clear n0_ n1_; (try clear hb); (try clear hb2); (try clear hk); (try clear hi)) | ((with_reducible refine gate_callee (f := 56) rfl ?_); refine goesM_ (some 22) rfl rfl Tryz.func56 #[.pointer (some ⟨g726, 0, none⟩), .string x7_1] rfl ?_; (with_reducible refine (spec_l01Damage.calls g726 t723 t735 t736 x7_1 t737 t738 t739 w _ ?side1 ?side2 A11.out).mono ?_); (case side1 => repeat (first | (with_reducible first | exact HI726.out | apply IsS77.alloc | apply IsS77.drewN | apply IsS77.drew | apply IsS77.set_1 | apply IsS77.set_2) | exact HI726.out)); (case side2 => repeat (first | (with_reducible first | exact HB.out | apply below_alloc | apply pw_below_drewN | apply below_drew1 | refine below_set ?_ (IsS77.ge HI726.out)) | exact HB.out)); rintro e w13 ⟨rfl, hi, hb, hk⟩; refine ⟨_, rfl, ?_⟩; have n0_ := as0 (hb); have n1_ := as0 (hi); clear HB; clear HI726; have HB := n0_; have HI726 := n1_; clear n0_ n1_; (try clear hb); (try clear hb2); (try clear hk); (try clear hi)))
    go_roundg k1
    case measure => have := HK1.out; omega
    case rel => exact ⟨(t737), (t738), (t739), ea_, H', ⟨by have := HK1.out; omega⟩, ⟨by repeat (first | (with_reducible first | exact HI726.out | apply IsS77.alloc | apply IsS77.drewN | apply IsS77.drew | apply IsS77.set_1 | apply IsS77.set_2) | exact HI726.out)⟩, ⟨by repeat (first | (with_reducible first | exact HB.out | apply below_alloc | apply pw_below_drewN | apply below_drew1 | refine below_set ?_ (IsS77.ge HI726.out)) | exact HB.out)⟩⟩
   ·
    rw [if_neg c10] at H
    have c10b0 : (t734 == 0) = false := beq_eq_false_iff_ne.mpr c10
    have c10b1 : (t734 != 0) = true := bne_iff_ne.mpr c10
    simp only [Option.some.injEq, Prod.mk.injEq] at H
    obtain ⟨rfl, rfl⟩ := H
    go_wp2_with (first | ((with_reducible refine gate_callee (f := 26) rfl ?_); refine goesM_ (some 18) rfl rfl Tryz.func26 #[.pointer (some ⟨g726, 0, none⟩), .int .i64 3] rfl ?_; (with_reducible refine (spec_l01Next.calls g726 t723 x727001_1 x727002_1 3 t734 t735 t736 w _ ?side1 ?side2 A9.out).mono ?_); (case side1 => repeat (first | (with_reducible first | exact HI726.out | apply IsS77.alloc | apply IsS77.drewN | apply IsS77.drew | apply IsS77.set_1 | apply IsS77.set_2) | exact HI726.out)); (case side2 => repeat (first | (with_reducible first | exact HB.out | apply below_alloc | apply pw_below_drewN | apply below_drew1 | refine below_set ?_ (IsS77.ge HI726.out)) | exact HB.out)); rintro e w14 ⟨rfl, hi, hb, hk⟩; refine ⟨_, rfl, ?_⟩; have n0_ := as0 (hb); have n1_ := as0 (hi); clear HB; clear HI726; have HB := n0_; have HI726 := n1_; clear n0_ n1_; (try clear hb); (try clear hb2); (try clear hk); (try clear hi)))
    go_ret2
    exact ⟨er_, by repeat (first | (with_reducible first | exact HB.out | apply below_alloc | apply pw_below_drewN | apply below_drew1 | refine below_set ?_ (IsS77.ge HI726.out)) | exact HB.out)⟩
mutual
def spec_l01Number.j0 : Nat → ByteArray → Bool → Option (Int)
 | 0, _, _ => none
 | k + 1, x0, x22 => if x22 = true then (some (-1)) else (spec_l01Number.l0 k x0 0 0)
def spec_l01Number.l0 : Nat → ByteArray → Int → Int → Option (Int)
 | 0, _, _, _ => none
 | k + 1, x0, x3, x4 => if x4 < (x0.size : Int) then (if 0 ≤ x4 then (if (bt x0 x4) < 48 then (some (-1)) else (if (bt x0 x4) > 57 then (some (-1)) else (spec_l01Number.l0 k x0 (wrap64 ((wrap64 (x3 * 10)) + (((bt x0 x4) - 48) % 256))) (wrap64 (x4 + 1))))) else (none)) else (some x3)
end
def spec_l01Number.f (k : Nat) (a0 : ByteArray) : Option (Int) := if (a0.size : Int) = 0 then (spec_l01Number.j0 k a0 true) else (if (a0.size : Int) > 9 then (spec_l01Number.j0 k a0 true) else (if (a0.size : Int) > 1 then (if 0 < (a0.size : Int) then (spec_l01Number.j0 k a0 ((bt a0 0) == 48)) else (none)) else (spec_l01Number.j0 k a0 false)))
set_option maxHeartbeats 8000000 in
set_option maxRecDepth 100000 in
theorem spec_l01Number.calls (k : Nat) (a0 : ByteArray) (r : Int) (w : World) (h : spec_l01Number.f k a0 = some r) :
  Calls Tryz.prog 85 #[.string a0] w fun e w' => e = .returned (.int .i64 r) ∧ Drawn0 w w' := by
 have H : (if (a0.size : Int) = 0 then (spec_l01Number.j0 k a0 true) else (if (a0.size : Int) > 9 then (spec_l01Number.j0 k a0 true) else (if (a0.size : Int) > 1 then (if 0 < (a0.size : Int) then (spec_l01Number.j0 k a0 ((bt a0 0) == 48)) else (none)) else (spec_l01Number.j0 k a0 false)))) = some r := h
 clear h
 have HC2 := as0 H
 clear H
 go_enter Tryz.func85, Tryz.ntmps85
 go_upto_region 1 with (fail)
 go_cut [22] (fun v22 wc => ∃ (kq : Nat) (x22_1 : Bool), v22 = .bool x22_1 ∧ Aside0 (spec_l01Number.j0 kq a0 x22_1 = some r) ∧ Aside0 (kq ≤ k) ∧ Drawn0 w wc)
 case first =>
  have H := HC2.out
  clear HC2
  by_cases c3 : (a0.size : Int) = 0
  ·
   rw [if_pos c3] at H
   have c3b0 : ((a0.size : Int) == 0) = true := beq_iff_eq.mpr c3
   have c3b1 : ((a0.size : Int) != 0) = false := bne_eq_false_iff_eq.mpr c3
   clear c3
   (first | rw [c3b0] | (simp only [i64_w, i32_w]; rw [c3b0]) | skip)
   have H' := as0 H
   clear H
   go_wp2
   go_meet
   case rel => exact ⟨_, (true), ea_, H', ⟨by first | omega | exact Nat.le_refl _⟩, dr_⟩
  ·
   rw [if_neg c3] at H
   have c3b0 : ((a0.size : Int) == 0) = false := beq_eq_false_iff_ne.mpr c3
   have c3b1 : ((a0.size : Int) != 0) = true := bne_iff_ne.mpr c3
   (first | rw [c3b0] | (simp only [i64_w, i32_w]; rw [c3b0]) | skip)
   by_cases c4 : (a0.size : Int) > 9
   ·
    rw [if_pos c4] at H
    have c4b0 : decide (9 < (a0.size : Int)) = true := decide_eq_true c4
    have c4b1 : decide (9 < a0.size) = true := decide_eq_true (by omega)
    clear c4
    have H' := as0 H
    clear H
    go_wp2
    go_meet
    case rel => exact ⟨_, (true), ea_, H', ⟨by first | omega | exact Nat.le_refl _⟩, dr_⟩
   ·
    rw [if_neg c4] at H
    have c4b0 : decide (9 < (a0.size : Int)) = false := decide_eq_false c4
    have c4b1 : decide (9 < a0.size) = false := decide_eq_false (by omega)
    clear c4
    by_cases c5 : (a0.size : Int) > 1
    ·
     rw [if_pos c5] at H
     have c5b0 : decide (1 < (a0.size : Int)) = true := decide_eq_true c5
     have c5b1 : decide (1 < a0.size) = true := decide_eq_true (by omega)
     clear c5
     by_cases c6 : 0 < (a0.size : Int)
     ·
      rw [if_pos c6] at H
      have c6b0 : decide (0 < (a0.size : Int)) = true := decide_eq_true c6
      have c6b1 : decide (0 < a0.size) = true := decide_eq_true (by omega)
      clear c6
      have H' := as0 H
      clear H
      have p7 : 0 ≤ (0 : Int) := (by omega)
      have q7 : 0 < a0.size := (by have : (0 : Int) < (a0.size : Int) := oa_; omega)
      have hx7 : ∀ h : 0 < a0.size, ((a0[0]'h).toNat : Int) = bt a0 0 := bt_at a0 0
      clear p7
      have qi7 : (0 < (a0.size : Int)) = True := eq_true (oa_)
      replace q7 := eq_true q7
      go_wp2
      go_meet
      case rel => exact ⟨_, (((bt a0 0) == 48)), ea_, H', ⟨by first | omega | exact Nat.le_refl _⟩, dr_⟩
     ·
      rw [if_neg c6] at H
      exact absurd H (by simp)
    ·
     rw [if_neg c5] at H
     have c5b0 : decide (1 < (a0.size : Int)) = false := decide_eq_false c5
     have c5b1 : decide (1 < a0.size) = false := decide_eq_false (by omega)
     clear c5
     have H' := as0 H
     clear H
     go_wp2
     go_meet
     case rel => exact ⟨_, (false), ea_, H', ⟨by first | omega | exact Nat.le_refl _⟩, dr_⟩
 case rest =>
  clear HC2
  try clear p2
  try clear c3
  try clear c3b0
  try clear c3b1
  try clear c4
  try clear c4b0
  try clear c4b1
  try clear c5
  try clear c5b0
  try clear c5b1
  try clear c6
  try clear c6b0
  try clear c6b1
  try clear p7
  try clear q7
  try clear hx7
  try clear qi7
  try clear p7
  try clear q7
  obtain ⟨kq, x22_1, rfl, HA, HJ1, ⟨mc1, rfl⟩⟩ := hcut
  cases kq with
  | zero => exact absurd HA.out (by simp [spec_l01Number.j0])
  | succ kj1 =>
   have H := HA.out
   clear HA
   simp only [spec_l01Number.j0] at H
   by_cases c8 : x22_1 = true
   ·
    subst c8
    have H1 : (some (-1)) = some r := by rw [if_pos rfl] at H; exact H
    clear H
    have H := H1
    clear H1
    obtain rfl := Option.some.inj H
    go_wp2
    go_ret
    exact ⟨ea_, dr_⟩
   ·
    replace c8 := Bool.eq_false_iff.mpr c8
    subst c8
    have H1 : (spec_l01Number.l0 kj1 a0 0 0) = some r := by rw [if_neg (show ¬ (false = true) by decide)] at H; exact H
    clear H
    have H := H1
    clear H1
    have H' := as0 H
    clear H
    go_wp2
    go_loopg [3, 4] kj1 (fun kq v3 v4 w' => ∃ (x3_2 : Int) (x4_2 : Int), v3 = .int .i64 x3_2 ∧ v4 = .int .i64 x4_2 ∧ Aside0 (spec_l01Number.l0 kq a0 x3_2 x4_2 = some r) ∧ Aside0 (kq ≤ kj1) ∧ Drawn0 w w')
    case atStart => exact ⟨(0), (0), ea_, ea_, H', ⟨Nat.le_refl _⟩, dr_⟩
    case round =>
     clear H'
     try clear c1
     try clear p2
     try clear c3
     try clear c3b0
     try clear c3b1
     try clear c4
     try clear c4b0
     try clear c4b1
     try clear c5
     try clear c5b0
     try clear c5b1
     try clear c6
     try clear c6b0
     try clear c6b1
     try clear p7
     try clear q7
     try clear hx7
     try clear qi7
     try clear c8
     try clear p2
     try clear p7
     try clear q7
     obtain ⟨x3_2, x4_2, rfl, rfl, HA, HK2, ⟨m2, rfl⟩⟩ := hrel
     cases gk with
     | zero => exact absurd HA.out (by simp [spec_l01Number.l0])
     | succ k2 =>
      have H := HA.out
      clear HA
      simp only [spec_l01Number.l0] at H
      by_cases c9 : x4_2 < (a0.size : Int)
      ·
       rw [if_pos c9] at H
       have c9b0 : decide (x4_2 < (a0.size : Int)) = true := decide_eq_true c9
       clear c9
       by_cases c10 : 0 ≤ x4_2
       ·
        rw [if_pos c10] at H
        have c10b0 : decide (0 ≤ x4_2) = true := decide_eq_true c10
        clear c10
        by_cases c12 : (bt a0 x4_2) < 48
        ·
         rw [if_pos c12] at H
         have c12b0 : decide ((bt a0 x4_2) < 48) = true := decide_eq_true c12
         clear c12
         obtain rfl := Option.some.inj H
         have p11 : 0 ≤ (x4_2 : Int) := oa_
         have q11 : x4_2 < (a0.size : Int) := oa_
         have hx11 := bt_at a0 x4_2
         replace p11 := eq_true p11
         replace q11 := eq_true q11
         go_wp2
         go_ret
         exact ⟨ea_, dr_⟩
        ·
         rw [if_neg c12] at H
         have c12b0 : decide ((bt a0 x4_2) < 48) = false := decide_eq_false c12
         clear c12
         by_cases c14 : (bt a0 x4_2) > 57
         ·
          rw [if_pos c14] at H
          have c14b0 : decide (57 < (bt a0 x4_2)) = true := decide_eq_true c14
          clear c14
          obtain rfl := Option.some.inj H
          have p11 : 0 ≤ (x4_2 : Int) := oa_
          have q11 : x4_2 < (a0.size : Int) := oa_
          have hx11 := bt_at a0 x4_2
          replace p11 := eq_true p11
          replace q11 := eq_true q11
          have p13 : 0 ≤ (x4_2 : Int) := oa_
          have q13 : x4_2 < (a0.size : Int) := oa_
          have hx13 := bt_at a0 x4_2
          replace p13 := eq_true p13
          replace q13 := eq_true q13
          go_wp2
          go_ret
          exact ⟨ea_, dr_⟩
         ·
          rw [if_neg c14] at H
          have c14b0 : decide (57 < (bt a0 x4_2)) = false := decide_eq_false c14
          clear c14
          have H' := as0 H
          clear H
          have p11 : 0 ≤ (x4_2 : Int) := oa_
          have q11 : x4_2 < (a0.size : Int) := oa_
          have hx11 := bt_at a0 x4_2
          replace p11 := eq_true p11
          replace q11 := eq_true q11
          have p13 : 0 ≤ (x4_2 : Int) := oa_
          have q13 : x4_2 < (a0.size : Int) := oa_
          have hx13 := bt_at a0 x4_2
          replace p13 := eq_true p13
          replace q13 := eq_true q13
          have p15 : 0 ≤ (x4_2 : Int) := oa_
          have q15 : x4_2 < (a0.size : Int) := oa_
          have hx15 := bt_at a0 x4_2
          replace p15 := eq_true p15
          replace q15 := eq_true q15
          go_wp2
          go_roundg k2
          case measure => have := HJ1.out; have := HK2.out; omega
          case rel => exact ⟨(wrap64 ((wrap64 (x3_2 * 10)) + (((bt a0 x4_2) - 48) % 256))), (wrap64 (x4_2 + 1)), ea_, ea_, H', ⟨by have := HJ1.out; have := HK2.out; omega⟩, dr_⟩
       ·
        rw [if_neg c10] at H
        exact absurd H (by simp)
      ·
       rw [if_neg c9] at H
       have c9b0 : decide (x4_2 < (a0.size : Int)) = false := decide_eq_false c9
       clear c9
       obtain rfl := Option.some.inj H
       go_wp2
       go_ret
       exact ⟨ea_, dr_⟩
end Go.Proofs.YtmadpicanmjhhaaGreatDoor.H
