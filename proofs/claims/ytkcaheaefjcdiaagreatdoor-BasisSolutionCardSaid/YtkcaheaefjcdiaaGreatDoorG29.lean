/- The reference of basis: square, unit, Solve. -/
import Derived.Test.YtkcaheaefjcdiaaGreatDoorG27
import Derived.Test.YtkcaheaefjcdiaaGreatDoorG28
namespace Go.Proofs.YtkcaheaefjcdiaaGreatDoor
open Go.RowKit Num
set_option linter.unusedVariables false
attribute [local go_sem] B_size B_get B_toList B_mk B_extract B_append

/-- rows that are being made: headers and rows are the call's own -/
structure RowsO (w : World) (Bs : Nat) (A : Option Addr) (c : Nat) (rs : List VecV) : Prop where
  outer : OwnS w Bs 23 A rs.length c (rs.map hdrV)
  rows : ∀ r ∈ rs, OwnS w Bs 36 r.A r.xs.length r.c (strs r.xs)
section
variable {w w' : World} {Bs c : Nat} {A : Option Addr} {rs : List VecV}
theorem RowsO.nil (w : World) (Bs : Nat) : RowsO w Bs none 0 [] := ⟨OwnS.nil _ _ _, fun r hr => absurd hr (by simp)⟩
theorem RowsO.below (h : RowsO w Bs A c rs) (hb : Below w.heap.size w w') : RowsO w' Bs A c rs := ⟨h.outer.below hb, fun r hr => (h.rows r hr).below hb⟩
theorem RowsO.mono {Bs' : Nat} (h : RowsO w Bs A c rs) (hb : Bs' ≤ Bs) : RowsO w Bs' A c rs := ⟨h.outer.mono hb, fun r hr => (h.rows r hr).mono hb⟩
theorem RowsO.at (h : RowsO w Bs A c rs) : MatAt w A rs := mat_of_hdr h.outer.cells fun r hr => (h.rows r hr).cells
theorem RowsO.add {A' : Option Addr} {c' : Nat} {r : VecV} (h : RowsO w Bs A c rs) (hr : OwnS w Bs 36 r.A r.xs.length r.c (strs r.xs)) (ho : OwnS w' Bs 23 A' (rs.length + 1) c' (rs.map hdrV ++ [hdrV r]))
    (hk : ∀ k, k < w.heap.size → A ≠ some ⟨k, 0, none⟩ → w'.heap[k]? = w.heap[k]?) : RowsO w' Bs A' c' (rs ++ [r]) := by
  have key : ∀ x : VecV, OwnS w Bs 36 x.A x.xs.length x.c (strs x.xs) → OwnS w' Bs 36 x.A x.xs.length x.c (strs x.xs) := by
    intro x hx
    refine hx.keep fun b hb => ?_
    rw [hb] at hx
    exact hk b hx.typ.2.1 (hx.ne h.outer (by decide))
  refine ⟨?_, fun x hx => ?_⟩
  · rw [List.length_append, List.map_append]; exact ho
  · rcases List.mem_append.1 hx with h1 | h1
    · exact key x (h.rows x h1)
    · rw [List.mem_singleton.1 h1]; exact key r hr
end
theorem texts_snoc (rs : List VecV) (r : VecV) : texts (rs ++ [r]) = texts rs ++ [r.xs] := by unfold texts; rw [List.map_append]; rfl
theorem bsquare_any (rs : List VecV) (A : Option Addr) (c : Nat) (w : World) (hM : MatAt w A rs) (hl : rs.length ≤ 1000000) (hrl : ∀ r ∈ rs, r.xs.length ≤ 1000000) :
    Calls Tryz.prog 33 #[.slice A rs.length c] w fun e w' => e = .returned (.bool (sqB (texts rs))) ∧ w' = w := by
  by_cases h0 : rs.length = 0
  · have h0' : ((rs.length : Int) == 0) = true := by rw [h0]; rfl
    have HS := Lib.hid (show sqB (texts rs) = true by unfold sqB; rw [texts_length, h0]; rfl)
    clear h0
    go_enter Tryz.func33, Tryz.ntmps33
    go_wp2_with fail
    go_ret
    exact ⟨ret_bool HS.out.symm, rfl⟩
  · have hpos : 0 < rs.length := by omega
    have h0' : ((rs.length : Int) == 0) = false := by rw [beq_eq_false_iff_ne]; omega
    obtain ⟨b, off, rfl, hb, hc⟩ := hM.1 hpos
    have c0 : w.cell? ⟨b, off, none⟩ = some (.slice (rs[0]'hpos).A (rs[0]'hpos).xs.length (rs[0]'hpos).c) := hc 0 hpos
    have hr0 := hrl _ (List.getElem_mem hpos)
    have HS := Lib.hid (show sqB (texts rs) = decide ((rs[0]'hpos).xs.length = rs.length) by
      unfold sqB; rw [texts_length, texts_getD hpos, decide_eq_false h0, Bool.false_or])
    generalize rs[0]'hpos = r0 at *
    by_cases he : r0.xs.length = rs.length
    · have he' : ((r0.xs.length : Int) == (rs.length : Int)) = true := by rw [he]; simp
      have HS2 := Lib.hid (show sqB (texts rs) = true by rw [HS.out, decide_eq_true he])
      clear he hc h0
      go_enter Tryz.func33, Tryz.ntmps33
      go_wp2_with fail
      go_ret
      exact ⟨ret_bool HS2.out.symm, rfl⟩
    · have he' : ((r0.xs.length : Int) == (rs.length : Int)) = false := by rw [beq_eq_false_iff_ne]; omega
      have HS2 := Lib.hid (show sqB (texts rs) = false by rw [HS.out, decide_eq_false he])
      clear he hc h0
      go_enter Tryz.func33, Tryz.ntmps33
      go_wp2_with fail
      go_ret
      exact ⟨ret_bool HS2.out.symm, rfl⟩
/-- the unit row, as far as it is written -/
def unitN (a j : Nat) : List Str := (List.range j).map fun i => if i = a then [49] else [48]
theorem unitN_full (n a : Nat) : unitN a n = unitR n a := by
  apply List.ext_getElem?
  intro i
  unfold unitN
  by_cases hi : i < n
  · have h := unit_get (a := a) hi
    rw [List.getD_eq_getElem?_getD, List.getElem?_eq_getElem (by rw [unit_len]; exact hi)] at h
    have h : (unitR n a)[i]'(by rw [unit_len]; exact hi) = if i = a then [49] else [48] := h
    rw [List.getElem?_map, List.getElem?_range hi, List.getElem?_eq_getElem (by rw [unit_len]; exact hi), h]; rfl
  · rw [List.getElem?_eq_none (by simp; omega), List.getElem?_eq_none (by rw [unit_len]; omega)]
theorem unitN_snoc (a j : Nat) : unitN a j ++ [if j = a then [49] else [48]] = unitN a (j + 1) := by
  unfold unitN; rw [List.range_succ, List.map_append]; rfl
theorem bunit_any (n a : Nat) (w : World) (hn : n ≤ 1000000) (ha : a ≤ 1000000) :
    Calls Tryz.prog 51 #[.int .i64 n, .int .i64 a] w fun e w' => ∃ X cx, e = .returned (.slice X n cx) ∧ OwnS w' w.heap.size 36 X n cx (strs (unitR n a)) ∧ Below w.heap.size w w' := by
  go_enter Tryz.func51, Tryz.ntmps51
  simp only [B_mk]
  go_wp2_with fail
  go_loopw [5, 6] (fun v i wr => ∃ (j : Nat) (X : Option Addr) (cx : Nat), j ≤ n ∧ i = .int .i64 j ∧ v = .slice X j cx ∧ OwnS wr w.heap.size 36 X j cx (strs (unitN a j)) ∧ Below w.heap.size w wr) (fun _ i _ => n - (intOf i).toNat)
  case atStart => exact ⟨0, none, 0, Nat.zero_le _, rfl, rfl, OwnS.nil _ _ _, Below.refl _ _⟩
  case round =>
    obtain ⟨j, X, cx, hj, rfl, rfl, hX, hbel⟩ := hrel
    have hcap := hX.cap
    unfold maxLen at hcap
    by_cases hlt : j < n
    · have HS := Lib.hid (unitN_snoc a j)
      by_cases hja : j = a
      · have hja' : ((j : Int) == (a : Int)) = true := by rw [hja]; simp
        have HS1 := Lib.hid (show unitN a j ++ [[49]] = unitN a (j + 1) by rw [← HS.out, if_pos hja])
        clear hja
        go_wp2_with (at_builtin; refine wp_app1 el_mrat rfl _ _ rfl w.heap.size _ _ _ _ _ (.string (B [49])) rfl hX rfl rfl (by unfold maxLen; omega) (by omega) hbel.size ?_; intro A3 c3 w3 hown3 hb3)
        go_roundw
        case rel => exact ⟨j + 1, A3, c3, by omega, by go_num, rfl, by rw [snoc_strs, HS1.out] at hown3; exact hown3, hbel.trans hb3⟩
        case measure => simp [intOf]; omega
      · have hja' : ((j : Int) == (a : Int)) = false := by rw [beq_eq_false_iff_ne]; omega
        have HS1 := Lib.hid (show unitN a j ++ [[48]] = unitN a (j + 1) by rw [← HS.out, if_neg hja])
        clear hja
        go_wp2_with (at_builtin; refine wp_app1 el_mrat rfl _ _ rfl w.heap.size _ _ _ _ _ (.string (B [48])) rfl hX rfl rfl (by unfold maxLen; omega) (by omega) hbel.size ?_; intro A3 c3 w3 hown3 hb3)
        go_roundw
        case rel => exact ⟨j + 1, A3, c3, by omega, by go_num, rfl, by rw [snoc_strs, HS1.out] at hown3; exact hown3, hbel.trans hb3⟩
        case measure => simp [intOf]; omega
    · have hjn : j = n := by omega
      have HF := Lib.hid (show OwnS wr w.heap.size 36 X n cx (strs (unitR n a)) by rw [← unitN_full, ← hjn]; exact hX)
      have HJ := Lib.hid hjn
      clear hX hjn
      go_wp2_with fail
      go_ret
      exact ⟨X, cx, by show Ending.returned (.slice X j cx) = _; rw [HJ.out], HF.out, hbel⟩
end Go.Proofs.YtkcaheaefjcdiaaGreatDoor
/- The reference of basis: Solve. -/
namespace Go.Proofs.YtkcaheaefjcdiaaGreatDoor
open Go.RowKit Num
set_option linter.unusedVariables false
attribute [local go_sem] B_size B_get B_toList B_mk B_extract B_append

theorem next_size {M vs : List (List Str)} {p : Prop} [Decidable p] (h : rchkE M ≠ 0) : nextE M p vs = rchkE M := by unfold nextE; rw [if_neg h]
theorem next_arg {M vs : List (List Str)} {p : Prop} [Decidable p] (h : rchkE M = 0) (hp : ¬ p) : nextE M p vs = 2 := by unfold nextE; rw [if_pos h, if_neg hp]
theorem next_form {M vs : List (List Str)} {p : Prop} [Decidable p] (h : rchkE M = 0) (hp : p) (hr : ¬ (allR M = true ∧ allR vs = true)) : nextE M p vs = 3 := by unfold nextE; rw [if_pos h, if_pos hp, if_neg hr]
theorem next_ok {M vs : List (List Str)} {p : Prop} [Decidable p] (h : rchkE M = 0) (hp : p) (hr : allR M = true ∧ allR vs = true) : nextE M p vs = 0 := by unfold nextE; rw [if_pos h, if_pos hp, if_pos hr]
theorem slv_bad {M : List (List Str)} {b : List Str} {q : Int} (h : nextE M (sqB M = true ∧ b.length = M.length) [b] = q) (hq : q ≠ 0) : slvE M b = q ∧ slvM M b = [] := by
  have h1 : slvE M b = q := by rw [slv_same]; unfold rslvE; rw [h, if_neg hq]
  refine ⟨h1, ?_⟩
  unfold slvM
  rw [h1, if_neg hq]
theorem allR_one (b : List Str) : allR [b] = b.all rightQ := by unfold allR; simp
theorem take_map_snoc {M : List (List Str)} {f : List Str → Str} {j : Nat} (hj : j < M.length) : (M.take j).map f ++ [f (M.getD j [])] = (M.take (j + 1)).map f := by
  rw [List.take_succ_eq_append_getElem hj, List.map_append, getD_eq hj]; rfl
theorem wide_snoc {M : List (List Str)} {more : Nat → List Str} {j : Nat} (hj : j < M.length) : (wideM M more).take j ++ [M.getD j [] ++ more j] = (wideM M more).take (j + 1) := by
  rw [List.take_succ_eq_append_getElem (by rw [wideM_len]; exact hj), ← wideM_get M more hj, getD_eq (by rw [wideM_len]; exact hj)]
theorem sol_heads {W : List (List Str)} {n : Nat} (h : ¬ badP (reduceM W).2 n) : (solM W n).map (·.getD 0 []) = (reduceM W).1.map (·.getD n []) := by
  unfold solM
  rw [if_neg h, List.map_map]
  refine List.map_congr_left fun r _ => ?_
  show (r.drop n).getD 0 [] = _
  rw [List.getD_eq_getElem?_getD, List.getElem?_drop, ← List.getD_eq_getElem?_getD]; rfl
set_option maxHeartbeats 4000000 in
set_option maxRecDepth 100000 in
theorem brsolveT_any (rs : List VecV) (A : Option Addr) (c : Nat) (bs : List Str) (V : Option Addr) (cv : Nat) (w : World) (hM : MatAt w A rs) (hV : Cells w V (strs bs)) (hR : RsOK rs) (hl5 : rs.length ≤ 500) (hbl : bs.length ≤ 1000) (hbx : ∀ x ∈ bs, x.length ≤ 100000)
    (hred : chkE (texts rs) (-1) true [bs] = 0 → ∃ D, D ≤ 4096 ∧ RedOK D (rs.length + 1) (wideM (texts rs) (oneMore bs))) :
    Calls Tryz.prog 13 #[.slice A rs.length c, .slice V bs.length cv] w fun e w' => ∃ (X : Option Addr) (cx : Nat), e = .returned (.tuple #[.slice X (slvM (texts rs) bs).length cx, .int .i64 (slvE (texts rs) bs)]) ∧ OwnS w' w.heap.size 36 X (slvM (texts rs) bs).length cx (strs (slvM (texts rs) bs)) ∧ Below w.heap.size w w' := by
  have hlr := hR.len
  have HC := Lib.hid (brcheck_any rs A c w hM (by omega) (fun r hr => by have := hR.row r hr; omega))
  have HS := Lib.hid (fun w h => bsquare_any rs A c w h (by omega) (fun r hr => by have := hR.row r hr; omega))
  have HL := Lib.hid (fun w h => brall_any rs A c w h (by omega) (fun r hr => by have := hR.row r hr; omega) hR.txt)
  have HB := Lib.hid (fun w h => brright_any bs V cv w h (by omega) hbx)
  have HM := Lib.hid hM
  have HV := Lib.hid hV
  have HRED := Lib.hid hred
  have HROW := Lib.hid hR.row
  clear hM hV hred hbx
  by_cases h0 : rchkE (texts rs) = 0
  · rw [h0] at HC
    cases hsq : sqB (texts rs)
    · have hb := slv_bad (M := texts rs) (b := bs) (next_arg h0 (by rw [hsq]; simp)) (by decide)
      rw [hb.1, hb.2]
      rw [hsq] at HS
      clear h0 hb
      go_enter Tryz.func13, Tryz.ntmps13
      go_wp2_with fail
      refine HC.out.mono ?_
      rintro e w1 ⟨rfl, hb1⟩
      go_wp2_with fail
      refine (HS.out w1 (HM.out.below hb1)).mono ?_
      rintro e w2 ⟨rfl, h2⟩
      obtain rfl := h2.symm
      go_wp2_with fail
      go_ret2
      exact ⟨none, 0, rfl, OwnS.nil _ _ _, hb1⟩
    rw [hsq] at HS
    by_cases hln : bs.length = rs.length
    · have hln' : ((bs.length : Int) != (rs.length : Int)) = false := by rw [hln]; simp
      have hp : sqB (texts rs) = true ∧ bs.length = (texts rs).length := ⟨hsq, by rw [texts_length]; exact hln⟩
      cases hal : allR (texts rs)
      · have hb := slv_bad (M := texts rs) (b := bs) (next_form h0 hp (by rw [hal]; simp)) (by decide)
        rw [hb.1, hb.2]
        rw [hal] at HL
        clear h0 hb hp hln
        go_enter Tryz.func13, Tryz.ntmps13
        go_wp2_with fail
        refine HC.out.mono ?_
        rintro e w1 ⟨rfl, hb1⟩
        go_wp2_with fail
        refine (HS.out w1 (HM.out.below hb1)).mono ?_
        rintro e w2 ⟨rfl, h2⟩
        obtain rfl := h2.symm
        go_wp2_with fail
        refine (HL.out w1 (HM.out.below hb1)).mono ?_
        rintro e w2 ⟨rfl, hb2⟩
        go_wp2_with fail
        go_ret2
        exact ⟨none, 0, rfl, OwnS.nil _ _ _, below_lift3 hb1 hb2⟩
      rw [hal] at HL
      cases hbr : bs.all rightQ
      · have hb := slv_bad (M := texts rs) (b := bs) (next_form h0 hp (by rw [allR_one, hbr]; simp)) (by decide)
        rw [hb.1, hb.2]
        rw [hbr] at HB
        clear h0 hb hp hln
        go_enter Tryz.func13, Tryz.ntmps13
        go_wp2_with fail
        refine HC.out.mono ?_
        rintro e w1 ⟨rfl, hb1⟩
        go_wp2_with fail
        refine (HS.out w1 (HM.out.below hb1)).mono ?_
        rintro e w2 ⟨rfl, h2⟩
        obtain rfl := h2.symm
        go_wp2_with fail
        refine (HL.out w1 (HM.out.below hb1)).mono ?_
        rintro e w2 ⟨rfl, hb2⟩
        go_wp2_with fail
        refine (HB.out w2 (HV.out.below (below_lift3 hb1 hb2))).mono ?_
        rintro e w3 ⟨rfl, hb3⟩
        go_wp2_with fail
        go_ret2
        exact ⟨none, 0, rfl, OwnS.nil _ _ _, below_lift3 (below_lift3 hb1 hb2) hb3⟩
      rw [hbr] at HB
      have hnx := next_ok (vs := [bs]) h0 hp ⟨hal, by rw [allR_one]; exact hbr⟩
      have hck : chkE (texts rs) (-1) true [bs] = 0 := by
        rw [chk_sq, ← hnx]
        exact next_congr (by simp)
      obtain ⟨D, hD, hO⟩ := HRED.out hck
      have hz4 := (chk_zero hck).2.2.2.1
      have hrown : ∀ r ∈ rs, r.xs.length = rs.length := fun r hr => by
        have := hz4 rfl r.xs (List.mem_map.2 ⟨r, hr, rfl⟩)
        rw [texts_length] at this; exact this
      have hwl : (wideM (texts rs) (oneMore bs)).length = rs.length := by rw [wideM_len, texts_length]
      have hwsn := fun j (hj : j < rs.length) => wide_snoc (M := texts rs) (more := oneMore bs) (j := j) (by rw [texts_length]; exact hj)
      have hE : slvE (texts rs) bs = solE (reduceM (wideM (texts rs) (oneMore bs))).2 rs.length := by rw [slv_same]; unfold rslvE; rw [if_pos hnx, texts_length]
      have hSM : ¬ badP (reduceM (wideM (texts rs) (oneMore bs))).2 rs.length → slvM (texts rs) bs = (reduceM (wideM (texts rs) (oneMore bs))).1.map (·.getD rs.length []) := fun h => by
        have h2 : slvE (texts rs) bs = 0 := by rw [hE]; unfold solE; rw [if_neg h]
        unfold slvM
        rw [if_pos h2, texts_length, sol_heads h]
      have hSB : badP (reduceM (wideM (texts rs) (oneMore bs))).2 rs.length → slvM (texts rs) bs = [] ∧ slvE (texts rs) bs = 7 := fun h => by
        have h2 : slvE (texts rs) bs = 7 := by rw [hE]; unfold solE; rw [if_pos h]
        refine ⟨?_, h2⟩
        unfold slvM
        rw [h2, if_neg (by decide)]
      have hE0 : ¬ badP (reduceM (wideM (texts rs) (oneMore bs))).2 rs.length → slvE (texts rs) bs = 0 := fun h => by rw [hE]; unfold solE; rw [if_neg h]
      have hasc : (reduceM (wideM (texts rs) (oneMore bs))).2.Pairwise (· < ·) := (stN_piv _ _).1
      have hbi := badP_iff hasc rs.length
      have hRl : (reduceM (wideM (texts rs) (oneMore bs))).1.length = rs.length := by rw [redOK_len hO, hwl]
      have hpl : (reduceM (wideM (texts rs) (oneMore bs))).2.length ≤ 1000 := by
        by_cases hn0 : 0 < rs.length
        · rw [reduceM_st, hO.width (by omega)]
          have := hO.few _ (Nat.le_refl _); omega
        · rw [List.eq_nil_of_length_eq_zero (show (wideM (texts rs) (oneMore bs)).length = 0 by omega)]
          show 0 ≤ 1000; omega
      have hRr : ∀ r ∈ (reduceM (wideM (texts rs) (oneMore bs))).1, r.length = rs.length + 1 := by
        by_cases hn0 : 0 < rs.length
        · rw [reduceM_st, hO.width (by omega)]
          exact fun r hr => (hO.mat _ (Nat.le_refl _) r hr).1
        · rw [List.eq_nil_of_length_eq_zero (show (wideM (texts rs) (oneMore bs)).length = 0 by omega)]
          exact fun r hr => absurd hr (by simp [reduceM_st, stN])
      have HRD := Lib.hid (fun (rt : List VecV) (T : Option Addr) (ct : Nat) (w : World) (hM : MatAt w T rt) (ht : texts rt = wideM (texts rs) (oneMore bs)) (h0 : T = none → ct = 0) => show Calls Tryz.prog 35 #[.slice T rs.length ct] w fun e w' => ∃ (O : Option Addr) (co : Nat) (rs' : List VecV) (P : Option Addr) (cp : Nat), e = .returned (.tuple #[.slice O rs'.length co, .slice P (reduceM (wideM (texts rs) (oneMore bs))).2.length cp]) ∧ MatAt w' O rs' ∧ texts rs' = (reduceM (wideM (texts rs) (oneMore bs))).1 ∧
          OwnS w' w.heap.size 3 P (reduceM (wideM (texts rs) (oneMore bs))).2.length cp (nums (reduceM (wideM (texts rs) (oneMore bs))).2) ∧ Below w.heap.size w w' from by
        have hrl : rt.length = rs.length := by rw [← texts_length, ht, hwl]
        have h := brreduce_any rt (by rw [ht]; exact hO) hD T ct w hM h0 (by omega) (by omega)
        rw [hrl, ht] at h
        exact h)
      generalize reduceM (wideM (texts rs) (oneMore bs)) = res at *
      obtain ⟨R, piv⟩ := res
      have HSM := Lib.hid (show ¬ badP piv rs.length → slvM (texts rs) bs = R.map (·.getD rs.length []) from hSM)
      have HSB := Lib.hid (show badP piv rs.length → slvM (texts rs) bs = [] ∧ slvE (texts rs) bs = 7 from hSB)
      have HE0 := Lib.hid (show ¬ badP piv rs.length → slvE (texts rs) bs = 0 from hE0)
      have HBI := Lib.hid (show ¬ badP piv rs.length ↔ rs.length ≤ piv.length ∧ ∀ i, i < rs.length → piv.getD i 0 = i from hbi)
      have HRL := Lib.hid (show R.length = rs.length from hRl)
      have HRR := Lib.hid (show ∀ r ∈ R, r.length = rs.length + 1 from hRr)
      have hpl : piv.length ≤ 1000 := hpl
      have HWS := Lib.hid hwsn
      have HWL := Lib.hid hwl
      have HRN := Lib.hid hrown
      have HLN := Lib.hid hln
      clear hnx hck hO hz4 hwl hE hSM hSB hE0 hasc hbi hRl hRr hp hrown hwsn h0 hln hsq hal hbr
      generalize slvE (texts rs) bs = q at *
      generalize slvM (texts rs) bs = sv at *
      generalize wideM (texts rs) (oneMore bs) = W at *
      go_enter Tryz.func13, Tryz.ntmps13
      go_wp2_with fail
      refine HC.out.mono ?_
      rintro e w1 ⟨rfl, hb1⟩
      go_wp2_with fail
      refine (HS.out w1 (HM.out.below hb1)).mono ?_
      rintro e w2 ⟨rfl, h2⟩
      obtain rfl := h2.symm
      go_wp2_with fail
      refine (HL.out w1 (HM.out.below hb1)).mono ?_
      rintro e w2 ⟨rfl, hb2⟩
      have b2 := below_lift3 hb1 hb2
      go_wp2_with fail
      refine (HB.out w2 (HV.out.below b2)).mono ?_
      rintro e w3 ⟨rfl, hb3⟩
      have b3 := below_lift3 b2 hb3
      clear hb1 hb2 hb3 b2
      go_wp2_with fail
      go_loopw [7, 8, 9] (fun v i _ wr => ∃ (j : Nat) (T : Option Addr) (ct : Nat) (rt : List VecV), j ≤ rs.length ∧ i = .int .i64 j ∧ v = .slice T j ct ∧ rt.length = j ∧ texts rt = W.take j ∧ RowsO wr w3.heap.size T ct rt ∧ Below w3.heap.size w3 wr) (fun _ i _ _ => rs.length - (intOf i).toNat)
      case atStart => exact ⟨0, none, 0, [], Nat.zero_le _, rfl, rfl, rfl, rfl, RowsO.nil _ _, Below.refl _ _⟩
      case round =>
        obtain ⟨j, T, ct, rt, hj, rfl, rfl, hrt, htt, hT, hbel⟩ := hrel
        have b4 := b3.trans (hbel.mono b3.size)
        have hTo := hT.outer
        rw [hrt] at hTo
        have hcapT := hTo.cap
        unfold maxLen at hcapT
        have HTT := Lib.hid htt
        have HRT := Lib.hid hrt
        clear htt hrt
        by_cases hlt : j < rs.length
        · obtain ⟨b, off, rfl, hb, hc⟩ := (HM.out.below b4).1 (by omega)
          have hcj := hc j hlt
          have hrn := HRN.out _ (List.getElem_mem hlt)
          obtain ⟨bV, oV, rfl, hbV, hcV⟩ := (HV.out.below b4) (by rw [strs_length, HLN.out]; omega)
          have hvj := hcV j _ (strs_get _ _ (by rw [HLN.out]; exact hlt))
          have hXr := (HM.out.below b4).2 _ (List.getElem_mem hlt)
          have HW := Lib.hid (HWS.out j hlt)
          rw [texts_getD hlt, show oneMore bs j = [bs.getD j []] from rfl] at HW
          rw [hrn] at hcj
          generalize rs[j] = r at *
          have HRN1 := Lib.hid hrn
          have HXR := Lib.hid hXr
          clear hc hcV hrn hXr
          generalize bs.getD j [] = y at *
          have hbj : j < bs.length := by rw [HLN.out]; exact hlt
          go_wp2_with (at_builtin; first
            | (refine wp_appn el_mrat rfl _ _ rfl wr.heap.size none 0 0 [] _ r.A rs.length r.c (strs r.xs) rfl (OwnS.nil _ _ _) rfl (by rw [strs_length, HRN1.out]) HXR.out (fun u hu => by obtain ⟨p, _, rfl⟩ := List.mem_map.1 hu; rfl) (by unfold maxLen; omega) (by omega) (Nat.le_refl _) ?_; intro A3 c3 w5 hown3 hb5; have hvj2 := (hb5.cell (p := ⟨bV, oV + j, none⟩) hbV).trans hvj; rw [Nat.zero_add, List.nil_append] at hown3)
            | (refine wp_app1 el_mrat rfl _ _ rfl wr.heap.size A3 rs.length c3 (strs r.xs) _ (.string (B y)) rfl hown3 rfl rfl (by unfold maxLen; omega) (by omega) hb5.size ?_; intro A4 c4 w6 hown4 hb6
               have hb56 := hb5.trans hb6
               have hT6 := hT.below hb56
               have hTo6 := hTo.below hb56
               have hbel6 := hbel.trans (hb56.mono hbel.size)
               have HADD := Lib.hid (fun (w' : World) (A' : Option Addr) (c' : Nat) (ho : OwnS w' w3.heap.size 23 A' (rt.length + 1) c' (rt.map hdrV ++ [hdrV ⟨A4, c4, r.xs ++ [y]⟩])) hk => hT6.add (r := ⟨A4, c4, r.xs ++ [y]⟩) (by
                 have := hown4.mono hbel.size
                 rw [snoc_strs] at this
                 show OwnS w6 w3.heap.size _ A4 (r.xs ++ [y]).length c4 (strs (r.xs ++ [y]))
                 rw [List.length_append, HRN1.out]; exact this) ho hk)
               have HH := Lib.hid (show hdrV ⟨A4, c4, r.xs ++ [y]⟩ = .slice A4 (rs.length + 1) c4 by unfold hdrV; rw [List.length_append, HRN1.out]; rfl)
               clear hown3 hown4 hT hT6 hTo)
            | (refine wp_app1k el_mrow rfl _ _ rfl w3.heap.size T j ct (rt.map hdrV) _ (.slice A4 (rs.length + 1) c4) rfl hTo6 rfl rfl (by unfold maxLen; omega) (by omega) hbel6.size ?_; intro A5 c5 w7 hown5 hb7 hk7))
          have hR5 := HADD.out w7 A5 c5 (by rw [HRT.out, HH.out]; exact hown5) hk7
          go_roundw
          case rel => exact ⟨j + 1, A5, c5, _, by omega, by go_num, rfl, by rw [List.length_append, HRT.out]; rfl, by rw [texts_snoc, HTT.out]; exact HW.out, hR5, hbel6.trans hb7⟩
          case measure => simp [intOf]; omega
        · obtain rfl : j = rs.length := by omega
          have HTF := Lib.hid (show texts rt = W by rw [HTT.out, List.take_of_length_le (by rw [HWL.out]; omega)])
          have HAT := Lib.hid hT.at
          have HC0 := Lib.hid hT.outer.cap0
          clear hT hTo
          go_wp2_with fail
          refine (HRD.out rt T ct wr HAT.out HTF.out HC0.out).mono ?_
          rintro e w5 ⟨O, co, rs', P, cp, rfl, hM5, ht5, hP5, hb5⟩
          have b5 := below_lift3 b4 hb5
          have HM5 := Lib.hid hM5
          have HP5 := Lib.hid hP5.cells
          have hl5' : rs'.length = rs.length := by rw [← texts_length, ht5]; exact HRL.out
          have HX5 := Lib.hid (show ∀ i (hi : i < rs'.length), rs'[i].xs = R.getD i [] ∧ rs'[i].xs.length = rs.length + 1 from fun i hi => by
            have h1 : rs'[i].xs = R.getD i [] := by rw [← texts_getD hi, ht5]
            refine ⟨h1, ?_⟩
            rw [h1, getD_eq (by rw [HRL.out, ← hl5']; exact hi)]
            exact HRR.out _ (List.getElem_mem _))
          have HL5 := Lib.hid hl5'
          clear hM5 ht5 hP5 hl5' hb5 HAT HC0 HTT HTF HRD
          go_wp2_with fail
          go_loopw [12, 13] (fun v i wr => ∃ (j : Nat) (X : Option Addr) (cx : Nat), j ≤ rs.length ∧ i = .int .i64 j ∧ v = .slice X j cx ∧ (∀ l, l < j → l < piv.length ∧ piv.getD l 0 = l) ∧ OwnS wr w5.heap.size 36 X j cx (strs ((R.take j).map (·.getD rs.length []))) ∧ Below w5.heap.size w5 wr) (fun _ i _ => rs.length - (intOf i).toNat)
          case atStart => exact ⟨0, none, 0, Nat.zero_le _, rfl, rfl, fun l hl => absurd hl (Nat.not_lt_zero _), OwnS.nil _ _ _, Below.refl _ _⟩
          case round =>
            clear hj hlt hcapT
            obtain ⟨j, X, cx, hj, rfl, rfl, hpre, hX, hbel5⟩ := hrel
            have HPRE := Lib.hid hpre
            clear hpre
            have hcapX := hX.cap
            unfold maxLen at hcapX
            have b6 := b5.trans (hbel5.mono b5.size)
            by_cases hlj : j < rs.length
            · by_cases hjp : j < piv.length
              · have hjp' : ¬ (piv.length : Int) ≤ (j : Int) := by omega
                obtain ⟨gp, op, rfl, hgp, hgc⟩ := (HP5.out.below hbel5) (by rw [nums_length]; omega)
                have dp := hgc j _ (nums_get _ _ hjp)
                clear hgc
                by_cases hx : piv.getD j 0 = j
                · have hx1 : atN piv j = j := hx
                  have hx' : (((atN piv j : Nat) : Int) != (j : Int)) = false := by rw [hx1]; simp
                  have HPRE1 := Lib.hid (show ∀ l, l < j + 1 → l < piv.length ∧ piv.getD l 0 = l from fun l hl => by
                    by_cases e : l = j
                    · rw [e]; exact ⟨hjp, hx⟩
                    · exact HPRE.out l (by omega))
                  have hjr : j < rs'.length := by rw [HL5.out]; exact hlj
                  obtain ⟨bo, oo, rfl, hbo, hco⟩ := (HM5.out.below hbel5).1 (by omega)
                  have hcj := hco j hjr
                  obtain ⟨hx5, hx6⟩ := HX5.out j hjr
                  obtain ⟨b2', o2, hA2, hb2', hc2⟩ := (HM5.out.below hbel5).2 rs'[j] (List.getElem_mem hjr) (by rw [strs_length]; omega)
                  have hc0 : wr.cell? ⟨b2', o2 + rs.length, none⟩ = some (.string (B ((R.getD j []).getD rs.length []))) := by
                    have := hc2 rs.length _ (strs_get _ _ (by omega))
                    rw [hx5] at this; exact this
                  rw [hA2, hx6] at hcj
                  have HSN := Lib.hid (take_map_snoc (M := R) (f := (·.getD rs.length [])) (j := j) (by rw [HRL.out]; exact hlj))
                  generalize (R.getD j []).getD rs.length [] = x at *
                  generalize rs'[j].c = cj at *
                  generalize atN piv j = pj at *
                  clear hco hc2 hx5 hx6 hA2 hx hx1
                  go_wp2_with (at_builtin; refine wp_app1 el_mrat rfl _ _ rfl w5.heap.size _ _ _ _ _ (.string (B x)) rfl hX rfl rfl (by unfold maxLen; omega) (by omega) hbel5.size ?_; intro A3 c3 w6 hown3 hb6)
                  go_roundw
                  case rel => exact ⟨j + 1, A3, c3, by omega, by go_num, rfl, HPRE1.out, by rw [snoc_strs, HSN.out] at hown3; exact hown3, hbel5.trans hb6⟩
                  case measure => simp [intOf]; omega
                · have hx' : (((atN piv j : Nat) : Int) != (j : Int)) = true := by rw [bne_iff_ne]; unfold atN; omega
                  have hb := HSB.out (Classical.byContradiction fun h => hx ((HBI.out.1 h).2 j hlj))
                  have HQ := Lib.hid hb.2
                  have HS0 := Lib.hid hb.1
                  generalize atN piv j = pj at *
                  clear hx hb
                  go_wp2_with fail
                  go_ret2
                  exact ⟨none, 0, by rw [HQ.out, HS0.out]; rfl, by rw [HS0.out]; exact OwnS.nil _ _ _, b6⟩
              · have hjp' : (piv.length : Int) ≤ (j : Int) := by omega
                have hb := HSB.out (Classical.byContradiction fun h => hjp (by have := (HBI.out.1 h).1; omega))
                have HQ := Lib.hid hb.2
                have HS0 := Lib.hid hb.1
                clear hb
                go_wp2_with fail
                go_ret2
                exact ⟨none, 0, by rw [HQ.out, HS0.out]; rfl, by rw [HS0.out]; exact OwnS.nil _ _ _, b6⟩
            · have hjn : j = rs.length := by omega
              have hnb : ¬ badP piv rs.length := HBI.out.2 ⟨by
                by_cases h0 : 0 < rs.length
                · have := (HPRE.out (rs.length - 1) (by omega)).1; omega
                · omega, fun i hi => (HPRE.out i (by omega)).2⟩
              have HF := Lib.hid (show OwnS wr w5.heap.size 36 X sv.length cx (strs sv) ∧ j = sv.length by
                have e1 := HSM.out hnb
                have e2 : sv.length = rs.length := by rw [e1, List.length_map]; exact HRL.out
                rw [e2, hjn, e1]
                rw [hjn, List.take_of_length_le (by rw [HRL.out]; omega)] at hX
                exact ⟨hX, rfl⟩)
              have HQ0 := Lib.hid (HE0.out hnb)
              clear hX hnb
              go_wp2_with fail
              go_ret2
              exact ⟨X, cx, by rw [HQ0.out, ← HF.out.2]; rfl, HF.out.1.mono b5.size, b6⟩
    · have hln' : ((bs.length : Int) != (rs.length : Int)) = true := by rw [bne_iff_ne]; omega
      have hb := slv_bad (M := texts rs) (b := bs) (next_arg h0 (by rw [texts_length]; exact fun h => hln h.2)) (by decide)
      rw [hb.1, hb.2]
      clear h0 hb hln
      go_enter Tryz.func13, Tryz.ntmps13
      go_wp2_with fail
      refine HC.out.mono ?_
      rintro e w1 ⟨rfl, hb1⟩
      go_wp2_with fail
      refine (HS.out w1 (HM.out.below hb1)).mono ?_
      rintro e w2 ⟨rfl, h2⟩
      obtain rfl := h2.symm
      go_wp2_with fail
      go_ret2
      exact ⟨none, 0, rfl, OwnS.nil _ _ _, hb1⟩
  · have hb := slv_bad (M := texts rs) (b := bs) (next_size h0) h0
    have h0' : (rchkE (texts rs) != 0) = true := by simpa using h0
    rw [hb.1, hb.2]
    generalize rchkE (texts rs) = q at *
    clear h0 hb
    go_enter Tryz.func13, Tryz.ntmps13
    go_wp2_with fail
    refine HC.out.mono ?_
    rintro e w1 ⟨rfl, hb1⟩
    go_wp2_with fail
    go_ret2
    exact ⟨none, 0, rfl, OwnS.nil _ _ _, hb1⟩
end Go.Proofs.YtkcaheaefjcdiaaGreatDoor
/- The reference of basis: Times. -/
namespace Go.Proofs.YtkcaheaefjcdiaaGreatDoor
open Go.RowKit Num
set_option linter.unusedVariables false
attribute [local go_sem] B_size B_get B_toList B_mk B_extract B_append

theorem tim_bad {M : List (List Str)} {x : List Str} {q : Int} (h : nextE M (M.length = 0 ∨ (M.getD 0 []).length = x.length) [x] = q) (hq : q ≠ 0) : timE M x = q ∧ timM M x = [] := by
  have h1 : timE M x = q := by rw [chk_time]; exact h
  refine ⟨h1, ?_⟩
  unfold timM
  rw [h1, if_neg hq]
set_option maxHeartbeats 4000000 in
set_option maxRecDepth 100000 in
theorem brtimesT_any (rs : List VecV) (A : Option Addr) (c : Nat) (xs : List Str) (X : Option Addr) (cx : Nat) (w : World) (hM : MatAt w A rs) (hX : Cells w X (strs xs)) (hR : RsOK rs) (hxl : xs.length ≤ 1000) (hxx : ∀ x ∈ xs, x.length ≤ 100000)
    (hok : timE (texts rs) xs = 0 → ∀ r ∈ rs, DotOK r.xs xs) :
    Calls Tryz.prog 25 #[.slice A rs.length c, .slice X xs.length cx] w fun e w' => ∃ (Z : Option Addr) (cz : Nat), e = .returned (.tuple #[.slice Z (timM (texts rs) xs).length cz, .int .i64 (timE (texts rs) xs)]) ∧ OwnS w' w.heap.size 36 Z (timM (texts rs) xs).length cz (strs (timM (texts rs) xs)) ∧ Below w.heap.size w w' := by
  have hlr := hR.len
  have HC := Lib.hid (brcheck_any rs A c w hM (by omega) (fun r hr => by have := hR.row r hr; omega))
  have HL := Lib.hid (fun w h => brall_any rs A c w h (by omega) (fun r hr => by have := hR.row r hr; omega) hR.txt)
  have HB := Lib.hid (fun w h => brright_any xs X cx w h (by omega) hxx)
  have HM := Lib.hid hM
  have HX := Lib.hid hX
  have HOK := Lib.hid hok
  have HR := Lib.hid hR
  have HXX := Lib.hid hxx
  clear hM hX hok hxx hR
  by_cases h0 : rchkE (texts rs) = 0
  · rw [h0] at HC
    by_cases harg : 0 < rs.length ∧ ((texts rs).getD 0 []).length ≠ xs.length
    · obtain ⟨hpos, hne⟩ := harg
      have hb := tim_bad (M := texts rs) (x := xs) (next_arg h0 (by rw [texts_length]; omega)) (by decide)
      rw [hb.1, hb.2]
      rw [texts_getD hpos] at hne
      obtain ⟨b, off, rfl, hbb, hc⟩ := HM.out.1 hpos
      have c0 : w.cell? ⟨b, off, none⟩ = some (.slice (rs[0]'hpos).A (rs[0]'hpos).xs.length (rs[0]'hpos).c) := hc 0 hpos
      have hr0 := HR.out.row _ (List.getElem_mem hpos)
      generalize rs[0]'hpos = r0 at *
      have hne' : ((r0.xs.length : Int) != (xs.length : Int)) = true := by rw [bne_iff_ne]; omega
      have hpos' : (0 : Int) < (rs.length : Int) := by omega
      have HC0 := Lib.hid (show ∀ w', Below w.heap.size w w' → w'.cell? ⟨b, off, none⟩ = some (.slice r0.A r0.xs.length r0.c) from fun w' h => (h.cell (p := ⟨b, off, none⟩) hbb).trans c0)
      clear h0 hb hne hc c0
      go_enter Tryz.func25, Tryz.ntmps25
      simp only [B_mk]
      go_wp2_with fail
      refine HC.out.mono ?_
      rintro e w1 ⟨rfl, hb1⟩
      have c1 := HC0.out w1 hb1
      go_wp2_with fail
      go_ret2
      exact ⟨none, 0, rfl, OwnS.nil _ _ _, hb1⟩
    have hp : (texts rs).length = 0 ∨ ((texts rs).getD 0 []).length = xs.length := by rw [texts_length]; omega
    have HG := Lib.hid (show ∀ w', Below w.heap.size w w' → rs.length = 0 ∨ ∃ b off a0 c0, A = some ⟨b, off, none⟩ ∧ 0 < rs.length ∧ w'.cell? ⟨b, off, none⟩ = some (.slice a0 xs.length c0) from fun w' h => by
      by_cases h0 : rs.length = 0
      · exact .inl h0
      · have hpos : 0 < rs.length := by omega
        obtain ⟨b, off, e, hbb, hc⟩ := HM.out.1 hpos
        have hw : (rs[0]'hpos).xs.length = xs.length := by
          rw [texts_length, texts_getD hpos] at hp; omega
        refine .inr ⟨b, off, (rs[0]'hpos).A, (rs[0]'hpos).c, e, hpos, ?_⟩
        have c0 : w.cell? ⟨b, off, none⟩ = some (.slice (rs[0]'hpos).A (rs[0]'hpos).xs.length (rs[0]'hpos).c) := hc 0 hpos
        rw [hw] at c0
        exact (h.cell (p := ⟨b, off, none⟩) hbb).trans c0)
    have H3 := Lib.hid (show ¬ (allR (texts rs) = true ∧ allR [xs] = true) → timE (texts rs) xs = 3 ∧ timM (texts rs) xs = [] from fun h => tim_bad (next_form h0 hp h) (by decide))
    have H0 := Lib.hid (show allR (texts rs) = true ∧ allR [xs] = true → timE (texts rs) xs = 0 ∧ timM (texts rs) xs = (texts rs).map (fun r => dotN r xs r.length) from fun h => by
      have h1 : timE (texts rs) xs = 0 := by rw [chk_time]; exact next_ok h0 hp h
      refine ⟨h1, ?_⟩
      unfold timM
      rw [if_pos h1])
    have HWD := Lib.hid (show timE (texts rs) xs = 0 → ∀ r ∈ rs, r.xs.length = xs.length from fun h r hr => by
      have h1 := (chk_zero (M := texts rs) (wd := (xs.length : Int)) (sq := false) (vs := [xs]) h).2.2.1 r.xs (List.mem_map.2 ⟨r, hr, rfl⟩)
      unfold widthE at h1
      rw [if_neg (by omega)] at h1
      omega)
    generalize timE (texts rs) xs = q at *
    generalize timM (texts rs) xs = sv at *
    clear h0 hp harg
    go_enter Tryz.func25, Tryz.ntmps25
    simp only [B_mk]
    go_wp2_with fail
    refine HC.out.mono ?_
    rintro e w1 ⟨rfl, hb1⟩
    go_upto_region 4 with fail
    go_cut [27] (fun s wx => s = .bool false ∧ wx = w1)
    case first =>
      rcases HG.out w1 hb1 with h | ⟨b, off, a0, c0, rfl, hpos, hcell⟩
      · have h' : ¬ (0 : Int) < (rs.length : Int) := by omega
        clear h
        go_wp2_with fail
        go_meet
        exact ⟨rfl, rfl⟩
      · have h' : (0 : Int) < (rs.length : Int) := by omega
        go_wp2_with fail
        go_meet
        exact ⟨rfl, rfl⟩
    case rest =>
      obtain ⟨rfl, hw⟩ := hcut
      obtain rfl := hw.symm
      have HLM := Lib.hid (HL.out w1 (HM.out.below hb1))
      cases hal : allR (texts rs)
      · rw [hal] at HLM H3
        have HQ := Lib.hid (H3.out (fun h => by cases h.1))
        clear hal
        go_wp2_with fail
        refine HLM.out.mono ?_
        rintro e w2 ⟨rfl, hb2⟩
        go_wp2_with fail
        go_ret2
        exact ⟨none, 0, by rw [HQ.out.1, HQ.out.2]; rfl, by rw [HQ.out.2]; exact OwnS.nil _ _ _, below_lift3 hb1 hb2⟩
      rw [hal] at HLM H3 H0
      cases hbr : xs.all rightQ
      · rw [hbr] at HB
        have HQ := Lib.hid (H3.out (fun h => by rw [allR_one, hbr] at h; cases h.2))
        clear hal hbr
        go_wp2_with fail
        refine HLM.out.mono ?_
        rintro e w2 ⟨rfl, hb2⟩
        have b2 := below_lift3 hb1 hb2
        go_wp2_with fail
        refine (HB.out w2 (HX.out.below b2)).mono ?_
        rintro e w3 ⟨rfl, hb3⟩
        go_wp2_with fail
        go_ret2
        exact ⟨none, 0, by rw [HQ.out.1, HQ.out.2]; rfl, by rw [HQ.out.2]; exact OwnS.nil _ _ _, below_lift3 b2 hb3⟩
      rw [hbr] at HB
      have HQ := Lib.hid (H0.out ⟨rfl, by rw [allR_one]; exact hbr⟩)
      have HDOT := Lib.hid (HOK.out HQ.out.1)
      have HW := Lib.hid (HWD.out HQ.out.1)
      clear hal hbr
      go_wp2_with fail
      refine HLM.out.mono ?_
      rintro e w2 ⟨rfl, hb2⟩
      have b2 := below_lift3 hb1 hb2
      go_wp2_with fail
      refine (HB.out w2 (HX.out.below b2)).mono ?_
      rintro e w3 ⟨rfl, hb3⟩
      have b3 := below_lift3 b2 hb3
      clear hb1 hb2 hb3 b2
      go_wp2_with fail
      go_loopw [7, 8, 9, 10] (fun v i _ _ wr => ∃ (j : Nat) (Z : Option Addr) (cz : Nat), j ≤ rs.length ∧ i = .int .i64 j ∧ v = .slice Z j cz ∧ OwnS wr w3.heap.size 36 Z j cz (strs (((texts rs).take j).map (fun r => dotN r xs r.length))) ∧ Below w3.heap.size w3 wr) (fun _ i _ _ _ => rs.length - (intOf i).toNat)
      case atStart => exact ⟨0, none, 0, Nat.zero_le _, rfl, rfl, OwnS.nil _ _ _, Below.refl _ _⟩
      case round =>
        obtain ⟨j, Z, cz, hj, rfl, rfl, hown, hbel⟩ := hrel
        have b4 := b3.trans (hbel.mono b3.size)
        by_cases hlt : j < rs.length
        · have hrw := HW.out rs[j] (List.getElem_mem hlt)
          have HDR := Lib.hid (HDOT.out rs[j] (List.getElem_mem hlt))
          have HRX := Lib.hid (fun wr hb => (HM.out.below (w' := wr) hb).2 rs[j] (List.getElem_mem hlt))
          have HRH := Lib.hid (show ∀ wr, Below w.heap.size w wr → ∃ b off, A = some ⟨b, off, none⟩ ∧ b < wr.heap.size ∧ wr.cell? ⟨b, off + j, none⟩ = some (.slice rs[j].A rs[j].xs.length rs[j].c) from fun wr hb => by
            obtain ⟨b, off, e, hbb, hc⟩ := (HM.out.below (w' := wr) hb).1 (by omega)
            exact ⟨b, off, e, hbb, hc j hlt⟩)
          have HRT := Lib.hid (HR.out.txt rs[j] (List.getElem_mem hlt))
          have HSN := Lib.hid (dots_snoc (M := texts rs) (f := fun r => dotN r xs r.length) (j := j) (by rw [texts_length]; exact hlt))
          rw [texts_getD hlt] at HSN
          generalize rs[j] = r at *
          have HRW := Lib.hid hrw
          clear hrw
          go_wp2_with fail
          go_loopw [9, 10] (fun s i wr => ∃ k : Nat, k ≤ xs.length ∧ i = .int .i64 k ∧ s = .string (B (dotN r.xs xs k)) ∧ OwnS wr w3.heap.size 36 Z j cz (strs (((texts rs).take j).map (fun r => dotN r xs r.length))) ∧ Below w3.heap.size w3 wr) (fun _ i _ => xs.length - (intOf i).toNat)
          case atStart => exact ⟨0, Nat.zero_le _, rfl, rfl, hown, hbel⟩
          case round =>
            clear hown hbel b4
            obtain ⟨k, hk, rfl, rfl, hown, hbel⟩ := hrel
            have b4 := b3.trans (hbel.mono b3.size)
            have hcapZ := hown.cap
            unfold maxLen at hcapZ
            by_cases hlk : k < xs.length
            · have hkx : k < r.xs.length := by have := HRW.out; omega
              obtain ⟨bx, ox, hXe, hbx, hcx'⟩ := (HX.out.below b4) (by rw [strs_length]; omega)
              obtain ⟨br, orr, hRe, hbr, hcr⟩ := (HRX.out _ b4) (by rw [strs_length]; omega)
              obtain ⟨bm, om, hMe, hbm, hcm⟩ := HRH.out _ b4
              have d0 := hcx' k _ (strs_get _ _ hlk)
              have d1 := hcr k _ (strs_get _ _ hkx)
              obtain ⟨q1, q2, q3, q4⟩ := HDR.out k hkx
              have hrt : (r.xs.getD k []).length ≤ 100000 := by rw [List.getD_eq_getElem?_getD, List.getElem?_eq_getElem hkx]; exact HRT.out _ (List.getElem_mem hkx)
              have hxt : (xs.getD k []).length ≤ 100000 := by rw [List.getD_eq_getElem?_getD, List.getElem?_eq_getElem hlk]; exact HXX.out _ (List.getElem_mem hlk)
              have HN := Lib.hid (show addQS (dotN r.xs xs k) (mulQS (r.xs.getD k []) (xs.getD k [])) = dotN r.xs xs (k + 1) from rfl)
              have HM1 := Lib.hid (fun w => brmul_any (r.xs.getD k []) (xs.getD k []) w (by omega) (by omega))
              have HM2 := Lib.hid (fun w => rqadd_any (dotN r.xs xs k) (mulQS (r.xs.getD k []) (xs.getD k [])) w (by omega) (by omega))
              rw [HN.out, q2] at HM2
              rw [hRe, HRW.out] at hcm
              generalize hsn : dotN r.xs xs (k + 1) = sn at *
              have HSN2 := Lib.hid hsn
              clear hsn
              generalize dotN r.xs xs k = so at *
              generalize mulQS (r.xs.getD k []) (xs.getD k []) = z at *
              generalize r.xs.getD k [] = a at *
              generalize xs.getD k [] = x at *
              generalize r.c = rc at *
              clear hcx' hcr q1 q2 q3 q4 hrt hxt hRe
              have hbd := below_drew hbel
              have hownd : OwnS wr.drew w3.heap.size 36 Z j cz (strs (((texts rs).take j).map (fun r => dotN r xs r.length))) := hown.below ((Below.refl _ _).drew)
              rw [hXe, hMe]
              go_wp2_with fail
              go_region_law (first
                | (go_simp; go_at_call 49; refine (HM1.out _).mono ?_; rintro e w5 ⟨rfl, hb5⟩)
                | (go_simp; go_at_call 23; refine (HM2.out _).mono ?_; rintro e w6 ⟨rfl, hb6⟩; have hb7 := below_lift3 hb5 hb6))
              all_goals
                have hown7 := hownd.below hb7
                have hbel7 := below_lift3 hbd hb7
                go_wp2_with fail
                go_roundw
                case rel => exact ⟨k + 1, by omega, by go_num, by rw [HSN2.out], hown7, hbel7⟩
                case measure => simp [intOf]; omega
            · have hkn : k = xs.length := by omega
              have HKN := Lib.hid (show dotN r.xs xs k = dotN r.xs xs r.xs.length by rw [hkn, HRW.out])
              have hk' : ¬ (k : Int) < (xs.length : Int) := by omega
              rw [HKN.out]
              clear hkn
              go_wp2_with (at_builtin; refine wp_app1 el_mrat rfl _ _ rfl w3.heap.size _ _ _ _ _ (.string (B (dotN r.xs xs r.xs.length))) rfl hown rfl rfl (by unfold maxLen; omega) (by omega) hbel.size ?_; intro A3 c3 w5 hown3 hb5)
              go_roundw
              case rel => exact ⟨j + 1, A3, c3, by omega, by go_num, rfl, by rw [snoc_strs, HSN.out] at hown3; exact hown3, hbel.trans hb5⟩
              case measure => simp [intOf]; omega
        · have HF := Lib.hid (show OwnS wr w3.heap.size 36 Z sv.length cz (strs sv) ∧ j = sv.length by
            have hjn : j = (texts rs).length := by rw [texts_length]; omega
            rw [hjn, List.take_length, ← HQ.out.2] at hown
            have e : (texts rs).length = sv.length := by rw [HQ.out.2, List.length_map]
            rw [e] at hown
            exact ⟨hown, hjn.trans e⟩)
          clear hown
          go_wp2_with fail
          go_ret2
          exact ⟨Z, cz, by rw [← HF.out.2, HQ.out.1]; rfl, HF.out.1.mono b3.size, b4⟩
  · have hb := tim_bad (M := texts rs) (x := xs) (next_size h0) h0
    have h0' : (rchkE (texts rs) != 0) = true := by simpa using h0
    rw [hb.1, hb.2]
    generalize rchkE (texts rs) = q at *
    clear h0 hb
    go_enter Tryz.func25, Tryz.ntmps25
    go_wp2_with fail
    refine HC.out.mono ?_
    rintro e w1 ⟨rfl, hb1⟩
    go_wp2_with fail
    go_ret2
    exact ⟨none, 0, rfl, OwnS.nil _ _ _, hb1⟩
end Go.Proofs.YtkcaheaefjcdiaaGreatDoor
/- The reference of basis: Inverse. -/
namespace Go.Proofs.YtkcaheaefjcdiaaGreatDoor
open Go.RowKit Num
set_option linter.unusedVariables false
attribute [local go_sem] B_size B_get B_toList B_mk B_extract B_append

/-- what is known of an inverse that is asked for -/
structure InvOK (M : List (List Str)) : Prop where
  red : ∀ i, i < M.length → ∃ D, D ≤ 4096 ∧ RedOK D (M.length + 1) (wideM M (oneMore (unitR M.length i)))
  err : ∀ i, i < M.length → slvE M (unitR M.length i) = invE M
  zero : M.length = 0 → invE M = 0
  len : invE M = 0 → (invM M).length = M.length ∧ ∀ r ∈ invM M, r.length = M.length
  cols : invE M = 0 → ∀ i, i < M.length → (slvM M (unitR M.length i)).length = M.length ∧ ∀ r, r < M.length → (slvM M (unitR M.length i)).getD r [] = cellM (invM M) r i
theorem inv_bad {M : List (List Str)} {q : Int} (h : nextE M (sqB M = true) [] = q) (hq : q ≠ 0) : invE M = q ∧ invM M = [] := by
  have h0 := chk_sq M []
  rw [next_congr (q := sqB M = true) (by simp)] at h0
  have h1 : invE M = q := by unfold invE; rw [h0, h, if_neg hq]
  refine ⟨h1, ?_⟩
  unfold invM
  rw [h1, if_neg hq]
theorem range_snoc' {α : Type} (f : Nat → α) (j : Nat) : (List.range j).map f ++ [f j] = (List.range (j + 1)).map f := by rw [List.range_succ, List.map_append]; rfl
theorem mrow_cells {M : List (List Str)} {j n : Nat} (hj : j < M.length) (hr : ∀ r ∈ M, r.length = n) : (List.range n).map (fun k => cellM M j k) = M.getD j [] := by
  have hl : (M.getD j []).length = n := by rw [getD_eq hj]; exact hr _ (List.getElem_mem hj)
  apply List.ext_getElem?
  intro k
  by_cases hk : k < n
  · rw [List.getElem?_map, List.getElem?_range hk, List.getElem?_eq_getElem (by omega)]
    show some (cellM M j k) = _
    unfold cellM
    rw [List.getD_eq_getElem?_getD (l := M.getD j []), List.getElem?_eq_getElem (by omega)]; rfl
  · rw [List.getElem?_eq_none (by simp; omega), List.getElem?_eq_none (by omega)]
theorem take_row_snoc {M : List (List Str)} {j : Nat} (hj : j < M.length) : M.take j ++ [M.getD j []] = M.take (j + 1) := by
  rw [List.take_succ_eq_append_getElem hj, getD_eq hj]
set_option maxHeartbeats 4000000 in
set_option maxRecDepth 100000 in
theorem brinverseT_any (rs : List VecV) (A : Option Addr) (c : Nat) (w : World) (hM : MatAt w A rs) (hR : RsOK rs) (hl5 : rs.length ≤ 500)
    (hinv : chkE (texts rs) (-1) true [] = 0 → InvOK (texts rs)) :
    Calls Tryz.prog 27 #[.slice A rs.length c] w fun e w' => ∃ (O : Option Addr) (co : Nat) (rs' : List VecV), e = .returned (.tuple #[.slice O rs'.length co, .int .i64 (invE (texts rs))]) ∧ MatAt w' O rs' ∧ texts rs' = invM (texts rs) ∧ Below w.heap.size w w' := by
  have hlr := hR.len
  have HC := Lib.hid (brcheck_any rs A c w hM (by omega) (fun r hr => by have := hR.row r hr; omega))
  have HS := Lib.hid (fun w h => bsquare_any rs A c w h (by omega) (fun r hr => by have := hR.row r hr; omega))
  have HL := Lib.hid (fun w h => brall_any rs A c w h (by omega) (fun r hr => by have := hR.row r hr; omega) hR.txt)
  have HM := Lib.hid hM
  have HINV := Lib.hid hinv
  have hnil : ∀ w', MatAt w' none [] := fun w' => ⟨fun h => absurd h (by simp), fun r hr => absurd hr (by simp)⟩
  have HNIL := Lib.hid hnil
  clear hM hinv hnil
  by_cases h0 : rchkE (texts rs) = 0
  · rw [h0] at HC
    cases hsq : sqB (texts rs)
    · have hb := inv_bad (M := texts rs) (next_arg h0 (by rw [hsq]; simp)) (by decide)
      rw [hb.1, hb.2]
      rw [hsq] at HS
      clear h0 hb
      go_enter Tryz.func27, Tryz.ntmps27
      go_wp2_with fail
      refine HC.out.mono ?_
      rintro e w1 ⟨rfl, hb1⟩
      go_wp2_with fail
      refine (HS.out w1 (HM.out.below hb1)).mono ?_
      rintro e w2 ⟨rfl, h2⟩
      obtain rfl := h2.symm
      go_wp2_with fail
      go_ret2
      exact ⟨none, 0, [], rfl, HNIL.out _, rfl, hb1⟩
    rw [hsq] at HS
    cases hal : allR (texts rs)
    · have hb := inv_bad (M := texts rs) (next_form h0 hsq (by rw [hal]; simp)) (by decide)
      rw [hb.1, hb.2]
      rw [hal] at HL
      clear h0 hb
      go_enter Tryz.func27, Tryz.ntmps27
      go_wp2_with fail
      refine HC.out.mono ?_
      rintro e w1 ⟨rfl, hb1⟩
      go_wp2_with fail
      refine (HS.out w1 (HM.out.below hb1)).mono ?_
      rintro e w2 ⟨rfl, h2⟩
      obtain rfl := h2.symm
      go_wp2_with fail
      refine (HL.out w1 (HM.out.below hb1)).mono ?_
      rintro e w2 ⟨rfl, hb2⟩
      go_wp2_with fail
      go_ret2
      exact ⟨none, 0, [], rfl, HNIL.out _, rfl, below_lift3 hb1 hb2⟩
    rw [hal] at HL
    have hck : chkE (texts rs) (-1) true [] = 0 := by
      rw [chk_sq, next_congr (q := sqB (texts rs) = true) (by simp)]
      exact next_ok h0 hsq ⟨hal, rfl⟩
    have hI := HINV.out hck
    have htl := texts_length rs
    have h1 := hI.red
    have h2 := hI.err
    have h3 := hI.zero
    have h4 := hI.len
    have h5 := hI.cols
    rw [htl] at h1 h2 h3 h4 h5
    have HSLV := Lib.hid (fun (i : Nat) (hi : i < rs.length) (w : World) (V : Option Addr) (cv : Nat) (hM : MatAt w A rs) (hV : Cells w V (strs (unitR rs.length i))) => show Calls Tryz.prog 13 #[.slice A rs.length c, .slice V rs.length cv] w fun e w' => ∃ (X : Option Addr) (cx : Nat), e = .returned (.tuple #[.slice X (slvM (texts rs) (unitR rs.length i)).length cx, .int .i64 (invE (texts rs))]) ∧ OwnS w' w.heap.size 36 X (slvM (texts rs) (unitR rs.length i)).length cx (strs (slvM (texts rs) (unitR rs.length i))) ∧ Below w.heap.size w w' from by
      have h := brsolveT_any rs A c (unitR rs.length i) V cv w hM hV hR (by omega) (by rw [unit_len]; omega) (fun x hx => by
        have := frd_len ((unit_frd (g := 1) (n := rs.length) (a := i) (Nat.le_refl _)).2 x hx); omega) (fun _ => h1 i hi)
      rw [unit_len, h2 i hi] at h
      exact h)
    have H3 := Lib.hid h3
    have H4 := Lib.hid h4
    have H5 := Lib.hid h5
    have HBAD := Lib.hid (show invE (texts rs) ≠ 0 → invM (texts rs) = [] from fun h => by unfold invM; rw [if_neg h])
    clear h1 h2 h3 h4 h5 hI hck h0 hsq hal htl HINV
    generalize hsf : (fun i => slvM (texts rs) (unitR rs.length i)) = sf at *
    have hsf' : ∀ i, slvM (texts rs) (unitR rs.length i) = sf i := fun i => by rw [← hsf]
    simp only [hsf'] at HSLV H5
    clear hsf hsf'
    generalize invE (texts rs) = q at *
    generalize invM (texts rs) = IM at *
    go_enter Tryz.func27, Tryz.ntmps27
    go_wp2_with fail
    refine HC.out.mono ?_
    rintro e w1 ⟨rfl, hb1⟩
    go_wp2_with fail
    refine (HS.out w1 (HM.out.below hb1)).mono ?_
    rintro e w2 ⟨rfl, h2⟩
    obtain rfl := h2.symm
    go_wp2_with fail
    refine (HL.out w1 (HM.out.below hb1)).mono ?_
    rintro e w2 ⟨rfl, hb2⟩
    have b2 := below_lift3 hb1 hb2
    clear hb1 hb2
    go_wp2_with fail
    go_loopw [6, 7, 8, 9] (fun v i _ _ wr => ∃ (j : Nat) (T : Option Addr) (ct : Nat) (rt : List VecV), j ≤ rs.length ∧ i = .int .i64 j ∧ v = .slice T j ct ∧ rt.length = j ∧ texts rt = (List.range j).map sf ∧ (0 < j → q = 0) ∧ RowsO wr w2.heap.size T ct rt ∧ Below w2.heap.size w2 wr) (fun _ i _ _ _ => rs.length - (intOf i).toNat)
    case atStart => exact ⟨0, none, 0, [], Nat.zero_le _, rfl, rfl, rfl, rfl, fun h => absurd h (by omega), RowsO.nil _ _, Below.refl _ _⟩
    case round =>
      obtain ⟨j, T, ct, rt, hj, rfl, rfl, hrt, htt, hq0, hT, hbel⟩ := hrel
      have b3 := b2.trans (hbel.mono b2.size)
      have hTo := hT.outer
      rw [hrt] at hTo
      have hcapT := hTo.cap
      unfold maxLen at hcapT
      have HTT := Lib.hid htt
      have HRT := Lib.hid hrt
      have HQ0 := Lib.hid hq0
      clear htt hrt hq0
      by_cases hlt : j < rs.length
      · go_wp2_with fail
        refine (bunit_any rs.length j wr (by omega) (by omega)).mono ?_
        rintro e w3 ⟨U, cu, rfl, hU, hb3⟩
        have b4 := below_lift3 b3 hb3
        go_wp2_with fail
        refine (HSLV.out j hlt w3 U cu (HM.out.below b4) hU.cells).mono ?_
        rintro e w4 ⟨X, cx, rfl, hX, hb4⟩
        have b5 := below_lift3 b4 hb4
        have hb34 := below_lift3 hb3 hb4
        by_cases hq : q = 0
        · obtain ⟨hl, _⟩ := H5.out hq j hlt
          have hq' : (q != 0) = false := by simpa using hq
          have HQ := Lib.hid hq
          rw [hl]
          have hT6 := hT.below hb34
          have hTo6 := hTo.below hb34
          have hbel6 := below_lift3 hbel hb34
          have HADD := Lib.hid (fun (w' : World) (A' : Option Addr) (c' : Nat) (ho : OwnS w' w2.heap.size 23 A' (rt.length + 1) c' (rt.map hdrV ++ [hdrV ⟨X, cx, sf j⟩])) hk => hT6.add (r := ⟨X, cx, sf j⟩) (hX.mono (Nat.le_trans hbel.size hb3.size)) ho hk)
          have HH := Lib.hid (show hdrV ⟨X, cx, sf j⟩ = .slice X rs.length cx by unfold hdrV; rw [show (⟨X, cx, sf j⟩ : VecV).xs.length = (sf j).length from rfl, hl])
          clear hU hX hT hTo hT6 hl hq
          go_wp2_with (at_builtin; refine wp_app1k el_mrow rfl _ _ rfl w2.heap.size T j ct (rt.map hdrV) _ (.slice X rs.length cx) rfl hTo6 rfl rfl (by unfold maxLen; omega) (by omega) hbel6.size ?_; intro A5 c5 w7 hown5 hb7 hk7)
          have hR5 := HADD.out w7 A5 c5 (by rw [HRT.out, HH.out]; exact hown5) hk7
          go_roundw
          case rel => exact ⟨j + 1, A5, c5, _, by omega, by go_num, rfl, by rw [List.length_append, HRT.out]; rfl, by rw [texts_snoc, HTT.out]; exact range_snoc' sf j, fun _ => HQ.out, hR5, hbel6.trans hb7⟩
          case measure => simp [intOf]; omega
        · have hq' : (q != 0) = true := by simpa using hq
          have HB := Lib.hid (HBAD.out hq)
          clear hq
          go_wp2_with fail
          go_ret2
          exact ⟨none, 0, [], rfl, HNIL.out _, HB.out.symm, b5⟩
      · obtain rfl : j = rs.length := by omega
        have hq : q = 0 := by
          by_cases hn : 0 < rs.length
          · exact HQ0.out hn
          · exact H3.out (by omega)
        obtain ⟨hil, hir⟩ := H4.out hq
        have HIL := Lib.hid hil
        have HIR := Lib.hid hir
        have HCOL := Lib.hid (H5.out hq)
        have HAT := Lib.hid hT.at
        have HXS := Lib.hid (show ∀ k (hk : k < rt.length), rt[k].xs = sf k from fun k hk => by
          have h1 := texts_getD hk
          rw [HTT.out, List.getD_eq_getElem?_getD, List.getElem?_map, List.getElem?_range (by rw [← HRT.out]; exact hk)] at h1
          exact h1.symm)
        have HQ := Lib.hid hq
        clear hT hTo hil hir hq
        obtain ⟨wo, hwo⟩ : ∃ wo, wo = wr := ⟨_, rfl⟩
        subst hwo
        go_wp2_with fail
        go_loopw [10, 11, 12, 13] (fun v i _ _ wr => ∃ (j : Nat) (T : Option Addr) (ct : Nat) (ro : List VecV), j ≤ rs.length ∧ i = .int .i64 j ∧ v = .slice T j ct ∧ ro.length = j ∧ texts ro = IM.take j ∧ RowsO wr wo.heap.size T ct ro ∧ Below wo.heap.size wo wr) (fun _ i _ _ _ => rs.length - (intOf i).toNat)
        case atStart => exact ⟨0, none, 0, [], Nat.zero_le _, rfl, rfl, rfl, rfl, RowsO.nil _ _, Below.refl _ _⟩
        case round =>
          clear hj hlt hcapT
          obtain ⟨j, O, co, ro, hj, rfl, rfl, hro, hto, hO, hbo⟩ := hrel
          have b4 := b3.trans (hbo.mono b3.size)
          have hOo := hO.outer
          rw [hro] at hOo
          have hcapO := hOo.cap
          unfold maxLen at hcapO
          have HTO := Lib.hid hto
          have HRO := Lib.hid hro
          clear hto hro
          by_cases hlt : j < rs.length
          · obtain ⟨wp, hwp⟩ : ∃ wp, wp = wr := ⟨_, rfl⟩
            subst hwp
            go_wp2_with fail
            go_loopw [12, 13] (fun v i w4 => ∃ (l : Nat) (X : Option Addr) (cx : Nat), l ≤ rs.length ∧ i = .int .i64 l ∧ v = .slice X l cx ∧ OwnS w4 wp.heap.size 36 X l cx (strs ((List.range l).map fun i => cellM IM j i)) ∧ Below wp.heap.size wp w4) (fun _ i _ => rs.length - (intOf i).toNat)
            case atStart => exact ⟨0, none, 0, Nat.zero_le _, rfl, rfl, OwnS.nil _ _ _, Below.refl _ _⟩
            case round =>
              obtain ⟨l, X, cx, hl, rfl, rfl, hX, hbl⟩ := hrel
              have hcapX := hX.cap
              unfold maxLen at hcapX
              have b5 := hbo.trans (hbl.mono hbo.size)
              by_cases hll : l < rs.length
              · have hlr2 : l < rt.length := by rw [HRT.out]; exact hll
                obtain ⟨b, off, rfl, hbb, hc⟩ := (HAT.out.below b5).1 (by omega)
                have hcl := hc l hlr2
                have hxl := HXS.out l hlr2
                obtain ⟨hsl, hsc⟩ := HCOL.out l hll
                have hx2 : rt[l].xs.length = rs.length := by rw [hxl]; exact hsl
                obtain ⟨bx, ox, hAx, hbx, hcx⟩ := (HAT.out.below b5).2 _ (List.getElem_mem hlr2) (by rw [strs_length]; omega)
                have hcj := hcx j _ (strs_get _ _ (by omega))
                rw [hxl, hsc j hlt] at hcj
                rw [hAx, hx2] at hcl
                generalize rt[l].c = cl at *
                clear hc hcx hAx hxl hx2 hsl hsc
                go_wp2_with (at_builtin; refine wp_app1 el_mrat rfl _ _ rfl wp.heap.size _ _ _ _ _ (.string (B (cellM IM j l))) rfl hX rfl rfl (by unfold maxLen; omega) (by omega) hbl.size ?_; intro A3 c3 w3 hown3 hb3)
                go_roundw
                case rel => exact ⟨l + 1, A3, c3, by omega, by go_num, rfl, by rw [snoc_strs, range_snoc'] at hown3; exact hown3, hbl.trans hb3⟩
                case measure => simp [intOf]; omega
              · obtain rfl : l = rs.length := by omega
                have hjI : j < IM.length := by rw [HIL.out]; exact hlt
                have hrow := mrow_cells hjI HIR.out
                have hO6 := hO.below hbl
                have hOo6 := hOo.below hbl
                have hbo6 := hbo.trans (hbl.mono hbo.size)
                have hgl : (IM.getD j []).length = rs.length := by rw [getD_eq hjI]; exact HIR.out _ (List.getElem_mem hjI)
                have HADD := Lib.hid (fun (w' : World) (A' : Option Addr) (c' : Nat) (ho : OwnS w' wo.heap.size 23 A' (ro.length + 1) c' (ro.map hdrV ++ [hdrV ⟨X, cx, IM.getD j []⟩])) hk => hO6.add (r := ⟨X, cx, IM.getD j []⟩) (by
                  have := hX.mono hbo.size
                  rw [hrow] at this
                  show OwnS _ _ _ X (IM.getD j []).length cx (strs (IM.getD j []))
                  rw [hgl]; exact this) ho hk)
                have HH := Lib.hid (show hdrV ⟨X, cx, IM.getD j []⟩ = .slice X rs.length cx by unfold hdrV; rw [show (⟨X, cx, IM.getD j []⟩ : VecV).xs.length = (IM.getD j []).length from rfl, hgl])
                have HTS := Lib.hid (take_row_snoc hjI)
                clear hX hO hOo hO6 hrow hgl hjI
                go_wp2_with (at_builtin; refine wp_app1k el_mrow rfl _ _ rfl wo.heap.size O j co (ro.map hdrV) _ (.slice X rs.length cx) rfl hOo6 rfl rfl (by unfold maxLen; omega) (by omega) hbo6.size ?_; intro A5 c5 w7 hown5 hb7 hk7)
                have hR5 := HADD.out w7 A5 c5 (by rw [HRO.out, HH.out]; exact hown5) hk7
                go_roundw
                case rel => exact ⟨j + 1, A5, c5, _, by omega, by go_num, rfl, by rw [List.length_append, HRO.out]; rfl, by rw [texts_snoc, HTO.out]; exact HTS.out, hR5, hbo6.trans hb7⟩
                case measure => simp [intOf]; omega
          · have HF := Lib.hid (show texts ro = IM by rw [HTO.out, List.take_of_length_le (by rw [HIL.out]; omega)])
            have HA := Lib.hid hO.at
            clear hO hOo
            go_wp2_with fail
            go_ret2
            exact ⟨O, co, ro, by rw [HRO.out, HQ.out]; rfl, HA.out, HF.out, b4⟩
  · have hb := inv_bad (M := texts rs) (next_size h0) h0
    have h0' : (rchkE (texts rs) != 0) = true := by simpa using h0
    rw [hb.1, hb.2]
    generalize rchkE (texts rs) = q at *
    clear h0 hb
    go_enter Tryz.func27, Tryz.ntmps27
    go_wp2_with fail
    refine HC.out.mono ?_
    rintro e w1 ⟨rfl, hb1⟩
    go_wp2_with fail
    go_ret2
    exact ⟨none, 0, [], rfl, HNIL.out _, rfl, hb1⟩
end Go.Proofs.YtkcaheaefjcdiaaGreatDoor
