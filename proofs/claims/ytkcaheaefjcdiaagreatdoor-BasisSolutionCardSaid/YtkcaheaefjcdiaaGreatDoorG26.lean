/- The reference of basis: reduce. -/
import Derived.Test.YtkcaheaefjcdiaaGreatDoorG25
import Derived.BigRegion
import Derived.BigQuiet
import Derived.Test.YtkcaheaefjcdiaaGreatDoorG24
namespace Go.Proofs.YtkcaheaefjcdiaaGreatDoor
open Go.RowKit Num
set_option linter.unusedVariables false
attribute [local go_sem] B_size B_get B_toList B_mk B_extract B_append

set_option maxHeartbeats 4000000 in
set_option maxRecDepth 100000 in
theorem brreduce_any {D k : Nat} (rs : List VecV) (hO : RedOK D k (texts rs)) (hD : D ≤ 4096) (A : Option Addr) (c : Nat) (w : World) (hM : MatAt w A rs) (hA0 : A = none → c = 0) (hm : rs.length ≤ 1000) (hk : k ≤ 1000) :
    Calls Tryz.prog 35 #[.slice A rs.length c] w fun e w' => ∃ (O : Option Addr) (co : Nat) (rs' : List VecV) (P : Option Addr) (cp : Nat), e = .returned (.tuple #[.slice O rs'.length co, .slice P (reduceM (texts rs)).2.length cp]) ∧ MatAt w' O rs' ∧ texts rs' = (reduceM (texts rs)).1 ∧
      OwnS w' w.heap.size 3 P (reduceM (texts rs)).2.length cp (nums (reduceM (texts rs)).2) ∧ Below w.heap.size w w' := by
  have htl := texts_length rs
  by_cases hm0 : rs.length = 0
  · have hM0 : rs = [] := List.eq_nil_of_length_eq_zero hm0
    subst hM0
    have HR := Lib.hid (show reduceM (texts []) = ([], []) from rfl)
    have hc := hM.hdr
    go_enter Tryz.func35, Tryz.ntmps35
    go_wp2_with (at_builtin; refine wp_appm el_mrow rfl _ _ rfl w.heap.size none 0 0 [] _ A 0 c [] rfl (OwnS.nil _ _ _) rfl (Cells.nil _ _) hA0 rfl (by simp) (by unfold maxLen; omega) (by omega) (Nat.le_refl _) ?_; intro A1 c1 w1 hown1 hb1)
    go_ret2
    exact ⟨A1, c1, [], none, 0, rfl, ⟨fun h => absurd h (by simp), fun r hr => absurd hr (by simp)⟩, rfl, OwnS.nil _ _ _, hb1⟩
  · have hm1 : 0 < rs.length := by omega
    have hkw := hO.width (by omega)
    have hm0' : ((rs.length : Int) == 0) = false := by rw [beq_eq_false_iff_ne]; omega
    have HRM := Lib.hid (show reduceM (texts rs) = stN (texts rs) k by rw [reduceM_st, hkw])
    obtain ⟨b, off, rfl, hb, hc⟩ := hM.1 hm1
    have c0 : w.cell? ⟨b, off, none⟩ = some (.slice (rs[0]'hm1).A k (rs[0]'hm1).c) := by
      have := hc 0 hm1
      rw [show (rs[0]'hm1).xs.length = k by rw [← hkw, texts_getD hm1]] at this
      exact this
    generalize (rs[0]'hm1).A = a00 at *
    generalize (rs[0]'hm1).c = c00 at *
    have HM := Lib.hid hM
    have HB := Lib.hid (show b < w.heap.size ∧ w.cell? ⟨b, off, none⟩ = some (.slice a00 k c00) from ⟨hb, c0⟩)
    have h1c : ∀ u ∈ rs.map hdrV, u.oneCell' = true := fun u hu => by obtain ⟨r, _, rfl⟩ := List.mem_map.1 hu; rfl
    have hhdr := hM.hdr
    clear hm0 hA0 hc hM c0 hb
    go_enter Tryz.func35, Tryz.ntmps35
    go_wp2_with (at_builtin; refine wp_appm el_mrow rfl _ _ rfl w.heap.size none 0 0 [] _ (some ⟨b, off, none⟩) rs.length c (rs.map hdrV) rfl (OwnS.nil _ _ _) rfl hhdr (fun h => by cases h) (by rw [List.length_map]) h1c (by unfold maxLen; omega) (by omega) (Nat.le_refl _) ?_; intro A1 c1 w1 hown1 hb1)
    rw [Nat.zero_add, List.nil_append] at hown1
    obtain ⟨gA, rfl⟩ := hown1.form' hm1
    have hK : MatK w1 w.heap.size gA c1 rs := ⟨hown1, fun r hr => (HM.out.2 r hr).below hb1, fun r hr h0 b off sp e => by
      obtain ⟨b2, off2, e2, hlt, _⟩ := HM.out.2 r hr (by rw [strs_length]; exact h0)
      rw [e] at e2
      injection e2 with e2
      injection e2 with e2 _ _
      exact .inl (by omega)⟩
    clear hown1 h1c hhdr
    go_loopw [5, 6, 7, 8, 9, 10] (fun p i _ _ _ _ wr => ∃ (col : Nat) (P : Option Addr) (cp : Nat) (rs1 : List VecV), col ≤ k ∧ i = .int .i64 col ∧ p = .slice P (stN (texts rs) col).2.length cp ∧ OwnS wr w.heap.size 3 P (stN (texts rs) col).2.length cp (nums (stN (texts rs) col).2) ∧
      rs1.length = rs.length ∧ texts rs1 = (stN (texts rs) col).1 ∧ MatK wr w.heap.size gA c1 rs1 ∧ Below w.heap.size w wr) (fun _ i _ _ _ _ _ => k - (intOf i).toNat)
    case atStart => exact ⟨0, none, 0, rs, Nat.zero_le _, rfl, rfl, OwnS.nil _ _ _, rfl, rfl, hK, hb1⟩
    case round =>
      clear hK hb1
      obtain ⟨col, P, cp, rs1, hcol, rfl, rfl, hP, hl1, ht1, hK, hbel⟩ := hrel
      have c0 := (hbel.cell (p := ⟨b, off, none⟩) HB.out.1).trans HB.out.2
      by_cases hlt : col < k
      · have hmat := hO.mat col hcol
        have hfew := hO.few col hcol
        have HOPS := Lib.hid (hO.ops col hlt)
        have HHIT := Lib.hid (stN_hit (M := texts rs) (c := col) (st := stN (texts rs) col) rfl)
        have HMISS := Lib.hid (stN_miss (M := texts rs) (c := col) (st := stN (texts rs) col) rfl)
        generalize stN (texts rs) col = st at *
        obtain ⟨M1, piv⟩ := st
        have ht1 : texts rs1 = M1 := ht1
        have hP : OwnS wr w.heap.size 3 P piv.length cp (nums piv) := hP
        have hmat : Mat D D k M1 := hmat
        have hfew : piv.length ≤ rs.length := by rw [← htl]; exact hfew
        have hM1l : M1.length = rs.length := by rw [← ht1, texts_length, hl1]
        have hcapP := hP.cap
        unfold maxLen at hcapP
        have hrowlen : ∀ r ∈ rs1, r.xs.length = k := fun r hr => (hmat r.xs (by rw [← ht1]; exact List.mem_map.2 ⟨r, hr, rfl⟩)).1
        have hnum : ∀ r ∈ rs1, ∀ x ∈ r.xs, FrD D D x := fun r hr => (hmat r.xs (by rw [← ht1]; exact List.mem_map.2 ⟨r, hr, rfl⟩)).2
        have HFD := Lib.hid (fun (w : World) (hM : MatAt w (some ⟨gA, 0, none⟩) rs1) => brfind_any rs1 (some ⟨gA, 0, none⟩) c1 piv.length col w hM (by omega) (by omega) (fun r hr => by rw [hrowlen r hr]; exact hlt) (fun r hr => by rw [hrowlen r hr]; omega) (fun r hr x hx => ⟨(hnum r hr x hx).right hD hD, by have := frd_len (hnum r hr x hx); omega⟩))
        rw [ht1, hl1] at HFD
        by_cases hf : findM M1 piv.length col = rs.length
        · have HF := Lib.hid (show findE M1 piv.length col = -1 by unfold findE; rw [if_pos (by rw [hM1l]; exact hf)])
          rw [HF.out] at HFD
          have HST := Lib.hid (show stN (texts rs) (col + 1) = (M1, piv) from HMISS.out (show findM M1 piv.length col = M1.length by rw [hM1l]; exact hf))
          clear hf hmat
          go_wp2_with fail
          refine (HFD.out _ hK.at).mono ?_
          rintro e w2 ⟨rfl, hb2⟩
          have hP2 := hP.below hb2
          have hK2 := hK.below hb2
          have b2 := below_lift3 hbel hb2
          clear c0
          go_wp2_with fail
          go_roundw
          case rel => exact ⟨col + 1, P, cp, rs1, by omega, by go_num, by rw [HST.out], by rw [HST.out]; exact hP2, hl1, by rw [HST.out]; exact ht1, hK2, b2⟩
          case measure => simp [intOf]; omega
        · have hle := findM_le M1 piv.length col (by omega)
          have HF := Lib.hid (show findE M1 piv.length col = ((findM M1 piv.length col : Nat) : Int) by unfold findE; rw [if_neg (by rw [hM1l]; exact hf)])
          rw [HF.out] at HFD
          have hops : ClearOps D k (swapM M1 piv.length (findM M1 piv.length col)) piv.length col := HOPS.out (by rw [htl]; exact hf)
          have HST := Lib.hid (show stN (texts rs) (col + 1) = (clearM (swapM M1 piv.length (findM M1 piv.length col)) piv.length col, piv ++ [col]) from HHIT.out (show findM M1 piv.length col ≠ M1.length by rw [hM1l]; exact hf))
          generalize findM M1 piv.length col = a at *
          have ha : a < rs.length := by omega
          have hr : piv.length < rs.length := by omega
          clear hf hle HOPS HHIT HMISS
          obtain ⟨_, hgA2, _⟩ := hK.outer.typ
          obtain ⟨gA', e1, hgB, _, hgc, hgf⟩ := hK.outer.at_ (by omega)
          obtain rfl : gA = gA' := by injection e1 with e1; injection e1
          go_wp2_with fail
          refine (HFD.out _ hK.at).mono ?_
          rintro e w2 ⟨rfl, hb2⟩
          have hP2 := hP.below hb2
          have hK2 := hK.below hb2
          have b2 := below_lift3 hbel hb2
          have ha1 : a < rs1.length := by omega
          have hr1 : piv.length < rs1.length := by omega
          have hra := List.getElem_mem ha1
          have hrp := List.getElem_mem hr1
          have hxa : rs1[a].xs = M1.getD a [] := by rw [← ht1, texts_getD ha1]
          have hxp : rs1[piv.length].xs = M1.getD piv.length [] := by rw [← ht1, texts_getD hr1]
          have d0 : w2.cell? ⟨gA, a, none⟩ = some (.slice rs1[a].A k rs1[a].c) := by
            have := hK2.outer.cells (by rw [List.length_map]; omega)
            obtain ⟨g', o', e, _, hc⟩ := this
            injection e with e
            injection e with e1 e2 _
            have h3 := hc a (hdrV rs1[a]) (by rw [List.getElem?_map, List.getElem?_eq_getElem ha1]; rfl)
            rw [← e1, ← e2, Nat.zero_add] at h3
            rw [h3]; unfold hdrV; rw [hrowlen _ hra]
          have d1 : w2.cell? ⟨gA, piv.length, none⟩ = some (.slice rs1[piv.length].A k rs1[piv.length].c) := by
            have := hK2.outer.cells (by rw [List.length_map]; omega)
            obtain ⟨g', o', e, _, hc⟩ := this
            injection e with e
            injection e with e1 e2 _
            have h3 := hc piv.length (hdrV rs1[piv.length]) (by rw [List.getElem?_map, List.getElem?_eq_getElem hr1]; rfl)
            rw [← e1, ← e2, Nat.zero_add] at h3
            rw [h3]; unfold hdrV; rw [hrowlen _ hrp]
          have hfa : w2.frozen? ⟨gA, a, none⟩ = false := World.ownsRow.frozenAt hK2.outer a
          have hfp : w2.frozen? ⟨gA, piv.length, none⟩ = false := World.ownsRow.frozenAt hK2.outer piv.length
          have hPA : P ≠ some ⟨gA, 0, none⟩ := hK2.outer.ne hP2 (by decide)
          -- the world behind the first store
          have hKS := hK2.put ha1 (hK2.rows _ hrp) (hK2.kind _ hrp)
          rw [hrowlen _ hrp] at hKS
          have hPS := hP2.other (g := gA) (j := a) (u := .slice rs1[piv.length].A k rs1[piv.length].c) hPA
          have bS := b2.setCell (p := ⟨gA, a, none⟩) hgB (.slice rs1[piv.length].A k rs1[piv.length].c)
          have hCa : Cells (w2.setCell ⟨gA, a, none⟩ (.slice rs1[piv.length].A k rs1[piv.length].c)) rs1[a].A (strs rs1[a].xs) := (hK2.rows _ hra).other (by rw [strs_length]; exact fun h0 b off sp e => hK2.neA hra h0 e)
          have hka := hrowlen _ hra
          obtain ⟨bx, ox, hAx, hbx, hcx⟩ := hCa (by rw [strs_length]; omega)
          have dx := hcx col _ (strs_get _ _ (by omega))
          have hnl := hnum _ hra
          have HOV := Lib.hid (brover_any rs1[a].xs rs1[a].A rs1[a].c (rs1[a].xs.getD col []) _ hCa (by omega) (fun x hx => by have := frd_len (hnl x hx); omega) (by
            rw [List.getD_eq_getElem?_getD, List.getElem?_eq_getElem (by omega)]
            have := frd_len (hnl _ (List.getElem_mem (show col < rs1[a].xs.length by omega)))
            show (rs1[a].xs[col]).length ≤ _
            omega))
          rw [hka] at HOV
          have hsz : (w2.setCell ⟨gA, a, none⟩ (.slice rs1[piv.length].A k rs1[piv.length].c)).heap.size = w2.heap.size := World.size_setCell _ _ _
          have hfp2 : (w2.setCell ⟨gA, a, none⟩ (.slice rs1[piv.length].A k rs1[piv.length].c)).frozen? ⟨gA, piv.length, none⟩ = false := World.ownsRow.frozenAt hKS.outer piv.length
          have dp2 : ∃ u, (w2.setCell ⟨gA, a, none⟩ (.slice rs1[piv.length].A k rs1[piv.length].c)).cell? ⟨gA, piv.length, none⟩ = some u := by
            have := hKS.outer.cells (by rw [List.length_map, List.length_set]; omega)
            obtain ⟨g', o', e, _, hc⟩ := this
            injection e with e
            injection e with e1 e2 _
            have hlt2 : piv.length < ((rs1.set a ⟨rs1[piv.length].A, rs1[piv.length].c, rs1[piv.length].xs⟩).map hdrV).length := by rw [List.length_map, List.length_set]; exact hr1
            have h3 := hc piv.length _ (List.getElem?_eq_getElem hlt2)
            rw [← e1, ← e2, Nat.zero_add] at h3
            exact ⟨_, h3⟩
          obtain ⟨up, dp2⟩ := dp2
          have HHX := Lib.hid (show M1.getD a [] = rs1[a].xs ∧ M1.getD piv.length [] = rs1[piv.length].xs from ⟨hxa.symm, hxp.symm⟩)
          have HTX := Lib.hid (show texts ((rs1.set a ⟨rs1[piv.length].A, rs1[piv.length].c, rs1[piv.length].xs⟩)) = M1.set a (M1.getD piv.length []) by rw [texts_set, ht1, hxp])
          have HSL := Lib.hid (show (rs1.set a ⟨rs1[piv.length].A, rs1[piv.length].c, rs1[piv.length].xs⟩).length = rs.length by rw [List.length_set, hl1])
          have HOPS := Lib.hid hops
          have HRLEN := Lib.hid hrowlen
          have HNUM := Lib.hid hnum
          have HPUT := Lib.hid (put_first (M := M1) (row := piv.length) (a := a) (col := col) (by omega) (by omega))
          rw [HHX.out.1, HHX.out.2] at HPUT
          rw [HHX.out.2] at HTX
          have HFL := Lib.hid (show (scaleR rs1[a].xs (rs1[a].xs.getD col [])).length = k by unfold scaleR; rw [List.length_map]; exact hka)
          clear hops hrowlen hnum hxa hxp hCa hcx hnl hmat hra hrp hka hgc hgf
          generalize rs1.set a ⟨rs1[piv.length].A, rs1[piv.length].c, rs1[piv.length].xs⟩ = rsS at *
          have HRA := Lib.hid hAx
          rw [hAx] at d0 HOV
          clear hAx
          generalize rs1[a].xs.getD col [] = p at *
          generalize rs1[a].c = ca at *
          generalize rs1[a].xs = xa at *
          generalize rs1[a].A = Aa at *
          generalize rs1[piv.length].A = Ap at *
          generalize rs1[piv.length].c = cp1 at *
          generalize rs1[piv.length].xs = xp at *
          clear c0
          go_wp2_with fail
          refine HOV.out.mono ?_
          rintro e w3 ⟨F, cf, rfl, hF, hb3⟩
          have hKS3 := hKS.below hb3
          have hPS3 := hPS.below hb3
          have bS3 := below_lift3 bS hb3
          have hfp3 := (hb3.frozen (p := ⟨gA, piv.length, none⟩) (by rw [hsz]; exact Nat.lt_of_lt_of_le hgA2 hb2.size)).trans hfp2
          have dp3 := (hb3.cell (p := ⟨gA, piv.length, none⟩) (by rw [hsz]; exact Nat.lt_of_lt_of_le hgA2 hb2.size)).trans dp2
          have hK4 := hKS3.put (i := piv.length) (by rw [HSL.out]; exact hr) (r := ⟨F, cf, scaleR xa p⟩) (by have := hF.cells; exact this) (fun _ => own_kind hF)
          rw [show (⟨F, cf, scaleR xa p⟩ : VecV).xs.length = k from HFL.out] at hK4
          have hP4 := hPS3.other (g := gA) (j := piv.length) (u := .slice F k cf) hPA
          have b4 := bS3.setCell (p := ⟨gA, piv.length, none⟩) hgB (.slice F k cf)
          have ht4 : texts (rsS.set piv.length ⟨F, cf, scaleR xa p⟩) = clrM (swapM M1 piv.length a) piv.length col 0 := by rw [texts_set, HTX.out]; exact HPUT.out
          have hl4 : (rsS.set piv.length ⟨F, cf, scaleR xa p⟩).length = rs.length := by rw [List.length_set, HSL.out]
          have hg4 : (rsS.set piv.length ⟨F, cf, scaleR xa p⟩)[piv.length]? = some ⟨F, cf, scaleR xa p⟩ := by rw [List.getElem?_set, if_pos rfl, if_pos (by rw [HSL.out]; exact hr)]
          generalize rsS.set piv.length ⟨F, cf, scaleR xa p⟩ = rs4 at *
          clear hKS3 hPS3 bS3 hKS hPS bS hK2 hP2 b2 hb2 hb3 hF d0 d1 hfa hfp dx hfp2 dp2 HTX HPUT HSL hK hbel hP
          go_wp2_with fail
          clear hfp3 dp3
          have hFL : (scaleR xa p).length = k := HFL.out
          have HFF := Lib.hid hFL
          clear hFL
          generalize scaleR xa p = first at *
          go_loopw [10] (fun i wr => ∃ (l : Nat) (rs2 : List VecV), l ≤ rs.length ∧ i = .int .i64 l ∧ rs2.length = rs.length ∧ texts rs2 = clrM (swapM M1 piv.length a) piv.length col l ∧ rs2[piv.length]? = some ⟨F, cf, first⟩ ∧ MatK wr w.heap.size gA c1 rs2 ∧ OwnS wr w.heap.size 3 P piv.length cp (nums piv) ∧ Below w.heap.size w wr) (fun i _ => rs.length - (intOf i).toNat)
          case atStart => exact ⟨0, rs4, Nat.zero_le _, rfl, hl4, ht4, hg4, hK4, hP4, b4⟩
          case round =>
            clear hl4 ht4 hg4 hK4 hP4 b4
            obtain ⟨l, rs2, hl, rfl, hl2, ht2, hg2, hK, hP, hbel⟩ := hrel
            have hswl : (swapM M1 piv.length a).length = rs.length := by rw [swapM_len]; exact hM1l
            have HSWL := Lib.hid hswl
            have hfirst : first = (clearM (swapM M1 piv.length a) piv.length col).getD piv.length [] := by
              have h1 := HOPS.out.clr_row (l := piv.length) l (by rw [hswl]; exact hr)
              rw [if_pos (.inr rfl), ← ht2] at h1
              rw [← h1, List.getD_eq_getElem?_getD]
              unfold texts
              rw [List.getElem?_map, hg2]; rfl
            have HFIRST := Lib.hid hfirst
            have hcapP2 := hP.cap
            unfold maxLen at hcapP2
            clear hswl hfirst hcapP
            by_cases hlt2 : l < rs.length
            · have hl3 : l < rs2.length := by omega
              by_cases hlr : l = piv.length
              · have HSK := Lib.hid (HOPS.out.clr_skip (i := l) (by rw [HSWL.out]; exact hlt2) (.inl hlr))
                have hlr' : ((l : Int) != (piv.length : Int)) = false := by rw [hlr]; simp
                clear hlr
                go_wp2_with fail
                go_roundw
                case rel => exact ⟨l + 1, rs2, by omega, by go_num, hl2, by rw [HSK.out]; exact ht2, hg2, hK, hP, hbel⟩
                case measure => simp [intOf]; omega
              · have hlr' : ((l : Int) != (piv.length : Int)) = true := by rw [bne_iff_ne]; omega
                have hrl := List.getElem_mem hl3
                have hxl : rs2[l].xs = (swapM M1 piv.length a).getD l [] := by
                  rw [← texts_getD hl3, ht2, HOPS.out.clr_row l (by rw [HSWL.out]; exact hlt2), if_neg (fun h => h.elim (by omega) hlr)]
                have hkl : rs2[l].xs.length = k := by rw [hxl]; exact HOPS.out.rowlen (by rw [HSWL.out]; exact hlt2)
                have hKd := hK.below ((Below.refl _ wr).drew)
                have hPd := hP.below ((Below.refl _ wr).drew)
                have hbd := below_drew hbel
                have d0 : wr.cell? ⟨gA, l, none⟩ = some (.slice rs2[l].A k rs2[l].c) := by
                  obtain ⟨g', o', e, _, hc⟩ := hK.outer.cells (by rw [List.length_map]; omega)
                  injection e with e
                  injection e with e1 e2 _
                  have h3 := hc l (hdrV rs2[l]) (by rw [List.getElem?_map, List.getElem?_eq_getElem hl3]; rfl)
                  rw [← e1, ← e2, Nat.zero_add] at h3
                  rw [h3]; unfold hdrV; rw [hkl]
                have hfl : wr.frozen? ⟨gA, l, none⟩ = false := World.ownsRow.frozenAt hK.outer l
                have hgw : gA < wr.heap.size := hK.outer.typ.2.1
                have hCl := hKd.rows _ hrl
                have hmf : (⟨F, cf, first⟩ : VecV) ∈ rs2 := List.mem_of_getElem? hg2
                have hCF : Cells wr.drew F (strs first) := hKd.rows _ hmf
                obtain ⟨bx, ox, hAx, hbx, hcx⟩ := hCl (by rw [strs_length]; omega)
                have dx := hcx col _ (strs_get _ _ (by omega))
                have hfx : rs2[l].xs.getD col [] = cellM (swapM M1 piv.length a) l col := by rw [hxl]; rfl
                have hlS : l < (swapM M1 piv.length a).length := by rw [HSWL.out]; exact hlt2
                have hfg : ∀ j, j < k → first.getD j [] = quoQS (cellM (swapM M1 piv.length a) piv.length j) (cellM (swapM M1 piv.length a) piv.length col) := by
                  intro j hj
                  rw [HFIRST.out]
                  have := clearM_cell HOPS.out.mat HOPS.out.row_lt HOPS.out.row_lt hj (col := col)
                  rw [if_pos rfl] at this
                  exact this
                have HLS := Lib.hid (brless_any rs2[l].xs rs2[l].A rs2[l].c first F cf (rs2[l].xs.getD col []) wr.drew hCl hCF (by omega) (by rw [hkl, HFF.out])
                  (fun x hx => by
                    rw [hxl] at hx
                    have := frd_len ((HOPS.out.mat.row hlS).2 x hx)
                    omega)
                  (fun x hx => by
                    obtain ⟨j, hj, rfl⟩ := List.getElem_of_mem hx
                    have h1 := hfg j (by rw [HFF.out] at hj; exact hj)
                    rw [List.getD_eq_getElem?_getD, List.getElem?_eq_getElem hj] at h1
                    have h2 : first[j] = _ := h1
                    rw [h2]
                    have := frd_len (HOPS.out.quo j (by rw [HFF.out] at hj; exact hj)).2
                    omega)
                  (by rw [hfx]; have := frd_len (HOPS.out.mat.cell hlS hlt); omega)
                  (fun j hj => by
                    rw [hfx, hfg j (by rw [HFF.out] at hj; exact hj)]
                    have := frd_len (HOPS.out.less l hlS hlr j (by rw [HFF.out] at hj; exact hj)).2.1
                    omega))
                rw [hkl, HFF.out] at HLS
                have HNEW := Lib.hid (show ∀ Z cz, texts (rs2.set l ⟨Z, cz, lessR rs2[l].xs first (rs2[l].xs.getD col [])⟩) = clrM (swapM M1 piv.length a) piv.length col (l + 1) by
                  intro Z cz
                  rw [texts_set, ht2, ← clr_succ hlS]
                  congr 1
                  show lessR rs2[l].xs first (rs2[l].xs.getD col []) = _
                  have h5 := HFIRST.out
                  rw [clearM_row HOPS.out.row_lt, if_pos rfl] at h5
                  rw [clearM_row hlS, if_neg hlr, hxl, h5]; rfl)
                have HSET := Lib.hid (show ∀ r, (rs2.set l r)[piv.length]? = some ⟨F, cf, first⟩ ∧ (rs2.set l r).length = rs.length from fun r => ⟨by rw [List.getElem?_set, if_neg hlr]; exact hg2, by rw [List.length_set]; exact hl2⟩)
                have HLL := Lib.hid (show (lessR rs2[l].xs first (rs2[l].xs.getD col [])).length = k by unfold lessR; rw [List.length_zipWith, hkl, HFF.out]; omega)
                have hPA2 : P ≠ some ⟨gA, 0, none⟩ := hK.outer.ne hP (by decide)
                have HKD := Lib.hid hKd
                rw [hAx] at d0 HLS
                clear hCl hCF hcx hfx hfg hxl hkl hmf hAx hK hP hKd ht2 hg2
                generalize hlsr : lessR rs2[l].xs first (rs2[l].xs.getD col []) = ls at *
                have HLSR := Lib.hid hlsr
                clear hlsr
                generalize rs2[l].xs.getD col [] = f at *
                generalize rs2[l].c = cl at *
                generalize rs2[l].A = Al at *
                have HLR := Lib.hid hlr
                clear hlr
                have HL2 := Lib.hid (fun (w2 : World) (hb2 : Below wr.drew.heap.size wr.drew w2) => show w2.cell? ⟨gA, l, none⟩ = some (.slice (some ⟨bx, ox, none⟩) k cl) ∧ w2.frozen? ⟨gA, l, none⟩ = false from
                  ⟨(hb2.cell (p := ⟨gA, l, none⟩) hgw).trans d0, (hb2.frozen (p := ⟨gA, l, none⟩) hgw).trans hfl⟩)
                go_wp2_with fail
                go_region_with (go_at_call 57; refine HLS.out.mono ?_; rintro e w3 ⟨Z, cz, rfl, hZ, hb3⟩; obtain ⟨l0, l1⟩ := HL2.out w3 hb3)
                all_goals
                  have hK3 := (HKD.out.below hb3).put (i := l) hl3 (r := ⟨Z, cz, ls⟩) hZ.cells (fun _ => own_kind hZ)
                  rw [show (⟨Z, cz, ls⟩ : VecV).xs.length = k from HLL.out] at hK3
                  have hP3 := (hPd.below hb3).other (g := gA) (j := l) (u := .slice Z k cz) hPA2
                  have b3 := (below_lift3 hbd hb3).setCell (p := ⟨gA, l, none⟩) hgB (.slice Z k cz)
                  go_wp2_with fail
                  go_roundw
                  case rel => exact ⟨l + 1, rs2.set l ⟨Z, cz, ls⟩, by omega, by go_num, (HSET.out _).2, HNEW.out Z cz, (HSET.out _).1, hK3, hP3, b3⟩
                  case measure => simp [intOf]; omega
            · have hln : l = rs.length := by omega
              have HT := Lib.hid (show texts rs2 = (stN (texts rs) (col + 1)).1 by rw [HST.out, ht2, hln, ← HSWL.out]; exact clr_full)
              have hl' : ¬ (l : Int) < (rs.length : Int) := by omega
              clear hln ht2
              go_wp2_with (at_builtin; refine wp_app1k el_bint rfl _ _ rfl w.heap.size _ _ _ _ _ (.int .i64 col) rfl hP rfl rfl (by unfold maxLen; omega) (by omega) hbel.size ?_; intro A3 c3 w3 hown3 hb3 hk3)
              go_roundw
              case rel => exact ⟨col + 1, A3, c3, rs2, by omega, by go_num, by rw [HST.out]; simp, by rw [HST.out]; rw [show nums piv ++ [.int .i64 (col : Int)] = nums (piv ++ [col]) by simp [nums]] at hown3; simpa using hown3, hl2, HT.out, hK.keep hP hb3 hk3, hbel.trans hb3⟩
              case measure => simp [intOf]; omega
      · have hck : col = k := by omega
        have HN := Lib.hid (show reduceM (texts rs) = stN (texts rs) col by rw [HRM.out, hck])
        have hck' : ¬ (col : Int) < (k : Int) := by omega
        clear hck
        go_wp2_with fail
        go_ret2
        exact ⟨some ⟨gA, 0, none⟩, c1, rs1, P, cp, by rw [HN.out, hl1]; rfl, hK.at, by rw [HN.out]; exact ht1, by rw [HN.out]; exact hP, hbel⟩
end Go.Proofs.YtkcaheaefjcdiaaGreatDoor
/- The reference of basis: Check, Right, all, Reduce, Rank, Same, SameRows. -/
namespace Go.Proofs.YtkcaheaefjcdiaaGreatDoor
open Go.RowKit Num
set_option linter.unusedVariables false
attribute [local go_sem] B_size B_get B_toList B_mk B_extract B_append

/-- the error of a matrix by its sizes -/
def rchkE (M : List (List Str)) : Int := if 64 < M.length ∨ M.any (fun r => decide (64 < r.length)) = true then 4 else if M.any (fun r => decide (r.length ≠ (M.getD 0 []).length)) = true then 2 else 0
def allR (M : List (List Str)) : Bool := M.all fun r => r.all rightQ
section
variable {α : Type}
theorem all_take_s {l : List α} {f : α → Bool} {k : Nat} (hk : k < l.length) (h : (l.take k).all f = true) (h1 : f l[k] = true) : (l.take (k + 1)).all f = true := by
  rw [List.take_succ_eq_append_getElem hk, List.all_append, h, List.all_cons, h1]; rfl
theorem all_miss {l : List α} {f : α → Bool} {k : Nat} (hk : k < l.length) (h : f l[k] = false) : l.all f = false := by
  rw [List.all_eq_false]; exact ⟨_, List.getElem_mem hk, by rw [h]; simp⟩
theorem all_full {l : List α} {f : α → Bool} {k : Nat} (hk : k = l.length) (h : (l.take k).all f = true) : l.all f = true := by rw [hk, List.take_length] at h; exact h
end
set_option maxRecDepth 100000 in
theorem brright_any (xs : List Str) (X : Option Addr) (cx : Nat) (w : World) (hX : Cells w X (strs xs)) (hl : xs.length ≤ 1000000) (hx : ∀ x ∈ xs, x.length ≤ 100000) :
    Calls Tryz.prog 28 #[.slice X xs.length cx] w fun e w' => e = .returned (.bool (xs.all rightQ)) ∧ Below w.heap.size w w' := by
  have HX := Lib.hid hX
  have HXX := Lib.hid hx
  clear hX hx
  go_enter Tryz.func28, Tryz.ntmps28
  go_wp2_with fail
  go_loopw [3] (fun i wr => ∃ k : Nat, k ≤ xs.length ∧ i = .int .i64 k ∧ (xs.take k).all rightQ = true ∧ Below w.heap.size w wr) (fun i _ => xs.length - (intOf i).toNat)
  case atStart => exact ⟨0, Nat.zero_le _, rfl, rfl, Below.refl _ _⟩
  case round =>
    obtain ⟨k, hk, rfl, hall, hbel⟩ := hrel
    have HA := Lib.hid hall
    clear hall
    by_cases hlt : k < xs.length
    · obtain ⟨b, off, rfl, hb, hc⟩ := (HX.out.below hbel) (by rw [strs_length]; omega)
      have hck := hc k _ (strs_get _ _ hlt)
      have hxg : xs.getD k [] = xs[k] := by rw [List.getD_eq_getElem?_getD, List.getElem?_eq_getElem hlt]; rfl
      rw [hxg] at hck
      have HR := Lib.hid (fun w => rrq_any xs[k] w (by have := HXX.out _ (List.getElem_mem hlt); omega))
      have HS := Lib.hid (fun h => all_take_s (f := rightQ) hlt HA.out h)
      have HB := Lib.hid (fun h => all_miss (f := rightQ) hlt h)
      generalize xs[k] = x at *
      clear hc hxg
      cases hr : rightQ x
      · have HV := Lib.hid (HB.out hr)
        rw [hr] at HR
        go_wp2_with fail
        refine (HR.out _).mono ?_
        rintro e w2 ⟨rfl, hb2⟩
        go_wp2_with fail
        go_ret
        exact ⟨ret_bool HV.out.symm, below_lift3 hbel hb2⟩
      · have HV := Lib.hid (HS.out hr)
        rw [hr] at HR
        go_wp2_with fail
        refine (HR.out _).mono ?_
        rintro e w2 ⟨rfl, hb2⟩
        go_wp2_with fail
        go_roundw
        case rel => exact ⟨k + 1, by omega, by go_num, HV.out, below_lift3 hbel hb2⟩
        case measure => simp [intOf]; omega
    · have HV := Lib.hid (all_full (show k = xs.length by omega) HA.out)
      go_wp2_with fail
      go_ret
      exact ⟨ret_bool HV.out.symm, hbel⟩
set_option maxRecDepth 100000 in
theorem brall_any (rs : List VecV) (A : Option Addr) (c : Nat) (w : World) (hM : MatAt w A rs) (hl : rs.length ≤ 1000000) (hrl : ∀ r ∈ rs, r.xs.length ≤ 1000000) (hx : ∀ r ∈ rs, ∀ x ∈ r.xs, x.length ≤ 100000) :
    Calls Tryz.prog 34 #[.slice A rs.length c] w fun e w' => e = .returned (.bool (allR (texts rs))) ∧ Below w.heap.size w w' := by
  have HM := Lib.hid hM
  have HRL := Lib.hid hrl
  have HXX := Lib.hid hx
  have HAL := Lib.hid (show allR (texts rs) = rs.all (fun r => r.xs.all rightQ) by unfold allR texts; rw [List.all_map]; rfl)
  rw [HAL.out]
  clear hM hrl hx
  go_enter Tryz.func34, Tryz.ntmps34
  go_wp2_with fail
  go_loopw [3] (fun i wr => ∃ k : Nat, k ≤ rs.length ∧ i = .int .i64 k ∧ (rs.take k).all (fun r => r.xs.all rightQ) = true ∧ Below w.heap.size w wr) (fun i _ => rs.length - (intOf i).toNat)
  case atStart => exact ⟨0, Nat.zero_le _, rfl, rfl, Below.refl _ _⟩
  case round =>
    obtain ⟨k, hk, rfl, hall, hbel⟩ := hrel
    have HA := Lib.hid hall
    clear hall
    by_cases hlt : k < rs.length
    · obtain ⟨b, off, rfl, hb, hc⟩ := (HM.out.below hbel).1 (by omega)
      have hck := hc k hlt
      have hrk := HRL.out _ (List.getElem_mem hlt)
      have HR := Lib.hid (fun w (h : Cells w rs[k].A (strs rs[k].xs)) => brright_any rs[k].xs rs[k].A rs[k].c w h (by omega) (HXX.out _ (List.getElem_mem hlt)))
      have HRX := Lib.hid ((HM.out.below hbel).2 _ (List.getElem_mem hlt))
      have HS := Lib.hid (fun h => all_take_s (f := fun r : VecV => r.xs.all rightQ) hlt HA.out h)
      have HB := Lib.hid (fun h => all_miss (f := fun r : VecV => r.xs.all rightQ) hlt h)
      generalize rs[k] = r at *
      clear hc
      cases hr : r.xs.all rightQ
      · have HV := Lib.hid (HB.out hr)
        rw [hr] at HR
        go_wp2_with fail
        refine (HR.out _ HRX.out).mono ?_
        rintro e w2 ⟨rfl, hb2⟩
        go_wp2_with fail
        go_ret
        exact ⟨ret_bool HV.out.symm, below_lift3 hbel hb2⟩
      · have HV := Lib.hid (HS.out hr)
        rw [hr] at HR
        go_wp2_with fail
        refine (HR.out _ HRX.out).mono ?_
        rintro e w2 ⟨rfl, hb2⟩
        go_wp2_with fail
        go_roundw
        case rel => exact ⟨k + 1, by omega, by go_num, HV.out, below_lift3 hbel hb2⟩
        case measure => simp [intOf]; omega
    · have HV := Lib.hid (all_full (show k = rs.length by omega) HA.out)
      go_wp2_with fail
      go_ret
      exact ⟨ret_bool HV.out.symm, hbel⟩
/-- the error so far -/
def partE (M : List (List Str)) (k : Nat) : Int := if (M.take k).any (fun r => decide (r.length ≠ (M.getD 0 []).length)) = true then 2 else 0
theorem partE_bad {M : List (List Str)} {k : Nat} (hk : k < M.length) (h : M[k].length ≠ (M.getD 0 []).length) : partE M (k + 1) = 2 := by
  unfold partE
  rw [if_pos]
  exact List.any_eq_true.2 ⟨M[k], by rw [List.take_succ_eq_append_getElem hk]; exact List.mem_append_right _ (List.mem_singleton.2 rfl), by simpa using h⟩
theorem partE_good {M : List (List Str)} {k : Nat} (hk : k < M.length) (h : M[k].length = (M.getD 0 []).length) : partE M (k + 1) = partE M k := by
  unfold partE
  rw [List.take_succ_eq_append_getElem hk, List.any_append, List.any_cons]
  simp only [h, ne_eq, not_true_eq_false, decide_false, List.any_nil, Bool.or_false]
set_option maxHeartbeats 1000000 in
set_option maxRecDepth 100000 in
theorem brcheck_any (rs : List VecV) (A : Option Addr) (c : Nat) (w : World) (hM : MatAt w A rs) (hl : rs.length ≤ 1000000) (hrl : ∀ r ∈ rs, r.xs.length ≤ 1000000) :
    Calls Tryz.prog 29 #[.slice A rs.length c] w fun e w' => e = .returned (.int .i64 (rchkE (texts rs))) ∧ Below w.heap.size w w' := by
  have HQ := Lib.hid (show rchkE (texts rs) = if 64 < (texts rs).length ∨ (texts rs).any (fun r => decide (64 < r.length)) = true then 4 else partE (texts rs) (texts rs).length by unfold rchkE partE; rw [List.take_length])
  have HM := Lib.hid hM
  have HRL := Lib.hid hrl
  clear hM hrl
  generalize rchkE (texts rs) = q at *
  by_cases h1 : 64 < rs.length
  · have h1' : (64 : Int) < (rs.length : Int) := by omega
    have HR := Lib.hid (show q = 4 by rw [HQ.out, if_pos (.inl (by rw [texts_length]; exact h1))])
    go_enter Tryz.func29, Tryz.ntmps29
    go_wp2_with fail
    go_ret
    exact ⟨ret_int HR.out.symm, Below.refl _ _⟩
  have h1' : ¬ (64 : Int) < (rs.length : Int) := by omega
  go_enter Tryz.func29, Tryz.ntmps29
  go_wp2_with fail
  go_loopw [3, 4] (fun s i wr => ∃ k : Nat, k ≤ rs.length ∧ i = .int .i64 k ∧ s = .int .i64 (partE (texts rs) k) ∧ ((texts rs).take k).any (fun r => decide (64 < r.length)) = false ∧ Below w.heap.size w wr) (fun _ i _ => rs.length - (intOf i).toNat)
  case atStart => exact ⟨0, Nat.zero_le _, rfl, rfl, rfl, Below.refl _ _⟩
  case round =>
    obtain ⟨k, hk, rfl, rfl, hall, hbel⟩ := hrel
    have HA := Lib.hid hall
    clear hall
    by_cases hlt : k < rs.length
    · obtain ⟨b, off, rfl, hb, hc⟩ := (HM.out.below hbel).1 (by omega)
      have h00 : 0 < rs.length := by omega
      have hck := hc k hlt
      have hc0 : wr.cell? ⟨b, off, none⟩ = some (.slice (rs[0]'h00).A (rs[0]'h00).xs.length (rs[0]'h00).c) := hc 0 h00
      have hkl := HRL.out rs[k] (List.getElem_mem hlt)
      have hkl0 := HRL.out (rs[0]'h00) (List.getElem_mem h00)
      have HT := Lib.hid (texts_get hlt)
      have hkT : k < (texts rs).length := by rw [texts_length]; exact hlt
      have HS := Lib.hid (fun h => any_take_succ (f := fun r : List Str => decide (64 < r.length)) hkT HA.out h)
      have HB := Lib.hid (fun h => any_hit (f := fun r : List Str => decide (64 < r.length)) hkT h)
      have HPB := Lib.hid (fun h => partE_bad hkT h)
      have HPG := Lib.hid (fun h => partE_good hkT h)
      rw [HT.out] at HS HB HPB HPG
      rw [texts_getD h00] at HPB HPG
      generalize rs[k] = r at *
      generalize rs[0]'h00 = r0 at *
      generalize partE (texts rs) k = pe at *
      clear hc hkT
      by_cases hr : 64 < r.xs.length
      · have hr' : (64 : Int) < (r.xs.length : Int) := by omega
        have HR := Lib.hid (show q = 4 by rw [HQ.out, if_pos (.inr (HB.out (by simpa using hr)))])
        go_wp2_with fail
        go_ret
        exact ⟨ret_int HR.out.symm, hbel⟩
      · have hr' : ¬ (64 : Int) < (r.xs.length : Int) := by omega
        have HN := Lib.hid (HS.out (by simpa using hr))
        by_cases he : r.xs.length = r0.xs.length
        · have hne : (((r.xs.length : Nat) : Int) != ((r0.xs.length : Nat) : Int)) = false := by rw [he]; simp
          have HP := Lib.hid (HPG.out he)
          clear he
          go_wp2_with fail
          go_quiet (fail)
          go_wp2_with fail
          have hq := below_drewN hbel nq
          go_roundw
          case rel => exact ⟨k + 1, by omega, by go_num, by rw [HP.out], HN.out, hq⟩
          case measure => simp [intOf]; omega
        · have hne : (((r.xs.length : Nat) : Int) != ((r0.xs.length : Nat) : Int)) = true := by rw [bne_iff_ne]; omega
          have HP := Lib.hid (HPB.out he)
          clear he
          go_wp2_with fail
          go_quiet (fail)
          go_wp2_with fail
          have hq := below_drewN hbel nq
          go_roundw
          case rel => exact ⟨k + 1, by omega, by go_num, by rw [HP.out], HN.out, hq⟩
          case measure => simp [intOf]; omega
    · have HN := Lib.hid (any_full (by rw [texts_length]; omega) HA.out)
      have HR := Lib.hid (show partE (texts rs) k = q by
        rw [HQ.out, if_neg (fun h => h.elim (by rw [texts_length]; exact h1) (by rw [HN.out]; decide)), texts_length, show k = rs.length by omega])
      go_wp2_with fail
      go_ret
      exact ⟨ret_int HR.out, hbel⟩
/-- what the reference's Reduce says -/
def rredE (M : List (List Str)) : Int := if rchkE M = 0 then (if allR M = true then 0 else 3) else rchkE M
def rredM (M : List (List Str)) : List (List Str) × List Nat := if rredE M = 0 then reduceM M else ([], [])
theorem brreduceT_any (rs : List VecV) (A : Option Addr) (c : Nat) (w : World) (hM : MatAt w A rs) (hA0 : A = none → c = 0) (hR : RsOK rs) (hred : rredE (texts rs) = 0 → ∃ D k, D ≤ 4096 ∧ k ≤ 1000 ∧ RedOK D k (texts rs)) :
    Calls Tryz.prog 19 #[.slice A rs.length c] w fun e w' => ∃ (O : Option Addr) (co : Nat) (rs' : List VecV) (P : Option Addr) (cp : Nat), e = .returned (.tuple #[.slice O rs'.length co, .slice P (rredM (texts rs)).2.length cp, .int .i64 (rredE (texts rs))]) ∧
      MatAt w' O rs' ∧ texts rs' = (rredM (texts rs)).1 ∧ OwnS w' w.heap.size 3 P (rredM (texts rs)).2.length cp (nums (rredM (texts rs)).2) ∧ Below w.heap.size w w' := by
  have hlr := hR.len
  have HC := Lib.hid (brcheck_any rs A c w hM (by omega) (fun r hr => by have := hR.row r hr; omega))
  have HL := Lib.hid (fun w h => brall_any rs A c w h (by omega) (fun r hr => by have := hR.row r hr; omega) hR.txt)
  have HM := Lib.hid hM
  have HRE := Lib.hid (show rredE (texts rs) = if rchkE (texts rs) = 0 then (if allR (texts rs) = true then 0 else 3) else rchkE (texts rs) from rfl)
  have HRM := Lib.hid (show rredM (texts rs) = if rredE (texts rs) = 0 then reduceM (texts rs) else ([], []) from rfl)
  have HRED := Lib.hid hred
  clear hM hred
  by_cases h0 : rchkE (texts rs) = 0
  · rw [h0] at HC
    cases ha : allR (texts rs)
    · have HE := Lib.hid (show rredE (texts rs) = 3 by rw [HRE.out, if_pos h0, ha]; rfl)
      have HX := Lib.hid (show rredM (texts rs) = ([], []) by rw [HRM.out, HE.out]; rfl)
      rw [ha] at HL
      clear h0
      go_enter Tryz.func19, Tryz.ntmps19
      go_wp2_with fail
      refine HC.out.mono ?_
      rintro e w1 ⟨rfl, hb1⟩
      go_wp2_with fail
      refine (HL.out _ (HM.out.below hb1)).mono ?_
      rintro e w2 ⟨rfl, hb2⟩
      go_wp2_with fail
      go_ret3
      exact ⟨none, 0, [], none, 0, by rw [HE.out, HX.out]; rfl, ⟨fun h => absurd h (by simp), fun r hr => absurd hr (by simp)⟩, by rw [HX.out]; rfl, by rw [HX.out]; exact OwnS.nil _ _ _, below_lift3 hb1 hb2⟩
    · have hE0 : rredE (texts rs) = 0 := by rw [HRE.out, if_pos h0, ha]; rfl
      have HE := Lib.hid hE0
      have HX := Lib.hid (show rredM (texts rs) = reduceM (texts rs) by rw [HRM.out, if_pos hE0])
      obtain ⟨D, k, hD, hk, hO⟩ := HRED.out hE0
      have HRD := Lib.hid (fun w h => brreduce_any rs hO hD A c w h hA0 (by omega) hk)
      rw [← HX.out] at HRD
      rw [ha] at HL
      clear h0 hE0 hO HX HRM HRE HRED
      generalize rredM (texts rs) = res at *
      generalize rredE (texts rs) = q at *
      go_enter Tryz.func19, Tryz.ntmps19
      go_wp2_with fail
      refine HC.out.mono ?_
      rintro e w1 ⟨rfl, hb1⟩
      go_wp2_with fail
      refine (HL.out _ (HM.out.below hb1)).mono ?_
      rintro e w2 ⟨rfl, hb2⟩
      have b2 := below_lift3 hb1 hb2
      go_wp2_with fail
      refine (HRD.out _ (HM.out.below b2)).mono ?_
      rintro e w3 ⟨O, co, rs', P, cp, rfl, hM3, ht3, hP, hb3⟩
      go_wp2_with fail
      go_ret3
      exact ⟨O, co, rs', P, cp, by rw [HE.out]; rfl, hM3, ht3, hP.mono b2.size, below_lift3 b2 hb3⟩
  · have HE := Lib.hid (show rredE (texts rs) = rchkE (texts rs) by rw [HRE.out, if_neg h0])
    have HX := Lib.hid (show rredM (texts rs) = ([], []) by rw [HRM.out, if_neg (by rw [HE.out]; exact h0)])
    have h0' : (rchkE (texts rs) != 0) = true := by simpa using h0
    generalize rchkE (texts rs) = q at *
    clear h0
    go_enter Tryz.func19, Tryz.ntmps19
    go_wp2_with fail
    refine HC.out.mono ?_
    rintro e w1 ⟨rfl, hb1⟩
    go_wp2_with fail
    go_ret3
    exact ⟨none, 0, [], none, 0, by rw [HE.out, HX.out]; rfl, ⟨fun h => absurd h (by simp), fun r hr => absurd hr (by simp)⟩, by rw [HX.out]; rfl, by rw [HX.out]; exact OwnS.nil _ _ _, hb1⟩
theorem brrank_any (rs : List VecV) (A : Option Addr) (c : Nat) (w : World) (hM : MatAt w A rs) (hA0 : A = none → c = 0) (hR : RsOK rs) (hred : rredE (texts rs) = 0 → ∃ D k, D ≤ 4096 ∧ k ≤ 1000 ∧ RedOK D k (texts rs)) :
    Calls Tryz.prog 21 #[.slice A rs.length c] w fun e w' => e = .returned (.tuple #[.int .i64 ((rredM (texts rs)).2.length : Int), .int .i64 (rredE (texts rs))]) ∧ Below w.heap.size w w' := by
  have HR := Lib.hid (brreduceT_any rs A c w hM hA0 hR hred)
  generalize rredM (texts rs) = res at *
  generalize rredE (texts rs) = q at *
  clear hM
  go_enter Tryz.func21, Tryz.ntmps21
  go_wp2_with fail
  refine HR.out.mono ?_
  rintro e w1 ⟨O, co, rs', P, cp, rfl, _, _, _, hb1⟩
  go_wp2_with fail
  go_ret2
  exact ⟨rfl, hb1⟩
end Go.Proofs.YtkcaheaefjcdiaaGreatDoor
/- The reference of basis: Same, SameRows; the laws' tests on sizes. -/
namespace Go.Proofs.YtkcaheaefjcdiaaGreatDoor
open Go.RowKit Num
set_option linter.unusedVariables false
attribute [local go_sem] B_size B_get B_toList B_mk B_extract B_append

theorem take_same {α : Type} [DecidableEq α] {xs ys : List α} {k : Nat} (h : k < xs.length) (h2 : k < ys.length) (h3 : xs.take k = ys.take k) (h4 : xs[k] = ys[k]) : xs.take (k + 1) = ys.take (k + 1) := by
  rw [List.take_succ_eq_append_getElem h, List.take_succ_eq_append_getElem h2, h3, h4]
set_option maxRecDepth 100000 in
theorem bsame_any (xs ys : List Str) (X Y : Option Addr) (cx cy : Nat) (w : World) (hX : Cells w X (strs xs)) (hY : Cells w Y (strs ys)) (hl : xs.length ≤ 1000000) (hl2 : ys.length ≤ 1000000) :
    Calls Tryz.prog 36 #[.slice X xs.length cx, .slice Y ys.length cy] w fun e w' => e = .returned (.bool (decide (xs = ys))) ∧ Below w.heap.size w w' := by
  by_cases hne : xs.length = ys.length
  · have hne' : ((xs.length : Int) != (ys.length : Int)) = false := by rw [hne]; simp
    have HNE := Lib.hid hne
    have HX := Lib.hid hX
    have HY := Lib.hid hY
    clear hX hY hne
    go_enter Tryz.func36, Tryz.ntmps36
    go_wp2_with fail
    go_loopw [5] (fun i wr => ∃ k : Nat, k ≤ xs.length ∧ i = .int .i64 k ∧ xs.take k = ys.take k ∧ Below w.heap.size w wr) (fun i _ => xs.length - (intOf i).toNat)
    case atStart => exact ⟨0, Nat.zero_le _, rfl, rfl, Below.refl _ _⟩
    case round =>
      obtain ⟨k, hk, rfl, hall, hbel⟩ := hrel
      have HA := Lib.hid hall
      clear hall
      by_cases hlt : k < xs.length
      · have hlt2 : k < ys.length := by rw [← HNE.out]; exact hlt
        obtain ⟨b, off, rfl, hb, hc⟩ := (HX.out.below hbel) (by rw [strs_length]; omega)
        obtain ⟨b2, off2, rfl, hb2, hc2⟩ := (HY.out.below hbel) (by rw [strs_length]; omega)
        have d0 := hc k _ (strs_get _ _ hlt)
        have d1 := hc2 k _ (strs_get _ _ hlt2)
        have hxg : xs.getD k [] = xs[k] := by rw [List.getD_eq_getElem?_getD, List.getElem?_eq_getElem hlt]; rfl
        have hyg : ys.getD k [] = ys[k] := by rw [List.getD_eq_getElem?_getD, List.getElem?_eq_getElem hlt2]; rfl
        rw [hxg] at d0
        rw [hyg] at d1
        have HT := Lib.hid (fun h => take_same hlt hlt2 HA.out h)
        have HF := Lib.hid (show xs[k] ≠ ys[k] → decide (xs = ys) = false from fun h => by
          rw [decide_eq_false_iff_not]
          intro e
          exact h (by simp only [e]))
        generalize xs[k] = x at *
        generalize ys[k] = y at *
        clear hc hc2 hxg hyg
        by_cases hxy : x = y
        · have hxy' : (x == y) = true := by rw [hxy]; simp
          have HN := Lib.hid (HT.out hxy)
          clear hxy
          go_wp2_with fail
          go_quiet (fail)
          go_wp2_with fail
          have hq := below_drewN hbel nq
          go_roundw
          case rel => exact ⟨k + 1, by omega, by go_num, HN.out, hq⟩
          case measure => simp [intOf]; omega
        · have hxy' : (x == y) = false := by simpa using hxy
          have HN := Lib.hid (HF.out hxy)
          clear hxy
          go_wp2_with fail
          go_quiet (fail)
          go_wp2_with fail
          have hq := below_drewN hbel nq
          go_ret
          exact ⟨ret_bool HN.out.symm, hq⟩
      · have HN := Lib.hid (show decide (xs = ys) = true by
          rw [decide_eq_true_iff]
          have h := HA.out
          rw [show k = xs.length by omega, List.take_length, HNE.out, List.take_length] at h
          exact h)
        go_wp2_with fail
        go_ret
        exact ⟨ret_bool HN.out.symm, hbel⟩
  · have hne' : ((xs.length : Int) != (ys.length : Int)) = true := by rw [bne_iff_ne]; omega
    have HN := Lib.hid (show decide (xs = ys) = false by rw [decide_eq_false_iff_not]; intro e; exact hne (by rw [e]))
    clear hne
    go_enter Tryz.func36, Tryz.ntmps36
    go_wp2_with fail
    go_ret
    exact ⟨ret_bool HN.out.symm, Below.refl _ _⟩
set_option maxHeartbeats 1000000 in
set_option maxRecDepth 100000 in
theorem bsamerows_any (rs ss : List VecV) (A C : Option Addr) (ca cc : Nat) (w : World) (hM : MatAt w A rs) (hN : MatAt w C ss) (hl : rs.length ≤ 1000000) (hl2 : ss.length ≤ 1000000) (hr : ∀ r ∈ rs, r.xs.length ≤ 1000000) (hs : ∀ r ∈ ss, r.xs.length ≤ 1000000) :
    Calls Tryz.prog 40 #[.slice A rs.length ca, .slice C ss.length cc] w fun e w' => e = .returned (.bool (decide (texts rs = texts ss))) ∧ Below w.heap.size w w' := by
  by_cases hne : rs.length = ss.length
  · have hne' : ((rs.length : Int) != (ss.length : Int)) = false := by rw [hne]; simp
    have HNE := Lib.hid hne
    have HX := Lib.hid hM
    have HY := Lib.hid hN
    have HR := Lib.hid hr
    have HS := Lib.hid hs
    clear hM hN hne hr hs
    go_enter Tryz.func40, Tryz.ntmps40
    go_wp2_with fail
    go_loopw [5] (fun i wr => ∃ k : Nat, k ≤ rs.length ∧ i = .int .i64 k ∧ (texts rs).take k = (texts ss).take k ∧ Below w.heap.size w wr) (fun i _ => rs.length - (intOf i).toNat)
    case atStart => exact ⟨0, Nat.zero_le _, rfl, rfl, Below.refl _ _⟩
    case round =>
      obtain ⟨k, hk, rfl, hall, hbel⟩ := hrel
      have HA := Lib.hid hall
      clear hall
      by_cases hlt : k < rs.length
      · have hlt2 : k < ss.length := by rw [← HNE.out]; exact hlt
        obtain ⟨b, off, rfl, hb, hc⟩ := (HX.out.below hbel).1 (by omega)
        obtain ⟨b2, off2, rfl, hb2, hc2⟩ := (HY.out.below hbel).1 (by omega)
        have d0 := hc k hlt
        have d1 := hc2 k hlt2
        have hbd := below_drew hbel
        have HCA := Lib.hid (bsame_any rs[k].xs ss[k].xs rs[k].A ss[k].A rs[k].c ss[k].c wr.drew ((HX.out.below hbd).2 _ (List.getElem_mem hlt)) ((HY.out.below hbd).2 _ (List.getElem_mem hlt2)) (HR.out _ (List.getElem_mem hlt)) (HS.out _ (List.getElem_mem hlt2)))
        have HT := Lib.hid (fun h => take_same (xs := texts rs) (ys := texts ss) (by rw [texts_length]; exact hlt) (by rw [texts_length]; exact hlt2) HA.out h)
        have HF := Lib.hid (show rs[k].xs ≠ ss[k].xs → decide (texts rs = texts ss) = false from fun h => by
          rw [decide_eq_false_iff_not]
          intro e
          have := congrArg (fun l => l.getD k []) e
          simp only [texts_getD hlt, texts_getD hlt2] at this
          exact h this)
        rw [texts_get hlt, texts_get hlt2] at HT
        have hrl := HR.out _ (List.getElem_mem hlt)
        have hsl := HS.out _ (List.getElem_mem hlt2)
        generalize rs[k] = r at *
        generalize ss[k] = s at *
        have HL := Lib.hid (fun (w2 : World) (hb2' : Below wr.drew.heap.size wr.drew w2) => show w2.cell? ⟨b, off + k, none⟩ = some (.slice r.A r.xs.length r.c) ∧ w2.cell? ⟨b2, off2 + k, none⟩ = some (.slice s.A s.xs.length s.c) from
          ⟨(hb2'.cell (p := ⟨b, off + k, none⟩) hb).trans d0, (hb2'.cell (p := ⟨b2, off2 + k, none⟩) hb2).trans d1⟩)
        clear hc hc2
        by_cases hxy : r.xs = s.xs
        · have HN := Lib.hid (HT.out hxy)
          rw [show decide (r.xs = s.xs) = true by rw [decide_eq_true_iff]; exact hxy] at HCA
          clear hxy
          go_wp2_with fail
          go_region_with (go_at_call 36; refine HCA.out.mono ?_; rintro e w2 ⟨rfl, hb3⟩; obtain ⟨l0, l1⟩ := HL.out w2 hb3)
          all_goals
            go_wp2_with fail
            go_roundw
            case rel => exact ⟨k + 1, by omega, by go_num, HN.out, below_lift3 hbd hb3⟩
            case measure => simp [intOf]; omega
        · have HN := Lib.hid (HF.out hxy)
          rw [show decide (r.xs = s.xs) = false by rw [decide_eq_false_iff_not]; exact hxy] at HCA
          clear hxy
          go_wp2_with fail
          go_region_with (go_at_call 36; refine HCA.out.mono ?_; rintro e w2 ⟨rfl, hb3⟩; obtain ⟨l0, l1⟩ := HL.out w2 hb3)
          all_goals
            go_wp2_with fail
            go_ret
            exact ⟨ret_bool HN.out.symm, below_lift3 hbd hb3⟩
      · have HN := Lib.hid (show decide (texts rs = texts ss) = true by
          rw [decide_eq_true_iff]
          have h := HA.out
          rw [show k = (texts rs).length by rw [texts_length]; omega, List.take_length, texts_length, HNE.out, ← texts_length ss, List.take_length] at h
          exact h)
        go_wp2_with fail
        go_ret
        exact ⟨ret_bool HN.out.symm, hbel⟩
  · have hne' : ((rs.length : Int) != (ss.length : Int)) = true := by rw [bne_iff_ne]; omega
    have HN := Lib.hid (show decide (texts rs = texts ss) = false by rw [decide_eq_false_iff_not]; intro e; exact hne (by rw [← texts_length rs, e, texts_length]))
    clear hne
    go_enter Tryz.func40, Tryz.ntmps40
    go_wp2_with fail
    go_ret
    exact ⟨ret_bool HN.out.symm, Below.refl _ _⟩
end Go.Proofs.YtkcaheaefjcdiaaGreatDoor
