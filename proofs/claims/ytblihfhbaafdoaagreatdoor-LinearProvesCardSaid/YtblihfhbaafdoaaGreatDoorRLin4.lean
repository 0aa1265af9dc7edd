/- lorryref25: below, Proves, Refutes. (Printed by wip/rlin4.py.) -/
import Derived.Test.YtblihfhbaafdoaaGreatDoorRLin3
namespace Go.Proofs.YtblihfhbaafdoaaGreatDoor
open Go.RowKit Num
set_option linter.unusedVariables false
attribute [local go_sem] B_size B_get B_toList B_mk B_extract B_append
attribute [local go_sem high] run_max2

theorem fold_err (ns : List Int) : ∀ (xs : List Str) (s : Str), (foldT s ns xs).2 ≠ 0 → (foldT s ns xs).1 = [] := by
  induction ns with
  | nil => intro xs s h; unfold foldT at h; exact absurd rfl h
  | cons n ns ih =>
    intro xs s h
    cases xs with
    | nil => unfold foldT at h; exact absurd rfl h
    | cons x xs =>
      unfold foldT at h ⊢
      split
      · rename_i h1
        rw [if_pos h1] at h
        split
        · rename_i h2
          rw [if_pos h2] at h
          exact ih xs _ h
        · rfl
      · rfl
theorem times_err {ns : List Int} {xs : List Str} (h : (timesQ ns xs).2 ≠ 0) : (timesQ ns xs).1 = [] := by
  unfold timesQ at h ⊢
  split
  · rename_i h1
    rw [if_pos h1] at h
    split
    · rename_i h2
      rw [if_pos h2] at h
      exact fold_err _ _ _ h
    · rfl
  · rfl

set_option maxHeartbeats 4000000 in
set_option maxRecDepth 100000 in
theorem rlbelow1_any (cost : List Int) (rs : List RowV) (A : Option Addr) (ca : Nat) (R : Option Addr) (cr : Nat) (xs : List Str) (X : Option Addr) (cx : Nat) (w : World) (hm : rs.length ≤ 1000000) (hwf : ∀ r ∈ rs, r.L.coef.length = cost.length) (hp : LinAt w cost rs A ca R cr) (hx : RatsAt w xs X cx) :
    Calls Tryz.prog 43 #[linV A cost.length ca R rs.length cr, .slice X xs.length cx, .bool true] w fun e w' => e = .returned (.bool (belowB (linOf cost rs) xs cost)) ∧ Below w.heap.size w w' := by
  have hla := hp.la
  have hlr := hp.lr
  have hlx := hx.lx
  unfold maxLen at hla hlr hlx
  have b0 := new_below w (linO A cost.length ca R rs.length cr)
  have HP := Lib.hid hp
  have HX := Lib.hid hx
  have HWF := Lib.hid hwf
  clear hp hx hwf
  have HBW := Lib.hid (fun wr (h : Below (w.alloc (linO A cost.length ca R rs.length cr)).heap.size (w.alloc (linO A cost.length ca R rs.length cr)) wr) => b0.trans (h.mono b0.size))
  have HV := Lib.hid (show belowB (linOf cost rs) xs cost = (List.range cost.length).all (colB (linOf cost rs) xs cost) from rfl)
  have HO0 := Lib.hid (fun (w : World) => rqof_any 0 w fits_zero)
  go_enter Tryz.func43, Tryz.ntmps43
  go_wp2_with fail
  go_loopw [6, 7, 8, 9, 10] (fun _ i _ _ _ wr => ∃ k : Nat, k ≤ cost.length ∧ i = .int .i64 k ∧ (List.range k).all (colB (linOf cost rs) xs cost) = true ∧ Below (w.alloc (linO A cost.length ca R rs.length cr)).heap.size (w.alloc (linO A cost.length ca R rs.length cr)) wr) (fun _ i _ _ _ _ => cost.length - (intOf i).toNat)
  case atStart => exact ⟨0, Nat.zero_le _, rfl, rfl, Below.refl _ _⟩
  case round =>
    obtain ⟨i, hk, rfl, hall, hbel0⟩ := hrel
    have HALL := Lib.hid hall
    clear hall
    have hbel := HBW.out wr hbel0
    obtain ⟨d0, d1, d2⟩ := lin_cells hbel0
    by_cases hlt : i < cost.length
    · have HT := Lib.hid (fun h => range_all (f := colB (linOf cost rs) xs cost) HALL.out h)
      have HB := Lib.hid (fun h => range_bad (f := colB (linOf cost rs) xs cost) hlt h)
      have HCF := Lib.hid (col_fits cost i HP.out.ok)
      have HCO := Lib.hid (fun (w : World) (hp : LinAt w cost rs A ca R cr) => rcolumn_any cost rs A ca R cr i w hm HWF.out hlt hp)
      have HCL := Lib.hid (col_len cost rs i)
      have HRW := Lib.hid (show colB (linOf cost rs) xs cost i = (decide ((timesQ (col (linOf cost rs) i) xs).2 = 0) && decide (cmpQ (timesQ (col (linOf cost rs) i) xs).1 (decI (cost[i])) ≤ 0)) from by unfold colB; rw [show cost.getD i 0 = cost[i] by rw [List.getD_eq_getElem?_getD, List.getElem?_eq_getElem hlt]; rfl])
      generalize col (linOf cost rs) i = ns at *
      have HTM := Lib.hid (fun (Z : Option Addr) (cz : Nat) (w : World) (hZ : Cells w Z (ints ns)) (hcz : ns.length ≤ cz ∧ cz ≤ maxLen) (hx : RatsAt w xs X cx) => rqtimes_any ns xs Z X cz cx w hZ hx.cells (by have := HCL.out; unfold maxLen; omega) (by unfold maxLen; omega) HCF.out hx.len)
      have hvl := times_len ns xs
      have hfl : fits (cost[i]) := HP.out.fit _ (List.getElem_mem hlt)
      have hdl := fits_len hfl
      generalize timesQ ns xs = v at *
      obtain ⟨v1, v2⟩ := v
      have hvl1 : v1.length ≤ 8194 := hvl
      clear hvl
      have HO := Lib.hid (fun (w : World) => rqof_any (cost[i]) w hfl)
      have HCM := Lib.hid (fun (w : World) => rqcmp_any v1 (decI (cost[i])) w (by omega) (by omega))
      obtain ⟨bC, oC, rfl, hbC, hcC⟩ := HP.out.cells.at (by rw [ints_length]; omega)
      have HCC := Lib.hid (fun (w' : World) (h : Below w.heap.size w w') => (show w'.cell? ⟨bC, oC + i, none⟩ = some (.int .i64 cost[i]) by
        rw [h.cell (p := ⟨bC, oC + i, none⟩) hbC, hcC i (by rw [ints_length]; exact hlt)]; simp [ints]))
      generalize cost[i] = lv at *
      by_cases hv : v2 = 0
      · subst hv
        by_cases hg : 0 < cmpQ v1 (decI (lv))
        · have HBB := Lib.hid (show belowB (linOf cost rs) xs cost = false by rw [HV.out, HB.out (by rw [HRW.out]; simp; omega)])
          generalize cmpQ v1 (decI (lv)) = cq at *
          go_wp2_with fail
          refine (HO0.out _).mono ?_
          rintro e w1 ⟨rfl, hb1⟩
          have c1 := hbel0.trans (hb1.mono hbel0.size)
          clear d0 d1 d2
          obtain ⟨d0, d1, d2⟩ := lin_cells c1
          have hcc1 := HCC.out _ (HBW.out _ c1)
          go_wp2_with fail
          refine (HO.out _).mono ?_
          rintro e w2 ⟨rfl, hb2⟩
          have c2 := c1.trans (hb2.mono c1.size)
          clear d0 d1 d2 hcc1
          obtain ⟨d0, d1, d2⟩ := lin_cells c2
          go_wp2_with fail
          refine (HCO.out _ (HP.out.below (HBW.out _ c2))).mono ?_
          rintro e w3 ⟨⟨Z, cz, rfl, hz⟩, hb3⟩
          have hzc := hz.cap
          have hz2 := cells_ints' rfl hz
          have c3 := c2.trans (hb3.mono c2.size)
          clear hz d0 d1 d2
          go_wp2_with fail
          refine (HTM.out Z cz w3 hz2 hzc (HX.out.below (HBW.out _ c3))).mono ?_
          rintro e w4 ⟨rfl, hb4⟩
          have c4 := c3.trans (hb4.mono c3.size)
          go_wp2_with fail
          refine (HCM.out _).mono ?_
          rintro e w5 ⟨rfl, hb5⟩
          go_wp2_with fail
          go_ret
          exact ⟨ret_bool HBB.out.symm, HBW.out _ (c4.trans (hb5.mono c4.size))⟩
        · have HBB := Lib.hid (HT.out (by rw [HRW.out]; simp; omega))
          generalize cmpQ v1 (decI (lv)) = cq at *
          go_wp2_with fail
          refine (HO0.out _).mono ?_
          rintro e w1 ⟨rfl, hb1⟩
          have c1 := hbel0.trans (hb1.mono hbel0.size)
          clear d0 d1 d2
          obtain ⟨d0, d1, d2⟩ := lin_cells c1
          have hcc1 := HCC.out _ (HBW.out _ c1)
          go_wp2_with fail
          refine (HO.out _).mono ?_
          rintro e w2 ⟨rfl, hb2⟩
          have c2 := c1.trans (hb2.mono c1.size)
          clear d0 d1 d2 hcc1
          obtain ⟨d0, d1, d2⟩ := lin_cells c2
          go_wp2_with fail
          refine (HCO.out _ (HP.out.below (HBW.out _ c2))).mono ?_
          rintro e w3 ⟨⟨Z, cz, rfl, hz⟩, hb3⟩
          have hzc := hz.cap
          have hz2 := cells_ints' rfl hz
          have c3 := c2.trans (hb3.mono c2.size)
          clear hz d0 d1 d2
          go_wp2_with fail
          refine (HTM.out Z cz w3 hz2 hzc (HX.out.below (HBW.out _ c3))).mono ?_
          rintro e w4 ⟨rfl, hb4⟩
          have c4 := c3.trans (hb4.mono c3.size)
          go_wp2_with fail
          refine (HCM.out _).mono ?_
          rintro e w5 ⟨rfl, hb5⟩
          go_wp2_with fail
          go_roundw
          case rel => exact ⟨i + 1, by omega, by go_num, HBB.out, c4.trans (hb5.mono c4.size)⟩
          case measure => simp [intOf]; omega
      · have hv1 : (v2 != 0) = true := by simpa using hv
        have HBB := Lib.hid (show belowB (linOf cost rs) xs cost = false by rw [HV.out, HB.out (by rw [HRW.out]; simp [hv])])
        clear hv
        go_wp2_with fail
        refine (HO0.out _).mono ?_
        rintro e w1 ⟨rfl, hb1⟩
        have c1 := hbel0.trans (hb1.mono hbel0.size)
        clear d0 d1 d2
        obtain ⟨d0, d1, d2⟩ := lin_cells c1
        have hcc1 := HCC.out _ (HBW.out _ c1)
        go_wp2_with fail
        refine (HO.out _).mono ?_
        rintro e w2 ⟨rfl, hb2⟩
        have c2 := c1.trans (hb2.mono c1.size)
        clear d0 d1 d2 hcc1
        obtain ⟨d0, d1, d2⟩ := lin_cells c2
        go_wp2_with fail
        refine (HCO.out _ (HP.out.below (HBW.out _ c2))).mono ?_
        rintro e w3 ⟨⟨Z, cz, rfl, hz⟩, hb3⟩
        have hzc := hz.cap
        have hz2 := cells_ints' rfl hz
        have c3 := c2.trans (hb3.mono c2.size)
        clear hz d0 d1 d2
        go_wp2_with fail
        refine (HTM.out Z cz w3 hz2 hzc (HX.out.below (HBW.out _ c3))).mono ?_
        rintro e w4 ⟨rfl, hb4⟩
        have c4 := c3.trans (hb4.mono c3.size)
        go_wp2_with fail
        go_ret
        exact ⟨ret_bool HBB.out.symm, HBW.out _ c4⟩
    · have hkx : i = cost.length := by omega
      have HA := Lib.hid (show belowB (linOf cost rs) xs cost = true by rw [HV.out, ← hkx]; exact HALL.out)
      clear hkx
      go_wp2_with fail
      go_ret
      exact ⟨ret_bool HA.out.symm, hbel⟩
set_option maxHeartbeats 4000000 in
set_option maxRecDepth 100000 in
theorem rlbelow2_any (cost : List Int) (rs : List RowV) (A : Option Addr) (ca : Nat) (R : Option Addr) (cr : Nat) (xs : List Str) (X : Option Addr) (cx : Nat) (w : World) (hm : rs.length ≤ 1000000) (hwf : ∀ r ∈ rs, r.L.coef.length = cost.length) (hp : LinAt w cost rs A ca R cr) (hx : RatsAt w xs X cx) :
    Calls Tryz.prog 43 #[linV A cost.length ca R rs.length cr, .slice X xs.length cx, .bool false] w fun e w' => e = .returned (.bool (belowB (linOf cost rs) xs [])) ∧ Below w.heap.size w w' := by
  have hla := hp.la
  have hlr := hp.lr
  have hlx := hx.lx
  unfold maxLen at hla hlr hlx
  have b0 := new_below w (linO A cost.length ca R rs.length cr)
  have HP := Lib.hid hp
  have HX := Lib.hid hx
  have HWF := Lib.hid hwf
  clear hp hx hwf
  have HBW := Lib.hid (fun wr (h : Below (w.alloc (linO A cost.length ca R rs.length cr)).heap.size (w.alloc (linO A cost.length ca R rs.length cr)) wr) => b0.trans (h.mono b0.size))
  have HV := Lib.hid (show belowB (linOf cost rs) xs [] = (List.range cost.length).all (colB (linOf cost rs) xs []) from rfl)
  have HO0 := Lib.hid (fun (w : World) => rqof_any 0 w fits_zero)
  go_enter Tryz.func43, Tryz.ntmps43
  go_wp2_with fail
  go_loopw [6, 7, 8, 9, 10] (fun _ i _ _ _ wr => ∃ k : Nat, k ≤ cost.length ∧ i = .int .i64 k ∧ (List.range k).all (colB (linOf cost rs) xs []) = true ∧ Below (w.alloc (linO A cost.length ca R rs.length cr)).heap.size (w.alloc (linO A cost.length ca R rs.length cr)) wr) (fun _ i _ _ _ _ => cost.length - (intOf i).toNat)
  case atStart => exact ⟨0, Nat.zero_le _, rfl, rfl, Below.refl _ _⟩
  case round =>
    obtain ⟨i, hk, rfl, hall, hbel0⟩ := hrel
    have HALL := Lib.hid hall
    clear hall
    have hbel := HBW.out wr hbel0
    obtain ⟨d0, d1, d2⟩ := lin_cells hbel0
    by_cases hlt : i < cost.length
    · have HT := Lib.hid (fun h => range_all (f := colB (linOf cost rs) xs []) HALL.out h)
      have HB := Lib.hid (fun h => range_bad (f := colB (linOf cost rs) xs []) hlt h)
      have HCF := Lib.hid (col_fits cost i HP.out.ok)
      have HCO := Lib.hid (fun (w : World) (hp : LinAt w cost rs A ca R cr) => rcolumn_any cost rs A ca R cr i w hm HWF.out hlt hp)
      have HCL := Lib.hid (col_len cost rs i)
      have HRW := Lib.hid (show colB (linOf cost rs) xs [] i = (decide ((timesQ (col (linOf cost rs) i) xs).2 = 0) && decide (cmpQ (timesQ (col (linOf cost rs) i) xs).1 (decI (0)) ≤ 0)) from rfl)
      generalize col (linOf cost rs) i = ns at *
      have HTM := Lib.hid (fun (Z : Option Addr) (cz : Nat) (w : World) (hZ : Cells w Z (ints ns)) (hcz : ns.length ≤ cz ∧ cz ≤ maxLen) (hx : RatsAt w xs X cx) => rqtimes_any ns xs Z X cz cx w hZ hx.cells (by have := HCL.out; unfold maxLen; omega) (by unfold maxLen; omega) HCF.out hx.len)
      have hvl := times_len ns xs
      have hfl : fits (0) := fits_zero
      have hdl := fits_len hfl
      generalize timesQ ns xs = v at *
      obtain ⟨v1, v2⟩ := v
      have hvl1 : v1.length ≤ 8194 := hvl
      clear hvl
      have HO := Lib.hid (fun (w : World) => rqof_any (0) w hfl)
      have HCM := Lib.hid (fun (w : World) => rqcmp_any v1 (decI (0)) w (by omega) (by omega))
      skip
      by_cases hv : v2 = 0
      · subst hv
        by_cases hg : 0 < cmpQ v1 (decI (0))
        · have HBB := Lib.hid (show belowB (linOf cost rs) xs [] = false by rw [HV.out, HB.out (by rw [HRW.out]; simp; omega)])
          generalize cmpQ v1 (decI (0)) = cq at *
          go_wp2_with fail
          refine (HO0.out _).mono ?_
          rintro e w1 ⟨rfl, hb1⟩
          have c1 := hbel0.trans (hb1.mono hbel0.size)
          clear d0 d1 d2
          obtain ⟨d0, d1, d2⟩ := lin_cells c1
          have c2 := c1
          go_wp2_with fail
          refine (HCO.out _ (HP.out.below (HBW.out _ c2))).mono ?_
          rintro e w3 ⟨⟨Z, cz, rfl, hz⟩, hb3⟩
          have hzc := hz.cap
          have hz2 := cells_ints' rfl hz
          have c3 := c2.trans (hb3.mono c2.size)
          clear hz d0 d1 d2
          go_wp2_with fail
          refine (HTM.out Z cz w3 hz2 hzc (HX.out.below (HBW.out _ c3))).mono ?_
          rintro e w4 ⟨rfl, hb4⟩
          have c4 := c3.trans (hb4.mono c3.size)
          go_wp2_with fail
          refine (HCM.out _).mono ?_
          rintro e w5 ⟨rfl, hb5⟩
          go_wp2_with fail
          go_ret
          exact ⟨ret_bool HBB.out.symm, HBW.out _ (c4.trans (hb5.mono c4.size))⟩
        · have HBB := Lib.hid (HT.out (by rw [HRW.out]; simp; omega))
          generalize cmpQ v1 (decI (0)) = cq at *
          go_wp2_with fail
          refine (HO0.out _).mono ?_
          rintro e w1 ⟨rfl, hb1⟩
          have c1 := hbel0.trans (hb1.mono hbel0.size)
          clear d0 d1 d2
          obtain ⟨d0, d1, d2⟩ := lin_cells c1
          have c2 := c1
          go_wp2_with fail
          refine (HCO.out _ (HP.out.below (HBW.out _ c2))).mono ?_
          rintro e w3 ⟨⟨Z, cz, rfl, hz⟩, hb3⟩
          have hzc := hz.cap
          have hz2 := cells_ints' rfl hz
          have c3 := c2.trans (hb3.mono c2.size)
          clear hz d0 d1 d2
          go_wp2_with fail
          refine (HTM.out Z cz w3 hz2 hzc (HX.out.below (HBW.out _ c3))).mono ?_
          rintro e w4 ⟨rfl, hb4⟩
          have c4 := c3.trans (hb4.mono c3.size)
          go_wp2_with fail
          refine (HCM.out _).mono ?_
          rintro e w5 ⟨rfl, hb5⟩
          go_wp2_with fail
          go_roundw
          case rel => exact ⟨i + 1, by omega, by go_num, HBB.out, c4.trans (hb5.mono c4.size)⟩
          case measure => simp [intOf]; omega
      · have hv1 : (v2 != 0) = true := by simpa using hv
        have HBB := Lib.hid (show belowB (linOf cost rs) xs [] = false by rw [HV.out, HB.out (by rw [HRW.out]; simp [hv])])
        clear hv
        go_wp2_with fail
        refine (HO0.out _).mono ?_
        rintro e w1 ⟨rfl, hb1⟩
        have c1 := hbel0.trans (hb1.mono hbel0.size)
        clear d0 d1 d2
        obtain ⟨d0, d1, d2⟩ := lin_cells c1
        have c2 := c1
        go_wp2_with fail
        refine (HCO.out _ (HP.out.below (HBW.out _ c2))).mono ?_
        rintro e w3 ⟨⟨Z, cz, rfl, hz⟩, hb3⟩
        have hzc := hz.cap
        have hz2 := cells_ints' rfl hz
        have c3 := c2.trans (hb3.mono c2.size)
        clear hz d0 d1 d2
        go_wp2_with fail
        refine (HTM.out Z cz w3 hz2 hzc (HX.out.below (HBW.out _ c3))).mono ?_
        rintro e w4 ⟨rfl, hb4⟩
        have c4 := c3.trans (hb4.mono c3.size)
        go_wp2_with fail
        go_ret
        exact ⟨ret_bool HBB.out.symm, HBW.out _ c4⟩
    · have hkx : i = cost.length := by omega
      have HA := Lib.hid (show belowB (linOf cost rs) xs [] = true by rw [HV.out, ← hkx]; exact HALL.out)
      clear hkx
      go_wp2_with fail
      go_ret
      exact ⟨ret_bool HA.out.symm, hbel⟩
end Go.Proofs.YtblihfhbaafdoaaGreatDoor
