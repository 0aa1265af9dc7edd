/- lorryref25: Value, Left, Fits. (Printed by wip/rlin2.py.) -/
import Derived.Test.YtblihfhbaafdoaaGreatDoorLLaw2
namespace Go.Proofs.YtblihfhbaafdoaaGreatDoor
open Go.RowKit Num
set_option linter.unusedVariables false
attribute [local go_sem] B_size B_get B_toList B_mk B_extract B_append
attribute [local go_sem high] run_max2

theorem rlval_any (cost : List Int) (rs : List RowV) (A : Option Addr) (ca : Nat) (R : Option Addr) (cr : Nat) (xs : List Str) (X : Option Addr) (cx : Nat) (w : World) (hp : LinAt w cost rs A ca R cr) (hx : RatsAt w xs X cx) :
    Calls Tryz.prog 16 #[linV A cost.length ca R rs.length cr, .slice X xs.length cx] w fun e w' => e = .returned (.tuple #[.string (B (timesQ cost xs).1), .int .i64 (timesQ cost xs).2]) ∧ Below w.heap.size w w' := by
  have hla := hp.la
  have hlx := hx.lx
  have b0 := new_below w (linO A cost.length ca R rs.length cr)
  have HT := Lib.hid (rqtimes_any cost xs A X ca cx _ (hp.cells.below b0) (hx.cells.below b0) (by omega) (by omega) hp.fit hx.len)
  generalize timesQ cost xs = v at *
  clear hp hx
  go_enter Tryz.func16, Tryz.ntmps16
  simp only [B_mk]
  go_wp2_with fail
  refine HT.out.mono ?_
  rintro e w1 ⟨rfl, hb1⟩
  go_wp2_with fail
  go_ret2
  exact ⟨rfl, b0.trans (hb1.mono b0.size)⟩

set_option maxRecDepth 100000 in
theorem rlleft_any (cost : List Int) (rs : List RowV) (A : Option Addr) (ca : Nat) (R : Option Addr) (cr : Nat) (i : Int) (xs : List Str) (X : Option Addr) (cx : Nat) (w : World) (hi : fits i) (hp : LinAt w cost rs A ca R cr) (hx : RatsAt w xs X cx) :
    Calls Tryz.prog 18 #[linV A cost.length ca R rs.length cr, .int .i64 i, .slice X xs.length cx] w fun e w' => e = .returned (.tuple #[.string (B (leftQ (linOf cost rs) i xs).1), .int .i64 (leftQ (linOf cost rs) i xs).2]) ∧ Below w.heap.size w w' := by
  have hlr := hp.lr
  have hlx := hx.lx
  have b0 := new_below w (linO A cost.length ca R rs.length cr)
  by_cases h1 : i < 0
  · rw [show leftQ (linOf cost rs) i xs = ([], 7) from if_neg (fun h => by omega)]
    clear hp hx
    go_enter Tryz.func18, Tryz.ntmps18
    simp only [B_mk]
    go_wp2_with fail
    go_ret2
    exact ⟨rfl, b0⟩
  by_cases h2 : i < (rs.length : Int)
  · obtain ⟨k, rfl⟩ : ∃ k : Nat, i = (k : Int) := ⟨i.toNat, by omega⟩
    have hk : k < rs.length := by omega
    have HV := Lib.hid (show leftQ (linOf cost rs) (k : Int) xs = timesQ rs[k].L.coef xs by
      unfold leftQ; rw [if_pos ⟨by omega, by rw [lin_rows]; omega⟩, Int.toNat_natCast, lin_rowAt _ _ _ hk])
    rw [HV.out]
    obtain ⟨b, off, rfl, hbl, hc⟩ := hp.rows.at (by omega)
    have hc0 := (b0.cell (p := ⟨b, off + k * 3, none⟩) hbl).trans (hc k hk).1
    have hok := hp.ok rs[k] (List.getElem_mem hk)
    have hcl := (hp.rows.2 rs[k] (List.getElem_mem hk)).below b0
    have hrl : rs[k].L.coef.length ≤ maxLen := Nat.le_trans hok.1 hok.2.1
    have HT := Lib.hid (rqtimes_any rs[k].L.coef xs rs[k].A X rs[k].c cx _ hcl (hx.cells.below b0) hrl (by omega) hok.2.2.1 hx.len)
    generalize timesQ rs[k].L.coef xs = v at *
    generalize rs[k] = r at *
    clear hp hx hc hcl hok HV
    go_enter Tryz.func18, Tryz.ntmps18
    simp only [B_mk]
    go_wp2_with fail
    refine HT.out.mono ?_
    rintro e w1 ⟨rfl, hb1⟩
    go_wp2_with fail
    go_ret2
    exact ⟨rfl, b0.trans (hb1.mono b0.size)⟩
  · rw [show leftQ (linOf cost rs) i xs = ([], 7) from if_neg (fun h => by rw [lin_rows] at h; omega)]
    clear hp hx
    go_enter Tryz.func18, Tryz.ntmps18
    simp only [B_mk]
    go_wp2_with fail
    go_ret2
    exact ⟨rfl, b0⟩

set_option maxHeartbeats 4000000 in
set_option maxRecDepth 100000 in
theorem rlfits_any (cost : List Int) (rs : List RowV) (A : Option Addr) (ca : Nat) (R : Option Addr) (cr : Nat) (xs : List Str) (X : Option Addr) (cx : Nat) (w : World) (hp : LinAt w cost rs A ca R cr) (hx : RatsAt w xs X cx) :
    Calls Tryz.prog 20 #[linV A cost.length ca R rs.length cr, .slice X xs.length cx] w fun e w' => e = .returned (.bool (fitsB (linOf cost rs) xs)) ∧ Below w.heap.size w w' := by
  have hla := hp.la
  have hlr := hp.lr
  have hlx := hx.lx
  unfold maxLen at hla hlr hlx
  have b0 := new_below w (linO A cost.length ca R rs.length cr)
  have HP := Lib.hid hp
  have HX := Lib.hid hx
  clear hp hx
  by_cases heq : xs.length = cost.length
  · have HE := Lib.hid heq
    have hq : ((xs.length : Int) != (cost.length : Int)) = false := by rw [heq]; simp
    clear heq
    have HBW := Lib.hid (fun wr (h : Below (w.alloc (linO A cost.length ca R rs.length cr)).heap.size (w.alloc (linO A cost.length ca R rs.length cr)) wr) => b0.trans (h.mono b0.size))
    go_enter Tryz.func20, Tryz.ntmps20
    go_wp2_with fail
    go_loopw [4, 5] (fun _ i wr => ∃ k : Nat, k ≤ xs.length ∧ i = .int .i64 k ∧ (xs.take k).all posB = true ∧ Below (w.alloc (linO A cost.length ca R rs.length cr)).heap.size (w.alloc (linO A cost.length ca R rs.length cr)) wr) (fun _ i _ => xs.length - (intOf i).toNat)
    case atStart => exact ⟨0, Nat.zero_le _, rfl, rfl, Below.refl _ _⟩
    case round =>
      obtain ⟨k, hk, rfl, hall, hbel0⟩ := hrel
      have HALL := Lib.hid hall
      clear hall
      have hbel := HBW.out wr hbel0
      by_cases hlt : k < xs.length
      · obtain ⟨bA, oA, rfl, hbA, hcA⟩ := HX.out.cells.at (by rw [strs_length]; omega)
        have HC := Lib.hid (fun (w' : World) (h : Below w.heap.size w w') => (show w'.cell? ⟨bA, oA + k, none⟩ = some (.string (B xs[k])) by
          rw [h.cell (p := ⟨bA, oA + k, none⟩) hbA, hcA k (by rw [strs_length]; exact hlt)]; simp [strs]))
        clear hcA
        have hxl := HX.out.len xs[k] (List.getElem_mem hlt)
        have HR := Lib.hid (fun (w : World) => rrq_any xs[k] w (by omega))
        have HS := Lib.hid (fun (w : World) => rqsign_any xs[k] w (by omega))
        have HT := Lib.hid (fun h => all_take (f := posB) hlt HALL.out h)
        have HB := Lib.hid (fun h => all_bad (f := posB) hlt h)
        generalize xs[k] = x at *
        have hld := HC.out wr hbel
        cases hr : rightQ x
        · rw [hr] at HR
          have HV := Lib.hid (show fitsB (linOf cost rs) xs = false by unfold fitsB; rw [HB.out (by unfold posB; rw [hr]; rfl)]; simp)
          go_wp2_with fail
          refine (HR.out wr).mono ?_
          rintro e w1 ⟨rfl, hb1⟩
          go_wp2_with fail
          go_ret
          exact ⟨ret_bool HV.out.symm, hbel.trans (hb1.mono hbel.size)⟩
        · rw [hr] at HR
          by_cases hs : signQ x < 0
          · have HV := Lib.hid (show fitsB (linOf cost rs) xs = false by unfold fitsB; rw [HB.out (by unfold posB; rw [hr]; simp; omega)]; simp)
            generalize signQ x = sg at *
            go_wp2_with fail
            refine (HR.out wr).mono ?_
            rintro e w1 ⟨rfl, hb1⟩
            have a1 := hbel.trans (hb1.mono hbel.size)
            have hld1 := HC.out w1 a1
            go_wp2_with fail
            refine (HS.out w1).mono ?_
            rintro e w2 ⟨rfl, hb2⟩
            go_wp2_with fail
            go_ret
            exact ⟨ret_bool HV.out.symm, a1.trans (hb2.mono a1.size)⟩
          · have HV := Lib.hid (HT.out (by unfold posB; rw [hr]; simp; omega))
            generalize signQ x = sg at *
            go_wp2_with fail
            refine (HR.out wr).mono ?_
            rintro e w1 ⟨rfl, hb1⟩
            have a1 := hbel.trans (hb1.mono hbel.size)
            have hld1 := HC.out w1 a1
            go_wp2_with fail
            refine (HS.out w1).mono ?_
            rintro e w2 ⟨rfl, hb2⟩
            go_wp2_with fail
            go_roundw
            case rel => exact ⟨k + 1, by omega, by go_num, HV.out, (hbel0.trans (hb1.mono hbel0.size)).trans (hb2.mono (Nat.le_trans hbel0.size hb1.size))⟩
            case measure => simp [intOf]; omega
      · have hkx : k = xs.length := by omega
        have HPOS := Lib.hid (show xs.all posB = true by have := HALL.out; rwa [hkx, List.take_length] at this)
        have HV := Lib.hid (show fitsB (linOf cost rs) xs = rs.all (fun r => rowB r.L xs) by unfold fitsB; rw [HPOS.out, fits_rows, show decide (xs.length = (linOf cost rs).cost.length) = true by simp [linOf, HE.out]]; simp)
        clear HALL hkx
        go_wp2_with fail
        go_loopw [4, 6, 7, 8, 9] (fun _ i _ _ _ wr => ∃ j : Nat, j ≤ rs.length ∧ i = .int .i64 j ∧ (rs.take j).all (fun r => rowB r.L xs) = true ∧ Below (w.alloc (linO A cost.length ca R rs.length cr)).heap.size (w.alloc (linO A cost.length ca R rs.length cr)) wr) (fun _ i _ _ _ _ => rs.length - (intOf i).toNat)
        case atStart => exact ⟨0, Nat.zero_le _, rfl, rfl, hbel0⟩
        case round =>
          clear hbel hbel0 hk hlt
          obtain ⟨j, hj, rfl, hall, hbel0⟩ := hrel
          have HALL := Lib.hid hall
          clear hall
          have hbel := HBW.out wr hbel0
          by_cases hlt : j < rs.length
          · obtain ⟨bR, oR, rfl, hbR, hcR⟩ := HP.out.rows.at (by omega)
            have HC := Lib.hid (fun (w' : World) (h : Below w.heap.size w w') => (show w'.cell? ⟨bR, oR + j * 3 + 1, none⟩ = some (.int .i64 rs[j].L.kind) ∧ w'.cell? ⟨bR, oR + j * 3 + 2, none⟩ = some (.int .i64 rs[j].L.right) from
              ⟨(h.cell (p := ⟨bR, oR + j * 3 + 1, none⟩) hbR).trans (hcR j hlt).2.1, (h.cell (p := ⟨bR, oR + j * 3 + 2, none⟩) hbR).trans (hcR j hlt).2.2⟩))
            clear hcR
            have HLV := Lib.hid (show leftQ (linOf cost rs) (j : Int) xs = timesQ rs[j].L.coef xs by
              unfold leftQ; rw [if_pos ⟨by omega, by rw [lin_rows]; omega⟩, Int.toNat_natCast, lin_rowAt _ _ _ hlt])
            have HL := Lib.hid (fun (w : World) (hp : LinAt w cost rs A ca (some ⟨bR, oR, none⟩) cr) (hx : RatsAt w xs X cx) => rlleft_any cost rs A ca (some ⟨bR, oR, none⟩) cr (j : Int) xs X cx w (by constructor <;> omega) hp hx)
            rw [HLV.out] at HL
            have hok := HP.out.ok rs[j] (List.getElem_mem hlt)
            have HT := Lib.hid (fun h => all_take (f := fun r : RowV => rowB r.L xs) hlt HALL.out h)
            have HB := Lib.hid (fun h => all_bad (f := fun r : RowV => rowB r.L xs) hlt h)
            have HRW := Lib.hid (show rowB rs[j].L xs = (decide ((timesQ rs[j].L.coef xs).2 = 0) && holdsB rs[j].L.kind (cmpQ (timesQ rs[j].L.coef xs).1 (decI rs[j].L.right))) from rfl)
            have hvl := times_len rs[j].L.coef xs
            generalize timesQ rs[j].L.coef xs = v at *
            obtain ⟨v1, v2⟩ := v
            have hvl1 : v1.length ≤ 8194 := hvl
            clear hvl
            generalize rs[j] = r at *
            have hfr := hok.2.2.2.2
            have hdl := fits_len hfr
            clear hok
            have HO := Lib.hid (fun (w : World) => rqof_any r.L.right w hfr)
            have HCM := Lib.hid (fun (w : World) => rqcmp_any v1 (decI r.L.right) w (by omega) (by omega))
            generalize cmpQ v1 (decI r.L.right) = c at *
            obtain ⟨d0, d1, d2⟩ := lin_cells hbel0
            by_cases hv : v2 = 0
            · subst hv
              by_cases kk1 : r.L.kind = 1
              · have t1 : (r.L.kind != 1) = false := by rw [kk1]; rfl
                have t3 : (r.L.kind != 3) = true := by rw [kk1]; rfl
                by_cases hc : 0 < c
                · skip
                  have HBB := Lib.hid (show fitsB (linOf cost rs) xs = false by rw [HV.out, HB.out (by rw [HRW.out]; unfold holdsB; rw [if_pos kk1]; simp; omega)])
                  clear kk1
                  go_wp2_with fail
                  refine (HL.out wr (HP.out.below hbel) (HX.out.below hbel)).mono ?_
                  rintro e w1 ⟨rfl, hb1⟩
                  have c1 := hbel0.trans (hb1.mono hbel0.size)
                  have a1 := HBW.out _ c1
                  clear d0 d1 d2
                  obtain ⟨d0, d1, d2⟩ := lin_cells c1
                  have k1c := HC.out _ a1
                  obtain ⟨k1a, k1b⟩ := k1c
                  go_wp2_with fail
                  refine (HO.out _).mono ?_
                  rintro e w2 ⟨rfl, hb2⟩
                  have c2 := c1.trans (hb2.mono c1.size)
                  go_wp2_with fail
                  refine (HCM.out _).mono ?_
                  rintro e w3 ⟨rfl, hb3⟩
                  have c3 := c2.trans (hb3.mono c2.size)
                  have a3 := HBW.out _ c3
                  clear d0 d1 d2 k1a k1b
                  obtain ⟨d0, d1, d2⟩ := lin_cells c3
                  have k3c := HC.out _ a3
                  obtain ⟨k3a, k3b⟩ := k3c
                  go_wp2_with fail
                  go_ret
                  exact ⟨ret_bool HBB.out.symm, a3⟩
                · skip
                  have HBB := Lib.hid (HT.out (by rw [HRW.out]; unfold holdsB; rw [if_pos kk1]; simp; omega))
                  clear kk1
                  go_wp2_with fail
                  refine (HL.out wr (HP.out.below hbel) (HX.out.below hbel)).mono ?_
                  rintro e w1 ⟨rfl, hb1⟩
                  have c1 := hbel0.trans (hb1.mono hbel0.size)
                  have a1 := HBW.out _ c1
                  clear d0 d1 d2
                  obtain ⟨d0, d1, d2⟩ := lin_cells c1
                  have k1c := HC.out _ a1
                  obtain ⟨k1a, k1b⟩ := k1c
                  go_wp2_with fail
                  refine (HO.out _).mono ?_
                  rintro e w2 ⟨rfl, hb2⟩
                  have c2 := c1.trans (hb2.mono c1.size)
                  go_wp2_with fail
                  refine (HCM.out _).mono ?_
                  rintro e w3 ⟨rfl, hb3⟩
                  have c3 := c2.trans (hb3.mono c2.size)
                  have a3 := HBW.out _ c3
                  clear d0 d1 d2 k1a k1b
                  obtain ⟨d0, d1, d2⟩ := lin_cells c3
                  have k3c := HC.out _ a3
                  obtain ⟨k3a, k3b⟩ := k3c
                  go_wp2_with fail
                  go_roundw
                  case rel => exact ⟨j + 1, by omega, by go_num, HBB.out, c3⟩
                  case measure => simp [intOf]; omega
              · have t1 : (r.L.kind != 1) = true := by simpa using kk1
                by_cases kk3 : r.L.kind = 3
                · have t3 : (r.L.kind != 3) = false := by rw [kk3]; rfl
                  by_cases hc : c < 0
                  · skip
                    have HBB := Lib.hid (show fitsB (linOf cost rs) xs = false by rw [HV.out, HB.out (by rw [HRW.out]; unfold holdsB; rw [if_neg kk1, if_pos kk3]; simp; omega)])
                    clear kk1 kk3
                    go_wp2_with fail
                    refine (HL.out wr (HP.out.below hbel) (HX.out.below hbel)).mono ?_
                    rintro e w1 ⟨rfl, hb1⟩
                    have c1 := hbel0.trans (hb1.mono hbel0.size)
                    have a1 := HBW.out _ c1
                    clear d0 d1 d2
                    obtain ⟨d0, d1, d2⟩ := lin_cells c1
                    have k1c := HC.out _ a1
                    obtain ⟨k1a, k1b⟩ := k1c
                    go_wp2_with fail
                    refine (HO.out _).mono ?_
                    rintro e w2 ⟨rfl, hb2⟩
                    have c2 := c1.trans (hb2.mono c1.size)
                    go_wp2_with fail
                    refine (HCM.out _).mono ?_
                    rintro e w3 ⟨rfl, hb3⟩
                    have c3 := c2.trans (hb3.mono c2.size)
                    have a3 := HBW.out _ c3
                    clear d0 d1 d2 k1a k1b
                    obtain ⟨d0, d1, d2⟩ := lin_cells c3
                    have k3c := HC.out _ a3
                    obtain ⟨k3a, k3b⟩ := k3c
                    go_wp2_with fail
                    go_ret
                    exact ⟨ret_bool HBB.out.symm, a3⟩
                  · skip
                    have HBB := Lib.hid (HT.out (by rw [HRW.out]; unfold holdsB; rw [if_neg kk1, if_pos kk3]; simp; omega))
                    clear kk1 kk3
                    go_wp2_with fail
                    refine (HL.out wr (HP.out.below hbel) (HX.out.below hbel)).mono ?_
                    rintro e w1 ⟨rfl, hb1⟩
                    have c1 := hbel0.trans (hb1.mono hbel0.size)
                    have a1 := HBW.out _ c1
                    clear d0 d1 d2
                    obtain ⟨d0, d1, d2⟩ := lin_cells c1
                    have k1c := HC.out _ a1
                    obtain ⟨k1a, k1b⟩ := k1c
                    go_wp2_with fail
                    refine (HO.out _).mono ?_
                    rintro e w2 ⟨rfl, hb2⟩
                    have c2 := c1.trans (hb2.mono c1.size)
                    go_wp2_with fail
                    refine (HCM.out _).mono ?_
                    rintro e w3 ⟨rfl, hb3⟩
                    have c3 := c2.trans (hb3.mono c2.size)
                    have a3 := HBW.out _ c3
                    clear d0 d1 d2 k1a k1b
                    obtain ⟨d0, d1, d2⟩ := lin_cells c3
                    have k3c := HC.out _ a3
                    obtain ⟨k3a, k3b⟩ := k3c
                    go_wp2_with fail
                    go_roundw
                    case rel => exact ⟨j + 1, by omega, by go_num, HBB.out, c3⟩
                    case measure => simp [intOf]; omega
                · have t3 : (r.L.kind != 3) = true := by simpa using kk3
                  by_cases hc : 0 < c
                  · skip
                    have HBB := Lib.hid (show fitsB (linOf cost rs) xs = false by rw [HV.out, HB.out (by rw [HRW.out]; unfold holdsB; rw [if_neg kk1, if_neg kk3]; simp; omega)])
                    clear kk1 kk3
                    go_wp2_with fail
                    refine (HL.out wr (HP.out.below hbel) (HX.out.below hbel)).mono ?_
                    rintro e w1 ⟨rfl, hb1⟩
                    have c1 := hbel0.trans (hb1.mono hbel0.size)
                    have a1 := HBW.out _ c1
                    clear d0 d1 d2
                    obtain ⟨d0, d1, d2⟩ := lin_cells c1
                    have k1c := HC.out _ a1
                    obtain ⟨k1a, k1b⟩ := k1c
                    go_wp2_with fail
                    refine (HO.out _).mono ?_
                    rintro e w2 ⟨rfl, hb2⟩
                    have c2 := c1.trans (hb2.mono c1.size)
                    go_wp2_with fail
                    refine (HCM.out _).mono ?_
                    rintro e w3 ⟨rfl, hb3⟩
                    have c3 := c2.trans (hb3.mono c2.size)
                    have a3 := HBW.out _ c3
                    clear d0 d1 d2 k1a k1b
                    obtain ⟨d0, d1, d2⟩ := lin_cells c3
                    have k3c := HC.out _ a3
                    obtain ⟨k3a, k3b⟩ := k3c
                    go_wp2_with fail
                    go_ret
                    exact ⟨ret_bool HBB.out.symm, a3⟩
                  · by_cases hc2 : c < 0
                    · skip
                      have HBB := Lib.hid (show fitsB (linOf cost rs) xs = false by rw [HV.out, HB.out (by rw [HRW.out]; unfold holdsB; rw [if_neg kk1, if_neg kk3]; simp; omega)])
                      clear kk1 kk3
                      go_wp2_with fail
                      refine (HL.out wr (HP.out.below hbel) (HX.out.below hbel)).mono ?_
                      rintro e w1 ⟨rfl, hb1⟩
                      have c1 := hbel0.trans (hb1.mono hbel0.size)
                      have a1 := HBW.out _ c1
                      clear d0 d1 d2
                      obtain ⟨d0, d1, d2⟩ := lin_cells c1
                      have k1c := HC.out _ a1
                      obtain ⟨k1a, k1b⟩ := k1c
                      go_wp2_with fail
                      refine (HO.out _).mono ?_
                      rintro e w2 ⟨rfl, hb2⟩
                      have c2 := c1.trans (hb2.mono c1.size)
                      go_wp2_with fail
                      refine (HCM.out _).mono ?_
                      rintro e w3 ⟨rfl, hb3⟩
                      have c3 := c2.trans (hb3.mono c2.size)
                      have a3 := HBW.out _ c3
                      clear d0 d1 d2 k1a k1b
                      obtain ⟨d0, d1, d2⟩ := lin_cells c3
                      have k3c := HC.out _ a3
                      obtain ⟨k3a, k3b⟩ := k3c
                      go_wp2_with fail
                      go_ret
                      exact ⟨ret_bool HBB.out.symm, a3⟩
                    · skip
                      have HBB := Lib.hid (HT.out (by rw [HRW.out]; unfold holdsB; rw [if_neg kk1, if_neg kk3]; simp; omega))
                      clear kk1 kk3
                      go_wp2_with fail
                      refine (HL.out wr (HP.out.below hbel) (HX.out.below hbel)).mono ?_
                      rintro e w1 ⟨rfl, hb1⟩
                      have c1 := hbel0.trans (hb1.mono hbel0.size)
                      have a1 := HBW.out _ c1
                      clear d0 d1 d2
                      obtain ⟨d0, d1, d2⟩ := lin_cells c1
                      have k1c := HC.out _ a1
                      obtain ⟨k1a, k1b⟩ := k1c
                      go_wp2_with fail
                      refine (HO.out _).mono ?_
                      rintro e w2 ⟨rfl, hb2⟩
                      have c2 := c1.trans (hb2.mono c1.size)
                      go_wp2_with fail
                      refine (HCM.out _).mono ?_
                      rintro e w3 ⟨rfl, hb3⟩
                      have c3 := c2.trans (hb3.mono c2.size)
                      have a3 := HBW.out _ c3
                      clear d0 d1 d2 k1a k1b
                      obtain ⟨d0, d1, d2⟩ := lin_cells c3
                      have k3c := HC.out _ a3
                      obtain ⟨k3a, k3b⟩ := k3c
                      go_wp2_with fail
                      go_roundw
                      case rel => exact ⟨j + 1, by omega, by go_num, HBB.out, c3⟩
                      case measure => simp [intOf]; omega
            · have hv1 : (v2 != 0) = true := by simpa using hv
              have HBB := Lib.hid (show fitsB (linOf cost rs) xs = false by rw [HV.out, HB.out (by rw [HRW.out]; simp [hv])])
              clear hv
              go_wp2_with fail
              refine (HL.out wr (HP.out.below hbel) (HX.out.below hbel)).mono ?_
              rintro e w1 ⟨rfl, hb1⟩
              have c1 := hbel0.trans (hb1.mono hbel0.size)
              have a1 := HBW.out _ c1
              clear d0 d1 d2
              obtain ⟨d0, d1, d2⟩ := lin_cells c1
              have k1c := HC.out _ a1
              obtain ⟨k1a, k1b⟩ := k1c
              go_wp2_with fail
              refine (HO.out _).mono ?_
              rintro e w2 ⟨rfl, hb2⟩
              have c2 := c1.trans (hb2.mono c1.size)
              go_wp2_with fail
              refine (HCM.out _).mono ?_
              rintro e w3 ⟨rfl, hb3⟩
              have c3 := c2.trans (hb3.mono c2.size)
              have a3 := HBW.out _ c3
              clear d0 d1 d2 k1a k1b
              obtain ⟨d0, d1, d2⟩ := lin_cells c3
              have k3c := HC.out _ a3
              obtain ⟨k3a, k3b⟩ := k3c
              go_wp2_with fail
              go_ret
              exact ⟨ret_bool HBB.out.symm, a3⟩
          · have hjx : j = rs.length := by omega
            have HA := Lib.hid (show fitsB (linOf cost rs) xs = true by rw [HV.out]; have := HALL.out; rwa [hjx, List.take_length] at this)
            clear hjx
            obtain ⟨d0, d1, d2⟩ := lin_cells hbel0
            go_wp2_with fail
            go_ret
            exact ⟨ret_bool HA.out.symm, hbel⟩
  · have hne : ((xs.length : Int) != (cost.length : Int)) = true := by rw [bne_iff_ne]; omega
    have HV := Lib.hid (show fitsB (linOf cost rs) xs = false by unfold fitsB; rw [show decide (xs.length = (linOf cost rs).cost.length) = false by simp [linOf, heq]]; rfl)
    clear heq
    go_enter Tryz.func20, Tryz.ntmps20
    go_wp2_with fail
    go_ret
    exact ⟨ret_bool HV.out.symm, b0⟩
end Go.Proofs.YtblihfhbaafdoaaGreatDoor
