/- lorryref25: Proves, Refutes; the walk of the law LinearProves. (Printed by wip/rlin5.py.) -/
import Derived.Test.YtblihfhbaafdoaaGreatDoorRLin4
import Derived.Deep.RegionHeld3
namespace Go.Proofs.YtblihfhbaafdoaaGreatDoor
open Go.RowKit Num
set_option linter.unusedVariables false
attribute [local go_sem] B_size B_get B_toList B_mk B_extract B_append
attribute [local go_sem high] run_max2

set_option maxHeartbeats 2000000 in
set_option maxRecDepth 100000 in
theorem rlproves_any (cost : List Int) (rs : List RowV) (A : Option Addr) (ca : Nat) (R : Option Addr) (cr : Nat) (xs : List Str) (X : Option Addr) (cx : Nat) (w : World) (hm : rs.length ≤ 1000000) (hwf : ∀ r ∈ rs, r.L.coef.length = cost.length) (hp : LinAt w cost rs A ca R cr) (hx : RatsAt w xs X cx) :
    Calls Tryz.prog 22 #[linV A cost.length ca R rs.length cr, .slice X xs.length cx] w fun e w' => e = .returned (.tuple #[.string (B (provesS (linOf cost rs) xs)), .bool (provesB (linOf cost rs) xs)]) ∧ Below w.heap.size w w' := by
  have b0 := new_below w (linO A cost.length ca R rs.length cr)
  have HP := Lib.hid hp
  have HX := Lib.hid hx
  have HS := Lib.hid (fun (w : World) (hp : LinAt w cost rs A ca R cr) (hx : RatsAt w xs X cx) => rlsigned_any cost rs A ca R cr xs X cx w hp hx)
  have HL := Lib.hid (fun (w : World) (hp : LinAt w cost rs A ca R cr) (hx : RatsAt w xs X cx) => rlbelow1_any cost rs A ca R cr xs X cx w hm hwf hp hx)
  have HG := Lib.hid (fun (w : World) (hp : LinAt w cost rs A ca R cr) => rrights_any cost rs A ca R cr w hm hp)
  have HFR := Lib.hid (rights_fits cost hp.ok)
  have HRL := Lib.hid (rights_len cost rs)
  have hlx := hx.lx
  have HBW := Lib.hid (fun wr (h : Below (w.alloc (linO A cost.length ca R rs.length cr)).heap.size (w.alloc (linO A cost.length ca R rs.length cr)) wr) => b0.trans (h.mono b0.size))
  have HVB := Lib.hid (show provesB (linOf cost rs) xs = (signsB (linOf cost rs) xs && belowB (linOf cost rs) xs cost && decide ((timesQ (rightsL (linOf cost rs)) xs).2 = 0)) from rfl)
  have HVS := Lib.hid (show provesS (linOf cost rs) xs = if provesB (linOf cost rs) xs = true then (timesQ (rightsL (linOf cost rs)) xs).1 else [] from rfl)
  clear hp hx hwf
  cases h1 : signsB (linOf cost rs) xs
  · rw [h1] at HS
    have HR := Lib.hid (show provesB (linOf cost rs) xs = false by rw [HVB.out, h1]; rfl)
    have HR2 := Lib.hid (show provesS (linOf cost rs) xs = [] by rw [HVS.out, HR.out]; rfl)
    clear h1
    go_enter Tryz.func22, Tryz.ntmps22
    simp only [B_mk]
    go_wp2_with fail
    refine (HS.out _ (HP.out.below b0) (HX.out.below b0)).mono ?_
    rintro e w1 ⟨rfl, hb1⟩
    have a1 := HBW.out _ hb1
    obtain ⟨d0, d1, d2⟩ := lin_cells hb1
    go_wp2_with fail
    go_ret2
    exact ⟨ret_sb HR2.out.symm HR.out.symm, HBW.out _ hb1⟩
  rw [h1] at HS
  cases h2 : belowB (linOf cost rs) xs cost
  · rw [h2] at HL
    have HR := Lib.hid (show provesB (linOf cost rs) xs = false by rw [HVB.out, h1, h2]; rfl)
    have HR2 := Lib.hid (show provesS (linOf cost rs) xs = [] by rw [HVS.out, HR.out]; rfl)
    clear h1 h2
    go_enter Tryz.func22, Tryz.ntmps22
    simp only [B_mk]
    go_wp2_with fail
    refine (HS.out _ (HP.out.below b0) (HX.out.below b0)).mono ?_
    rintro e w1 ⟨rfl, hb1⟩
    have a1 := HBW.out _ hb1
    obtain ⟨d0, d1, d2⟩ := lin_cells hb1
    go_wp2_with fail
    refine (HL.out w1 (HP.out.below a1) (HX.out.below a1)).mono ?_
    rintro e w2 ⟨rfl, hb2⟩
    have c2 := hb1.trans (hb2.mono hb1.size)
    have a2 := HBW.out _ c2
    clear d0 d1 d2
    obtain ⟨d0, d1, d2⟩ := lin_cells c2
    go_wp2_with fail
    go_ret2
    exact ⟨ret_sb HR2.out.symm HR.out.symm, a2⟩
  rw [h2] at HL
  have HTM := Lib.hid (fun (Z : Option Addr) (cz : Nat) (w : World) (hZ : Cells w Z (ints (rightsL (linOf cost rs)))) (hcz : (rightsL (linOf cost rs)).length ≤ cz ∧ cz ≤ maxLen) (hx : RatsAt w xs X cx) => rqtimes_any (rightsL (linOf cost rs)) xs Z X cz cx w hZ hx.cells (by have := HRL.out; unfold maxLen; omega) (by omega) HFR.out hx.len)
  have hvl := times_len (rightsL (linOf cost rs)) xs
  have hve := times_err (ns := rightsL (linOf cost rs)) (xs := xs)
  generalize hv : timesQ (rightsL (linOf cost rs)) xs = v at HTM hvl hve
  have HVV := Lib.hid hv
  clear hv
  obtain ⟨v1, v2⟩ := v
  have hvl1 : v1.length ≤ 8194 := hvl
  have hve1 : v2 ≠ 0 → v1 = [] := hve
  clear hvl hve
  have HR := Lib.hid (show provesB (linOf cost rs) xs = (v2 == 0) by rw [HVB.out, h1, h2, HVV.out]; by_cases h : v2 = 0 <;> simp [h])
  have HR2 := Lib.hid (show provesS (linOf cost rs) xs = v1 by
    rw [HVS.out, HR.out, HVV.out]
    by_cases h : v2 = 0
    · simp [h]
    · rw [hve1 h]; simp)
  clear h1 h2 hve1
  go_enter Tryz.func22, Tryz.ntmps22
  simp only [B_mk]
  go_wp2_with fail
  refine (HS.out _ (HP.out.below b0) (HX.out.below b0)).mono ?_
  rintro e w1 ⟨rfl, hb1⟩
  have a1 := HBW.out _ hb1
  obtain ⟨d0, d1, d2⟩ := lin_cells hb1
  go_wp2_with fail
  refine (HL.out w1 (HP.out.below a1) (HX.out.below a1)).mono ?_
  rintro e w2 ⟨rfl, hb2⟩
  have c2 := hb1.trans (hb2.mono hb1.size)
  have a2 := HBW.out _ c2
  clear d0 d1 d2
  obtain ⟨d0, d1, d2⟩ := lin_cells c2
  go_wp2_with fail
  refine (HG.out w2 (HP.out.below a2)).mono ?_
  rintro e w3 ⟨⟨Z, cz, rfl, hz⟩, hb3⟩
  have hzc := hz.cap
  have hz2 := cells_ints' rfl hz
  have a3 := a2.trans (hb3.mono a2.size)
  clear hz
  go_wp2_with fail
  refine (HTM.out Z cz w3 hz2 hzc (HX.out.below a3)).mono ?_
  rintro e w4 ⟨rfl, hb4⟩
  have a4 := a3.trans (hb4.mono a3.size)
  go_wp2_with fail
  go_ret2
  exact ⟨ret_sb HR2.out.symm HR.out.symm, a4⟩
set_option maxHeartbeats 2000000 in
set_option maxRecDepth 100000 in
theorem rlrefutes_any (cost : List Int) (rs : List RowV) (A : Option Addr) (ca : Nat) (R : Option Addr) (cr : Nat) (xs : List Str) (X : Option Addr) (cx : Nat) (w : World) (hm : rs.length ≤ 1000000) (hwf : ∀ r ∈ rs, r.L.coef.length = cost.length) (hp : LinAt w cost rs A ca R cr) (hx : RatsAt w xs X cx) :
    Calls Tryz.prog 24 #[linV A cost.length ca R rs.length cr, .slice X xs.length cx] w fun e w' => e = .returned (.bool (refutesB (linOf cost rs) xs)) ∧ Below w.heap.size w w' := by
  have b0 := new_below w (linO A cost.length ca R rs.length cr)
  have HP := Lib.hid hp
  have HX := Lib.hid hx
  have HS := Lib.hid (fun (w : World) (hp : LinAt w cost rs A ca R cr) (hx : RatsAt w xs X cx) => rlsigned_any cost rs A ca R cr xs X cx w hp hx)
  have HL := Lib.hid (fun (w : World) (hp : LinAt w cost rs A ca R cr) (hx : RatsAt w xs X cx) => rlbelow2_any cost rs A ca R cr xs X cx w hm hwf hp hx)
  have HG := Lib.hid (fun (w : World) (hp : LinAt w cost rs A ca R cr) => rrights_any cost rs A ca R cr w hm hp)
  have HFR := Lib.hid (rights_fits cost hp.ok)
  have HRL := Lib.hid (rights_len cost rs)
  have hlx := hx.lx
  have HBW := Lib.hid (fun wr (h : Below (w.alloc (linO A cost.length ca R rs.length cr)).heap.size (w.alloc (linO A cost.length ca R rs.length cr)) wr) => b0.trans (h.mono b0.size))
  have HVB := Lib.hid (show refutesB (linOf cost rs) xs = (signsB (linOf cost rs) xs && belowB (linOf cost rs) xs [] && decide ((timesQ (rightsL (linOf cost rs)) xs).2 = 0) && decide (0 < signQ (timesQ (rightsL (linOf cost rs)) xs).1)) from rfl)
  clear hp hx hwf
  cases h1 : signsB (linOf cost rs) xs
  · rw [h1] at HS
    have HR := Lib.hid (show refutesB (linOf cost rs) xs = false by rw [HVB.out, h1]; rfl)
    clear h1
    go_enter Tryz.func24, Tryz.ntmps24
    skip
    go_wp2_with fail
    refine (HS.out _ (HP.out.below b0) (HX.out.below b0)).mono ?_
    rintro e w1 ⟨rfl, hb1⟩
    have a1 := HBW.out _ hb1
    obtain ⟨d0, d1, d2⟩ := lin_cells hb1
    go_wp2_with fail
    go_ret
    exact ⟨ret_bool HR.out.symm, HBW.out _ hb1⟩
  rw [h1] at HS
  cases h2 : belowB (linOf cost rs) xs []
  · rw [h2] at HL
    have HR := Lib.hid (show refutesB (linOf cost rs) xs = false by rw [HVB.out, h1, h2]; rfl)
    clear h1 h2
    go_enter Tryz.func24, Tryz.ntmps24
    skip
    go_wp2_with fail
    refine (HS.out _ (HP.out.below b0) (HX.out.below b0)).mono ?_
    rintro e w1 ⟨rfl, hb1⟩
    have a1 := HBW.out _ hb1
    obtain ⟨d0, d1, d2⟩ := lin_cells hb1
    go_wp2_with fail
    refine (HL.out w1 (HP.out.below a1) (HX.out.below a1)).mono ?_
    rintro e w2 ⟨rfl, hb2⟩
    have c2 := hb1.trans (hb2.mono hb1.size)
    have a2 := HBW.out _ c2
    clear d0 d1 d2
    obtain ⟨d0, d1, d2⟩ := lin_cells c2
    go_wp2_with fail
    go_ret
    exact ⟨ret_bool HR.out.symm, a2⟩
  rw [h2] at HL
  have HTM := Lib.hid (fun (Z : Option Addr) (cz : Nat) (w : World) (hZ : Cells w Z (ints (rightsL (linOf cost rs)))) (hcz : (rightsL (linOf cost rs)).length ≤ cz ∧ cz ≤ maxLen) (hx : RatsAt w xs X cx) => rqtimes_any (rightsL (linOf cost rs)) xs Z X cz cx w hZ hx.cells (by have := HRL.out; unfold maxLen; omega) (by omega) HFR.out hx.len)
  have hvl := times_len (rightsL (linOf cost rs)) xs
  have hve := times_err (ns := rightsL (linOf cost rs)) (xs := xs)
  generalize hv : timesQ (rightsL (linOf cost rs)) xs = v at HTM hvl hve
  have HVV := Lib.hid hv
  clear hv
  obtain ⟨v1, v2⟩ := v
  have hvl1 : v1.length ≤ 8194 := hvl
  have hve1 : v2 ≠ 0 → v1 = [] := hve
  clear hvl hve
  have HSG := Lib.hid (fun (w : World) => rqsign_any v1 w (by omega))
  have HR := Lib.hid (show refutesB (linOf cost rs) xs = ((v2 == 0) && decide (0 < signQ v1)) by rw [HVB.out, h1, h2, HVV.out]; by_cases h : v2 = 0 <;> simp [h])
  clear h1 h2 hve1
  generalize signQ v1 = sg at *
  cases h3 : (v2 == 0)
  · have HR' := Lib.hid (show refutesB (linOf cost rs) xs = false by rw [HR.out, h3]; rfl)
    go_enter Tryz.func24, Tryz.ntmps24
    skip
    go_wp2_with fail
    refine (HS.out _ (HP.out.below b0) (HX.out.below b0)).mono ?_
    rintro e w1 ⟨rfl, hb1⟩
    have a1 := HBW.out _ hb1
    obtain ⟨d0, d1, d2⟩ := lin_cells hb1
    go_wp2_with fail
    refine (HL.out w1 (HP.out.below a1) (HX.out.below a1)).mono ?_
    rintro e w2 ⟨rfl, hb2⟩
    have c2 := hb1.trans (hb2.mono hb1.size)
    have a2 := HBW.out _ c2
    clear d0 d1 d2
    obtain ⟨d0, d1, d2⟩ := lin_cells c2
    go_wp2_with fail
    refine (HG.out w2 (HP.out.below a2)).mono ?_
    rintro e w3 ⟨⟨Z, cz, rfl, hz⟩, hb3⟩
    have hzc := hz.cap
    have hz2 := cells_ints' rfl hz
    have a3 := a2.trans (hb3.mono a2.size)
    clear hz
    go_wp2_with fail
    refine (HTM.out Z cz w3 hz2 hzc (HX.out.below a3)).mono ?_
    rintro e w4 ⟨rfl, hb4⟩
    have a4 := a3.trans (hb4.mono a3.size)
    go_wp2_with fail
    go_ret
    exact ⟨ret_bool HR'.out.symm, a4⟩
  · have HR' := Lib.hid (show refutesB (linOf cost rs) xs = decide (0 < sg) by rw [HR.out, h3]; rfl)
    go_enter Tryz.func24, Tryz.ntmps24
    skip
    go_wp2_with fail
    refine (HS.out _ (HP.out.below b0) (HX.out.below b0)).mono ?_
    rintro e w1 ⟨rfl, hb1⟩
    have a1 := HBW.out _ hb1
    obtain ⟨d0, d1, d2⟩ := lin_cells hb1
    go_wp2_with fail
    refine (HL.out w1 (HP.out.below a1) (HX.out.below a1)).mono ?_
    rintro e w2 ⟨rfl, hb2⟩
    have c2 := hb1.trans (hb2.mono hb1.size)
    have a2 := HBW.out _ c2
    clear d0 d1 d2
    obtain ⟨d0, d1, d2⟩ := lin_cells c2
    go_wp2_with fail
    refine (HG.out w2 (HP.out.below a2)).mono ?_
    rintro e w3 ⟨⟨Z, cz, rfl, hz⟩, hb3⟩
    have hzc := hz.cap
    have hz2 := cells_ints' rfl hz
    have a3 := a2.trans (hb3.mono a2.size)
    clear hz
    go_wp2_with fail
    refine (HTM.out Z cz w3 hz2 hzc (HX.out.below a3)).mono ?_
    rintro e w4 ⟨rfl, hb4⟩
    have a4 := a3.trans (hb4.mono a3.size)
    go_wp2_with fail
    refine (HSG.out w4).mono ?_
    rintro e w5 ⟨rfl, hb5⟩
    go_wp2_with fail
    go_ret
    exact ⟨ret_bool HR'.out.symm, a4.trans (hb5.mono a4.size)⟩
end Go.Proofs.YtblihfhbaafdoaaGreatDoor
