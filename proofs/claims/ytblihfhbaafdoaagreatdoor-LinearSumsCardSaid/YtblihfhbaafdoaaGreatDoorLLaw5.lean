/- The walk of the law LinearSums. (Printed by wip/llaw5.py.) -/
import Derived.Test.YtblihfhbaafdoaaGreatDoorRLin2
import Derived.Deep.RegionHeld3
namespace Go.Proofs.YtblihfhbaafdoaaGreatDoor
open Go.RowKit Num
set_option linter.unusedVariables false
attribute [local go_sem] B_size B_get B_toList B_mk B_extract B_append
attribute [local go_sem high] run_max2

set_option maxHeartbeats 8000000 in
set_option maxRecDepth 100000 in
theorem linearSums_walk (cost : List Int) (rs : List RowV) (A : Option Addr) (ca : Nat) (R : Option Addr) (cr : Nat) (xs : List Str) (X : Option Addr) (cx : Nat) (i : Int) (w : World) (hp : LinAt w cost rs A ca R cr)
    (hX : Cells w X (strs xs)) (hx : xs.length ≤ cx) (hcx : cx ≤ maxLen) (hlx : ∀ x ∈ xs, x.length ≤ maxLen) (wi : (Lit.int .i64 i).wf = true) (he : Env w) :
    Calls Tryz.prog 5 #[linV A cost.length ca R rs.length cr, .slice X xs.length cx, .int .i64 i] w fun e w' => e = .returned (.bool true) ∧ Below w.heap.size w w' := by
  have hi := wf_fits wi
  have b0 := new_below w (linO A cost.length ca R rs.length cr)
  have HP := Lib.hid hp
  have HX := Lib.hid hX
  have HR := Lib.hid (fun (w : World) (hp : LinAt w cost rs A ca R cr) => lright_any cost rs A ca R cr w hp)
  have HA := Lib.hid (fun (w : World) (he : Env w) => lawake_any w he)
  have H1 := Lib.hid (fun (w : World) (hX : Cells w X (strs xs)) => shortl_any xs X cx w hX ⟨hx, hcx⟩ hlx)
  have HBW := Lib.hid (fun wr (h : Below (w.alloc (linO A cost.length ca R rs.length cr)).heap.size (w.alloc (linO A cost.length ca R rs.length cr)) wr) => b0.trans (h.mono b0.size))
  clear hp hX hlx wi
  cases hr : rightB cost rs
  · rw [hr] at HR
    clear hr
    have c0 : Below (w.alloc (linO A cost.length ca R rs.length cr)).heap.size (w.alloc (linO A cost.length ca R rs.length cr)) (w.alloc (linO A cost.length ca R rs.length cr)) := Below.refl _ _
    have a0 := HBW.out _ c0
    go_enter Tryz.func5, Tryz.ntmps5
    go_wp2_with fail
    refine (HR.out _ (HP.out.below a0)).mono ?_
    rintro e w1 ⟨rfl, hb⟩
    have c1 := c0.trans (hb.mono c0.size)
    have a1 := HBW.out _ c1
    clear hb
    obtain ⟨d0, d1, d2⟩ := lin_cells c1
    go_wp2_with fail
    refine (HA.out _ (he.below a1)).mono ?_
    rintro e w2 ⟨rfl, hb⟩
    have c2 := c1.trans (hb.mono c1.size)
    have a2 := HBW.out _ c2
    clear d0 d1 d2
    clear hb
    obtain ⟨d0, d1, d2⟩ := lin_cells c2
    go_wp2_with fail
    go_ret
    exact ⟨rfl, a2⟩
  rw [hr] at HR
  clear hr
  cases h1 : shortB xs
  · rw [h1] at H1
    clear h1
    have c0 : Below (w.alloc (linO A cost.length ca R rs.length cr)).heap.size (w.alloc (linO A cost.length ca R rs.length cr)) (w.alloc (linO A cost.length ca R rs.length cr)) := Below.refl _ _
    have a0 := HBW.out _ c0
    go_enter Tryz.func5, Tryz.ntmps5
    go_wp2_with fail
    refine (HR.out _ (HP.out.below a0)).mono ?_
    rintro e w1 ⟨rfl, hb⟩
    have c1 := c0.trans (hb.mono c0.size)
    have a1 := HBW.out _ c1
    clear hb
    obtain ⟨d0, d1, d2⟩ := lin_cells c1
    go_wp2_with fail
    refine (H1.out _ (HX.out.below a1)).mono ?_
    rintro e w' ⟨rfl, h⟩; obtain rfl := h.symm
    go_wp2_with fail
    refine (HA.out _ (he.below a1)).mono ?_
    rintro e w2 ⟨rfl, hb⟩
    have c2 := c1.trans (hb.mono c1.size)
    have a2 := HBW.out _ c2
    clear d0 d1 d2
    clear hb
    obtain ⟨d0, d1, d2⟩ := lin_cells c2
    go_wp2_with fail
    go_ret
    exact ⟨rfl, a2⟩
  have hs1 := short_ok h1
  rw [h1] at H1
  clear h1
  have RX := Lib.hid (show RatsAt w xs X cx from ⟨HX.out, fun x h => by have := hs1.2 x h; omega, ⟨hx, hcx⟩⟩)
  have V1 := Lib.hid (fun (w : World) (hp : LinAt w cost rs A ca R cr) (hx : RatsAt w xs X cx) (he : Env w) => lval_any cost rs A ca R cr xs X cx w hp hx he)
  have V2 := Lib.hid (fun (w : World) (hp : LinAt w cost rs A ca R cr) (hx : RatsAt w xs X cx) => rlval_any cost rs A ca R cr xs X cx w hp hx)
  have L1 := Lib.hid (fun (w : World) (hp : LinAt w cost rs A ca R cr) (hx : RatsAt w xs X cx) (he : Env w) => lleft_any cost rs A ca R cr i xs X cx w hi hp hx he)
  have L2 := Lib.hid (fun (w : World) (hp : LinAt w cost rs A ca R cr) (hx : RatsAt w xs X cx) => rlleft_any cost rs A ca R cr i xs X cx w hi hp hx)
  have F1 := Lib.hid (fun (w' : World) (hs : Below (w.alloc (linO A cost.length ca R rs.length cr)).heap.size (w.alloc (linO A cost.length ca R rs.length cr)) w' ∧ w'.cell? ⟨w.heap.size, 0, none⟩ = some (.slice A cost.length ca) ∧ w'.cell? ⟨w.heap.size, 1, none⟩ = some (.slice R rs.length cr)) => lfits_any cost rs A ca R cr xs X cx w' (HP.out.below (HBW.out _ hs.1)) (RX.out.below (HBW.out _ hs.1)) (he.below (HBW.out _ hs.1)))
  have F2 := Lib.hid (fun (w' : World) (hs : Below (w.alloc (linO A cost.length ca R rs.length cr)).heap.size (w.alloc (linO A cost.length ca R rs.length cr)) w' ∧ w'.cell? ⟨w.heap.size, 0, none⟩ = some (.slice A cost.length ca) ∧ w'.cell? ⟨w.heap.size, 1, none⟩ = some (.slice R rs.length cr)) => rlfits_any cost rs A ca R cr xs X cx w' (HP.out.below (HBW.out _ hs.1)) (RX.out.below (HBW.out _ hs.1)))
  have AA := Lib.hid (fun (w' : World) (hs : Below (w.alloc (linO A cost.length ca R rs.length cr)).heap.size (w.alloc (linO A cost.length ca R rs.length cr)) w' ∧ w'.cell? ⟨w.heap.size, 0, none⟩ = some (.slice A cost.length ca) ∧ w'.cell? ⟨w.heap.size, 1, none⟩ = some (.slice R rs.length cr)) => lawake_any w' (he.below (HBW.out _ hs.1)))
  generalize timesQ cost xs = v at *
  generalize leftQ (linOf cost rs) i xs = u at *
  generalize fitsB (linOf cost rs) xs = f at *
  obtain ⟨v1, v2⟩ := v
  obtain ⟨u1, u2⟩ := u
  have q1 : (v1 == v1) = true := by simp
  have q2 : (v2 == v2) = true := by simp
  have q3 : (u1 == u1) = true := by simp
  have q4 : (u2 == u2) = true := by simp
  have q5 : (f == f) = true := by simp
  have c0 : Below (w.alloc (linO A cost.length ca R rs.length cr)).heap.size (w.alloc (linO A cost.length ca R rs.length cr)) (w.alloc (linO A cost.length ca R rs.length cr)) := Below.refl _ _
  have a0 := HBW.out _ c0
  go_enter Tryz.func5, Tryz.ntmps5
  go_wp2_with fail
  refine (HR.out _ (HP.out.below a0)).mono ?_
  rintro e w1 ⟨rfl, hb⟩
  have c1 := c0.trans (hb.mono c0.size)
  have a1 := HBW.out _ c1
  clear hb
  obtain ⟨d0, d1, d2⟩ := lin_cells c1
  go_wp2_with fail
  refine (H1.out _ (HX.out.below a1)).mono ?_
  rintro e w' ⟨rfl, h⟩; obtain rfl := h.symm
  go_wp2_with fail
  refine (V1.out _ (HP.out.below a1) (RX.out.below a1) (he.below a1)).mono ?_
  rintro e w2 ⟨rfl, hb⟩
  have c2 := c1.trans (hb.mono c1.size)
  have a2 := HBW.out _ c2
  clear d0 d1 d2
  clear hb
  obtain ⟨d0, d1, d2⟩ := lin_cells c2
  go_wp2_with fail
  refine (V2.out _ (HP.out.below a2) (RX.out.below a2)).mono ?_
  rintro e w3 ⟨rfl, hb⟩
  have c3 := c2.trans (hb.mono c2.size)
  have a3 := HBW.out _ c3
  clear d0 d1 d2
  clear hb
  obtain ⟨d0, d1, d2⟩ := lin_cells c3
  go_wp2_with fail
  refine (L1.out _ (HP.out.below a3) (RX.out.below a3) (he.below a3)).mono ?_
  rintro e w4 ⟨rfl, hb⟩
  have c4 := c3.trans (hb.mono c3.size)
  have a4 := HBW.out _ c4
  clear d0 d1 d2
  clear hb
  obtain ⟨d0, d1, d2⟩ := lin_cells c4
  go_wp2_with fail
  refine (L2.out _ (HP.out.below a4) (RX.out.below a4)).mono ?_
  rintro e w5 ⟨rfl, hb⟩
  have c5 := c4.trans (hb.mono c4.size)
  have a5 := HBW.out _ c5
  clear d0 d1 d2
  clear hb
  obtain ⟨d0, d1, d2⟩ := lin_cells c5
  go_wp2_with fail
  have hS0 : Below (w.alloc (linO A cost.length ca R rs.length cr)).heap.size (w.alloc (linO A cost.length ca R rs.length cr)) w5.drew ∧ w5.drew.cell? ⟨w.heap.size, 0, none⟩ = some (.slice A cost.length ca) ∧ w5.drew.cell? ⟨w.heap.size, 1, none⟩ = some (.slice R rs.length cr) := ⟨below_drew c5, d0, d1⟩
  clear d0 d1 d2
  go_region_held3 (fun w' => Below (w.alloc (linO A cost.length ca R rs.length cr)).heap.size (w.alloc (linO A cost.length ca R rs.length cr)) w' ∧ w'.cell? ⟨w.heap.size, 0, none⟩ = some (.slice A cost.length ca) ∧ w'.cell? ⟨w.heap.size, 1, none⟩ = some (.slice R rs.length cr))
    (first | (exact keepT (new_lt w _) (new_lt w _) (by assumption) hbz) | (with_reducible exact hS0))
    (first | (go_at_call 19; ((with_reducible refine (F1.out _ (by assumption)).mono ?_); rintro e wz ⟨rfl, hbz⟩)) | (go_at_call 20; ((with_reducible refine (F2.out _ (by assumption)).mono ?_); rintro e wz ⟨rfl, hbz⟩)) | (go_at_call 10; ((with_reducible refine (AA.out _ (by assumption)).mono ?_); rintro e wz ⟨rfl, hbz⟩)))
  all_goals
    have hfin := (show Below (w.alloc (linO A cost.length ca R rs.length cr)).heap.size (w.alloc (linO A cost.length ca R rs.length cr)) wz ∧ wz.cell? ⟨w.heap.size, 0, none⟩ = some (.slice A cost.length ca) ∧ wz.cell? ⟨w.heap.size, 1, none⟩ = some (.slice R rs.length cr) from by assumption).1
    go_wp2_with fail
    go_ret
    exact ⟨rfl, HBW.out _ hfin⟩
end Go.Proofs.YtblihfhbaafdoaaGreatDoor
