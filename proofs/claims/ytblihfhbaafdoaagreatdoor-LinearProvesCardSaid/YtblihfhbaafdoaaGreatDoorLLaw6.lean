/- The walk of the law LinearProves. (Printed by wip/llaw6.py.) -/
import Derived.Test.YtblihfhbaafdoaaGreatDoorRLin5
import Derived.Deep.RegionHeld3
namespace Go.Proofs.YtblihfhbaafdoaaGreatDoor
open Go.RowKit Num
set_option linter.unusedVariables false
attribute [local go_sem] B_size B_get B_toList B_mk B_extract B_append
attribute [local go_sem high] run_max2

set_option maxHeartbeats 8000000 in
set_option maxRecDepth 100000 in
theorem linearProves_walk (cost : List Int) (rs : List RowV) (A : Option Addr) (ca : Nat) (R : Option Addr) (cr : Nat) (xs : List Str) (X : Option Addr) (cx : Nat) (w : World) (hp : LinAt w cost rs A ca R cr)
    (hX : Cells w X (strs xs)) (hx : xs.length ≤ cx) (hcx : cx ≤ maxLen) (hlx : ∀ x ∈ xs, x.length ≤ maxLen) (he : Env w) :
    Calls Tryz.prog 6 #[linV A cost.length ca R rs.length cr, .slice X xs.length cx] w fun e w' => e = .returned (.bool true) ∧ Below w.heap.size w w' := by
  have b0 := new_below w (linO A cost.length ca R rs.length cr)
  have HP := Lib.hid hp
  have HX := Lib.hid hX
  have HR := Lib.hid (fun (w : World) (hp : LinAt w cost rs A ca R cr) => lright_any cost rs A ca R cr w hp)
  have HA := Lib.hid (fun (w : World) (he : Env w) => lawake_any w he)
  have H1 := Lib.hid (fun (w : World) (hX : Cells w X (strs xs)) => shortl_any xs X cx w hX ⟨hx, hcx⟩ hlx)
  have HBW := Lib.hid (fun wr (h : Below (w.alloc (linO A cost.length ca R rs.length cr)).heap.size (w.alloc (linO A cost.length ca R rs.length cr)) wr) => b0.trans (h.mono b0.size))
  clear hp hX hlx
  cases hr : rightB cost rs
  · rw [hr] at HR
    clear hr
    have c0 : Below (w.alloc (linO A cost.length ca R rs.length cr)).heap.size (w.alloc (linO A cost.length ca R rs.length cr)) (w.alloc (linO A cost.length ca R rs.length cr)) := Below.refl _ _
    have a0 := HBW.out _ c0
    go_enter Tryz.func6, Tryz.ntmps6
    go_wp2_with fail
    refine (HR.out _ (HP.out.below a0)).mono ?_
    rintro e w1 ⟨rfl, hb⟩
    have c1 := c0.trans (hb.mono c0.size)
    have a1 := HBW.out _ c1
    clear hb
    obtain ⟨d0, d1, d2⟩ := lin_cells c1
    go_wp2_with fail
    refine (HA.out _ (he.below a1)).mono ?_
    rintro e w2 ⟨rfl, hb⟩
    have c2 := c1.trans (hb.mono c1.size)
    have a2 := HBW.out _ c2
    clear d0 d1 d2
    clear hb
    obtain ⟨d0, d1, d2⟩ := lin_cells c2
    go_wp2_with fail
    go_ret
    exact ⟨rfl, a2⟩
  have hok := right_ok hr HP.out.fit HP.out.ok
  have hm : rs.length ≤ 1000000 := by omega
  have hwf := hok.2.2.1
  rw [hr] at HR
  clear hr hok
  cases h1 : shortB xs
  · rw [h1] at H1
    clear h1
    have c0 : Below (w.alloc (linO A cost.length ca R rs.length cr)).heap.size (w.alloc (linO A cost.length ca R rs.length cr)) (w.alloc (linO A cost.length ca R rs.length cr)) := Below.refl _ _
    have a0 := HBW.out _ c0
    go_enter Tryz.func6, Tryz.ntmps6
    go_wp2_with fail
    refine (HR.out _ (HP.out.below a0)).mono ?_
    rintro e w1 ⟨rfl, hb⟩
    have c1 := c0.trans (hb.mono c0.size)
    have a1 := HBW.out _ c1
    clear hb
    obtain ⟨d0, d1, d2⟩ := lin_cells c1
    go_wp2_with fail
    refine (H1.out _ (HX.out.below a1)).mono ?_
    rintro e w' ⟨rfl, h⟩; obtain rfl := h.symm
    go_wp2_with fail
    refine (HA.out _ (he.below a1)).mono ?_
    rintro e w2 ⟨rfl, hb⟩
    have c2 := c1.trans (hb.mono c1.size)
    have a2 := HBW.out _ c2
    clear d0 d1 d2
    clear hb
    obtain ⟨d0, d1, d2⟩ := lin_cells c2
    go_wp2_with fail
    go_ret
    exact ⟨rfl, a2⟩
  have hs1 := short_ok h1
  rw [h1] at H1
  clear h1
  have RX := Lib.hid (show RatsAt w xs X cx from ⟨HX.out, fun x h => by have := hs1.2 x h; omega, ⟨hx, hcx⟩⟩)
  have V1 := Lib.hid (fun (w : World) (hp : LinAt w cost rs A ca R cr) (hx : RatsAt w xs X cx) (he : Env w) => lproves_any cost rs A ca R cr xs X cx w hm hwf hp hx he)
  have V2 := Lib.hid (fun (w : World) (hp : LinAt w cost rs A ca R cr) (hx : RatsAt w xs X cx) => rlproves_any cost rs A ca R cr xs X cx w hm hwf hp hx)
  have F1 := Lib.hid (fun (w' : World) (hs : Below (w.alloc (linO A cost.length ca R rs.length cr)).heap.size (w.alloc (linO A cost.length ca R rs.length cr)) w' ∧ w'.cell? ⟨w.heap.size, 0, none⟩ = some (.slice A cost.length ca) ∧ w'.cell? ⟨w.heap.size, 1, none⟩ = some (.slice R rs.length cr)) => lrefutes_any cost rs A ca R cr xs X cx w' hm hwf (HP.out.below (HBW.out _ hs.1)) (RX.out.below (HBW.out _ hs.1)) (he.below (HBW.out _ hs.1)))
  have F2 := Lib.hid (fun (w' : World) (hs : Below (w.alloc (linO A cost.length ca R rs.length cr)).heap.size (w.alloc (linO A cost.length ca R rs.length cr)) w' ∧ w'.cell? ⟨w.heap.size, 0, none⟩ = some (.slice A cost.length ca) ∧ w'.cell? ⟨w.heap.size, 1, none⟩ = some (.slice R rs.length cr)) => rlrefutes_any cost rs A ca R cr xs X cx w' hm hwf (HP.out.below (HBW.out _ hs.1)) (RX.out.below (HBW.out _ hs.1)))
  have AA := Lib.hid (fun (w' : World) (hs : Below (w.alloc (linO A cost.length ca R rs.length cr)).heap.size (w.alloc (linO A cost.length ca R rs.length cr)) w' ∧ w'.cell? ⟨w.heap.size, 0, none⟩ = some (.slice A cost.length ca) ∧ w'.cell? ⟨w.heap.size, 1, none⟩ = some (.slice R rs.length cr)) => lawake_any w' (he.below (HBW.out _ hs.1)))
  generalize provesS (linOf cost rs) xs = v1 at *
  generalize provesB (linOf cost rs) xs = v2 at *
  generalize refutesB (linOf cost rs) xs = f at *
  have q1 : (v1 == v1) = true := by simp
  have q2 : (v2 == v2) = true := by simp
  have q5 : (f == f) = true := by simp
  have c0 : Below (w.alloc (linO A cost.length ca R rs.length cr)).heap.size (w.alloc (linO A cost.length ca R rs.length cr)) (w.alloc (linO A cost.length ca R rs.length cr)) := Below.refl _ _
  have a0 := HBW.out _ c0
  go_enter Tryz.func6, Tryz.ntmps6
  go_wp2_with fail
  refine (HR.out _ (HP.out.below a0)).mono ?_
  rintro e w1 ⟨rfl, hb⟩
  have c1 := c0.trans (hb.mono c0.size)
  have a1 := HBW.out _ c1
  clear hb
  obtain ⟨d0, d1, d2⟩ := lin_cells c1
  go_wp2_with fail
  refine (H1.out _ (HX.out.below a1)).mono ?_
  rintro e w' ⟨rfl, h⟩; obtain rfl := h.symm
  go_wp2_with fail
  refine (V1.out _ (HP.out.below a1) (RX.out.below a1) (he.below a1)).mono ?_
  rintro e w2 ⟨rfl, hb⟩
  have c2 := c1.trans (hb.mono c1.size)
  have a2 := HBW.out _ c2
  clear d0 d1 d2
  clear hb
  obtain ⟨d0, d1, d2⟩ := lin_cells c2
  go_wp2_with fail
  refine (V2.out _ (HP.out.below a2) (RX.out.below a2)).mono ?_
  rintro e w3 ⟨rfl, hb⟩
  have c3 := c2.trans (hb.mono c2.size)
  have a3 := HBW.out _ c3
  clear d0 d1 d2
  clear hb
  obtain ⟨d0, d1, d2⟩ := lin_cells c3
  go_wp2_with fail
  have hS0 : Below (w.alloc (linO A cost.length ca R rs.length cr)).heap.size (w.alloc (linO A cost.length ca R rs.length cr)) w3.drew ∧ w3.drew.cell? ⟨w.heap.size, 0, none⟩ = some (.slice A cost.length ca) ∧ w3.drew.cell? ⟨w.heap.size, 1, none⟩ = some (.slice R rs.length cr) := ⟨below_drew c3, d0, d1⟩
  clear d0 d1 d2
  go_region_held3 (fun w' => Below (w.alloc (linO A cost.length ca R rs.length cr)).heap.size (w.alloc (linO A cost.length ca R rs.length cr)) w' ∧ w'.cell? ⟨w.heap.size, 0, none⟩ = some (.slice A cost.length ca) ∧ w'.cell? ⟨w.heap.size, 1, none⟩ = some (.slice R rs.length cr))
    (first | (exact keepT (new_lt w _) (new_lt w _) (by assumption) hbz) | (with_reducible exact hS0))
    (first | (go_at_call 23; ((with_reducible refine (F1.out _ (by assumption)).mono ?_); rintro e wz ⟨rfl, hbz⟩)) | (go_at_call 24; ((with_reducible refine (F2.out _ (by assumption)).mono ?_); rintro e wz ⟨rfl, hbz⟩)) | (go_at_call 10; ((with_reducible refine (AA.out _ (by assumption)).mono ?_); rintro e wz ⟨rfl, hbz⟩)))
  all_goals
    have hfin := (show Below (w.alloc (linO A cost.length ca R rs.length cr)).heap.size (w.alloc (linO A cost.length ca R rs.length cr)) wz ∧ wz.cell? ⟨w.heap.size, 0, none⟩ = some (.slice A cost.length ca) ∧ wz.cell? ⟨w.heap.size, 1, none⟩ = some (.slice R rs.length cr) from by assumption).1
    go_wp2_with fail
    go_ret
    exact ⟨rfl, HBW.out _ hfin⟩
end Go.Proofs.YtblihfhbaafdoaaGreatDoor
