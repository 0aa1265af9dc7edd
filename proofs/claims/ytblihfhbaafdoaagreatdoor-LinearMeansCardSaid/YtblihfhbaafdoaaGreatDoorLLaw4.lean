/- The walk of the law LinearMeans. (Printed by wip/llaw3.py.) -/
import Derived.Test.YtblihfhbaafdoaaGreatDoorLLaw3
namespace Go.Proofs.YtblihfhbaafdoaaGreatDoor
open Go.RowKit Num
set_option linter.unusedVariables false
attribute [local go_sem] B_size B_get B_toList B_mk B_extract B_append
attribute [local go_sem high] run_max2

theorem fits_right {q : LinL} {zs : List Str} (h : fitsB q zs = true) : ∀ z ∈ zs, rightQ z = true := by
  intro z hz
  unfold fitsB at h
  simp only [Bool.and_eq_true] at h
  have h1 := (List.all_eq_true.1 h.1.2) z hz
  unfold posB at h1
  simp only [Bool.and_eq_true] at h1
  exact h1.1
theorem half_each {xs ys : List Str} (hx : ∀ x ∈ xs, rightQ x = true) (hy : ∀ y ∈ ys, rightQ y = true) (sx : ∀ x ∈ xs, x.length ≤ 60) (sy : ∀ y ∈ ys, y.length ≤ 60) (hl : xs.length = ys.length) :
    (∀ i (hi : i < xs.length), addQE xs[i] (ys[i]'(by omega)) = 0 ∧ quoQE (addQS xs[i] (ys[i]'(by omega))) [50] = 0) ∧ ∀ z ∈ halves xs ys, z.length ≤ 100000 := by
  have key : ∀ i (hi : i < xs.length), addQE xs[i] (ys[i]'(by omega)) = 0 ∧ quoQE (addQS xs[i] (ys[i]'(by omega))) [50] = 0 ∧ (halfS xs[i] (ys[i]'(by omega))).length ≤ 100000 := by
    intro i hi
    have m1 := List.getElem_mem hi
    have m2 := List.getElem_mem (show i < ys.length by omega)
    have h := half_ok (frT_of (hx _ m1) (sx _ m1)) (frT_of (hy _ m2) (sy _ m2)) (by omega)
    exact ⟨h.1, h.2.1, by have := h.2.2.1.len; omega⟩
  refine ⟨fun i hi => ⟨(key i hi).1, (key i hi).2.1⟩, fun z hz => ?_⟩
  obtain ⟨i, hi, rfl⟩ := List.getElem_of_mem hz
  have hi2 : i < xs.length := by rw [halves_length xs ys hl] at hi; exact hi
  have : (halves xs ys)[i] = halfS xs[i] (ys[i]'(by omega)) := List.getElem_zipWith
  rw [this]; exact (key i hi2).2.2
set_option maxHeartbeats 8000000 in
set_option maxRecDepth 100000 in
theorem linearMeans_walk (cost : List Int) (rs : List RowV) (A : Option Addr) (ca : Nat) (R : Option Addr) (cr : Nat) (xs : List Str) (X : Option Addr) (cx : Nat) (ds : List Str) (D : Option Addr) (cd : Nat) (w : World) (hp : LinAt w cost rs A ca R cr)
    (hX : Cells w X (strs xs)) (hx : xs.length ≤ cx) (hcx : cx ≤ maxLen) (hlx : ∀ x ∈ xs, x.length ≤ maxLen) (hD : Cells w D (strs ds)) (hd : ds.length ≤ cd) (hcd : cd ≤ maxLen) (hld : ∀ x ∈ ds, x.length ≤ maxLen) (he : Env w) :
    Calls Tryz.prog 8 #[linV A cost.length ca R rs.length cr, .slice X xs.length cx, .slice D ds.length cd] w fun e w' => e = .returned (.bool true) ∧ Below w.heap.size w w' := by
  have b0 := new_below w (linO A cost.length ca R rs.length cr)
  have HP := Lib.hid hp
  have HX := Lib.hid hX
  have HD := Lib.hid hD
  have HR := Lib.hid (fun (w : World) (hp : LinAt w cost rs A ca R cr) => lright_any cost rs A ca R cr w hp)
  have HA := Lib.hid (fun (w : World) (he : Env w) => lawake_any w he)
  have H1 := Lib.hid (fun (w : World) (hX : Cells w X (strs xs)) => shortl_any xs X cx w hX ⟨hx, hcx⟩ hlx)
  have H2 := Lib.hid (fun (w : World) (hD : Cells w D (strs ds)) => shortl_any ds D cd w hD ⟨hd, hcd⟩ hld)
  have HBW := Lib.hid (fun wr (h : Below (w.alloc (linO A cost.length ca R rs.length cr)).heap.size (w.alloc (linO A cost.length ca R rs.length cr)) wr) => b0.trans (h.mono b0.size))
  clear hp hX hD hlx hld
  cases hr : rightB cost rs
  · rw [hr] at HR
    clear hr
    have c0 : Below (w.alloc (linO A cost.length ca R rs.length cr)).heap.size (w.alloc (linO A cost.length ca R rs.length cr)) (w.alloc (linO A cost.length ca R rs.length cr)) := Below.refl _ _
    have a0 := HBW.out _ c0
    go_enter Tryz.func8, Tryz.ntmps8
    go_wp2_with fail
    refine (HR.out _ (HP.out.below a0)).mono ?_
    rintro e w1 ⟨rfl, hb⟩
    have c1 := c0.trans (hb.mono c0.size)
    have a1 := HBW.out _ c1
    clear hb
    obtain ⟨d0, d1, d2⟩ := lin_cells c1
    go_wp2_with fail
    refine (HA.out _ (he.below a1)).mono ?_
    rintro e w2 ⟨rfl, hb⟩
    have c2 := c1.trans (hb.mono c1.size)
    have a2 := HBW.out _ c2
    clear d0 d1 d2
    clear hb
    obtain ⟨d0, d1, d2⟩ := lin_cells c2
    go_wp2_with fail
    go_ret
    exact ⟨rfl, a2⟩
  have hok := right_ok hr HP.out.fit HP.out.ok
  rw [hr] at HR
  clear hr
  cases h1 : shortB xs
  · rw [h1] at H1
    clear h1 hok
    have c0 : Below (w.alloc (linO A cost.length ca R rs.length cr)).heap.size (w.alloc (linO A cost.length ca R rs.length cr)) (w.alloc (linO A cost.length ca R rs.length cr)) := Below.refl _ _
    have a0 := HBW.out _ c0
    go_enter Tryz.func8, Tryz.ntmps8
    go_wp2_with fail
    refine (HR.out _ (HP.out.below a0)).mono ?_
    rintro e w1 ⟨rfl, hb⟩
    have c1 := c0.trans (hb.mono c0.size)
    have a1 := HBW.out _ c1
    clear hb
    obtain ⟨d0, d1, d2⟩ := lin_cells c1
    go_wp2_with fail
    refine (H1.out _ (HX.out.below a1)).mono ?_
    rintro e w' ⟨rfl, h⟩; obtain rfl := h.symm
    go_wp2_with fail
    refine (HA.out _ (he.below a1)).mono ?_
    rintro e w2 ⟨rfl, hb⟩
    have c2 := c1.trans (hb.mono c1.size)
    have a2 := HBW.out _ c2
    clear d0 d1 d2
    clear hb
    obtain ⟨d0, d1, d2⟩ := lin_cells c2
    go_wp2_with fail
    go_ret
    exact ⟨rfl, a2⟩
  have hs1 := short_ok h1
  rw [h1] at H1
  clear h1
  cases h2 : shortB ds
  · rw [h2] at H2
    clear h2 hok hs1
    have c0 : Below (w.alloc (linO A cost.length ca R rs.length cr)).heap.size (w.alloc (linO A cost.length ca R rs.length cr)) (w.alloc (linO A cost.length ca R rs.length cr)) := Below.refl _ _
    have a0 := HBW.out _ c0
    go_enter Tryz.func8, Tryz.ntmps8
    go_wp2_with fail
    refine (HR.out _ (HP.out.below a0)).mono ?_
    rintro e w1 ⟨rfl, hb⟩
    have c1 := c0.trans (hb.mono c0.size)
    have a1 := HBW.out _ c1
    clear hb
    obtain ⟨d0, d1, d2⟩ := lin_cells c1
    go_wp2_with fail
    refine (H1.out _ (HX.out.below a1)).mono ?_
    rintro e w' ⟨rfl, h⟩; obtain rfl := h.symm
    go_wp2_with fail
    refine (H2.out _ (HD.out.below a1)).mono ?_
    rintro e w' ⟨rfl, h⟩; obtain rfl := h.symm
    go_wp2_with fail
    refine (HA.out _ (he.below a1)).mono ?_
    rintro e w2 ⟨rfl, hb⟩
    have c2 := c1.trans (hb.mono c1.size)
    have a2 := HBW.out _ c2
    clear d0 d1 d2
    clear hb
    obtain ⟨d0, d1, d2⟩ := lin_cells c2
    go_wp2_with fail
    go_ret
    exact ⟨rfl, a2⟩
  have hs2 := short_ok h2
  rw [h2] at H2
  clear h2
  have RX := Lib.hid (show RatsAt w xs X cx from ⟨HX.out, fun x h => by have := hs1.2 x h; omega, ⟨hx, hcx⟩⟩)
  have RD := Lib.hid (show RatsAt w ds D cd from ⟨HD.out, fun x h => by have := hs2.2 x h; omega, ⟨hd, hcd⟩⟩)
  have HF := Lib.hid (fun (w : World) (hp : LinAt w cost rs A ca R cr) (hx : RatsAt w xs X cx) (he : Env w) => lfits_any cost rs A ca R cr xs X cx w hp hx he)
  have HF2 := Lib.hid (fun (w : World) (hp : LinAt w cost rs A ca R cr) (hx : RatsAt w ds D cd) (he : Env w) => lfits_any cost rs A ca R cr ds D cd w hp hx he)
  cases hf : fitsB (linOf cost rs) xs
  · rw [hf] at HF
    clear hf hok hs1 hs2
    have c0 : Below (w.alloc (linO A cost.length ca R rs.length cr)).heap.size (w.alloc (linO A cost.length ca R rs.length cr)) (w.alloc (linO A cost.length ca R rs.length cr)) := Below.refl _ _
    have a0 := HBW.out _ c0
    go_enter Tryz.func8, Tryz.ntmps8
    go_wp2_with fail
    refine (HR.out _ (HP.out.below a0)).mono ?_
    rintro e w1 ⟨rfl, hb⟩
    have c1 := c0.trans (hb.mono c0.size)
    have a1 := HBW.out _ c1
    clear hb
    obtain ⟨d0, d1, d2⟩ := lin_cells c1
    go_wp2_with fail
    refine (H1.out _ (HX.out.below a1)).mono ?_
    rintro e w' ⟨rfl, h⟩; obtain rfl := h.symm
    go_wp2_with fail
    refine (H2.out _ (HD.out.below a1)).mono ?_
    rintro e w' ⟨rfl, h⟩; obtain rfl := h.symm
    go_wp2_with fail
    refine (HF.out _ (HP.out.below a1) (RX.out.below a1) (he.below a1)).mono ?_
    rintro e w2 ⟨rfl, hb⟩
    have c2 := c1.trans (hb.mono c1.size)
    have a2 := HBW.out _ c2
    clear d0 d1 d2
    clear hb
    obtain ⟨d0, d1, d2⟩ := lin_cells c2
    go_wp2_with fail
    refine (HA.out _ (he.below a2)).mono ?_
    rintro e w3 ⟨rfl, hb⟩
    have c3 := c2.trans (hb.mono c2.size)
    have a3 := HBW.out _ c3
    clear d0 d1 d2
    clear hb
    obtain ⟨d0, d1, d2⟩ := lin_cells c3
    go_wp2_with fail
    go_ret
    exact ⟨rfl, a3⟩
  cases hf2 : fitsB (linOf cost rs) ds
  · rw [hf] at HF
    rw [hf2] at HF2
    clear hf hf2 hok hs1 hs2
    have c0 : Below (w.alloc (linO A cost.length ca R rs.length cr)).heap.size (w.alloc (linO A cost.length ca R rs.length cr)) (w.alloc (linO A cost.length ca R rs.length cr)) := Below.refl _ _
    have a0 := HBW.out _ c0
    go_enter Tryz.func8, Tryz.ntmps8
    go_wp2_with fail
    refine (HR.out _ (HP.out.below a0)).mono ?_
    rintro e w1 ⟨rfl, hb⟩
    have c1 := c0.trans (hb.mono c0.size)
    have a1 := HBW.out _ c1
    clear hb
    obtain ⟨d0, d1, d2⟩ := lin_cells c1
    go_wp2_with fail
    refine (H1.out _ (HX.out.below a1)).mono ?_
    rintro e w' ⟨rfl, h⟩; obtain rfl := h.symm
    go_wp2_with fail
    refine (H2.out _ (HD.out.below a1)).mono ?_
    rintro e w' ⟨rfl, h⟩; obtain rfl := h.symm
    go_wp2_with fail
    refine (HF.out _ (HP.out.below a1) (RX.out.below a1) (he.below a1)).mono ?_
    rintro e w2 ⟨rfl, hb⟩
    have c2 := c1.trans (hb.mono c1.size)
    have a2 := HBW.out _ c2
    clear d0 d1 d2
    clear hb
    obtain ⟨d0, d1, d2⟩ := lin_cells c2
    go_wp2_with fail
    refine (HF2.out _ (HP.out.below a2) (RD.out.below a2) (he.below a2)).mono ?_
    rintro e w3 ⟨rfl, hb⟩
    have c3 := c2.trans (hb.mono c2.size)
    have a3 := HBW.out _ c3
    clear d0 d1 d2
    clear hb
    obtain ⟨d0, d1, d2⟩ := lin_cells c3
    go_wp2_with fail
    refine (HA.out _ (he.below a3)).mono ?_
    rintro e w4 ⟨rfl, hb⟩
    have c4 := c3.trans (hb.mono c3.size)
    have a4 := HBW.out _ c4
    clear d0 d1 d2
    clear hb
    obtain ⟨d0, d1, d2⟩ := lin_cells c4
    go_wp2_with fail
    go_ret
    exact ⟨rfl, a4⟩
  have hl : xs.length = ds.length := by rw [(fits_rat hok.2.2.2 hf).1, (fits_rat hok.2.2.2 hf2).1]
  have hE := half_each (fits_right hf) (fits_right hf2) hs1.2 hs2.2 hl
  have hM := mean_fits hok.2.2.2 hok.1 (fun r hr n hn => by
    obtain ⟨v, hv, rfl⟩ := List.mem_map.1 hr
    exact (HP.out.ok v hv).2.2.1 n hn) hf hf2 hs1.2 hs2.2
  have hcost : (linOf cost rs).cost = cost := rfl
  rw [hcost] at hM
  rw [hf] at HF
  rw [hf2] at HF2
  have HH := Lib.hid (fun (w : World) (hx : RatsAt w xs X cx) (hy : RatsAt w ds D cd) => lhalf_any xs ds X D cx cd w hl hx hy (by omega) hE.1)
  have HZL := Lib.hid hE.2
  have hzl : (halves xs ds).length ≤ 14 := by rw [halves_length xs ds hl]; exact hs1.1
  have V1 := Lib.hid (fun (w : World) (hp : LinAt w cost rs A ca R cr) (hx : RatsAt w xs X cx) (he : Env w) => lval_any cost rs A ca R cr xs X cx w hp hx he)
  have V2 := Lib.hid (fun (w : World) (hp : LinAt w cost rs A ca R cr) (hx : RatsAt w ds D cd) (he : Env w) => lval_any cost rs A ca R cr ds D cd w hp hx he)
  have V3 := Lib.hid (fun (Z : Option Addr) (cz : Nat) (w : World) (hp : LinAt w cost rs A ca R cr) (hx : RatsAt w (halves xs ds) Z cz) (he : Env w) => lval_any cost rs A ca R cr (halves xs ds) Z cz w hp hx he)
  have F3 := Lib.hid (fun (Z : Option Addr) (cz : Nat) (w : World) (hp : LinAt w cost rs A ca R cr) (hx : RatsAt w (halves xs ds) Z cz) (he : Env w) => lfits_any cost rs A ca R cr (halves xs ds) Z cz w hp hx he)
  rw [hM.1] at F3
  rw [hM.2.1] at V1
  rw [hM.2.2.1] at V2
  rw [hM.2.2.2.1] at V3
  have l1 := times_len cost xs
  have l2 := times_len cost ds
  have hm5 := hM.2.2.2.2.1
  have hm6 := hM.2.2.2.2.2.1
  have hm7 := hM.2.2.2.2.2.2
  clear hM hE hf hf2 hok hs1 hs2 hcost hl
  generalize (timesQ cost xs).1 = va at *
  generalize (timesQ cost ds).1 = vb at *
  generalize (timesQ cost (halves xs ds)).1 = vc at *
  generalize halves xs ds = zs at *
  have HH2 := Lib.hid (fun (XA XB : Option Addr) (w : World) (hx : RatsAt w [va] XA 1) (hy : RatsAt w [vb] XB 1) => lhalf_any [va] [vb] XA XB 1 1 w rfl hx hy (by simp) (by
    intro i hi
    have : i = 0 := by simp at hi; exact hi
    subst this
    exact ⟨hm5, hm6⟩))
  have HHV := Lib.hid (show halves [va] [vb] = [vc] by unfold halves; simp [hm7])
  rw [HHV.out] at HH2
  clear hm5 hm6 hm7
  have hself : (vc == vc) = true := by simp
  have c0 : Below (w.alloc (linO A cost.length ca R rs.length cr)).heap.size (w.alloc (linO A cost.length ca R rs.length cr)) (w.alloc (linO A cost.length ca R rs.length cr)) := Below.refl _ _
  have a0 := HBW.out _ c0
  go_enter Tryz.func8, Tryz.ntmps8
  go_wp2_with fail
  refine (HR.out _ (HP.out.below a0)).mono ?_
  rintro e w1 ⟨rfl, hb⟩
  have c1 := c0.trans (hb.mono c0.size)
  have a1 := HBW.out _ c1
  clear hb
  obtain ⟨d0, d1, d2⟩ := lin_cells c1
  go_wp2_with fail
  refine (H1.out _ (HX.out.below a1)).mono ?_
  rintro e w' ⟨rfl, h⟩; obtain rfl := h.symm
  go_wp2_with fail
  refine (H2.out _ (HD.out.below a1)).mono ?_
  rintro e w' ⟨rfl, h⟩; obtain rfl := h.symm
  go_wp2_with fail
  refine (HF.out _ (HP.out.below a1) (RX.out.below a1) (he.below a1)).mono ?_
  rintro e w2 ⟨rfl, hb⟩
  have c2 := c1.trans (hb.mono c1.size)
  have a2 := HBW.out _ c2
  clear d0 d1 d2
  clear hb
  obtain ⟨d0, d1, d2⟩ := lin_cells c2
  go_wp2_with fail
  refine (HF2.out _ (HP.out.below a2) (RD.out.below a2) (he.below a2)).mono ?_
  rintro e w3 ⟨rfl, hb⟩
  have c3 := c2.trans (hb.mono c2.size)
  have a3 := HBW.out _ c3
  clear d0 d1 d2
  clear hb
  obtain ⟨d0, d1, d2⟩ := lin_cells c3
  go_wp2_with fail
  refine (HH.out _ (RX.out.below a3) (RD.out.below a3)).mono ?_
  rintro e w4 ⟨⟨Z, cz, rfl, hz⟩, hb⟩
  have hcz := hz.cap
  have RZ := Lib.hid (show RatsAt w4 zs Z cz from ⟨cells_strs rfl hz, HZL.out, ⟨hcz.1, hcz.2⟩⟩)
  have c4 := c3.trans (hb.mono c3.size)
  have a4 := HBW.out _ c4
  clear hb d0 d1 d2 hz
  obtain ⟨d0, d1, d2⟩ := lin_cells c4
  have z0 := Below.refl w4.heap.size w4
  go_wp2_with fail
  refine (V1.out _ (HP.out.below a4) (RX.out.below a4) (he.below a4)).mono ?_
  rintro e w5 ⟨rfl, hb⟩
  have c5 := c4.trans (hb.mono c4.size)
  have a5 := HBW.out _ c5
  have z1 := z0.trans (hb.mono z0.size)
  clear hb d0 d1 d2
  obtain ⟨d0, d1, d2⟩ := lin_cells c5
  go_wp2_with fail
  refine (V2.out _ (HP.out.below a5) (RD.out.below a5) (he.below a5)).mono ?_
  rintro e w6 ⟨rfl, hb⟩
  have c6 := c5.trans (hb.mono c5.size)
  have a6 := HBW.out _ c6
  have z2 := z1.trans (hb.mono z1.size)
  clear hb d0 d1 d2
  obtain ⟨d0, d1, d2⟩ := lin_cells c6
  go_wp2_with fail
  refine (V3.out _ _ _ (HP.out.below a6) (RZ.out.below z2) (he.below a6)).mono ?_
  rintro e w7 ⟨rfl, hb⟩
  have c7 := c6.trans (hb.mono c6.size)
  have a7 := HBW.out _ c7
  have z3 := z2.trans (hb.mono z2.size)
  clear hb d0 d1 d2
  obtain ⟨d0, d1, d2⟩ := lin_cells c7
  have XA := rats_new w7 [va] #[.string (B va)] 38 1 rfl (by simp; omega) (by simp)
  have nA := new_below w7 (.cells #[.string (B va)] 38)
  have XB := rats_new (w7.alloc (.cells #[.string (B va)] 38)) [vb] #[.string (B vb)] 38 1 rfl (by simp; omega) (by simp)
  have nB := new_below (w7.alloc (.cells #[.string (B va)] 38)) (.cells #[.string (B vb)] 38)
  rw [World.size_alloc] at XB
  have nAB := nA.trans (nB.mono nA.size)
  have HQ := Lib.hid (HH2.out _ _ _ (XA.below nB) XB)
  clear XA XB nA nB
  go_wp2_with fail
  refine HQ.out.mono ?_
  rintro e w8 ⟨⟨Zh, ch, rfl, hzh⟩, hb⟩
  have hb2 := nAB.trans (hb.mono nAB.size)
  have c8 := c7.trans (hb2.mono c7.size)
  have a8 := HBW.out _ c8
  have z4 := z3.trans (hb2.mono z3.size)
  clear hb hb2 d0 d1 d2 HQ nAB
  obtain ⟨d0, d1, d2⟩ := lin_cells c8
  go_wp2_with fail
  refine (F3.out _ _ _ (HP.out.below a8) (RZ.out.below z4) (he.below a8)).mono ?_
  rintro e w9 ⟨rfl, hb⟩
  have hzh2 := hzh.below hb
  obtain ⟨g, rfl, _, _, hgc, _⟩ := hzh2.at_ (by simp)
  have hg0 : w9.cell? ⟨g, 0, none⟩ = some (.string (B vc)) := hgc 0 (by simp)
  have a9 := a8.trans (hb.mono a8.size)
  clear hzh hzh2 hgc hb d0 d1 d2
  go_wp2_with fail
  refine (HA.out _ (he.below a9)).mono ?_
  rintro e w10 ⟨rfl, hb⟩
  go_wp2_with fail
  go_ret
  exact ⟨rfl, a9.trans (hb.mono a9.size)⟩
end Go.Proofs.YtblihfhbaafdoaaGreatDoor
