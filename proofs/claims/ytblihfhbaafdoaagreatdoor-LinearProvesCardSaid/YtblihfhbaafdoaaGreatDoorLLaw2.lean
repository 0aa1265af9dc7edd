/- The law's test right; the walk of the law LinearWeak. (Printed by wip/llaw2.py.) -/
import Derived.Test.YtblihfhbaafdoaaGreatDoorLLaw
namespace Go.Proofs.YtblihfhbaafdoaaGreatDoor
open Go.RowKit Num
set_option linter.unusedVariables false
attribute [local go_sem] B_size B_get B_toList B_mk B_extract B_append
attribute [local go_sem high] run_max2

def rightB (cost : List Int) (rs : List RowV) : Bool := smallB cost rs && ((checkK (linOf cost rs) rs.length).length == 0)
theorem small_ok {cost : List Int} {rs : List RowV} (h : smallB cost rs = true) : cost.length ≤ 12 ∧ rs.length ≤ 12 := by
  unfold smallB at h; simp only [Bool.and_eq_true, decide_eq_true_eq] at h; exact h.1
theorem right_ok {cost : List Int} {rs : List RowV} (h : rightB cost rs = true) (hf : ∀ n ∈ cost, fits n) (ho : ∀ r ∈ rs, r.ok) : cost.length ≤ 12 ∧ rs.length ≤ 12 ∧ (∀ r ∈ rs, r.L.coef.length = cost.length) ∧ wfL (linOf cost rs) := by
  unfold rightB at h
  rw [Bool.and_eq_true] at h
  have h1 := small_ok h.1
  have h2 : checkK (linOf cost rs) rs.length = [] := by simpa using h.2
  have h3 := check_ok (p := linOf cost rs) (by rw [lin_rows]; exact h2)
  have h4 : ∀ r ∈ rs, r.L.coef.length = cost.length := fun r hr => (h3.2.2 r.L (List.mem_map.2 ⟨r, hr, rfl⟩)).1
  refine ⟨h1.1, h1.2, h4, ?_, hf⟩
  intro r hr
  obtain ⟨v, hv, rfl⟩ := List.mem_map.1 hr
  exact ⟨h4 v hv, (ho v hv).2.2.2.2⟩
set_option maxHeartbeats 2000000 in
set_option maxRecDepth 100000 in
theorem lright_any (cost : List Int) (rs : List RowV) (A : Option Addr) (ca : Nat) (R : Option Addr) (cr : Nat) (w : World) (hp : LinAt w cost rs A ca R cr) :
    Calls Tryz.prog 13 #[linV A cost.length ca R rs.length cr] w fun e w' => e = .returned (.bool (rightB cost rs)) ∧ Below w.heap.size w w' := by
  have b0 := new_below w (linO A cost.length ca R rs.length cr)
  have HP := Lib.hid hp
  have HS := Lib.hid (fun (w : World) (hp : LinAt w cost rs A ca R cr) => small_any cost rs A ca R cr w hp)
  have HBW := Lib.hid (fun wr (h : Below (w.alloc (linO A cost.length ca R rs.length cr)).heap.size (w.alloc (linO A cost.length ca R rs.length cr)) wr) => b0.trans (h.mono b0.size))
  clear hp
  cases hs : smallB cost rs
  · rw [hs] at HS
    have HV := Lib.hid (show rightB cost rs = false by unfold rightB; rw [hs]; rfl)
    clear hs
    go_enter Tryz.func13, Tryz.ntmps13
    go_wp2_with fail
    refine (HS.out _ (HP.out.below b0)).mono ?_
    rintro e w1 ⟨rfl, hb1⟩
    go_wp2_with fail
    go_ret
    exact ⟨ret_bool HV.out.symm, HBW.out _ hb1⟩
  · rw [hs] at HS
    have hm : rs.length ≤ 1000000 := by have := small_ok hs; omega
    have HR := Lib.hid (fun (w : World) (hp : LinAt w cost rs A ca R cr) => rlcheck_any cost rs A ca R cr w hm hp)
    have HV := Lib.hid (show rightB cost rs = ((checkK (linOf cost rs) rs.length).length == 0) by unfold rightB; rw [hs]; rfl)
    generalize checkK (linOf cost rs) rs.length = l at *
    have HV2 := Lib.hid (show (l.length == 0) = (((l.length : Nat) : Int) == 0) by cases l <;> simp <;> omega)
    clear hs
    go_enter Tryz.func13, Tryz.ntmps13
    go_wp2_with fail
    refine (HS.out _ (HP.out.below b0)).mono ?_
    rintro e w1 ⟨rfl, hb1⟩
    have a1 := HBW.out _ hb1
    obtain ⟨d0, d1, d2⟩ := lin_cells hb1
    go_wp2_with fail
    refine (HR.out w1 (HP.out.below a1)).mono ?_
    rintro e w2 ⟨⟨v, rfl, F, c, rfl, _⟩, hb2⟩
    go_wp2_with fail
    go_ret
    exact ⟨ret_bool (by rw [HV.out, HV2.out]), a1.trans (hb2.mono a1.size)⟩

set_option maxHeartbeats 4000000 in
set_option maxRecDepth 100000 in
theorem linearWeak_walk (cost : List Int) (rs : List RowV) (A : Option Addr) (ca : Nat) (R : Option Addr) (cr : Nat) (xs : List Str) (X : Option Addr) (cx : Nat) (ds : List Str) (D : Option Addr) (cd : Nat) (w : World) (hp : LinAt w cost rs A ca R cr)
    (hX : Cells w X (strs xs)) (hx : xs.length ≤ cx) (hcx : cx ≤ maxLen) (hlx : ∀ x ∈ xs, x.length ≤ maxLen) (hD : Cells w D (strs ds)) (hd : ds.length ≤ cd) (hcd : cd ≤ maxLen) (hld : ∀ x ∈ ds, x.length ≤ maxLen) (he : Env w) :
    Calls Tryz.prog 7 #[linV A cost.length ca R rs.length cr, .slice X xs.length cx, .slice D ds.length cd] w fun e w' => e = .returned (.bool true) ∧ Below w.heap.size w w' := by
  have b0 := new_below w (linO A cost.length ca R rs.length cr)
  have HP := Lib.hid hp
  have HX := Lib.hid hX
  have HD := Lib.hid hD
  have HR := Lib.hid (fun (w : World) (hp : LinAt w cost rs A ca R cr) => lright_any cost rs A ca R cr w hp)
  have HA := Lib.hid (fun (w : World) (he : Env w) => lawake_any w he)
  have H1 := Lib.hid (fun (w : World) (hX : Cells w X (strs xs)) => shortl_any xs X cx w hX ⟨hx, hcx⟩ hlx)
  have H2 := Lib.hid (fun (w : World) (hD : Cells w D (strs ds)) => shortl_any ds D cd w hD ⟨hd, hcd⟩ hld)
  have HBW := Lib.hid (fun wr (h : Below (w.alloc (linO A cost.length ca R rs.length cr)).heap.size (w.alloc (linO A cost.length ca R rs.length cr)) wr) => b0.trans (h.mono b0.size))
  clear hp hX hD hlx hld
  cases hr : rightB cost rs
  · rw [hr] at HR
    clear hr
    have c0 : Below (w.alloc (linO A cost.length ca R rs.length cr)).heap.size (w.alloc (linO A cost.length ca R rs.length cr)) (w.alloc (linO A cost.length ca R rs.length cr)) := Below.refl _ _
    have a0 := HBW.out _ c0
    go_enter Tryz.func7, Tryz.ntmps7
    go_wp2_with fail
    refine (HR.out _ (HP.out.below a0)).mono ?_
    rintro e w1 ⟨rfl, hb⟩
    have c1 := c0.trans (hb.mono c0.size)
    have a1 := HBW.out _ c1
    clear hb
    obtain ⟨d0, d1, d2⟩ := lin_cells c1
    go_wp2_with fail
    refine (HA.out _ (he.below a1)).mono ?_
    rintro e w2 ⟨rfl, hb⟩
    have c2 := c1.trans (hb.mono c1.size)
    have a2 := HBW.out _ c2
    clear d0 d1 d2
    clear hb
    obtain ⟨d0, d1, d2⟩ := lin_cells c2
    go_wp2_with fail
    go_ret
    exact ⟨rfl, a2⟩
  have hok := right_ok hr HP.out.fit HP.out.ok
  rw [hr] at HR
  clear hr
  cases h1 : shortB xs
  · rw [h1] at H1
    clear h1 hok
    have c0 : Below (w.alloc (linO A cost.length ca R rs.length cr)).heap.size (w.alloc (linO A cost.length ca R rs.length cr)) (w.alloc (linO A cost.length ca R rs.length cr)) := Below.refl _ _
    have a0 := HBW.out _ c0
    go_enter Tryz.func7, Tryz.ntmps7
    go_wp2_with fail
    refine (HR.out _ (HP.out.below a0)).mono ?_
    rintro e w1 ⟨rfl, hb⟩
    have c1 := c0.trans (hb.mono c0.size)
    have a1 := HBW.out _ c1
    clear hb
    obtain ⟨d0, d1, d2⟩ := lin_cells c1
    go_wp2_with fail
    refine (H1.out _ (HX.out.below a1)).mono ?_
    rintro e w' ⟨rfl, h⟩; obtain rfl := h.symm
    go_wp2_with fail
    refine (HA.out _ (he.below a1)).mono ?_
    rintro e w2 ⟨rfl, hb⟩
    have c2 := c1.trans (hb.mono c1.size)
    have a2 := HBW.out _ c2
    clear d0 d1 d2
    clear hb
    obtain ⟨d0, d1, d2⟩ := lin_cells c2
    go_wp2_with fail
    go_ret
    exact ⟨rfl, a2⟩
  have hs1 := short_ok h1
  rw [h1] at H1
  clear h1
  cases h2 : shortB ds
  · rw [h2] at H2
    clear h2 hok hs1
    have c0 : Below (w.alloc (linO A cost.length ca R rs.length cr)).heap.size (w.alloc (linO A cost.length ca R rs.length cr)) (w.alloc (linO A cost.length ca R rs.length cr)) := Below.refl _ _
    have a0 := HBW.out _ c0
    go_enter Tryz.func7, Tryz.ntmps7
    go_wp2_with fail
    refine (HR.out _ (HP.out.below a0)).mono ?_
    rintro e w1 ⟨rfl, hb⟩
    have c1 := c0.trans (hb.mono c0.size)
    have a1 := HBW.out _ c1
    clear hb
    obtain ⟨d0, d1, d2⟩ := lin_cells c1
    go_wp2_with fail
    refine (H1.out _ (HX.out.below a1)).mono ?_
    rintro e w' ⟨rfl, h⟩; obtain rfl := h.symm
    go_wp2_with fail
    refine (H2.out _ (HD.out.below a1)).mono ?_
    rintro e w' ⟨rfl, h⟩; obtain rfl := h.symm
    go_wp2_with fail
    refine (HA.out _ (he.below a1)).mono ?_
    rintro e w2 ⟨rfl, hb⟩
    have c2 := c1.trans (hb.mono c1.size)
    have a2 := HBW.out _ c2
    clear d0 d1 d2
    clear hb
    obtain ⟨d0, d1, d2⟩ := lin_cells c2
    go_wp2_with fail
    go_ret
    exact ⟨rfl, a2⟩
  have hs2 := short_ok h2
  rw [h2] at H2
  clear h2
  have RX := Lib.hid (show RatsAt w xs X cx from ⟨HX.out, fun x h => by have := hs1.2 x h; omega, ⟨hx, hcx⟩⟩)
  have RD := Lib.hid (show RatsAt w ds D cd from ⟨HD.out, fun x h => by have := hs2.2 x h; omega, ⟨hd, hcd⟩⟩)
  have HF := Lib.hid (fun (w : World) (hp : LinAt w cost rs A ca R cr) (hx : RatsAt w xs X cx) (he : Env w) => lfits_any cost rs A ca R cr xs X cx w hp hx he)
  have HPR := Lib.hid (fun (w : World) (hp : LinAt w cost rs A ca R cr) (hx : RatsAt w ds D cd) (he : Env w) => lproves_any cost rs A ca R cr ds D cd w (by omega) hok.2.2.1 hp hx he)
  have HRF := Lib.hid (fun (w : World) (hp : LinAt w cost rs A ca R cr) (hx : RatsAt w ds D cd) (he : Env w) => lrefutes_any cost rs A ca R cr ds D cd w (by omega) hok.2.2.1 hp hx he)
  have HVL := Lib.hid (fun (w : World) (hp : LinAt w cost rs A ca R cr) (hx : RatsAt w xs X cx) (he : Env w) => lval_any cost rs A ca R cr xs X cx w hp hx he)
  cases hf : fitsB (linOf cost rs) xs
  · rw [hf] at HF
    clear hf hok hs1 hs2
    have c0 : Below (w.alloc (linO A cost.length ca R rs.length cr)).heap.size (w.alloc (linO A cost.length ca R rs.length cr)) (w.alloc (linO A cost.length ca R rs.length cr)) := Below.refl _ _
    have a0 := HBW.out _ c0
    go_enter Tryz.func7, Tryz.ntmps7
    go_wp2_with fail
    refine (HR.out _ (HP.out.below a0)).mono ?_
    rintro e w1 ⟨rfl, hb⟩
    have c1 := c0.trans (hb.mono c0.size)
    have a1 := HBW.out _ c1
    clear hb
    obtain ⟨d0, d1, d2⟩ := lin_cells c1
    go_wp2_with fail
    refine (H1.out _ (HX.out.below a1)).mono ?_
    rintro e w' ⟨rfl, h⟩; obtain rfl := h.symm
    go_wp2_with fail
    refine (H2.out _ (HD.out.below a1)).mono ?_
    rintro e w' ⟨rfl, h⟩; obtain rfl := h.symm
    go_wp2_with fail
    refine (HF.out _ (HP.out.below a1) (RX.out.below a1) (he.below a1)).mono ?_
    rintro e w2 ⟨rfl, hb⟩
    have c2 := c1.trans (hb.mono c1.size)
    have a2 := HBW.out _ c2
    clear d0 d1 d2
    clear hb
    obtain ⟨d0, d1, d2⟩ := lin_cells c2
    go_wp2_with fail
    refine (HA.out _ (he.below a2)).mono ?_
    rintro e w3 ⟨rfl, hb⟩
    have c3 := c2.trans (hb.mono c2.size)
    have a3 := HBW.out _ c3
    clear d0 d1 d2
    clear hb
    obtain ⟨d0, d1, d2⟩ := lin_cells c3
    go_wp2_with fail
    go_ret
    exact ⟨rfl, a3⟩
  have hw1 := weak_refutes hok.2.2.2 hf (ds := ds)
  have hw2 := weak_proves hok.2.2.2 hf (ds := ds)
  rw [hf] at HF
  rw [hw1] at HRF
  have hl1 := times_len cost xs
  have hl2 : (provesS (linOf cost rs) ds).length ≤ 8194 := by unfold provesS; split <;> simp [times_len]
  have HCM := Lib.hid (fun (w : World) => rqcmp_any (timesQ cost xs).1 (provesS (linOf cost rs) ds) w (by omega) (by omega))
  have hw3 : provesB (linOf cost rs) ds = true → (timesQ cost xs).2 = 0 → ¬ cmpQ (timesQ cost xs).1 (provesS (linOf cost rs) ds) < 0 := fun h1 h2 => hw2 h1 h2
  clear hw1 hw2 hf hok hs1 hs2 hl1 hl2
  generalize provesS (linOf cost rs) ds = ps at *
  generalize timesQ cost xs = v at *
  obtain ⟨v1, v2⟩ := v
  cases hpb : provesB (linOf cost rs) ds
  · rw [hpb] at HPR
    clear hpb hw3
    have c0 : Below (w.alloc (linO A cost.length ca R rs.length cr)).heap.size (w.alloc (linO A cost.length ca R rs.length cr)) (w.alloc (linO A cost.length ca R rs.length cr)) := Below.refl _ _
    have a0 := HBW.out _ c0
    go_enter Tryz.func7, Tryz.ntmps7
    go_wp2_with fail
    refine (HR.out _ (HP.out.below a0)).mono ?_
    rintro e w1 ⟨rfl, hb⟩
    have c1 := c0.trans (hb.mono c0.size)
    have a1 := HBW.out _ c1
    clear hb
    obtain ⟨d0, d1, d2⟩ := lin_cells c1
    go_wp2_with fail
    refine (H1.out _ (HX.out.below a1)).mono ?_
    rintro e w' ⟨rfl, h⟩; obtain rfl := h.symm
    go_wp2_with fail
    refine (H2.out _ (HD.out.below a1)).mono ?_
    rintro e w' ⟨rfl, h⟩; obtain rfl := h.symm
    go_wp2_with fail
    refine (HF.out _ (HP.out.below a1) (RX.out.below a1) (he.below a1)).mono ?_
    rintro e w2 ⟨rfl, hb⟩
    have c2 := c1.trans (hb.mono c1.size)
    have a2 := HBW.out _ c2
    clear d0 d1 d2
    clear hb
    obtain ⟨d0, d1, d2⟩ := lin_cells c2
    go_wp2_with fail
    refine (HPR.out _ (HP.out.below a2) (RD.out.below a2) (he.below a2)).mono ?_
    rintro e w3 ⟨rfl, hb⟩
    have c3 := c2.trans (hb.mono c2.size)
    have a3 := HBW.out _ c3
    clear d0 d1 d2
    clear hb
    obtain ⟨d0, d1, d2⟩ := lin_cells c3
    go_wp2_with fail
    refine (HVL.out _ (HP.out.below a3) (RX.out.below a3) (he.below a3)).mono ?_
    rintro e w4 ⟨rfl, hb⟩
    have c4 := c3.trans (hb.mono c3.size)
    have a4 := HBW.out _ c4
    clear d0 d1 d2
    clear hb
    obtain ⟨d0, d1, d2⟩ := lin_cells c4
    go_wp2_with fail
    refine (HRF.out _ (HP.out.below a4) (RD.out.below a4) (he.below a4)).mono ?_
    rintro e w5 ⟨rfl, hb⟩
    have c5 := c4.trans (hb.mono c4.size)
    have a5 := HBW.out _ c5
    clear d0 d1 d2
    clear hb
    obtain ⟨d0, d1, d2⟩ := lin_cells c5
    go_wp2_with fail
    refine (HA.out _ (he.below a5)).mono ?_
    rintro e w6 ⟨rfl, hb⟩
    have c6 := c5.trans (hb.mono c5.size)
    have a6 := HBW.out _ c6
    clear d0 d1 d2
    clear hb
    obtain ⟨d0, d1, d2⟩ := lin_cells c6
    go_wp2_with fail
    go_ret
    exact ⟨rfl, a6⟩
  rw [hpb] at HPR
  by_cases hv : v2 = 0
  · subst hv
    have hc := hw3 hpb rfl
    generalize cmpQ v1 ps = cc at *
    have hc2 : ¬ cc < 0 := hc
    clear hw3 hpb hc
    have c0 : Below (w.alloc (linO A cost.length ca R rs.length cr)).heap.size (w.alloc (linO A cost.length ca R rs.length cr)) (w.alloc (linO A cost.length ca R rs.length cr)) := Below.refl _ _
    have a0 := HBW.out _ c0
    go_enter Tryz.func7, Tryz.ntmps7
    go_wp2_with fail
    refine (HR.out _ (HP.out.below a0)).mono ?_
    rintro e w1 ⟨rfl, hb⟩
    have c1 := c0.trans (hb.mono c0.size)
    have a1 := HBW.out _ c1
    clear hb
    obtain ⟨d0, d1, d2⟩ := lin_cells c1
    go_wp2_with fail
    refine (H1.out _ (HX.out.below a1)).mono ?_
    rintro e w' ⟨rfl, h⟩; obtain rfl := h.symm
    go_wp2_with fail
    refine (H2.out _ (HD.out.below a1)).mono ?_
    rintro e w' ⟨rfl, h⟩; obtain rfl := h.symm
    go_wp2_with fail
    refine (HF.out _ (HP.out.below a1) (RX.out.below a1) (he.below a1)).mono ?_
    rintro e w2 ⟨rfl, hb⟩
    have c2 := c1.trans (hb.mono c1.size)
    have a2 := HBW.out _ c2
    clear d0 d1 d2
    clear hb
    obtain ⟨d0, d1, d2⟩ := lin_cells c2
    go_wp2_with fail
    refine (HPR.out _ (HP.out.below a2) (RD.out.below a2) (he.below a2)).mono ?_
    rintro e w3 ⟨rfl, hb⟩
    have c3 := c2.trans (hb.mono c2.size)
    have a3 := HBW.out _ c3
    clear d0 d1 d2
    clear hb
    obtain ⟨d0, d1, d2⟩ := lin_cells c3
    go_wp2_with fail
    refine (HVL.out _ (HP.out.below a3) (RX.out.below a3) (he.below a3)).mono ?_
    rintro e w4 ⟨rfl, hb⟩
    have c4 := c3.trans (hb.mono c3.size)
    have a4 := HBW.out _ c4
    clear d0 d1 d2
    clear hb
    obtain ⟨d0, d1, d2⟩ := lin_cells c4
    go_wp2_with fail
    refine (HRF.out _ (HP.out.below a4) (RD.out.below a4) (he.below a4)).mono ?_
    rintro e w5 ⟨rfl, hb⟩
    have c5 := c4.trans (hb.mono c4.size)
    have a5 := HBW.out _ c5
    clear d0 d1 d2
    clear hb
    obtain ⟨d0, d1, d2⟩ := lin_cells c5
    go_wp2_with fail
    refine (HCM.out _).mono ?_
    rintro e w6 ⟨rfl, hb⟩
    have c6 := c5.trans (hb.mono c5.size)
    have a6 := HBW.out _ c6
    clear d0 d1 d2
    clear hb
    obtain ⟨d0, d1, d2⟩ := lin_cells c6
    go_wp2_with fail
    refine (HA.out _ (he.below a6)).mono ?_
    rintro e w7 ⟨rfl, hb⟩
    have c7 := c6.trans (hb.mono c6.size)
    have a7 := HBW.out _ c7
    clear d0 d1 d2
    clear hb
    obtain ⟨d0, d1, d2⟩ := lin_cells c7
    go_wp2_with fail
    go_ret
    exact ⟨rfl, a7⟩
  · have hv1 : (v2 == 0) = false := by simpa using hv
    clear hv hw3 hpb
    have c0 : Below (w.alloc (linO A cost.length ca R rs.length cr)).heap.size (w.alloc (linO A cost.length ca R rs.length cr)) (w.alloc (linO A cost.length ca R rs.length cr)) := Below.refl _ _
    have a0 := HBW.out _ c0
    go_enter Tryz.func7, Tryz.ntmps7
    go_wp2_with fail
    refine (HR.out _ (HP.out.below a0)).mono ?_
    rintro e w1 ⟨rfl, hb⟩
    have c1 := c0.trans (hb.mono c0.size)
    have a1 := HBW.out _ c1
    clear hb
    obtain ⟨d0, d1, d2⟩ := lin_cells c1
    go_wp2_with fail
    refine (H1.out _ (HX.out.below a1)).mono ?_
    rintro e w' ⟨rfl, h⟩; obtain rfl := h.symm
    go_wp2_with fail
    refine (H2.out _ (HD.out.below a1)).mono ?_
    rintro e w' ⟨rfl, h⟩; obtain rfl := h.symm
    go_wp2_with fail
    refine (HF.out _ (HP.out.below a1) (RX.out.below a1) (he.below a1)).mono ?_
    rintro e w2 ⟨rfl, hb⟩
    have c2 := c1.trans (hb.mono c1.size)
    have a2 := HBW.out _ c2
    clear d0 d1 d2
    clear hb
    obtain ⟨d0, d1, d2⟩ := lin_cells c2
    go_wp2_with fail
    refine (HPR.out _ (HP.out.below a2) (RD.out.below a2) (he.below a2)).mono ?_
    rintro e w3 ⟨rfl, hb⟩
    have c3 := c2.trans (hb.mono c2.size)
    have a3 := HBW.out _ c3
    clear d0 d1 d2
    clear hb
    obtain ⟨d0, d1, d2⟩ := lin_cells c3
    go_wp2_with fail
    refine (HVL.out _ (HP.out.below a3) (RX.out.below a3) (he.below a3)).mono ?_
    rintro e w4 ⟨rfl, hb⟩
    have c4 := c3.trans (hb.mono c3.size)
    have a4 := HBW.out _ c4
    clear d0 d1 d2
    clear hb
    obtain ⟨d0, d1, d2⟩ := lin_cells c4
    go_wp2_with fail
    refine (HRF.out _ (HP.out.below a4) (RD.out.below a4) (he.below a4)).mono ?_
    rintro e w5 ⟨rfl, hb⟩
    have c5 := c4.trans (hb.mono c4.size)
    have a5 := HBW.out _ c5
    clear d0 d1 d2
    clear hb
    obtain ⟨d0, d1, d2⟩ := lin_cells c5
    go_wp2_with fail
    refine (HA.out _ (he.below a5)).mono ?_
    rintro e w6 ⟨rfl, hb⟩
    have c6 := c5.trans (hb.mono c5.size)
    have a6 := HBW.out _ c6
    clear d0 d1 d2
    clear hb
    obtain ⟨d0, d1, d2⟩ := lin_cells c6
    go_wp2_with fail
    go_ret
    exact ⟨rfl, a6⟩
end Go.Proofs.YtblihfhbaafdoaaGreatDoor
