/- ratio: lowest, quotient, Make, Parts, Of. -/
import Derived.Test.YtmppmdmekomjbaaGreatDoorRProg
import Derived.Test.YtmppmdmekomjbaaGreatDoorRatL
import Derived.Test.YtmppmdmekomjbaaGreatDoorG12
namespace Go.Proofs.YtmppmdmekomjbaaGreatDoor
open Go.RowKit Num
set_option linter.unusedVariables false
attribute [local go_sem] B_size B_get B_toList B_mk B_extract B_append
attribute [local go_sem high] run_max2

/-- Div of an integer by a positive number -/
theorem pdivq_any (x : Int) (g : Nat) (w : World) (hx : dl x ≤ 4096) (hg : (dec g).length ≤ 4096) (h0 : 0 < g) (ht : Tab w) :
    Calls Tryz.prog 144 #[.string (B (decI x)), .string (B (dec g))] w fun e w' => e = .returned (.tuple #[.string (B (decI (x / (g : Int)))), .string (B (decI (x % (g : Int)))), .int .i64 0]) ∧ Below w.heap.size w w' := by
  have hl := dl_len x
  rw [← decI_nat g]
  have he := errI_dec (x := x) (y := (g : Int)) hx (by rw [dl_nat]; exact hg)
  have h := pdiv_any (decI x) (decI (g : Int)) w (by omega) (by rw [decI_nat]; omega) ht
  have hv := divI_ok he (by rw [valI_decI]; omega)
  rw [valI_decI, valI_decI, (qI_pos (show (0 : Int) < g by omega)).1, (qI_pos (show (0 : Int) < g by omega)).2] at hv
  rw [hv.1, hv.2.1, hv.2.2] at h
  exact h
theorem ret_si' {a b : List UInt8} {c d : Int} (h : a = b) (h2 : c = d) : Ending.returned (.tuple #[.string (B a), .int .i64 c]) = .returned (.tuple #[.string (B b), .int .i64 d]) := by rw [h, h2]
set_option maxHeartbeats 1000000 in
theorem qlowest_any (x : Int) (m : Nat) (w : World) (hx : dl x ≤ 4096) (hm : (dec m).length ≤ 4096) (h0 : 0 < m) (ht : Tab w) :
    Calls Tryz.prog 142 #[.string (B (decI x)), .string (B (dec m))] w fun e w' => e = .returned (.tuple #[.string (B (lowS x m)), .int .i64 0]) ∧ Below w.heap.size w w' := by
  have hxa : (dec x.natAbs).length ≤ 4096 := hx
  have hgp : 0 < Nat.gcd x.natAbs m := Nat.gcd_pos_of_pos_right _ h0
  have HM := Lib.hid (mag_decI x)
  have HG := Lib.hid (fun w ht => gcd_any (dec x.natAbs) (dec m) w (maxLen_le (by omega)) (maxLen_le (by omega)) ht)
  have HGD := Lib.hid (gcd_dec (right_dec x.natAbs) (right_dec m) hxa hm (by rw [val_dec]; exact h0))
  rw [val_dec, val_dec] at HGD
  have hgl : (dec (Nat.gcd x.natAbs m)).length ≤ 4096 := Nat.le_trans (length_dec_mono (Nat.gcd_le_right _ h0)) hm
  have HL := Lib.hid (show lowS x m = ratS (x / (Nat.gcd x.natAbs m : Nat)) (m / Nat.gcd x.natAbs m) from rfl)
  have hb : m / Nat.gcd x.natAbs m ≤ m := Nat.div_le_self _ _
  have ha : (x / (Nat.gcd x.natAbs m : Nat)).natAbs ≤ x.natAbs := Int.natAbs_ediv_le_natAbs _ _
  generalize Nat.gcd x.natAbs m = g at *
  have HD1 := Lib.hid (fun w ht => pdivq_any x g w hx hgl hgp ht)
  have HD2 := Lib.hid (fun w ht => pdivq_any (m : Int) g w (by rw [dl_nat]; exact hm) hgl hgp ht)
  rw [show ((m : Int) / (g : Int)) = ((m / g : Nat) : Int) from rfl, decI_nat, decI_nat] at HD2
  have hdb : (dec (m / g)).length ≤ 4096 := Nat.le_trans (length_dec_mono hb) hm
  have hda : (decI (x / (g : Int))).length ≤ 4097 := by
    have h1 := dl_len (x / (g : Int))
    have h2 := dl_mono ha
    omega
  have HDI := Lib.hid (fun w (ht : Tab w) => HD2.out w ht)
  by_cases h1 : m / g = 1
  · have hq1 : (dec (m / g) == [49]) = true := by rw [h1, dec_one]; rfl
    have HR := Lib.hid (show lowS x m = decI (x / (g : Int)) by rw [HL.out]; exact if_pos h1)
    clear h1
    go_enter Tryz.func142, Tryz.ntmps142
    simp only [B_mk]
    go_wp2_with fail
    refine (trimp_any (decI x) w).mono ?_; rw [HM.out]; rintro e w' ⟨rfl, h⟩; obtain rfl := h.symm
    go_wp2_with fail
    refine (HG.out w ht).mono ?_
    rw [HGD.out.1, HGD.out.2]
    rintro e w1 ⟨rfl, hb1⟩
    go_wp2_with fail
    refine (HD1.out w1 (ht.below hb1)).mono ?_
    rintro e w2 ⟨rfl, hb2⟩
    have a2 := hb1.trans (hb2.mono hb1.size)
    go_wp2_with fail
    refine (HDI.out w2 (ht.below a2)).mono ?_
    rintro e w3 ⟨rfl, hb3⟩
    have a3 := a2.trans (hb3.mono a2.size)
    go_wp2_with fail
    go_ret2
    exact ⟨ret_si' HR.out.symm rfl, a3⟩
  · have hq1 : (dec (m / g) == [49]) = false := by
      have : dec (m / g) ≠ [49] := fun e => h1 (dec_eq_one.1 e)
      simpa using this
    have HR := Lib.hid (show lowS x m = decI (x / (g : Int)) ++ 47 :: dec (m / g) by rw [HL.out]; exact if_neg h1)
    clear h1
    go_enter Tryz.func142, Tryz.ntmps142
    simp only [B_mk]
    go_wp2_with fail
    refine (trimp_any (decI x) w).mono ?_; rw [HM.out]; rintro e w' ⟨rfl, h⟩; obtain rfl := h.symm
    go_wp2_with fail
    refine (HG.out w ht).mono ?_
    rw [HGD.out.1, HGD.out.2]
    rintro e w1 ⟨rfl, hb1⟩
    go_wp2_with fail
    refine (HD1.out w1 (ht.below hb1)).mono ?_
    rintro e w2 ⟨rfl, hb2⟩
    have a2 := hb1.trans (hb2.mono hb1.size)
    go_wp2_with fail
    refine (HDI.out w2 (ht.below a2)).mono ?_
    rintro e w3 ⟨rfl, hb3⟩
    have a3 := a2.trans (hb3.mono a2.size)
    go_wp2_with fail
    go_ret2
    exact ⟨ret_si' (by rw [HR.out]) rfl, a3⟩
theorem pnegq_any (x : Int) (w : World) (hx : dl x ≤ 4096) :
    Calls Tryz.prog 193 #[.string (B (decI x))] w fun e w' => e = .returned (.tuple #[.string (B (decI (-x))), .int .i64 0]) ∧ Below w.heap.size w w' := by
  have hl := dl_len x
  have he := errI_dec (x := x) (y := x) hx hx
  have h := pneg_any (decI x) w (by omega)
  have h2 : negIS (decI x) = decI (-x) := by unfold negIS; rw [if_pos he, valI_decI]
  rw [h2, he] at h
  exact h
set_option maxHeartbeats 1000000 in
theorem qquot_any (x y : Int) (w : World) (hx : dl x ≤ 4096) (hy : dl y ≤ 4096) (h0 : y ≠ 0) (ht : Tab w) :
    Calls Tryz.prog 170 #[.string (B (decI x)), .string (B (decI y))] w fun e w' => e = .returned (.tuple #[.string (B (quoS x y)), .int .i64 0]) ∧ Below w.heap.size w w' := by
  have hly := dl_len y
  have hsg : signIS (decI y) = ordI y 0 := by rw [signIS, if_pos (rightI_decI _), valI_decI]
  by_cases hn : y < 0
  · have HS := Lib.hid (show signIS (decI y) = -1 by rw [hsg]; unfold ordI; rw [if_pos hn])
    have HQ := Lib.hid (show quoS x y = lowS (-x) y.natAbs from if_pos hn)
    have HN := Lib.hid (show decI (-y) = dec y.natAbs by rw [show -y = ((y.natAbs : Nat) : Int) by omega, decI_nat])
    have HL := Lib.hid (fun w ht => qlowest_any (-x) y.natAbs w (by rw [dl_neg]; exact hx) hy (by omega) ht)
    clear hsg hn h0
    go_enter Tryz.func170, Tryz.ntmps170
    go_wp2_with fail
    refine (psign_any (decI y) w (maxLen_le (by omega))).mono ?_; rw [HS.out]; rintro e w' ⟨rfl, h⟩; obtain rfl := h.symm
    go_wp2_with fail
    refine (pnegq_any x w hx).mono ?_
    rintro e w1 ⟨rfl, hb1⟩
    go_wp2_with fail
    refine (pnegq_any y w1 hy).mono ?_
    rw [HN.out]
    rintro e w2 ⟨rfl, hb2⟩
    have a2 := hb1.trans (hb2.mono hb1.size)
    go_wp2_with fail
    refine (HL.out w2 (ht.below a2)).mono ?_
    rintro e w3 ⟨rfl, hb3⟩
    go_wp2_with fail
    go_ret2
    exact ⟨ret_si' HQ.out.symm rfl, a2.trans (hb3.mono a2.size)⟩
  · have HS := Lib.hid (show signIS (decI y) = 1 by rw [hsg]; unfold ordI; rw [if_neg hn, if_pos (by omega)])
    have HQ := Lib.hid (show quoS x y = lowS x y.natAbs from if_neg hn)
    have HN := Lib.hid (show decI y = dec y.natAbs by conv => lhs; rw [show y = ((y.natAbs : Nat) : Int) by omega]; rw [decI_nat])
    have HL := Lib.hid (fun w ht => qlowest_any x y.natAbs w hx hy (by omega) ht)
    clear hsg hn h0
    go_enter Tryz.func170, Tryz.ntmps170
    go_wp2_with fail
    refine (psign_any (decI y) w (maxLen_le (by omega))).mono ?_; rw [HS.out]; rintro e w' ⟨rfl, h⟩; obtain rfl := h.symm
    go_wp2_with fail
    rw [HN.out]
    refine (HL.out w ht).mono ?_
    rintro e w3 ⟨rfl, hb3⟩
    go_wp2_with fail
    go_ret2
    exact ⟨ret_si' HQ.out.symm rfl, hb3⟩
end Go.Proofs.YtmppmdmekomjbaaGreatDoor
