/- The reference of ratio: reduced, Make, Parts. (Printed by wip/rref2.py.) -/
import Derived.Test.YtmppmdmekomjbaaGreatDoorRRef
import Derived.Test.YtmppmdmekomjbaaGreatDoorRProg2
namespace Go.Proofs.YtmppmdmekomjbaaGreatDoor
open Go.RowKit Num
set_option linter.unusedVariables false
attribute [local go_sem] B_size B_get B_toList B_mk B_extract B_append
attribute [local go_sem high] run_max2

theorem wrdivq_any (x : Int) (g : Nat) (w : World) (hx : dl x ≤ 4096) (hg : (dec g).length ≤ 4096) (h0 : 0 < g) :
    Calls Tryz.prog 98 #[.string (B (decI x)), .string (B (dec g))] w fun e w' => e = .returned (.tuple #[.string (B (decI (x / (g : Int)))), .string (B (decI (x % (g : Int)))), .int .i64 0]) ∧ Below w.heap.size w w' := by
  have hl := dl_len x
  rw [← decI_nat g]
  have he := errI_dec (x := x) (y := (g : Int)) hx (by rw [dl_nat]; exact hg)
  have h := wrdiv_any (decI x) (decI (g : Int)) w (by omega) (by rw [decI_nat]; omega)
  have hv := divI_ok he (by rw [valI_decI]; omega)
  rw [valI_decI, valI_decI, (qI_pos (show (0 : Int) < g by omega)).1, (qI_pos (show (0 : Int) < g by omega)).2] at hv
  rw [hv.1, hv.2.1, hv.2.2] at h
  exact h
theorem wrnegq_any (x : Int) (w : World) (hx : dl x ≤ 4096) :
    Calls Tryz.prog 135 #[.string (B (decI x))] w fun e w' => e = .returned (.tuple #[.string (B (decI (-x))), .int .i64 0]) ∧ Below w.heap.size w w' := by
  have hl := dl_len x
  have he := errI_dec (x := x) (y := x) hx hx
  have h := wrneg_any (decI x) w (by omega)
  have h2 : negIS (decI x) = decI (-x) := by unfold negIS; rw [if_pos he, valI_decI]
  rw [h2, he] at h
  exact h
theorem wrabsq_any (x : Int) (w : World) (hx : dl x ≤ 4096) :
    Calls Tryz.prog 77 #[.string (B (decI x))] w fun e w' => e = .returned (.tuple #[.string (B (dec x.natAbs)), .int .i64 0]) ∧ Below w.heap.size w w' := by
  have hl := dl_len x
  have he := errI_dec (x := x) (y := x) hx hx
  have h := wrabs_any (decI x) w (by omega)
  have h2 : absIS (decI x) = dec x.natAbs := by unfold absIS; rw [if_pos he, valI_decI, decI_nat]
  rw [h2, he] at h
  exact h

set_option maxHeartbeats 2000000 in
set_option maxRecDepth 100000 in
theorem rreduced_any (x y : Int) (w : World) (hx : dl x ≤ 4096) (hy : dl y ≤ 4096) (h0 : y ≠ 0) :
    Calls Tryz.prog 101 #[.string (B (decI x)), .string (B (decI y))] w fun e w' => e = .returned (.string (B (quoS x y))) ∧ Below w.heap.size w w' := by
  have hly := dl_len y
  have hsg : signIS (decI y) = ordI y 0 := by rw [signIS, if_pos (rightI_decI _), valI_decI]
  -- what stands behind the signs
  have core : ∀ (z : Int) (m : Nat), dl z ≤ 4096 → (dec m).length ≤ 4096 → 0 < m →
      ∃ g : Nat, (∀ w : World, Calls Tryz.prog 78 #[.string (B (dec z.natAbs)), .string (B (dec m))] w fun e w' => e = .returned (.tuple #[.string (B (dec g)), .int .i64 0]) ∧ w' = w) ∧
        (∀ w : World, Calls Tryz.prog 98 #[.string (B (decI z)), .string (B (dec g))] w fun e w' => e = .returned (.tuple #[.string (B (decI (z / (g : Int)))), .string (B (decI (z % (g : Int)))), .int .i64 0]) ∧ Below w.heap.size w w') ∧
        (∀ w : World, Calls Tryz.prog 98 #[.string (B (dec m)), .string (B (dec g))] w fun e w' => e = .returned (.tuple #[.string (B (dec (m / g))), .string (B (decI (((m : Int) % (g : Int))))), .int .i64 0]) ∧ Below w.heap.size w w') ∧
        lowS z m = ratS (z / (g : Int)) (m / g) ∧ (decI (z / (g : Int))).length ≤ 4097 ∧ (dec (m / g)).length ≤ 4096 := by
    intro z m hz hm hm0
    have hgp : 0 < Nat.gcd z.natAbs m := Nat.gcd_pos_of_pos_right _ hm0
    have hza : (dec z.natAbs).length ≤ 4096 := hz
    have HGD := gcd_dec (right_dec z.natAbs) (right_dec m) hza hm (by rw [val_dec]; exact hm0)
    rw [val_dec, val_dec] at HGD
    have hgl : (dec (Nat.gcd z.natAbs m)).length ≤ 4096 := Nat.le_trans (length_dec_mono (Nat.gcd_le_right _ hm0)) hm
    refine ⟨Nat.gcd z.natAbs m, fun w => ?_, fun w => wrdivq_any z _ w hz hgl hgp, fun w => ?_, rfl, ?_, Nat.le_trans (length_dec_mono (Nat.div_le_self _ _)) hm⟩
    · have h := rgcd_any (dec z.natAbs) (dec m) w (maxLen_le (by omega)) (maxLen_le (by omega))
      rw [HGD.1, HGD.2] at h; exact h
    · have h := wrdivq_any (m : Int) (Nat.gcd z.natAbs m) w (by rw [dl_nat]; exact hm) hgl hgp
      rw [show ((m : Int) / (Nat.gcd z.natAbs m : Nat)) = ((m / Nat.gcd z.natAbs m : Nat) : Int) from rfl, decI_nat, decI_nat] at h
      exact h
    · have h1 := dl_len (z / (Nat.gcd z.natAbs m : Nat))
      have h2 : dl (z / (Nat.gcd z.natAbs m : Nat)) ≤ dl z := dl_mono (Int.natAbs_ediv_le_natAbs _ _)
      omega
  by_cases hn : y < 0
  · have HS := Lib.hid (show signIS (decI y) = -1 by rw [hsg]; unfold ordI; rw [if_pos hn])
    have HQ := Lib.hid (show quoS x y = lowS (-x) y.natAbs from if_pos hn)
    have HN := Lib.hid (show decI (-y) = dec y.natAbs by rw [show -y = ((y.natAbs : Nat) : Int) by omega, decI_nat])
    obtain ⟨g, hG, hD1, hD2, hL, hl1, hl2⟩ := core (-x) y.natAbs (by rw [dl_neg]; exact hx) hy (by omega)
    simp only [Int.natAbs_neg] at hG
    have HG := Lib.hid hG
    have HD1 := Lib.hid hD1
    have HD2 := Lib.hid hD2
    have HL := Lib.hid hL
    clear hG hD1 hD2 hL hsg hn h0 core
    by_cases h1 : y.natAbs / g = 1
    · have hq1 : (dec (y.natAbs / g) == [49]) = true := by rw [h1, dec_one]; rfl
      have HR := Lib.hid (show lowS (-x) y.natAbs = decI ((-x) / (g : Int)) by rw [HL.out]; exact if_pos h1)
      clear h1
      go_enter Tryz.func101, Tryz.ntmps101
      simp only [B_mk]
      go_wp2_with fail
      refine (wrsign_any (decI y) w (by omega)).mono ?_; rw [HS.out]; rintro e w' ⟨rfl, h⟩; obtain rfl := h.symm
      go_wp2_with fail
      refine (wrnegq_any x w hx).mono ?_
      rintro e w1 ⟨rfl, hb1⟩
      go_wp2_with fail
      refine (wrnegq_any y w1 hy).mono ?_
      rw [HN.out]
      rintro e w2 ⟨rfl, hb2⟩
      have a2 := hb1.trans (hb2.mono hb1.size)
      go_wp2_with fail
      refine (wrabsq_any (-x) w2 (by rw [dl_neg]; exact hx)).mono ?_
      rintro e w3 ⟨rfl, hb3⟩
      have a3 := a2.trans (hb3.mono a2.size)
      go_wp2_with fail
      refine (HG.out w3).mono ?_; rintro e w' ⟨rfl, h⟩; obtain rfl := h.symm
      go_wp2_with fail
      refine (HD1.out w3).mono ?_
      rintro e w4 ⟨rfl, hb4⟩
      have a4 := a3.trans (hb4.mono a3.size)
      go_wp2_with fail
      refine (HD2.out w4).mono ?_
      rintro e w5 ⟨rfl, hb5⟩
      have a5 := a4.trans (hb5.mono a4.size)
      go_wp2_with fail
      go_ret
      exact ⟨ret_str (by rw [HQ.out, HR.out]), a5⟩
    · have hq1 : (dec (y.natAbs / g) == [49]) = false := by
        have : dec (y.natAbs / g) ≠ [49] := fun e => h1 (dec_eq_one.1 e)
        simpa using this
      have HR := Lib.hid (show lowS (-x) y.natAbs = decI ((-x) / (g : Int)) ++ 47 :: dec (y.natAbs / g) by rw [HL.out]; exact if_neg h1)
      clear h1
      go_enter Tryz.func101, Tryz.ntmps101
      simp only [B_mk]
      go_wp2_with fail
      refine (wrsign_any (decI y) w (by omega)).mono ?_; rw [HS.out]; rintro e w' ⟨rfl, h⟩; obtain rfl := h.symm
      go_wp2_with fail
      refine (wrnegq_any x w hx).mono ?_
      rintro e w1 ⟨rfl, hb1⟩
      go_wp2_with fail
      refine (wrnegq_any y w1 hy).mono ?_
      rw [HN.out]
      rintro e w2 ⟨rfl, hb2⟩
      have a2 := hb1.trans (hb2.mono hb1.size)
      go_wp2_with fail
      refine (wrabsq_any (-x) w2 (by rw [dl_neg]; exact hx)).mono ?_
      rintro e w3 ⟨rfl, hb3⟩
      have a3 := a2.trans (hb3.mono a2.size)
      go_wp2_with fail
      refine (HG.out w3).mono ?_; rintro e w' ⟨rfl, h⟩; obtain rfl := h.symm
      go_wp2_with fail
      refine (HD1.out w3).mono ?_
      rintro e w4 ⟨rfl, hb4⟩
      have a4 := a3.trans (hb4.mono a3.size)
      go_wp2_with fail
      refine (HD2.out w4).mono ?_
      rintro e w5 ⟨rfl, hb5⟩
      have a5 := a4.trans (hb5.mono a4.size)
      go_wp2_with fail
      go_ret
      exact ⟨ret_str (by rw [HQ.out, HR.out]), a5⟩
  · have HS := Lib.hid (show signIS (dec y.natAbs) = 1 by rw [← decI_nat, show ((y.natAbs : Nat) : Int) = y by omega, hsg]; unfold ordI; rw [if_neg hn, if_pos (by omega)])
    have HQ := Lib.hid (show quoS x y = lowS x y.natAbs from if_neg hn)
    have HN := Lib.hid (show decI y = dec y.natAbs by conv => lhs; rw [show y = ((y.natAbs : Nat) : Int) by omega]; rw [decI_nat])
    obtain ⟨g, hG, hD1, hD2, hL, hl1, hl2⟩ := core x y.natAbs hx hy (by omega)
    have HG := Lib.hid hG
    have HD1 := Lib.hid hD1
    have HD2 := Lib.hid hD2
    have HL := Lib.hid hL
    clear hG hD1 hD2 hL hsg hn h0 core
    by_cases h1 : y.natAbs / g = 1
    · have hq1 : (dec (y.natAbs / g) == [49]) = true := by rw [h1, dec_one]; rfl
      have HR := Lib.hid (show lowS x y.natAbs = decI (x / (g : Int)) by rw [HL.out]; exact if_pos h1)
      clear h1
      rw [HN.out]
      go_enter Tryz.func101, Tryz.ntmps101
      simp only [B_mk]
      go_wp2_with fail
      refine (wrsign_any (dec y.natAbs) w (by have : (dec y.natAbs).length ≤ 4096 := hy; omega)).mono ?_; rw [HS.out]; rintro e w' ⟨rfl, h⟩; obtain rfl := h.symm
      go_wp2_with fail
      refine (wrabsq_any x w hx).mono ?_
      rintro e w3 ⟨rfl, hb3⟩
      have a3 := hb3
      go_wp2_with fail
      refine (HG.out w3).mono ?_; rintro e w' ⟨rfl, h⟩; obtain rfl := h.symm
      go_wp2_with fail
      refine (HD1.out w3).mono ?_
      rintro e w4 ⟨rfl, hb4⟩
      have a4 := a3.trans (hb4.mono a3.size)
      go_wp2_with fail
      refine (HD2.out w4).mono ?_
      rintro e w5 ⟨rfl, hb5⟩
      have a5 := a4.trans (hb5.mono a4.size)
      go_wp2_with fail
      go_ret
      exact ⟨ret_str (by rw [HQ.out, HR.out]), a5⟩
    · have hq1 : (dec (y.natAbs / g) == [49]) = false := by
        have : dec (y.natAbs / g) ≠ [49] := fun e => h1 (dec_eq_one.1 e)
        simpa using this
      have HR := Lib.hid (show lowS x y.natAbs = decI (x / (g : Int)) ++ 47 :: dec (y.natAbs / g) by rw [HL.out]; exact if_neg h1)
      clear h1
      rw [HN.out]
      go_enter Tryz.func101, Tryz.ntmps101
      simp only [B_mk]
      go_wp2_with fail
      refine (wrsign_any (dec y.natAbs) w (by have : (dec y.natAbs).length ≤ 4096 := hy; omega)).mono ?_; rw [HS.out]; rintro e w' ⟨rfl, h⟩; obtain rfl := h.symm
      go_wp2_with fail
      refine (wrabsq_any x w hx).mono ?_
      rintro e w3 ⟨rfl, hb3⟩
      have a3 := hb3
      go_wp2_with fail
      refine (HG.out w3).mono ?_; rintro e w' ⟨rfl, h⟩; obtain rfl := h.symm
      go_wp2_with fail
      refine (HD1.out w3).mono ?_
      rintro e w4 ⟨rfl, hb4⟩
      have a4 := a3.trans (hb4.mono a3.size)
      go_wp2_with fail
      refine (HD2.out w4).mono ?_
      rintro e w5 ⟨rfl, hb5⟩
      have a5 := a4.trans (hb5.mono a4.size)
      go_wp2_with fail
      go_ret
      exact ⟨ret_str (by rw [HQ.out, HR.out]), a5⟩
end Go.Proofs.YtmppmdmekomjbaaGreatDoor
