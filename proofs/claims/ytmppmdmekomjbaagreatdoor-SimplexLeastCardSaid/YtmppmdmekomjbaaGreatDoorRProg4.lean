/- ratio: Sign, Floor, Ceil, Compare. (Printed by wip/rprog4.py.) -/
import Derived.Test.YtmppmdmekomjbaaGreatDoorRProg3
import Derived.Test.YtmppmdmekomjbaaGreatDoorRatF
import Derived.Test.YtmppmdmekomjbaaGreatDoorG12
namespace Go.Proofs.YtmppmdmekomjbaaGreatDoor
open Go.RowKit Num
set_option linter.unusedVariables false
attribute [local go_sem] B_size B_get B_toList B_mk B_extract B_append
attribute [local go_sem high] run_max2

theorem qsign_any (l : List UInt8) (w : World) (hl : l.length ≤ 1000000) (he : Env w) :
    Calls Tryz.prog 66 #[.string (B l)] w fun e w' => e = .returned (.int .i64 (signQ l)) ∧ Below w.heap.size w w' := by
  have hln := numT_len l
  have HSP := Lib.hid (fun w hm => qsplit_any l w hl hm)
  have HR1 := Lib.hid (rq_any l w hl he)
  have HS := Lib.hid (fun w => psign_any (numT l) w (maxLen_le (by omega)))
  cases h1 : rightQ l
  · have HE := Lib.hid (show signQ l = 0 by unfold signQ; rw [h1]; rfl)
    rw [h1] at HR1
    go_enter Tryz.func66, Tryz.ntmps66
    go_wp2_with fail
    refine HR1.out.mono ?_
    rintro e w1 ⟨rfl, hb1⟩
    go_wp2_with fail
    go_ret
    exact ⟨ret_int HE.out.symm, hb1⟩
  · have HE := Lib.hid (show signQ l = signIS (numT l) by unfold signQ signIS; rw [h1, (rq_parts h1).1, if_pos rfl, if_pos (rightI_decI _), valI_decI])
    rw [h1] at HR1
    go_enter Tryz.func66, Tryz.ntmps66
    go_wp2_with fail
    refine HR1.out.mono ?_
    rintro e w1 ⟨rfl, hb1⟩
    go_wp2_with fail
    refine (HSP.out w1 (he.2.below hb1)).mono ?_
    rintro e w2 ⟨rfl, hb2⟩
    go_wp2_with fail
    refine (HS.out w2).mono ?_; rintro e w' ⟨rfl, h⟩; obtain rfl := h.symm
    go_wp2_with fail
    go_ret
    exact ⟨ret_int HE.out.symm, hb1.trans (hb2.mono hb1.size)⟩
/-- a text's value, for a loop's measure -/
def strVal : Value → Nat
  | .string b => val b.data.toList
  | _ => 0
theorem strVal_B (l : Str) : strVal (.string (B l)) = val l := by simp [strVal, B]
theorem cmp_dec {x y : Int} : cmpIS (decI x) (decI y) = ordI x y := by unfold cmpIS; rw [if_pos ⟨rightI_decI _, rightI_decI _⟩, valI_decI, valI_decI]
theorem ecmp_step {x z : Int} {y v : Nat} (hy : 0 < y) (hv : 0 < v) (h : x / (y : Int) = z / (v : Int)) : ordI (x * v) (z * y) = ordI (x % (y : Int) * v) (z % (v : Int) * y) := eu_same (by omega) (by omega) h
set_option maxHeartbeats 4000000 in
theorem qcmp_any (a b : List UInt8) (w : World) (ha : a.length ≤ 1000000) (hb : b.length ≤ 1000000) (he : Env w) :
    Calls Tryz.prog 109 #[.string (B a), .string (B b)] w fun e w' => e = .returned (.int .i64 (cmpQ a b)) ∧ Below w.heap.size w w' := by
  have HT := Lib.hid (qtwo_any a b w ha hb he)
  have ht := he.1
  by_cases h0 : errQ a b = 0
  · have hr := errQ_zero.1 h0
    have pa := rq_parts hr.1
    have pb := rq_parts hr.2
    have HS := Lib.hid (show ∀ s, twoS a b s = s by intro s; unfold twoS; rw [if_pos h0])
    have HC := Lib.hid (show cmpQ a b = ordI (qn a * qd b) (qn b * qd a) by unfold cmpQ; rw [if_pos h0])
    rw [HS.out, HS.out, HS.out, HS.out, h0, pa.1, pa.2.1, pb.1, pb.2.1] at HT
    have HB := Lib.hid (show dl (qn a) ≤ 4096 ∧ (dec (qd a)).length ≤ 4096 ∧ dl (qn b) ≤ 4096 ∧ (dec (qd b)).length ≤ 4096 from ⟨pa.2.2.2.1, pa.2.2.2.2.1, pb.2.2.2.1, pb.2.2.2.2.1⟩)
    have hpa := pa.2.2.1
    have hpb := pb.2.2.1
    clear pa pb hr h0
    go_enter Tryz.func109, Tryz.ntmps109
    simp only [B_mk]
    go_wp2_with fail
    refine HT.out.mono ?_
    rintro e w1 ⟨rfl, hb1⟩
    go_wp2_with fail
    go_loopw [5, 6, 7, 8, 10, 11, 12, 13, 14, 15, 16, 17, 53, 60, 65] (fun p q r s t _ _ _ _ _ _ _ _ _ _ wr => ∃ (x : Int) (y : Nat) (z : Int) (v : Nat) (k : Int), p = .string (B (decI x)) ∧ q = .string (B (dec y)) ∧ r = .string (B (decI z)) ∧ s = .string (B (dec v)) ∧ t = .int .i64 k ∧ 0 < y ∧ 0 < v ∧ (dl x ≤ 4096 ∧ (dec y).length ≤ 4096 ∧ dl z ≤ 4096 ∧ (dec v).length ≤ 4096) ∧ k * ordI (x * v) (z * y) = cmpQ a b ∧ (k = 1 ∨ k = -1) ∧ Below w.heap.size w wr) (fun _ q _ _ _ _ _ _ _ _ _ _ _ _ _ _ => strVal q)
    case atStart => exact ⟨_, _, _, _, 1, rfl, rfl, rfl, rfl, rfl, hpa, hpb, HB.out, by rw [HC.out, Int.one_mul], .inl rfl, hb1⟩
    case round =>
      obtain ⟨x, y, z, v, k, rfl, rfl, rfl, rfl, rfl, hy, hv, hsz, hk, hk1, hbel⟩ := hrel
      have HK := Lib.hid hk
      clear hk
      have HD1 := Lib.hid (fun w ht => pdivq_any x y w hsz.1 hsz.2.1 hy ht)
      have HD2 := Lib.hid (fun w ht => pdivq_any z v w hsz.2.2.1 hsz.2.2.2 hv ht)
      have l1 : (decI (x / (y : Int))).length ≤ 1000000 := by have := dl_len (x / (y : Int)); have := dl_mono (Int.natAbs_ediv_le_natAbs x y); omega
      have l2 : (decI (z / (v : Int))).length ≤ 1000000 := by have := dl_len (z / (v : Int)); have := dl_mono (Int.natAbs_ediv_le_natAbs z v); omega
      have HCM := Lib.hid (fun w => pcmp_any (decI (x / (y : Int))) (decI (z / (v : Int))) w l1 l2)
      have hyi : (0 : Int) < y := by omega
      have hvi : (0 : Int) < v := by omega
      have hm1 := Int.emod_nonneg x (show (y : Int) ≠ 0 by omega)
      have hm2 := Int.emod_lt_of_pos x hyi
      have hm3 := Int.emod_nonneg z (show (v : Int) ≠ 0 by omega)
      have hm4 := Int.emod_lt_of_pos z hvi
      clear l1 l2
      rcases Int.lt_trichotomy (x / (y : Int)) (z / (v : Int)) with hlt | heq | hgt
      · have HCV := Lib.hid (show cmpIS (decI (x / (y : Int))) (decI (z / (v : Int))) = -1 by rw [cmp_dec]; unfold ordI; rw [if_pos hlt])
        have HE := Lib.hid (eu_less hyi hvi hlt)
        clear hlt
        go_wp2_with fail
        refine (HD1.out wr (ht.below hbel)).mono ?_
        rintro e w2 ⟨rfl, hb2⟩
        have a2 := hbel.trans (hb2.mono hbel.size)
        go_wp2_with fail
        refine (HD2.out w2 (ht.below a2)).mono ?_
        rintro e w3 ⟨rfl, hb3⟩
        have a3 := a2.trans (hb3.mono a2.size)
        go_wp2_with fail
        refine (HCM.out w3).mono ?_
        rw [HCV.out]
        rintro e w' ⟨rfl, h⟩; obtain rfl := h.symm
        go_wp2_with fail
        go_ret
        exact ⟨ret_int (by rw [← HK.out, HE.out]; omega), a3⟩
      · have HCV := Lib.hid (show cmpIS (decI (x / (y : Int))) (decI (z / (v : Int))) = 0 by rw [cmp_dec, heq]; unfold ordI; rw [if_neg (Int.lt_irrefl _), if_neg (Int.lt_irrefl _)])
        have HE := Lib.hid (ecmp_step hy hv heq)
        clear heq
        by_cases hx0 : x % (y : Int) = 0 <;> by_cases hz0 : z % (v : Int) = 0
        · have hx' : (decI (x % (y : Int)) == [48]) = true := by rw [hx0, decI_zero]; rfl
          have hz' : (decI (z % (v : Int)) == [48]) = true := by rw [hz0, decI_zero]; rfl
          have HF := Lib.hid (show ordI (x * v) (z * y) = 0 by rw [HE.out, hx0, hz0]; exact eu_zz)
          clear hx0 hz0 hm1 hm2 hm3 hm4
          go_wp2_with fail
          refine (HD1.out wr (ht.below hbel)).mono ?_
          rintro e w2 ⟨rfl, hb2⟩
          have a2 := hbel.trans (hb2.mono hbel.size)
          go_wp2_with fail
          refine (HD2.out w2 (ht.below a2)).mono ?_
          rintro e w3 ⟨rfl, hb3⟩
          have a3 := a2.trans (hb3.mono a2.size)
          go_wp2_with fail
          refine (HCM.out w3).mono ?_
          rw [HCV.out]
          rintro e w' ⟨rfl, h⟩; obtain rfl := h.symm
          go_wp2_with fail
          go_ret
          exact ⟨ret_int (by rw [← HK.out, HF.out, Int.mul_zero]), a3⟩
        · have hx' : (decI (x % (y : Int)) == [48]) = true := by rw [hx0, decI_zero]; rfl
          have hz' : (decI (z % (v : Int)) == [48]) = false := by rw [beq_eq_false_iff_ne]; exact fun e => hz0 (decI_eq_zero.1 e)
          have HF := Lib.hid (show ordI (x * v) (z * y) = -1 by rw [HE.out, hx0]; exact eu_zp hyi (by omega))
          clear hx0 hz0 hm1 hm2 hm3 hm4
          go_wp2_with fail
          refine (HD1.out wr (ht.below hbel)).mono ?_
          rintro e w2 ⟨rfl, hb2⟩
          have a2 := hbel.trans (hb2.mono hbel.size)
          go_wp2_with fail
          refine (HD2.out w2 (ht.below a2)).mono ?_
          rintro e w3 ⟨rfl, hb3⟩
          have a3 := a2.trans (hb3.mono a2.size)
          go_wp2_with fail
          refine (HCM.out w3).mono ?_
          rw [HCV.out]
          rintro e w' ⟨rfl, h⟩; obtain rfl := h.symm
          go_wp2_with fail
          go_ret
          exact ⟨ret_int (by rw [← HK.out, HF.out]; omega), a3⟩
        · have hx' : (decI (x % (y : Int)) == [48]) = false := by rw [beq_eq_false_iff_ne]; exact fun e => hx0 (decI_eq_zero.1 e)
          have hz' : (decI (z % (v : Int)) == [48]) = true := by rw [hz0, decI_zero]; rfl
          have HF := Lib.hid (show ordI (x * v) (z * y) = 1 by rw [HE.out, hz0]; exact eu_pz hvi (by omega))
          clear hx0 hz0 hm1 hm2 hm3 hm4
          go_wp2_with fail
          refine (HD1.out wr (ht.below hbel)).mono ?_
          rintro e w2 ⟨rfl, hb2⟩
          have a2 := hbel.trans (hb2.mono hbel.size)
          go_wp2_with fail
          refine (HD2.out w2 (ht.below a2)).mono ?_
          rintro e w3 ⟨rfl, hb3⟩
          have a3 := a2.trans (hb3.mono a2.size)
          go_wp2_with fail
          refine (HCM.out w3).mono ?_
          rw [HCV.out]
          rintro e w' ⟨rfl, h⟩; obtain rfl := h.symm
          go_wp2_with fail
          go_ret
          exact ⟨ret_int (by rw [← HK.out, HF.out]; omega), a3⟩
        · have hx' : (decI (x % (y : Int)) == [48]) = false := by rw [beq_eq_false_iff_ne]; exact fun e => hx0 (decI_eq_zero.1 e)
          have hz' : (decI (z % (v : Int)) == [48]) = false := by rw [beq_eq_false_iff_ne]; exact fun e => hz0 (decI_eq_zero.1 e)
          have HX := Lib.hid (show decI (x % (y : Int)) = dec (x % (y : Int)).toNat ∧ ((x % (y : Int)).toNat : Int) = x % (y : Int) ∧ 0 < (x % (y : Int)).toNat ∧ (x % (y : Int)).toNat < y from ⟨by rw [← decI_nat]; congr 1; omega, by omega, by omega, by omega⟩)
          have HZ := Lib.hid (show decI (z % (v : Int)) = dec (z % (v : Int)).toNat ∧ ((z % (v : Int)).toNat : Int) = z % (v : Int) ∧ 0 < (z % (v : Int)).toNat ∧ (z % (v : Int)).toNat < v from ⟨by rw [← decI_nat]; congr 1; omega, by omega, by omega, by omega⟩)
          have HN := Lib.hid (show dl (y : Int) ≤ 4096 ∧ (dec (x % (y : Int)).toNat).length ≤ 4096 ∧ dl (v : Int) ≤ 4096 ∧ (dec (z % (v : Int)).toNat).length ≤ 4096 from
            ⟨by rw [dl_nat]; exact hsz.2.1, Nat.le_trans (length_dec_mono (Nat.le_of_lt HX.out.2.2.2)) hsz.2.1, by rw [dl_nat]; exact hsz.2.2.2, Nat.le_trans (length_dec_mono (Nat.le_of_lt HZ.out.2.2.2)) hsz.2.2.2⟩)
          have HF := Lib.hid (show ordI (x * v) (z * y) = -(ordI ((y : Int) * (z % (v : Int)).toNat) ((v : Int) * (x % (y : Int)).toNat)) by rw [HE.out, HZ.out.2.1, HX.out.2.1]; exact eu_turn)
          clear hx0 hz0 hm1 hm2 hm3 hm4
          go_wp2_with fail
          refine (HD1.out wr (ht.below hbel)).mono ?_
          rintro e w2 ⟨rfl, hb2⟩
          have a2 := hbel.trans (hb2.mono hbel.size)
          go_wp2_with fail
          refine (HD2.out w2 (ht.below a2)).mono ?_
          rintro e w3 ⟨rfl, hb3⟩
          have a3 := a2.trans (hb3.mono a2.size)
          go_wp2_with fail
          refine (HCM.out w3).mono ?_
          rw [HCV.out]
          rintro e w' ⟨rfl, h⟩; obtain rfl := h.symm
          go_wp2_with fail
          go_round
          case rel =>
            exact ⟨(y : Int), (x % (y : Int)).toNat, (v : Int), (z % (v : Int)).toNat, -k, by rw [decI_nat], by rw [HX.out.1], by rw [decI_nat], by rw [HZ.out.1], rfl, HX.out.2.2.1, HZ.out.2.2.1, HN.out, by rw [← HK.out, HF.out, Int.neg_mul, Int.mul_neg], by omega, a3⟩
          case measure => rw [HX.out.1, strVal_B, strVal_B, val_dec, val_dec]; exact HX.out.2.2.2
      · have HCV := Lib.hid (show cmpIS (decI (x / (y : Int))) (decI (z / (v : Int))) = 1 by rw [cmp_dec]; unfold ordI; rw [if_neg (by omega), if_pos hgt])
        have HE := Lib.hid (eu_more hyi hvi hgt)
        clear hgt
        go_wp2_with fail
        refine (HD1.out wr (ht.below hbel)).mono ?_
        rintro e w2 ⟨rfl, hb2⟩
        have a2 := hbel.trans (hb2.mono hbel.size)
        go_wp2_with fail
        refine (HD2.out w2 (ht.below a2)).mono ?_
        rintro e w3 ⟨rfl, hb3⟩
        have a3 := a2.trans (hb3.mono a2.size)
        go_wp2_with fail
        refine (HCM.out w3).mono ?_
        rw [HCV.out]
        rintro e w' ⟨rfl, h⟩; obtain rfl := h.symm
        go_wp2_with fail
        go_ret
        exact ⟨ret_int (by rw [← HK.out, HE.out]; omega), a3⟩
  · have h3 : errQ a b = 3 := by unfold errQ at h0 ⊢; by_cases h : rightQ a = true ∧ rightQ b = true; exact absurd (if_pos h) h0; exact if_neg h
    have HC := Lib.hid (show cmpQ a b = 0 by unfold cmpQ; rw [if_neg h0])
    rw [h3] at HT
    clear h0 h3
    go_enter Tryz.func109, Tryz.ntmps109
    simp only [B_mk]
    go_wp2_with fail
    refine HT.out.mono ?_
    rintro e w1 ⟨rfl, hb1⟩
    go_wp2_with fail
    go_ret
    exact ⟨ret_int HC.out.symm, hb1⟩
end Go.Proofs.YtmppmdmekomjbaaGreatDoor
