/- ratio: Div. (Printed by wip/rprog7.py.) -/
import Derived.Test.YtmppmdmekomjbaaGreatDoorRProg6
namespace Go.Proofs.YtmppmdmekomjbaaGreatDoor
open Go.RowKit Num
set_option linter.unusedVariables false
attribute [local go_sem] B_size B_get B_toList B_mk B_extract B_append
attribute [local go_sem high] run_max2

set_option maxHeartbeats 1000000 in
set_option maxRecDepth 100000 in
theorem qdiv_any (a b : List UInt8) (w : World) (ha : a.length ≤ 1000000) (hb : b.length ≤ 1000000) (he : Env w) :
    Calls Tryz.prog 143 #[.string (B a), .string (B b)] w fun e w' => e = .returned (.tuple #[.string (B (quoQS a b)), .int .i64 (quoQE a b)]) ∧ Below w.heap.size w w' := by
  have HT := Lib.hid (qtwo_any a b w ha hb he)
  have ht := he.1
  by_cases h0 : errQ a b = 0
  · have hr := errQ_zero.1 h0
    have pa := rq_parts hr.1
    have pb := rq_parts hr.2
    have HS := Lib.hid (show ∀ s, twoS a b s = s by intro s; unfold twoS; rw [if_pos h0])
    rw [HS.out, HS.out, HS.out, HS.out, h0, pa.1, pa.2.1, pb.1, pb.2.1, ← decI_nat, ← decI_nat] at HT
    by_cases hz : qn b = 0
    · have hz' : (decI (qn b) == [48]) = true := by rw [hz, decI_zero]; rfl
      have HE := Lib.hid (show quoQE a b = 10 by unfold quoQE; rw [if_pos h0, if_pos hz])
      have HR := Lib.hid (show quoQS a b = [] by unfold quoQS; rw [HE.out]; rfl)
      clear pa pb hr h0 HS hz
      go_enter Tryz.func143, Tryz.ntmps143
      simp only [B_mk]
      go_wp2_with fail
      refine HT.out.mono ?_
      rintro e w1 ⟨rfl, hb1⟩
      go_wp2_with fail
      go_ret2
      exact ⟨ret_si' HR.out.symm HE.out.symm, hb1⟩
    have hz' : (decI (qn b) == [48]) = false := by rw [beq_eq_false_iff_ne]; exact fun e => hz (decI_eq_zero.1 e)
    have HC := Lib.hid (show quoQE a b = if dl (qn a * qd b) ≤ 4096 ∧ dl ((qd a : Int) * qn b) ≤ 4096 then 0 else 4 by unfold quoQE; rw [if_pos h0, if_neg hz])
    have HSS := Lib.hid (show quoQS a b = if quoQE a b = 0 then quoS (qn a * qd b) ((qd a : Int) * qn b) else [] from rfl)
    have HP := Lib.hid (fun t w ht => qprod2_any (qn a) (qd b) (qd a) (qn b) t w pa.2.2.2.1 (by rw [dl_nat]; exact pb.2.2.2.2.1) (by rw [dl_nat]; exact pa.2.2.2.2.1) pb.2.2.2.1 ht)
    have hm0 : (qd a : Int) * qn b ≠ 0 := Int.mul_ne_zero (by have := pa.2.2.1; omega) hz
    clear hz
    clear pa pb hr h0 HS
    go_enter Tryz.func143, Tryz.ntmps143
    simp only [B_mk]
    go_wp2_with fail
    refine HT.out.mono ?_
    rintro e w1 ⟨rfl, hb1⟩
    go_wp2_with fail
    refine (HP.out _ w1 (ht.below hb1)).mono ?_
    rintro e w2 ⟨hb2, r, er, rfl, hc⟩
    have a2 := hb1.trans (hb2.mono hb1.size)
    rcases hc with ⟨h1, h2, rfl, g, c, rfl, hc1, hc2, hg, c0, c1⟩ | ⟨hno, rfl, rfl⟩
    · have HE := Lib.hid (show quoQE a b = 0 by rw [HC.out]; exact if_pos ⟨h1, h2⟩)
      have HR := Lib.hid (show quoQS a b = quoS (qn a * qd b) ((qd a : Int) * qn b) by rw [HSS.out]; exact if_pos HE.out)
      have HL := Lib.hid (fun w ht => qquot_any (qn a * qd b) ((qd a : Int) * qn b) w h1 h2 hm0 ht)
      unfold maxLen at hc2
      clear h1 h2
      go_wp2_with fail
      have hbd : Below w.heap.size w w2.drew := below_drew a2
      have hL := HL.out _ (ht.below hbd)
      have hS0 : Below w.heap.size w w2.drew ∧ w2.drew.cell? ⟨g, 0, none⟩ = some (.string (B (decI (qn a * qd b)))) ∧ w2.drew.cell? ⟨g, 1, none⟩ = some (.string (B (decI ((qd a : Int) * qn b)))) ∧ g < w2.drew.heap.size := ⟨hbd, c0, c1, hg⟩
      go_region_held3 (fun w' => Below w.heap.size w w' ∧ w'.cell? ⟨g, 0, none⟩ = some (.string (B (decI (qn a * qd b)))) ∧ w'.cell? ⟨g, 1, none⟩ = some (.string (B (decI ((qd a : Int) * qn b)))) ∧ g < w'.heap.size)
        (first | (exact keep2 (hb := hb3) (by assumption)) | (with_reducible exact hS0))
        (first | (go_at_call 170; ((with_reducible refine hL.mono ?_); rintro e w3 ⟨rfl, hb3⟩)))
      all_goals
        go_wp2_with fail
        go_ret2
        exact ⟨ret_si' HR.out.symm HE.out.symm, hbd.trans (hb3.mono hbd.size)⟩
    · have HE := Lib.hid (show quoQE a b = 4 by rw [HC.out]; exact if_neg hno)
      have HR := Lib.hid (show quoQS a b = [] by rw [HSS.out, HE.out]; rfl)
      clear hno
      go_wp2_with fail
      go_ret2
      exact ⟨ret_si' HR.out.symm HE.out.symm, a2⟩
  · have h3 : errQ a b = 3 := by unfold errQ at h0 ⊢; by_cases h : rightQ a = true ∧ rightQ b = true; exact absurd (if_pos h) h0; exact if_neg h
    have HE := Lib.hid (show quoQE a b = 3 by unfold quoQE; rw [if_neg h0])
    have HR := Lib.hid (show quoQS a b = [] by unfold quoQS; rw [HE.out]; rfl)
    rw [h3] at HT
    clear h0 h3
    go_enter Tryz.func143, Tryz.ntmps143
    simp only [B_mk]
    go_wp2_with fail
    refine HT.out.mono ?_
    rintro e w1 ⟨rfl, hb1⟩
    go_wp2_with fail
    go_ret2
    exact ⟨ret_si' HR.out.symm HE.out.symm, hb1⟩
end Go.Proofs.YtmppmdmekomjbaaGreatDoor
