/- ratio: Make, Parts, two, Of. (Printed by wip/rprog3.py.) -/
import Derived.Test.YtkloocjmncconaaGreatDoorRProg2
import Derived.Handy
namespace Go.Proofs.YtkloocjmncconaaGreatDoor
open Go.RowKit Num
set_option linter.unusedVariables false
attribute [local go_sem] B_size B_get B_toList B_mk B_extract B_append
attribute [local go_sem high] run_max2

theorem rq_parts {l : Str} (h : rightQ l = true) : numT l = decI (qn l) ∧ denT l = dec (qd l) ∧ 0 < qd l ∧ dl (qn l) ≤ 4096 ∧ (dec (qd l)).length ≤ 4096 ∧ Nat.gcd (qn l).natAbs (qd l) = 1 ∧ l = ratS (qn l) (qd l) := by
  obtain ⟨n, d, h1, h2, h3, h4, rfl⟩ := rightQ_out h
  rw [qn_ratS, qd_ratS]
  exact ⟨(parts_ratS n d).1, (parts_ratS n d).2.1, h1, h3, h4, h2, rfl⟩
def prtN (l : Str) : Str := if rightQ l = true then numT l else []
def prtD (l : Str) : Str := if rightQ l = true then denT l else []
theorem qof_any (z : Int) (w : World) (hz : fits z) (ht : Tab w) :
    Calls Tryz.prog 10 #[.int .i64 z] w fun e w' => e = .returned (.string (B (decI z))) ∧ Below w.heap.size w w' := by
  go_enter Tryz.func10, Tryz.ntmps10
  go_wp2_with fail
  refine (wof_any z w hz ht).mono ?_
  rintro e w1 ⟨rfl, hb1⟩
  go_wp2_with fail
  go_ret
  exact ⟨rfl, hb1⟩
theorem qparts_any (l : List UInt8) (w : World) (hl : l.length ≤ 1000000) (he : Env w) :
    Calls Tryz.prog 14 #[.string (B l)] w fun e w' => e = .returned (.tuple #[.string (B (prtN l)), .string (B (prtD l)), .int .i64 (rightE l)]) ∧ Below w.heap.size w w' := by
  have HSP := Lib.hid (fun w hm => qsplit_any l w hl hm)
  have HR1 := Lib.hid (rq_any l w hl he)
  cases h1 : rightQ l
  · have HE := Lib.hid (show prtN l = [] ∧ prtD l = [] ∧ rightE l = 3 by unfold prtN prtD rightE; rw [h1]; exact ⟨rfl, rfl, rfl⟩)
    rw [h1] at HR1
    go_enter Tryz.func14, Tryz.ntmps14
    simp only [B_mk]
    go_wp2_with fail
    refine HR1.out.mono ?_
    rintro e w1 ⟨rfl, hb1⟩
    go_wp2_with fail
    go_returns
    exact ⟨ret_ssi HE.out.1.symm HE.out.2.1.symm HE.out.2.2.symm, hb1⟩
  · have HE := Lib.hid (show prtN l = numT l ∧ prtD l = denT l ∧ rightE l = 0 by unfold prtN prtD rightE; rw [h1]; exact ⟨rfl, rfl, rfl⟩)
    rw [h1] at HR1
    go_enter Tryz.func14, Tryz.ntmps14
    simp only [B_mk]
    go_wp2_with fail
    refine HR1.out.mono ?_
    rintro e w1 ⟨rfl, hb1⟩
    go_wp2_with fail
    refine (HSP.out w1 (he.2.below hb1)).mono ?_
    rintro e w2 ⟨rfl, hb2⟩
    go_wp2_with fail
    go_returns
    exact ⟨ret_ssi HE.out.1.symm HE.out.2.1.symm HE.out.2.2.symm, hb1.trans (hb2.mono hb1.size)⟩
theorem ret_ssssi {a b c d a' b' c' d' : List UInt8} {k k' : Int} (h : a = a') (h1 : b = b') (h2 : c = c') (h3 : d = d') (h4 : k = k') : Ending.returned (.tuple #[.string (B a), .string (B b), .string (B c), .string (B d), .int .i64 k]) = .returned (.tuple #[.string (B a'), .string (B b'), .string (B c'), .string (B d'), .int .i64 k']) := by rw [h, h1, h2, h3, h4]
/-- a part of two numbers that must both be right -/
def twoS (a b s : Str) : Str := if errQ a b = 0 then s else []
theorem qtwo_any (a b : List UInt8) (w : World) (ha : a.length ≤ 1000000) (hb : b.length ≤ 1000000) (he : Env w) :
    Calls Tryz.prog 56 #[.string (B a), .string (B b)] w fun e w' => e = .returned (.tuple #[.string (B (twoS a b (numT a))), .string (B (twoS a b (denT a))), .string (B (twoS a b (numT b))), .string (B (twoS a b (denT b))), .int .i64 (errQ a b)]) ∧ Below w.heap.size w w' := by
  have HSA := Lib.hid (fun w hm => qsplit_any a w ha hm)
  have HSB := Lib.hid (fun w hm => qsplit_any b w hb hm)
  have HA := Lib.hid (rq_any a w ha he)
  have HB := Lib.hid (fun w he => rq_any b w hb he)
  cases h1 : rightQ a
  · have HE := Lib.hid (show errQ a b = 3 by unfold errQ; rw [h1]; simp)
    have HT := Lib.hid (show ∀ s, twoS a b s = [] by intro s; unfold twoS; rw [HE.out]; rfl)
    rw [h1] at HA
    go_enter Tryz.func56, Tryz.ntmps56
    simp only [B_mk]
    go_wp2_with fail
    refine HA.out.mono ?_
    rintro e w1 ⟨rfl, hb1⟩
    go_wp2_with fail
    go_returns
    exact ⟨ret_ssssi (HT.out _).symm (HT.out _).symm (HT.out _).symm (HT.out _).symm HE.out.symm, hb1⟩
  cases h2 : rightQ b
  · have HE := Lib.hid (show errQ a b = 3 by unfold errQ; rw [h2]; simp)
    have HT := Lib.hid (show ∀ s, twoS a b s = [] by intro s; unfold twoS; rw [HE.out]; rfl)
    rw [h1] at HA
    rw [h2] at HB
    go_enter Tryz.func56, Tryz.ntmps56
    simp only [B_mk]
    go_wp2_with fail
    refine HA.out.mono ?_
    rintro e w1 ⟨rfl, hb1⟩
    go_wp2_with fail
    refine (HB.out w1 (he.below hb1)).mono ?_
    rintro e w2 ⟨rfl, hb2⟩
    go_wp2_with fail
    go_returns
    exact ⟨ret_ssssi (HT.out _).symm (HT.out _).symm (HT.out _).symm (HT.out _).symm HE.out.symm, hb1.trans (hb2.mono hb1.size)⟩
  have HE := Lib.hid (show errQ a b = 0 by unfold errQ; rw [h1, h2]; simp)
  have HT := Lib.hid (show ∀ s, twoS a b s = s by intro s; unfold twoS; rw [HE.out]; rfl)
  rw [h1] at HA
  rw [h2] at HB
  go_enter Tryz.func56, Tryz.ntmps56
  simp only [B_mk]
  go_wp2_with fail
  refine HA.out.mono ?_
  rintro e w1 ⟨rfl, hb1⟩
  go_wp2_with fail
  refine (HB.out w1 (he.below hb1)).mono ?_
  rintro e w2 ⟨rfl, hb2⟩
  have a2 := hb1.trans (hb2.mono hb1.size)
  go_wp2_with fail
  refine (HSA.out w2 (he.2.below a2)).mono ?_
  rintro e w3 ⟨rfl, hb3⟩
  have a3 := a2.trans (hb3.mono a2.size)
  go_wp2_with fail
  refine (HSB.out w3 (he.2.below a3)).mono ?_
  rintro e w4 ⟨rfl, hb4⟩
  go_wp2_with fail
  go_returns
  exact ⟨ret_ssssi (HT.out _).symm (HT.out _).symm (HT.out _).symm (HT.out _).symm HE.out.symm, a3.trans (hb4.mono a3.size)⟩

set_option maxHeartbeats 1000000 in
theorem qmake_any (a b : List UInt8) (w : World) (ha : a.length ≤ 1000000) (hb : b.length ≤ 1000000) (ht : Tab w) :
    Calls Tryz.prog 8 #[.string (B a), .string (B b)] w fun e w' => e = .returned (.tuple #[.string (B (makeS a b)), .int .i64 (makeE a b)]) ∧ Below w.heap.size w w' := by
  have HRA := Lib.hid (fun w => wright_any a w (maxLen_le (by omega)))
  have HRB := Lib.hid (fun w => wright_any b w (maxLen_le (by omega)))
  have HDA := Lib.hid (fun w => qdigits_any a w (maxLen_le (by omega)))
  have HDB := Lib.hid (fun w => qdigits_any b w (maxLen_le (by omega)))
  have hma := mag_length a
  have hmb := mag_length b
  have hno : ∀ k, makeE a b = k → k ≠ 0 → makeS a b = [] := by intro k h h0; unfold makeS; rw [h]; exact if_neg h0
  have HBW := Below.refl w.heap.size w
  cases h1 : rightI a
  · have HE := Lib.hid (show makeE a b = 3 by unfold makeE; rw [h1]; simp)
    have HS := Lib.hid (hno 3 HE.out (by decide))
    rw [h1] at HRA
    clear hno
    go_enter Tryz.func8, Tryz.ntmps8
    simp only [B_mk]
    go_wp2_with fail
    refine (HRA.out w).mono ?_; rintro e w' ⟨rfl, h⟩; obtain rfl := h.symm
    go_wp2_with fail
    go_ret2
    exact ⟨ret_si' HS.out.symm HE.out.symm, Below.refl _ _⟩
  cases h2 : rightI b
  · have HE := Lib.hid (show makeE a b = 3 by unfold makeE; rw [h2]; simp)
    have HS := Lib.hid (hno 3 HE.out (by decide))
    rw [h1] at HRA
    rw [h2] at HRB
    clear hno
    go_enter Tryz.func8, Tryz.ntmps8
    simp only [B_mk]
    go_wp2_with fail
    refine (HRA.out w).mono ?_; rintro e w' ⟨rfl, h⟩; obtain rfl := h.symm
    go_wp2_with fail
    refine (HRB.out w).mono ?_; rintro e w' ⟨rfl, h⟩; obtain rfl := h.symm
    go_wp2_with fail
    go_ret2
    exact ⟨ret_si' HS.out.symm HE.out.symm, Below.refl _ _⟩
  by_cases h3 : 4096 < (mag a).length
  · have h3' : (4096 : Int) < ((mag a).length : Int) := by omega
    have HE := Lib.hid (show makeE a b = 4 by unfold makeE; rw [if_pos ⟨h1, h2⟩]; exact if_neg (fun h => by omega))
    have HS := Lib.hid (hno 4 HE.out (by decide))
    rw [h1] at HRA
    rw [h2] at HRB
    clear hno h3
    go_enter Tryz.func8, Tryz.ntmps8
    simp only [B_mk]
    go_wp2_with fail
    refine (HRA.out w).mono ?_; rintro e w' ⟨rfl, h⟩; obtain rfl := h.symm
    go_wp2_with fail
    refine (HRB.out w).mono ?_; rintro e w' ⟨rfl, h⟩; obtain rfl := h.symm
    go_wp2_with fail
    refine (HDA.out w).mono ?_; rintro e w' ⟨rfl, h⟩; obtain rfl := h.symm
    go_wp2_with fail
    go_ret2
    exact ⟨ret_si' HS.out.symm HE.out.symm, Below.refl _ _⟩
  have h3' : ¬ (4096 : Int) < ((mag a).length : Int) := by omega
  by_cases h4 : 4096 < (mag b).length
  · have h4' : (4096 : Int) < ((mag b).length : Int) := by omega
    have HE := Lib.hid (show makeE a b = 4 by unfold makeE; rw [if_pos ⟨h1, h2⟩]; exact if_neg (fun h => by omega))
    have HS := Lib.hid (hno 4 HE.out (by decide))
    rw [h1] at HRA
    rw [h2] at HRB
    clear hno h3 h4
    go_enter Tryz.func8, Tryz.ntmps8
    simp only [B_mk]
    go_wp2_with fail
    refine (HRA.out w).mono ?_; rintro e w' ⟨rfl, h⟩; obtain rfl := h.symm
    go_wp2_with fail
    refine (HRB.out w).mono ?_; rintro e w' ⟨rfl, h⟩; obtain rfl := h.symm
    go_wp2_with fail
    refine (HDA.out w).mono ?_; rintro e w' ⟨rfl, h⟩; obtain rfl := h.symm
    go_wp2_with fail
    refine (HDB.out w).mono ?_; rintro e w' ⟨rfl, h⟩; obtain rfl := h.symm
    go_wp2_with fail
    go_ret2
    exact ⟨ret_si' HS.out.symm HE.out.symm, Below.refl _ _⟩
  have h4' : ¬ (4096 : Int) < ((mag b).length : Int) := by omega
  have hda := decI_valI h1
  have hdb := decI_valI h2
  by_cases h5 : valI b = 0
  · have h5' : (b == [48]) = true := by rw [← hdb, h5, decI_zero]; rfl
    have HE := Lib.hid (show makeE a b = 10 by unfold makeE; rw [if_pos ⟨h1, h2⟩, if_pos ⟨by omega, by omega⟩]; exact if_pos h5)
    have HS := Lib.hid (hno 10 HE.out (by decide))
    rw [h1] at HRA
    rw [h2] at HRB
    clear hno h3 h4 h5 hda hdb
    go_enter Tryz.func8, Tryz.ntmps8
    simp only [B_mk]
    go_wp2_with fail
    refine (HRA.out w).mono ?_; rintro e w' ⟨rfl, h⟩; obtain rfl := h.symm
    go_wp2_with fail
    refine (HRB.out w).mono ?_; rintro e w' ⟨rfl, h⟩; obtain rfl := h.symm
    go_wp2_with fail
    refine (HDA.out w).mono ?_; rintro e w' ⟨rfl, h⟩; obtain rfl := h.symm
    go_wp2_with fail
    refine (HDB.out w).mono ?_; rintro e w' ⟨rfl, h⟩; obtain rfl := h.symm
    go_wp2_with fail
    go_ret2
    exact ⟨ret_si' HS.out.symm HE.out.symm, Below.refl _ _⟩
  · have h5' : (b == [48]) = false := by
      rw [beq_eq_false_iff_ne]; intro e; apply h5; rw [e]; rfl
    have HE := Lib.hid (show makeE a b = 0 by unfold makeE; rw [if_pos ⟨h1, h2⟩, if_pos ⟨by omega, by omega⟩]; exact if_neg h5)
    have HS := Lib.hid (show makeS a b = quoS (valI a) (valI b) by unfold makeS; rw [HE.out]; rfl)
    have e1 : dl (valI a) = (mag a).length := congrArg List.length ((mag_decI (valI a)).symm.trans (congrArg mag hda))
    have e2 : dl (valI b) = (mag b).length := congrArg List.length ((mag_decI (valI b)).symm.trans (congrArg mag hdb))
    have HQ := Lib.hid (qquot_any (valI a) (valI b) w (by omega) (by omega) h5 ht)
    rw [hda, hdb] at HQ
    rw [h1] at HRA
    rw [h2] at HRB
    clear hno h3 h4 h5 hda hdb e1 e2
    go_enter Tryz.func8, Tryz.ntmps8
    simp only [B_mk]
    go_wp2_with fail
    refine (HRA.out w).mono ?_; rintro e w' ⟨rfl, h⟩; obtain rfl := h.symm
    go_wp2_with fail
    refine (HRB.out w).mono ?_; rintro e w' ⟨rfl, h⟩; obtain rfl := h.symm
    go_wp2_with fail
    refine (HDA.out w).mono ?_; rintro e w' ⟨rfl, h⟩; obtain rfl := h.symm
    go_wp2_with fail
    refine (HDB.out w).mono ?_; rintro e w' ⟨rfl, h⟩; obtain rfl := h.symm
    go_wp2_with fail
    refine HQ.out.mono ?_
    rintro e w1 ⟨rfl, hb1⟩
    go_wp2_with fail
    go_ret2
    exact ⟨ret_si' HS.out.symm HE.out.symm, hb1⟩
end Go.Proofs.YtkloocjmncconaaGreatDoor
