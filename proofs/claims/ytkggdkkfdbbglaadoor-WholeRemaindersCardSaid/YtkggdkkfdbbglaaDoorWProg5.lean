/- whole: Add, Sub, Mul. -/
import Derived.Test.YtkggdkkfdbbglaaDoorWProg4
import Derived.Deep.RegionHeld3
namespace Go.Proofs.YtkggdkkfdbbglaaDoor
open Go.RowKit Num
set_option linter.unusedVariables false
attribute [local go_sem] B_size B_get B_toList B_mk B_extract B_append
attribute [local go_sem high] run_max2

def Four (w : World) (g : Nat) (v0 v1 v2 v3 : Value) (w' : World) : Prop := Below w.heap.size w w' ∧ w'.cell? ⟨g, 0, none⟩ = some v0 ∧ w'.cell? ⟨g, 1, none⟩ = some v1 ∧ w'.cell? ⟨g, 2, none⟩ = some v2 ∧ w'.cell? ⟨g, 3, none⟩ = some v3 ∧ g < w'.heap.size
theorem keep4 {w wo wn : World} {g : Nat} {v0 v1 v2 v3 : Value} (h : Below w.heap.size w wo ∧ wo.cell? ⟨g, 0, none⟩ = some v0 ∧ wo.cell? ⟨g, 1, none⟩ = some v1 ∧ wo.cell? ⟨g, 2, none⟩ = some v2 ∧ wo.cell? ⟨g, 3, none⟩ = some v3 ∧ g < wo.heap.size) (hb : Below wo.heap.size wo wn) :
    Below w.heap.size w wn ∧ wn.cell? ⟨g, 0, none⟩ = some v0 ∧ wn.cell? ⟨g, 1, none⟩ = some v1 ∧ wn.cell? ⟨g, 2, none⟩ = some v2 ∧ wn.cell? ⟨g, 3, none⟩ = some v3 ∧ g < wn.heap.size :=
  ⟨h.1.trans (hb.mono h.1.size), (hb.cell (p := ⟨g, 0, none⟩) h.2.2.2.2.2).trans h.2.1, (hb.cell (p := ⟨g, 1, none⟩) h.2.2.2.2.2).trans h.2.2.1, (hb.cell (p := ⟨g, 2, none⟩) h.2.2.2.2.2).trans h.2.2.2.1, (hb.cell (p := ⟨g, 3, none⟩) h.2.2.2.2.2).trans h.2.2.2.2.1, Nat.lt_of_lt_of_le h.2.2.2.2.2 hb.size⟩

set_option maxHeartbeats 1000000 in
set_option maxRecDepth 100000 in
theorem padd_any (a b : List UInt8) (w : World) (ha : a.length ≤ 1000000) (hbl : b.length ≤ 1000000) (ht : Tab w) :
    Calls Tryd.prog 14 #[.string (B a), .string (B b)] w fun e w' => e = .returned (.tuple #[.string (B (addIS a b)), .int .i64 (addIE a b)]) ∧ Below w.heap.size w w' := by
  have hma : a.length ≤ maxLen := by unfold maxLen; omega
  have hmb : b.length ≤ maxLen := by unfold maxLen; omega
  have HRD := Lib.hid (read_any_w [a, b] (some ⟨w.heap.size, 0, none⟩) 2 _ (cells_two w a b) (Nat.le_refl _) (by simp) (by simp) (by simpa using ⟨hma, hmb⟩))
  have HE1 := Lib.hid (errL_two a b)
  go_enter Tryd.func14, Tryd.ntmps14
  simp only [B_mk]
  go_wp2_with fail
  refine HRD.out.mono ?_
  rintro e w1 (⟨he, A, c, rfl, hown, hb1⟩ | ⟨he, rfl, hb1⟩)
  · have hb := (alloc_below w (.cells #[.string (B a), .string (B b)] 9)).trans (hb1.mono (by simp))
    obtain ⟨g, rfl, hg1, hg2, hgc, hgf⟩ := hown.at_ (by simp)
    have c0 : w1.cell? ⟨g, 0, none⟩ = some (.bool (neg? a)) := hgc 0 (by simp)
    have c1 : w1.cell? ⟨g, 1, none⟩ = some (.string (B (mag a))) := hgc 1 (by simp)
    have c2 : w1.cell? ⟨g, 2, none⟩ = some (.bool (neg? b)) := hgc 2 (by simp)
    have c3 : w1.cell? ⟨g, 3, none⟩ = some (.string (B (mag b))) := hgc 3 (by simp)
    rw [HE1.out] at he
    obtain ⟨h1, h2, h3, h4⟩ := errI_zero.1 he
    have HDA := Lib.hid (dec_mag h1)
    have HDB := Lib.hid (dec_mag h2)
    have hla : (dec (val (mag a))).length ≤ 4096 := by rw [← dec_mag h1]; exact h3
    have hlb : (dec (val (mag b))).length ≤ 4096 := by rw [← dec_mag h2]; exact h4
    have HA := Lib.hid (valI_sg a)
    have HB := Lib.hid (valI_sg b)
    have hcap := hown.cap
    have HR := Lib.hid (show addIS a b = resIS (sg (neg? a) (val (mag a)) + sg (neg? b) (val (mag b))) ∧ addIE a b = resIE (sg (neg? a) (val (mag a)) + sg (neg? b) (val (mag b))) by
      have hz : sg (neg? a) (val (mag a)) + sg (neg? b) (val (mag b)) = valI a + valI b := by rw [HA.out, HB.out]
      rw [hz]; exact ⟨if_pos he, if_pos he⟩)
    have HS := Lib.hid (fun w ht => psum_any (neg? a) (neg? b) (val (mag a)) (val (mag b)) w hla hlb ht)
    clear he hgc hgf hown hb1
    go_wp2_with fail
    rw [HDA.out] at c1
    rw [HDB.out] at c3
    have hbd : Below w.heap.size w w1.drew := below_drew hb
    have hS := HS.out _ (ht.below hbd)
    have hS0 : Below w.heap.size w w1.drew ∧ w1.drew.cell? ⟨g, 0, none⟩ = some (.bool (neg? a)) ∧ w1.drew.cell? ⟨g, 1, none⟩ = some (.string (B (dec (val (mag a))))) ∧ w1.drew.cell? ⟨g, 2, none⟩ = some (.bool (neg? b)) ∧ w1.drew.cell? ⟨g, 3, none⟩ = some (.string (B (dec (val (mag b))))) ∧ g < w1.drew.heap.size := ⟨hbd, c0, c1, c2, c3, hg2⟩
    go_region_held3 (fun w' => Below w.heap.size w w' ∧ w'.cell? ⟨g, 0, none⟩ = some (.bool (neg? a)) ∧ w'.cell? ⟨g, 1, none⟩ = some (.string (B (dec (val (mag a))))) ∧ w'.cell? ⟨g, 2, none⟩ = some (.bool (neg? b)) ∧ w'.cell? ⟨g, 3, none⟩ = some (.string (B (dec (val (mag b))))) ∧ g < w'.heap.size)
      (first | (exact keep4 (hb := hb3) (by assumption)) | (with_reducible exact hS0))
      (first | (go_at_call 46; ((with_reducible refine hS.mono ?_); rintro e w3 ⟨rfl, hb3⟩)))
    all_goals
      go_wp2_with fail
      go_ret2
      exact ⟨ret_si HR.out.1.symm HR.out.2.symm, hbd.trans (hb3.mono hbd.size)⟩
  · have hb := (alloc_below w (.cells #[.string (B a), .string (B b)] 9)).trans (hb1.mono (by simp))
    rw [HE1.out] at he ⊢
    have HR := Lib.hid (show addIS a b = [] ∧ addIE a b = errI a b from ⟨if_neg he, if_neg he⟩)
    have hne : (errI a b != 0) = true := by simpa using he
    clear he hb1
    go_wp2_with fail
    go_ret2
    exact ⟨ret_si HR.out.1.symm HR.out.2.symm, hb⟩

set_option maxHeartbeats 1000000 in
set_option maxRecDepth 100000 in
theorem psub_any (a b : List UInt8) (w : World) (ha : a.length ≤ 1000000) (hbl : b.length ≤ 1000000) (ht : Tab w) :
    Calls Tryd.prog 16 #[.string (B a), .string (B b)] w fun e w' => e = .returned (.tuple #[.string (B (subIS a b)), .int .i64 (subIE a b)]) ∧ Below w.heap.size w w' := by
  have hma : a.length ≤ maxLen := by unfold maxLen; omega
  have hmb : b.length ≤ maxLen := by unfold maxLen; omega
  have HRD := Lib.hid (read_any_w [a, b] (some ⟨w.heap.size, 0, none⟩) 2 _ (cells_two w a b) (Nat.le_refl _) (by simp) (by simp) (by simpa using ⟨hma, hmb⟩))
  have HE1 := Lib.hid (errL_two a b)
  go_enter Tryd.func16, Tryd.ntmps16
  simp only [B_mk]
  go_wp2_with fail
  refine HRD.out.mono ?_
  rintro e w1 (⟨he, A, c, rfl, hown, hb1⟩ | ⟨he, rfl, hb1⟩)
  · have hb := (alloc_below w (.cells #[.string (B a), .string (B b)] 9)).trans (hb1.mono (by simp))
    obtain ⟨g, rfl, hg1, hg2, hgc, hgf⟩ := hown.at_ (by simp)
    have c0 : w1.cell? ⟨g, 0, none⟩ = some (.bool (neg? a)) := hgc 0 (by simp)
    have c1 : w1.cell? ⟨g, 1, none⟩ = some (.string (B (mag a))) := hgc 1 (by simp)
    have c2 : w1.cell? ⟨g, 2, none⟩ = some (.bool (neg? b)) := hgc 2 (by simp)
    have c3 : w1.cell? ⟨g, 3, none⟩ = some (.string (B (mag b))) := hgc 3 (by simp)
    rw [HE1.out] at he
    obtain ⟨h1, h2, h3, h4⟩ := errI_zero.1 he
    have HDA := Lib.hid (dec_mag h1)
    have HDB := Lib.hid (dec_mag h2)
    have hla : (dec (val (mag a))).length ≤ 4096 := by rw [← dec_mag h1]; exact h3
    have hlb : (dec (val (mag b))).length ≤ 4096 := by rw [← dec_mag h2]; exact h4
    have HA := Lib.hid (valI_sg a)
    have HB := Lib.hid (valI_sg b)
    have hcap := hown.cap
    have HR := Lib.hid (show subIS a b = resIS (sg (neg? a) (val (mag a)) + sg (!neg? b) (val (mag b))) ∧ subIE a b = resIE (sg (neg? a) (val (mag a)) + sg (!neg? b) (val (mag b))) by
      have hz : sg (neg? a) (val (mag a)) + sg (!neg? b) (val (mag b)) = valI a - valI b := by rw [HA.out, HB.out, sg_not]; omega
      rw [hz]; exact ⟨if_pos he, if_pos he⟩)
    have HS := Lib.hid (fun w ht => psum_any (neg? a) (!neg? b) (val (mag a)) (val (mag b)) w hla hlb ht)
    clear he hgc hgf hown hb1
    go_wp2_with fail
    rw [HDA.out] at c1
    rw [HDB.out] at c3
    have hbd : Below w.heap.size w w1.drew := below_drew hb
    have hS := HS.out _ (ht.below hbd)
    have hS0 : Below w.heap.size w w1.drew ∧ w1.drew.cell? ⟨g, 0, none⟩ = some (.bool (neg? a)) ∧ w1.drew.cell? ⟨g, 1, none⟩ = some (.string (B (dec (val (mag a))))) ∧ w1.drew.cell? ⟨g, 2, none⟩ = some (.bool (neg? b)) ∧ w1.drew.cell? ⟨g, 3, none⟩ = some (.string (B (dec (val (mag b))))) ∧ g < w1.drew.heap.size := ⟨hbd, c0, c1, c2, c3, hg2⟩
    go_region_held3 (fun w' => Below w.heap.size w w' ∧ w'.cell? ⟨g, 0, none⟩ = some (.bool (neg? a)) ∧ w'.cell? ⟨g, 1, none⟩ = some (.string (B (dec (val (mag a))))) ∧ w'.cell? ⟨g, 2, none⟩ = some (.bool (neg? b)) ∧ w'.cell? ⟨g, 3, none⟩ = some (.string (B (dec (val (mag b))))) ∧ g < w'.heap.size)
      (first | (exact keep4 (hb := hb3) (by assumption)) | (with_reducible exact hS0))
      (first | (go_at_call 46; ((with_reducible refine hS.mono ?_); rintro e w3 ⟨rfl, hb3⟩)))
    all_goals
      go_wp2_with fail
      go_ret2
      exact ⟨ret_si HR.out.1.symm HR.out.2.symm, hbd.trans (hb3.mono hbd.size)⟩
  · have hb := (alloc_below w (.cells #[.string (B a), .string (B b)] 9)).trans (hb1.mono (by simp))
    rw [HE1.out] at he ⊢
    have HR := Lib.hid (show subIS a b = [] ∧ subIE a b = errI a b from ⟨if_neg he, if_neg he⟩)
    have hne : (errI a b != 0) = true := by simpa using he
    clear he hb1
    go_wp2_with fail
    go_ret2
    exact ⟨ret_si HR.out.1.symm HR.out.2.symm, hb⟩

set_option maxHeartbeats 1000000 in
set_option maxRecDepth 100000 in
theorem pmul_any (a b : List UInt8) (w : World) (ha : a.length ≤ 1000000) (hbl : b.length ≤ 1000000) (ht : Tab w) :
    Calls Tryd.prog 32 #[.string (B a), .string (B b)] w fun e w' => e = .returned (.tuple #[.string (B (mulIS a b)), .int .i64 (mulIE a b)]) ∧ Below w.heap.size w w' := by
  have hma : a.length ≤ maxLen := by unfold maxLen; omega
  have hmb : b.length ≤ maxLen := by unfold maxLen; omega
  have HRD := Lib.hid (read_any_w [a, b] (some ⟨w.heap.size, 0, none⟩) 2 _ (cells_two w a b) (Nat.le_refl _) (by simp) (by simp) (by simpa using ⟨hma, hmb⟩))
  have HE1 := Lib.hid (errL_two a b)
  go_enter Tryd.func32, Tryd.ntmps32
  simp only [B_mk]
  go_wp2_with fail
  refine HRD.out.mono ?_
  rintro e w1 (⟨he, A, c, rfl, hown, hb1⟩ | ⟨he, rfl, hb1⟩)
  · have hb := (alloc_below w (.cells #[.string (B a), .string (B b)] 9)).trans (hb1.mono (by simp))
    obtain ⟨g, rfl, hg1, hg2, hgc, hgf⟩ := hown.at_ (by simp)
    have c0 : w1.cell? ⟨g, 0, none⟩ = some (.bool (neg? a)) := hgc 0 (by simp)
    have c1 : w1.cell? ⟨g, 1, none⟩ = some (.string (B (mag a))) := hgc 1 (by simp)
    have c2 : w1.cell? ⟨g, 2, none⟩ = some (.bool (neg? b)) := hgc 2 (by simp)
    have c3 : w1.cell? ⟨g, 3, none⟩ = some (.string (B (mag b))) := hgc 3 (by simp)
    rw [HE1.out] at he
    obtain ⟨h1, h2, h3, h4⟩ := errI_zero.1 he
    have HDA := Lib.hid (dec_mag h1)
    have HDB := Lib.hid (dec_mag h2)
    have hla : (dec (val (mag a))).length ≤ 4096 := by rw [← dec_mag h1]; exact h3
    have hlb : (dec (val (mag b))).length ≤ 4096 := by rw [← dec_mag h2]; exact h4
    have HA := Lib.hid (valI_sg a)
    have HB := Lib.hid (valI_sg b)
    have hcap := hown.cap
    have HR := Lib.hid (show mulIS a b = resIS (sg (!(neg? a == neg? b)) (val (mag a) * val (mag b))) ∧ mulIE a b = resIE (sg (!(neg? a == neg? b)) (val (mag a) * val (mag b))) by
      have hz : sg (!(neg? a == neg? b)) (val (mag a) * val (mag b)) = valI a * valI b := by rw [HA.out, HB.out, mul_sg]; rfl
      rw [hz]; exact ⟨if_pos he, if_pos he⟩)
    have HM := Lib.hid (fun w ht => mul_any (dec (val (mag a))) (dec (val (mag b))) w (maxLen_le (by omega)) (maxLen_le (by omega)) ht)
    have HMS := Lib.hid (mulS_dec' hla hlb)
    have HS := Lib.hid (fun w => psigned_any (!(neg? a == neg? b)) (val (mag a) * val (mag b)) w)
    clear he hgc hgf hown hb1
    go_wp2_with fail
    rw [HDA.out] at c1
    rw [HDB.out] at c3
    have hbd : Below w.heap.size w w1.drew := below_drew hb
    have hS := HM.out _ (ht.below hbd)
    rw [HMS.out.1, HMS.out.2] at hS
    have hS0 : Below w.heap.size w w1.drew ∧ w1.drew.cell? ⟨g, 0, none⟩ = some (.bool (neg? a)) ∧ w1.drew.cell? ⟨g, 1, none⟩ = some (.string (B (dec (val (mag a))))) ∧ w1.drew.cell? ⟨g, 2, none⟩ = some (.bool (neg? b)) ∧ w1.drew.cell? ⟨g, 3, none⟩ = some (.string (B (dec (val (mag b))))) ∧ g < w1.drew.heap.size := ⟨hbd, c0, c1, c2, c3, hg2⟩
    go_region_held3 (fun w' => Below w.heap.size w w' ∧ w'.cell? ⟨g, 0, none⟩ = some (.bool (neg? a)) ∧ w'.cell? ⟨g, 1, none⟩ = some (.string (B (dec (val (mag a))))) ∧ w'.cell? ⟨g, 2, none⟩ = some (.bool (neg? b)) ∧ w'.cell? ⟨g, 3, none⟩ = some (.string (B (dec (val (mag b))))) ∧ g < w'.heap.size)
      (first | (exact keep4 (hb := hb3) (by assumption)) | (with_reducible exact hS0))
      (first | (go_at_call 55; ((with_reducible refine hS.mono ?_); rintro e w3 ⟨rfl, hb3⟩)))
    all_goals
      have hbe := hbd.trans (hb3.mono hbd.size)
      have hS2 := keep4 hS0 hb3
      obtain ⟨_, e0, e1, e2, e3, hg3⟩ := hS2
      have hbf : Below w.heap.size w w3.drew := below_drew hbe
      have hS3 : Below w.heap.size w w3.drew ∧ w3.drew.cell? ⟨g, 0, none⟩ = some (.bool (neg? a)) ∧ w3.drew.cell? ⟨g, 1, none⟩ = some (.string (B (dec (val (mag a))))) ∧ w3.drew.cell? ⟨g, 2, none⟩ = some (.bool (neg? b)) ∧ w3.drew.cell? ⟨g, 3, none⟩ = some (.string (B (dec (val (mag b))))) ∧ g < w3.drew.heap.size := ⟨hbf, e0, e1, e2, e3, hg3⟩
      clear hb3 c0 c1 c2 c3 hS hS0
      go_wp2_with fail
      go_region_held3 (fun w' => Below w.heap.size w w' ∧ w'.cell? ⟨g, 0, none⟩ = some (.bool (neg? a)) ∧ w'.cell? ⟨g, 1, none⟩ = some (.string (B (dec (val (mag a))))) ∧ w'.cell? ⟨g, 2, none⟩ = some (.bool (neg? b)) ∧ w'.cell? ⟨g, 3, none⟩ = some (.string (B (dec (val (mag b))))) ∧ g < w'.heap.size)
        (first | (exact keep4 (hb := hb5) (by assumption)) | (with_reducible exact hS3))
        (first | (go_at_call 56; ((with_reducible refine (HS.out w3.drew).mono ?_); rintro e w5 ⟨rfl, hb5⟩)))
      all_goals
        go_wp2_with fail
        go_ret2
        exact ⟨ret_si HR.out.1.symm HR.out.2.symm, hbf.trans (hb5.mono hbf.size)⟩
  · have hb := (alloc_below w (.cells #[.string (B a), .string (B b)] 9)).trans (hb1.mono (by simp))
    rw [HE1.out] at he ⊢
    have HR := Lib.hid (show mulIS a b = [] ∧ mulIE a b = errI a b from ⟨if_neg he, if_neg he⟩)
    have hne : (errI a b != 0) = true := by simpa using he
    clear he hb1
    go_wp2_with fail
    go_ret2
    exact ⟨ret_si HR.out.1.symm HR.out.2.symm, hb⟩
end Go.Proofs.YtkggdkkfdbbglaaDoor
