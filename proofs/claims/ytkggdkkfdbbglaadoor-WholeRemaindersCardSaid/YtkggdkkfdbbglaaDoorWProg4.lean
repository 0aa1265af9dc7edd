/- whole: Neg, Abs, signed, sum, Add, Sub, Mul. -/
import Derived.Test.YtkggdkkfdbbglaaDoorWProg3
import Derived.Test.YtkggdkkfdbbglaaDoorDiv
import Derived.StillTailTactics
import Derived.Deep.RegionHeld3
namespace Go.Proofs.YtkggdkkfdbbglaaDoor
open Go.RowKit Num
set_option linter.unusedVariables false
attribute [local go_sem] B_size B_get B_toList B_mk B_extract B_append
attribute [local go_sem high] run_max2

theorem errL_two (a b : Str) : errL [a, b] = errI a b := by
  unfold errL errI
  simp only [List.all_cons, List.all_nil, Bool.and_true, Bool.and_eq_true, decide_eq_true_eq]
theorem errL_one (a : Str) : errL [a] = errI a a := by
  unfold errL errI
  simp only [List.all_cons, List.all_nil, Bool.and_true, decide_eq_true_eq, and_self]
/-- the argument of a call with one, with two texts -/
theorem cells_one (w : World) (a : Str) : Cells (w.alloc (.cells #[.string (B a)] 9)) (some ⟨w.heap.size, 0, none⟩) (strs [a]) :=
  (OwnS.lit w 9 #[.string (B a)] w.heap.size 1 (Nat.le_refl _) rfl (by unfold maxLen; omega)).cells
theorem cells_two (w : World) (a b : Str) : Cells (w.alloc (.cells #[.string (B a), .string (B b)] 9)) (some ⟨w.heap.size, 0, none⟩) (strs [a, b]) :=
  (OwnS.lit w 9 #[.string (B a), .string (B b)] w.heap.size 2 (Nat.le_refl _) rfl (by unfold maxLen; omega)).cells
theorem below_drew {B : Nat} {a w : World} (h : Below B a w) : Below B a w.drew := ⟨h.os, h.tape, h.output, h.size, h.block⟩
theorem maxLen_le {n : Nat} (h : n ≤ 1000000000) : n ≤ maxLen := by unfold maxLen; omega
theorem alloc_below (w : World) (o : Obj) : Below w.heap.size w (w.alloc o) := (Below.refl _ _).alloc (Nat.le_refl _) _

set_option maxHeartbeats 1000000 in
set_option maxRecDepth 100000 in
theorem pneg_any (a : List UInt8) (w : World) (ha : a.length ≤ 1000000) :
    Calls Tryd.prog 18 #[.string (B a)] w fun e w' => e = .returned (.tuple #[.string (B (negIS a)), .int .i64 (errI a a)]) ∧ Below w.heap.size w w' := by
  have hma : a.length ≤ maxLen := by unfold maxLen; omega
  have HRD := Lib.hid (read_any_w [a] (some ⟨w.heap.size, 0, none⟩) 1 _ (cells_one w a) (Nat.le_refl _) (by simp) (by simp) (by simpa using hma))
  have HE1 := Lib.hid (errL_one a)
  go_enter Tryd.func18, Tryd.ntmps18
  simp only [B_mk]
  go_wp2_with fail
  refine HRD.out.mono ?_
  rintro e w1 (⟨he, A, c, rfl, hown, hb1⟩ | ⟨he, rfl, hb1⟩)
  · have hb := (alloc_below w (.cells #[.string (B a)] 9)).trans (hb1.mono (by simp))
    obtain ⟨g, rfl, hg1, hg2, hgc, hgf⟩ := hown.at_ (by simp)
    have c0 : w1.cell? ⟨g, 0, none⟩ = some (.bool (neg? a)) := hgc 0 (by simp)
    have c1 : w1.cell? ⟨g, 1, none⟩ = some (.string (B (mag a))) := hgc 1 (by simp)
    rw [HE1.out] at he
    obtain ⟨h1, h2, h3, h4⟩ := errI_zero.1 he
    have HR := Lib.hid (show negIS a = decI (-(valI a)) from if_pos he)
    have HZ := Lib.hid (show sg (!neg? a) (val (mag a)) = -(valI a) by rw [sg_not, valI_sg])
    have HD := Lib.hid (dec_mag h1)
    have HE := Lib.hid he
    have HTX := Lib.hid (fun w => ptext_any (!neg? a) (val (mag a)) w (by have := dec_magL h1; omega))
    clear he hgc hgf hown hb1
    go_wp2_with fail
    go_still_tail 10, (by kernel_rfl)
    have hbd : Below w.heap.size w w1.drew := below_drew hb
    change wpList _ _ _ _ _ w1.drew
    generalize w1.drew = w2 at *
    go_wp2_with fail
    rw [HD.out]
    refine (HTX.out w2).mono ?_
    rintro e w3 ⟨rfl, hb3⟩
    go_wp2_with fail
    go_ret2
    exact ⟨ret_si (by rw [HR.out, HZ.out]) HE.out.symm, hbd.trans (hb3.mono hbd.size)⟩
  · have hb := (alloc_below w (.cells #[.string (B a)] 9)).trans (hb1.mono (by simp))
    rw [HE1.out] at he ⊢
    have HR := Lib.hid (show negIS a = [] from if_neg he)
    have hne : (errI a a != 0) = true := by simpa using he
    clear he hb1
    go_wp2_with fail
    go_ret2
    exact ⟨ret_si HR.out.symm rfl, hb⟩

set_option maxHeartbeats 1000000 in
theorem pabs_any (a : List UInt8) (w : World) (ha : a.length ≤ 1000000) :
    Calls Tryd.prog 20 #[.string (B a)] w fun e w' => e = .returned (.tuple #[.string (B (absIS a)), .int .i64 (errI a a)]) ∧ Below w.heap.size w w' := by
  have hma : a.length ≤ maxLen := by unfold maxLen; omega
  have HRD := Lib.hid (read_any_w [a] (some ⟨w.heap.size, 0, none⟩) 1 _ (cells_one w a) (Nat.le_refl _) (by simp) (by simp) (by simpa using hma))
  have HE1 := Lib.hid (errL_one a)
  go_enter Tryd.func20, Tryd.ntmps20
  simp only [B_mk]
  go_wp2_with fail
  refine HRD.out.mono ?_
  rintro e w1 (⟨he, A, c, rfl, hown, hb1⟩ | ⟨he, rfl, hb1⟩)
  · have hb := (alloc_below w (.cells #[.string (B a)] 9)).trans (hb1.mono (by simp))
    obtain ⟨g, rfl, hg1, hg2, hgc, hgf⟩ := hown.at_ (by simp)
    have c1 : w1.cell? ⟨g, 1, none⟩ = some (.string (B (mag a))) := hgc 1 (by simp)
    rw [HE1.out] at he
    obtain ⟨h1, h2, h3, h4⟩ := errI_zero.1 he
    have HR := Lib.hid (show absIS a = mag a by rw [absIS, if_pos he, abs_valI, decI_nat, ← dec_mag h1])
    have HE := Lib.hid he
    clear he hgc hgf hown hb1
    go_wp2_with fail
    go_ret2
    exact ⟨ret_si HR.out.symm HE.out.symm, hb⟩
  · have hb := (alloc_below w (.cells #[.string (B a)] 9)).trans (hb1.mono (by simp))
    rw [HE1.out] at he ⊢
    have HR := Lib.hid (show absIS a = [] from if_neg he)
    have hne : (errI a a != 0) = true := by simpa using he
    clear he hb1
    go_wp2_with fail
    go_ret2
    exact ⟨ret_si HR.out.symm rfl, hb⟩
theorem psigned_any (m : Bool) (n : Nat) (w : World) :
    Calls Tryd.prog 56 #[.agg #[.bool m, .string (B (resS n))], .int .i64 (resE n)] w fun e w' => e = .returned (.tuple #[.string (B (resIS (sg m n))), .int .i64 (resIE (sg m n))]) ∧ Below w.heap.size w w' := by
  by_cases h : (dec n).length ≤ 4096
  · have HR := Lib.hid (show resS n = dec n ∧ resE n = 0 from ⟨if_pos h, if_pos h⟩)
    have HI := Lib.hid (show resIS (sg m n) = decI (sg m n) ∧ resIE (sg m n) = 0 from ⟨by rw [resIS, sg_abs, if_pos h], by rw [resIE, sg_abs, if_pos h]⟩)
    have HT := Lib.hid (fun w => ptext_any m n w (by omega))
    have hal := alloc_below w (.cells #[.bool m, .string (B (dec n))] 45)
    rw [HR.out.1, HR.out.2]
    clear h
    go_enter Tryd.func56, Tryd.ntmps56
    simp only [B_mk]
    go_wp2_with fail
    refine (HT.out _).mono ?_
    rintro e w1 ⟨rfl, hb1⟩
    go_wp2_with fail
    go_ret2
    exact ⟨ret_si HI.out.1.symm HI.out.2.symm, hal.trans (hb1.mono hal.size)⟩
  · have HR := Lib.hid (show resS n = [] ∧ resE n = 4 from ⟨if_neg h, if_neg h⟩)
    have HI := Lib.hid (show resIS (sg m n) = [] ∧ resIE (sg m n) = 4 from ⟨by rw [resIS, sg_abs, if_neg h], by rw [resIE, sg_abs, if_neg h]⟩)
    rw [HR.out.1, HR.out.2]
    clear h
    go_enter Tryd.func56, Tryd.ntmps56
    simp only [B_mk]
    go_wp2_with fail
    go_ret2
    exact ⟨ret_si HI.out.1.symm HI.out.2.symm, alloc_below _ _⟩
theorem addS_dec' {p q : Nat} (hp : (dec p).length ≤ 4096) (hq : (dec q).length ≤ 4096) : addS (dec p) (dec q) = resS (p + q) ∧ addE (dec p) (dec q) = resE (p + q) := by
  unfold addS addE; rw [if_pos (errT_dec hp hq), if_pos (errT_dec hp hq), val_dec, val_dec]; exact ⟨rfl, rfl⟩
theorem subS_dec' {p q : Nat} (hp : (dec p).length ≤ 4096) (hq : (dec q).length ≤ 4096) (h : q ≤ p) : subS (dec p) (dec q) = resS (p - q) ∧ subE (dec p) (dec q) = resE (p - q) := by
  unfold subS subE; rw [if_pos (errT_dec hp hq), if_pos (errT_dec hp hq), val_dec, val_dec, if_neg (by omega), if_neg (by omega)]; exact ⟨rfl, rfl⟩
theorem mulS_dec' {p q : Nat} (hp : (dec p).length ≤ 4096) (hq : (dec q).length ≤ 4096) : mulS (dec p) (dec q) = resS (p * q) ∧ mulE (dec p) (dec q) = resE (p * q) := by
  unfold mulS mulE; rw [if_pos (errT_dec hp hq), if_pos (errT_dec hp hq), val_dec, val_dec]; exact ⟨rfl, rfl⟩

set_option maxHeartbeats 1000000 in
theorem psum_any (m n : Bool) (x y : Nat) (w : World) (hx : (dec x).length ≤ 4096) (hy : (dec y).length ≤ 4096) (ht : Tab w) :
    Calls Tryd.prog 46 #[.agg #[.bool m, .string (B (dec x))], .agg #[.bool n, .string (B (dec y))]] w fun e w' => e = .returned (.tuple #[.string (B (resIS (sg m x + sg n y))), .int .i64 (resIE (sg m x + sg n y))]) ∧ Below w.heap.size w w' := by
  have hal : Below w.heap.size w ((w.alloc (.cells #[.bool m, .string (B (dec x))] 45)).alloc (.cells #[.bool n, .string (B (dec y))] 45)) := (alloc_below w _).alloc (by simp) _
  by_cases hmn : m = n
  · subst hmn
    have HR := Lib.hid (sum_same m x y)
    have HA := Lib.hid (fun w ht => add_any (dec x) (dec y) w (maxLen_le (by omega)) (maxLen_le (by omega)) ht)
    have HS := Lib.hid (addS_dec' hx hy)
    have HG := Lib.hid (fun w => psigned_any m (x + y) w)
    have hb : (m == m) = true := by simp
    go_enter Tryd.func46, Tryd.ntmps46
    simp only [B_mk]
    go_wp2_with fail
    refine (HA.out _ (ht.below hal)).mono ?_
    rw [HS.out.1, HS.out.2]
    rintro e w1 ⟨rfl, hb1⟩
    have hbb := hal.trans (hb1.mono hal.size)
    have c0 : w1.cell? ⟨w.heap.size, 0, none⟩ = some (.bool m) := (hb1.cell (p := ⟨w.heap.size, 0, none⟩) (by simp; omega)).trans (by go_simp)
    go_wp2_with fail
    refine (HG.out w1).mono ?_
    rintro e w2 ⟨rfl, hb2⟩
    go_wp2_with fail
    go_ret2
    exact ⟨ret_si (by rw [HR.out]) (by rw [HR.out]), hbb.trans (hb2.mono hbb.size)⟩
  · have HC := Lib.hid (fun w => pcompare_any x y w (by omega) (by omega))
    have hb : (m == n) = false := by simpa using hmn
    by_cases hlt : x < y
    · have HR := Lib.hid (sum_less (m := m) (n := n) hmn hlt)
      have HA := Lib.hid (fun w ht => sub_any (dec y) (dec x) w (maxLen_le (by omega)) (maxLen_le (by omega)) ht)
      have HS := Lib.hid (subS_dec' hy hx (Nat.le_of_lt hlt))
      have HG := Lib.hid (fun w => psigned_any n (y - x) w)
      have HO := Lib.hid (ordI_lt hlt)
      clear hmn hlt
      go_enter Tryd.func46, Tryd.ntmps46
      simp only [B_mk]
      go_wp2_with fail
      refine (HC.out _).mono ?_
      rw [HO.out]
      rintro e w1 ⟨rfl, h⟩; obtain rfl := h.symm
      go_wp2_with fail
      have hal2 : Below w.heap.size w ((w.alloc (.cells #[.bool n, .string (B (dec y))] 45)).alloc (.cells #[.bool m, .string (B (dec x))] 45)) := (alloc_below w _).alloc (by simp) _
      refine (HA.out _ (ht.below hal2)).mono ?_
      rw [HS.out.1, HS.out.2]
      rintro e w1 ⟨rfl, hb1⟩
      have hbb := hal2.trans (hb1.mono hal2.size)
      have c0 : w1.cell? ⟨w.heap.size, 0, none⟩ = some (.bool n) := (hb1.cell (p := ⟨w.heap.size, 0, none⟩) (by simp; omega)).trans (by go_simp)
      go_wp2_with fail
      refine (HG.out w1).mono ?_
      rintro e w2 ⟨rfl, hb2⟩
      go_wp2_with fail
      go_ret2
      exact ⟨ret_si (by rw [HR.out]) (by rw [HR.out]), hbb.trans (hb2.mono hbb.size)⟩
    · have HR := Lib.hid (sum_more (m := m) (n := n) hmn (show y ≤ x by omega))
      have HA := Lib.hid (fun w ht => sub_any (dec x) (dec y) w (maxLen_le (by omega)) (maxLen_le (by omega)) ht)
      have HS := Lib.hid (subS_dec' hx hy (show y ≤ x by omega))
      have HG := Lib.hid (fun w => psigned_any m (x - y) w)
      obtain ⟨o, ho, hop⟩ : ∃ o, ordI x y = o ∧ ¬ o < 0 := by
        refine ⟨_, rfl, ?_⟩
        unfold ordI; rw [if_neg (by omega)]; split <;> omega
      have HO := Lib.hid ho
      clear hmn hlt ho
      go_enter Tryd.func46, Tryd.ntmps46
      simp only [B_mk]
      go_wp2_with fail
      refine (HC.out _).mono ?_
      rw [HO.out]
      rintro e w1 ⟨rfl, h⟩; obtain rfl := h.symm
      go_wp2_with fail
      refine (HA.out _ (ht.below hal)).mono ?_
      rw [HS.out.1, HS.out.2]
      rintro e w1 ⟨rfl, hb1⟩
      have hbb := hal.trans (hb1.mono hal.size)
      have c0 : w1.cell? ⟨w.heap.size, 0, none⟩ = some (.bool m) := (hb1.cell (p := ⟨w.heap.size, 0, none⟩) (by simp; omega)).trans (by go_simp)
      go_wp2_with fail
      refine (HG.out w1).mono ?_
      rintro e w2 ⟨rfl, hb2⟩
      go_wp2_with fail
      go_ret2
      exact ⟨ret_si (by rw [HR.out]) (by rw [HR.out]), hbb.trans (hb2.mono hbb.size)⟩

end Go.Proofs.YtkggdkkfdbbglaaDoor
