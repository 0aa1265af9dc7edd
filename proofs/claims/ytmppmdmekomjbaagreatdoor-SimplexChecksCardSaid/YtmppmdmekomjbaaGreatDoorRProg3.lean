/- ratio: Make, Parts, two, Of. (Printed by wip/rprog3.py.) -/
import Derived.Test.YtmppmdmekomjbaaGreatDoorRProg2
import Derived.Handy
namespace Go.Proofs.YtmppmdmekomjbaaGreatDoor
open Go.RowKit Num
set_option linter.unusedVariables false
attribute [local go_sem] B_size B_get B_toList B_mk B_extract B_append
attribute [local go_sem high] run_max2

theorem rq_parts {l : Str} (h : rightQ l = true) : numT l = decI (qn l) ∧ denT l = dec (qd l) ∧ 0 < qd l ∧ dl (qn l) ≤ 4096 ∧ (dec (qd l)).length ≤ 4096 ∧ Nat.gcd (qn l).natAbs (qd l) = 1 ∧ l = ratS (qn l) (qd l) := by
  obtain ⟨n, d, h1, h2, h3, h4, rfl⟩ := rightQ_out h
  rw [qn_ratS, qd_ratS]
  exact ⟨(parts_ratS n d).1, (parts_ratS n d).2.1, h1, h3, h4, h2, rfl⟩
def prtN (l : Str) : Str := if rightQ l = true then numT l else []
def prtD (l : Str) : Str := if rightQ l = true then denT l else []
theorem qof_any (z : Int) (w : World) (hz : fits z) (ht : Tab w) :
    Calls Tryz.prog 63 #[.int .i64 z] w fun e w' => e = .returned (.string (B (decI z))) ∧ Below w.heap.size w w' := by
  go_enter Tryz.func63, Tryz.ntmps63
  go_wp2_with fail
  refine (wof_any z w hz ht).mono ?_
  rintro e w1 ⟨rfl, hb1⟩
  go_wp2_with fail
  go_ret
  exact ⟨rfl, hb1⟩
theorem ret_ssssi {a b c d a' b' c' d' : List UInt8} {k k' : Int} (h : a = a') (h1 : b = b') (h2 : c = c') (h3 : d = d') (h4 : k = k') : Ending.returned (.tuple #[.string (B a), .string (B b), .string (B c), .string (B d), .int .i64 k]) = .returned (.tuple #[.string (B a'), .string (B b'), .string (B c'), .string (B d'), .int .i64 k']) := by rw [h, h1, h2, h3, h4]
/-- a part of two numbers that must both be right -/
def twoS (a b s : Str) : Str := if errQ a b = 0 then s else []
theorem qtwo_any (a b : List UInt8) (w : World) (ha : a.length ≤ 1000000) (hb : b.length ≤ 1000000) (he : Env w) :
    Calls Tryz.prog 140 #[.string (B a), .string (B b)] w fun e w' => e = .returned (.tuple #[.string (B (twoS a b (numT a))), .string (B (twoS a b (denT a))), .string (B (twoS a b (numT b))), .string (B (twoS a b (denT b))), .int .i64 (errQ a b)]) ∧ Below w.heap.size w w' := by
  have HSA := Lib.hid (fun w hm => qsplit_any a w ha hm)
  have HSB := Lib.hid (fun w hm => qsplit_any b w hb hm)
  have HA := Lib.hid (rq_any a w ha he)
  have HB := Lib.hid (fun w he => rq_any b w hb he)
  cases h1 : rightQ a
  · have HE := Lib.hid (show errQ a b = 3 by unfold errQ; rw [h1]; simp)
    have HT := Lib.hid (show ∀ s, twoS a b s = [] by intro s; unfold twoS; rw [HE.out]; rfl)
    rw [h1] at HA
    go_enter Tryz.func140, Tryz.ntmps140
    simp only [B_mk]
    go_wp2_with fail
    refine HA.out.mono ?_
    rintro e w1 ⟨rfl, hb1⟩
    go_wp2_with fail
    go_returns
    exact ⟨ret_ssssi (HT.out _).symm (HT.out _).symm (HT.out _).symm (HT.out _).symm HE.out.symm, hb1⟩
  cases h2 : rightQ b
  · have HE := Lib.hid (show errQ a b = 3 by unfold errQ; rw [h2]; simp)
    have HT := Lib.hid (show ∀ s, twoS a b s = [] by intro s; unfold twoS; rw [HE.out]; rfl)
    rw [h1] at HA
    rw [h2] at HB
    go_enter Tryz.func140, Tryz.ntmps140
    simp only [B_mk]
    go_wp2_with fail
    refine HA.out.mono ?_
    rintro e w1 ⟨rfl, hb1⟩
    go_wp2_with fail
    refine (HB.out w1 (he.below hb1)).mono ?_
    rintro e w2 ⟨rfl, hb2⟩
    go_wp2_with fail
    go_returns
    exact ⟨ret_ssssi (HT.out _).symm (HT.out _).symm (HT.out _).symm (HT.out _).symm HE.out.symm, hb1.trans (hb2.mono hb1.size)⟩
  have HE := Lib.hid (show errQ a b = 0 by unfold errQ; rw [h1, h2]; simp)
  have HT := Lib.hid (show ∀ s, twoS a b s = s by intro s; unfold twoS; rw [HE.out]; rfl)
  rw [h1] at HA
  rw [h2] at HB
  go_enter Tryz.func140, Tryz.ntmps140
  simp only [B_mk]
  go_wp2_with fail
  refine HA.out.mono ?_
  rintro e w1 ⟨rfl, hb1⟩
  go_wp2_with fail
  refine (HB.out w1 (he.below hb1)).mono ?_
  rintro e w2 ⟨rfl, hb2⟩
  have a2 := hb1.trans (hb2.mono hb1.size)
  go_wp2_with fail
  refine (HSA.out w2 (he.2.below a2)).mono ?_
  rintro e w3 ⟨rfl, hb3⟩
  have a3 := a2.trans (hb3.mono a2.size)
  go_wp2_with fail
  refine (HSB.out w3 (he.2.below a3)).mono ?_
  rintro e w4 ⟨rfl, hb4⟩
  go_wp2_with fail
  go_returns
  exact ⟨ret_ssssi (HT.out _).symm (HT.out _).symm (HT.out _).symm (HT.out _).symm HE.out.symm, a3.trans (hb4.mono a3.size)⟩

end Go.Proofs.YtmppmdmekomjbaaGreatDoor
