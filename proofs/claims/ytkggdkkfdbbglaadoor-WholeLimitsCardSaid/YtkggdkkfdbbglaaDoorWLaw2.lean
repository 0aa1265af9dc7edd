/- The laws WholeSums, WholeProducts, WholeForms. (Printed by wip/wlaws.py.) -/
import Derived.Test.YtkggdkkfdbbglaaDoorWLaw
namespace Go.Proofs.YtkggdkkfdbbglaaDoor
open Go.RowKit Num
set_option linter.unusedVariables false
attribute [local go_sem] B_size B_get B_toList B_mk B_extract B_append
attribute [local go_sem high] run_max2

theorem lit_fits {z : Int} (h : (Lit.int .i64 z).wf = true) : fits z := by
  have h1 : IntKind.i64.min ≤ z ∧ z ≤ IntKind.i64.max := by simpa [Lit.wf] using h
  exact h1
set_option maxHeartbeats 1000000 in
theorem wholeSums_walk (a : List UInt8) (b : List UInt8) (w : World) (hla : a.length ≤ maxLen) (hlb : b.length ≤ maxLen) (ht : Tab w) (he : ErrV w) :
    Calls Tryd.prog 4 #[.string (B a), .string (B b)] w fun e w' => e = .returned (.bool true) ∧ Below w.heap.size w w' := by
  by_cases ha : 200 < a.length
  · have ha' : (200 : Int) < (a.length : Int) := by omega
    go_enter Tryd.func4, Tryd.ntmps4
    go_wp2_with fail
    refine (examples_any w ht he).mono ?_
    rintro e w1 ⟨rfl, hb1⟩
    go_wp2_with fail
    go_ret
    exact ⟨rfl, hb1⟩
  have ha' : ¬ (200 : Int) < (a.length : Int) := by omega
  by_cases hb : 200 < b.length
  · have hb' : (200 : Int) < (b.length : Int) := by omega
    go_enter Tryd.func4, Tryd.ntmps4
    go_wp2_with fail
    refine (examples_any w ht he).mono ?_
    rintro e w1 ⟨rfl, hb1⟩
    go_wp2_with fail
    go_ret
    exact ⟨rfl, hb1⟩
  have hb' : ¬ (200 : Int) < (b.length : Int) := by omega
  have C0 := Lib.hid (fun (w : World) (ht : Tab w) (he : ErrV w) => padd_any a b w (by omega) (by omega) ht)
  have C1 := Lib.hid (fun (w : World) (ht : Tab w) (he : ErrV w) => wradd_any a b w (by omega) (by omega))
  have C2 := Lib.hid (fun (w : World) (ht : Tab w) (he : ErrV w) => psub_any a b w (by omega) (by omega) ht)
  have C3 := Lib.hid (fun (w : World) (ht : Tab w) (he : ErrV w) => wrsub_any a b w (by omega) (by omega))
  have C4 := Lib.hid (fun (w : World) (ht : Tab w) (he : ErrV w) => pneg_any a w (by omega))
  have C5 := Lib.hid (fun (w : World) (ht : Tab w) (he : ErrV w) => wrneg_any a w (by omega))
  have C6 := Lib.hid (fun (w : World) (ht : Tab w) (he : ErrV w) => pabs_any b w (by omega))
  have C7 := Lib.hid (fun (w : World) (ht : Tab w) (he : ErrV w) => wrabs_any b w (by omega))
  have q0 : (addIS a b == addIS a b) = true := by simp
  have q1 : (addIE a b == addIE a b) = true := by simp
  have q2 : (subIS a b == subIS a b) = true := by simp
  have q3 : (subIE a b == subIE a b) = true := by simp
  have q4 : (negIS a == negIS a) = true := by simp
  have q5 : (errI a a == errI a a) = true := by simp
  have q6 : (absIS b == absIS b) = true := by simp
  have q7 : (errI b b == errI b b) = true := by simp
  generalize addIS a b = s0 at *
  generalize addIE a b = s1 at *
  generalize subIS a b = s2 at *
  generalize subIE a b = s3 at *
  generalize negIS a = s4 at *
  generalize errI a a = s5 at *
  generalize absIS b = s6 at *
  generalize errI b b = s7 at *
  go_enter Tryd.func4, Tryd.ntmps4
  go_wp2_with fail
  refine (C0.out w ht he).mono ?_
  rintro e w1 ⟨rfl, hb1⟩
  have a1 := hb1
  go_wp2_with fail
  refine (C1.out w1 (ht.below a1) (he.below a1)).mono ?_
  rintro e w2 ⟨rfl, hb2⟩
  have a2 := a1.trans (hb2.mono a1.size)
  go_wp2_with fail
  refine (C2.out w2 (ht.below a2) (he.below a2)).mono ?_
  rintro e w3 ⟨rfl, hb3⟩
  have a3 := a2.trans (hb3.mono a2.size)
  go_wp2_with fail
  refine (C3.out w3 (ht.below a3) (he.below a3)).mono ?_
  rintro e w4 ⟨rfl, hb4⟩
  have a4 := a3.trans (hb4.mono a3.size)
  go_wp2_with fail
  refine (C4.out w4 (ht.below a4) (he.below a4)).mono ?_
  rintro e w5 ⟨rfl, hb5⟩
  have a5 := a4.trans (hb5.mono a4.size)
  go_wp2_with fail
  refine (C5.out w5 (ht.below a5) (he.below a5)).mono ?_
  rintro e w6 ⟨rfl, hb6⟩
  have a6 := a5.trans (hb6.mono a5.size)
  go_wp2_with fail
  refine (C6.out w6 (ht.below a6) (he.below a6)).mono ?_
  rintro e w7 ⟨rfl, hb7⟩
  have a7 := a6.trans (hb7.mono a6.size)
  go_wp2_with fail
  refine (C7.out w7 (ht.below a7) (he.below a7)).mono ?_
  rintro e w8 ⟨rfl, hb8⟩
  have a8 := a7.trans (hb8.mono a7.size)
  go_wp2_with fail
  refine (examples_any w8 (ht.below a8) (he.below a8)).mono ?_
  rintro e wz ⟨rfl, hbz⟩
  go_wp2_with fail
  go_ret
  exact ⟨rfl, a8.trans (hbz.mono a8.size)⟩
set_option maxHeartbeats 1000000 in
theorem wholeProducts_walk (a : List UInt8) (b : List UInt8) (w : World) (hla : a.length ≤ maxLen) (hlb : b.length ≤ maxLen) (ht : Tab w) (he : ErrV w) :
    Calls Tryd.prog 6 #[.string (B a), .string (B b)] w fun e w' => e = .returned (.bool true) ∧ Below w.heap.size w w' := by
  by_cases ha : 100 < a.length
  · have ha' : (100 : Int) < (a.length : Int) := by omega
    go_enter Tryd.func6, Tryd.ntmps6
    go_wp2_with fail
    refine (examples_any w ht he).mono ?_
    rintro e w1 ⟨rfl, hb1⟩
    go_wp2_with fail
    go_ret
    exact ⟨rfl, hb1⟩
  have ha' : ¬ (100 : Int) < (a.length : Int) := by omega
  by_cases hb : 100 < b.length
  · have hb' : (100 : Int) < (b.length : Int) := by omega
    go_enter Tryd.func6, Tryd.ntmps6
    go_wp2_with fail
    refine (examples_any w ht he).mono ?_
    rintro e w1 ⟨rfl, hb1⟩
    go_wp2_with fail
    go_ret
    exact ⟨rfl, hb1⟩
  have hb' : ¬ (100 : Int) < (b.length : Int) := by omega
  have C0 := Lib.hid (fun (w : World) (ht : Tab w) (he : ErrV w) => pmul_any a b w (by omega) (by omega) ht)
  have C1 := Lib.hid (fun (w : World) (ht : Tab w) (he : ErrV w) => wrmul_any a b w (by omega) (by omega))
  have q0 : (mulIS a b == mulIS a b) = true := by simp
  have q1 : (mulIE a b == mulIE a b) = true := by simp
  generalize mulIS a b = s0 at *
  generalize mulIE a b = s1 at *
  go_enter Tryd.func6, Tryd.ntmps6
  go_wp2_with fail
  refine (C0.out w ht he).mono ?_
  rintro e w1 ⟨rfl, hb1⟩
  have a1 := hb1
  go_wp2_with fail
  refine (C1.out w1 (ht.below a1) (he.below a1)).mono ?_
  rintro e w2 ⟨rfl, hb2⟩
  have a2 := a1.trans (hb2.mono a1.size)
  go_wp2_with fail
  refine (examples_any w2 (ht.below a2) (he.below a2)).mono ?_
  rintro e wz ⟨rfl, hbz⟩
  go_wp2_with fail
  go_ret
  exact ⟨rfl, a2.trans (hbz.mono a2.size)⟩
set_option maxHeartbeats 1000000 in
theorem wholeForms_walk (a : List UInt8) (b : List UInt8) (n : Int) (w : World) (hla : a.length ≤ maxLen) (hlb : b.length ≤ maxLen) (wn : (Lit.int .i64 n).wf = true) (ht : Tab w) (he : ErrV w) :
    Calls Tryd.prog 5 #[.string (B a), .string (B b), .int .i64 n] w fun e w' => e = .returned (.bool true) ∧ Below w.heap.size w w' := by
  have hzn : fits n := lit_fits wn
  by_cases ha : 200 < a.length
  · have ha' : (200 : Int) < (a.length : Int) := by omega
    go_enter Tryd.func5, Tryd.ntmps5
    go_wp2_with fail
    refine (examples_any w ht he).mono ?_
    rintro e w1 ⟨rfl, hb1⟩
    go_wp2_with fail
    go_ret
    exact ⟨rfl, hb1⟩
  have ha' : ¬ (200 : Int) < (a.length : Int) := by omega
  by_cases hb : 200 < b.length
  · have hb' : (200 : Int) < (b.length : Int) := by omega
    go_enter Tryd.func5, Tryd.ntmps5
    go_wp2_with fail
    refine (examples_any w ht he).mono ?_
    rintro e w1 ⟨rfl, hb1⟩
    go_wp2_with fail
    go_ret
    exact ⟨rfl, hb1⟩
  have hb' : ¬ (200 : Int) < (b.length : Int) := by omega
  have C0 := Lib.hid (fun (w : World) (ht : Tab w) (he : ErrV w) => wint_any a w (by omega) he)
  have C1 := Lib.hid (fun (w : World) (ht : Tab w) (he : ErrV w) => wrint_any a w (by omega))
  have C2 := Lib.hid (fun (w : World) (ht : Tab w) (he : ErrV w) => wright_any a w hla)
  have C3 := Lib.hid (fun (w : World) (ht : Tab w) (he : ErrV w) => wright_ref_any a w hla)
  have C4 := Lib.hid (fun (w : World) (ht : Tab w) (he : ErrV w) => wof_any n w hzn ht)
  have C5 := Lib.hid (fun (w : World) (ht : Tab w) (he : ErrV w) => wrof_any n w hzn)
  have C6 := Lib.hid (fun (w : World) (ht : Tab w) (he : ErrV w) => psign_any a w hla)
  have C7 := Lib.hid (fun (w : World) (ht : Tab w) (he : ErrV w) => wrsign_any a w (by omega))
  have C8 := Lib.hid (fun (w : World) (ht : Tab w) (he : ErrV w) => pcmp_any a b w (by omega) (by omega))
  have C9 := Lib.hid (fun (w : World) (ht : Tab w) (he : ErrV w) => wrcompare_any a b w (by omega) (by omega))
  have q0 : (numV a == numV a) = true := by simp
  have q1 : (numE a == numE a) = true := by simp
  have q2 : (rightI a == rightI a) = true := by simp
  have q3 : (decI n == decI n) = true := by simp
  have q4 : (signIS a == signIS a) = true := by simp
  have q5 : (cmpIS a b == cmpIS a b) = true := by simp
  generalize numV a = s0 at *
  generalize numE a = s1 at *
  generalize rightI a = s2 at *
  generalize decI n = s3 at *
  generalize signIS a = s4 at *
  generalize cmpIS a b = s5 at *
  go_enter Tryd.func5, Tryd.ntmps5
  go_wp2_with fail
  refine (C0.out w ht he).mono ?_
  rintro e w1 ⟨rfl, hb1⟩
  have a1 := hb1
  go_wp2_with fail
  refine (C1.out w1 (ht.below a1) (he.below a1)).mono ?_
  rintro e w2 ⟨rfl, hb2⟩
  have a2 := a1.trans (hb2.mono a1.size)
  go_wp2_with fail
  refine (C2.out w2 (ht.below a2) (he.below a2)).mono ?_
  rintro e w' ⟨rfl, h⟩; obtain rfl := h.symm
  go_wp2_with fail
  refine (C3.out w2 (ht.below a2) (he.below a2)).mono ?_
  rintro e w' ⟨rfl, h⟩; obtain rfl := h.symm
  go_wp2_with fail
  refine (C4.out w2 (ht.below a2) (he.below a2)).mono ?_
  rintro e w5 ⟨rfl, hb5⟩
  have a5 := a2.trans (hb5.mono a2.size)
  go_wp2_with fail
  refine (C5.out w5 (ht.below a5) (he.below a5)).mono ?_
  rintro e w6 ⟨rfl, hb6⟩
  have a6 := a5.trans (hb6.mono a5.size)
  go_wp2_with fail
  refine (C6.out w6 (ht.below a6) (he.below a6)).mono ?_
  rintro e w' ⟨rfl, h⟩; obtain rfl := h.symm
  go_wp2_with fail
  refine (C7.out w6 (ht.below a6) (he.below a6)).mono ?_
  rintro e w' ⟨rfl, h⟩; obtain rfl := h.symm
  go_wp2_with fail
  refine (C8.out w6 (ht.below a6) (he.below a6)).mono ?_
  rintro e w' ⟨rfl, h⟩; obtain rfl := h.symm
  go_wp2_with fail
  refine (C9.out w6 (ht.below a6) (he.below a6)).mono ?_
  rintro e w10 ⟨rfl, hb10⟩
  have a10 := a6.trans (hb10.mono a6.size)
  go_wp2_with fail
  refine (examples_any w10 (ht.below a10) (he.below a10)).mono ?_
  rintro e wz ⟨rfl, hbz⟩
  go_wp2_with fail
  go_ret
  exact ⟨rfl, a10.trans (hbz.mono a10.size)⟩
end Go.Proofs.YtkggdkkfdbbglaaDoor
