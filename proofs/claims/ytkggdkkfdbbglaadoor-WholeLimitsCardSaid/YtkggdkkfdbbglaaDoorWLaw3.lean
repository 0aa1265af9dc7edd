/- The laws WholeRing, WholeRemainders, WholeOrder. (Printed by wip/wlaws3.py.) -/
import Derived.Test.YtkggdkkfdbbglaaDoorWLaw2
import Derived.Test.YtkggdkkfdbbglaaDoorWDec
namespace Go.Proofs.YtkggdkkfdbbglaaDoor
open Go.RowKit Num
set_option linter.unusedVariables false
attribute [local go_sem] B_size B_get B_toList B_mk B_extract B_append
attribute [local go_sem high] run_max2

theorem ring_v (x y z : Int) : x * (y + z) = x * y + x * z := Int.mul_add x y z

set_option maxHeartbeats 2000000 in
set_option maxRecDepth 100000 in
theorem wholeRing_walk (a : List UInt8) (b : List UInt8) (c : List UInt8) (w : World) (hla : a.length ≤ maxLen) (hlb : b.length ≤ maxLen) (hlc : c.length ≤ maxLen) (ht : Tab w) (he : ErrV w) :
    Calls Tryd.prog 9 #[.string (B a), .string (B b), .string (B c)] w fun e w' => e = .returned (.bool true) ∧ Below w.heap.size w w' := by
  by_cases ha : 40 < a.length
  · have ha' : (40 : Int) < (a.length : Int) := by omega
    go_enter Tryd.func9, Tryd.ntmps9
    go_wp2_with fail
    refine (examples_any w ht he).mono ?_
    rintro e w1 ⟨rfl, hb1⟩
    go_wp2_with fail
    go_ret
    exact ⟨rfl, hb1⟩
  have ha' : ¬ (40 : Int) < (a.length : Int) := by omega
  by_cases hb : 40 < b.length
  · have hb' : (40 : Int) < (b.length : Int) := by omega
    go_enter Tryd.func9, Tryd.ntmps9
    go_wp2_with fail
    refine (examples_any w ht he).mono ?_
    rintro e w1 ⟨rfl, hb1⟩
    go_wp2_with fail
    go_ret
    exact ⟨rfl, hb1⟩
  have hb' : ¬ (40 : Int) < (b.length : Int) := by omega
  by_cases hc : 40 < c.length
  · have hc' : (40 : Int) < (c.length : Int) := by omega
    go_enter Tryd.func9, Tryd.ntmps9
    go_wp2_with fail
    refine (examples_any w ht he).mono ?_
    rintro e w1 ⟨rfl, hb1⟩
    go_wp2_with fail
    go_ret
    exact ⟨rfl, hb1⟩
  have hc' : ¬ (40 : Int) < (c.length : Int) := by omega
  cases hra : rightI a
  · go_enter Tryd.func9, Tryd.ntmps9
    go_wp2_with fail
    refine (wright_ref_any a w hla).mono ?_; rintro e w' ⟨rfl, h⟩; obtain rfl := h.symm
    go_wp2_with fail
    refine (examples_any w ht he).mono ?_
    rintro e w1 ⟨rfl, hb1⟩
    go_wp2_with fail
    go_ret
    exact ⟨rfl, hb1⟩
  · -- a
    cases hrb : rightI b
    · go_enter Tryd.func9, Tryd.ntmps9
      go_wp2_with fail
      refine (wright_ref_any a w hla).mono ?_; rintro e w' ⟨rfl, h⟩; obtain rfl := h.symm
      go_wp2_with fail
      refine (wright_ref_any b w hlb).mono ?_; rintro e w' ⟨rfl, h⟩; obtain rfl := h.symm
      go_wp2_with fail
      refine (examples_any w ht he).mono ?_
      rintro e w1 ⟨rfl, hb1⟩
      go_wp2_with fail
      go_ret
      exact ⟨rfl, hb1⟩
    · -- b
      cases hrc : rightI c
      · go_enter Tryd.func9, Tryd.ntmps9
        go_wp2_with fail
        refine (wright_ref_any a w hla).mono ?_; rintro e w' ⟨rfl, h⟩; obtain rfl := h.symm
        go_wp2_with fail
        refine (wright_ref_any b w hlb).mono ?_; rintro e w' ⟨rfl, h⟩; obtain rfl := h.symm
        go_wp2_with fail
        refine (wright_ref_any c w hlc).mono ?_; rintro e w' ⟨rfl, h⟩; obtain rfl := h.symm
        go_wp2_with fail
        refine (examples_any w ht he).mono ?_
        rintro e w1 ⟨rfl, hb1⟩
        go_wp2_with fail
        go_ret
        exact ⟨rfl, hb1⟩
      · -- c
        obtain ⟨x, rfl, hx⟩ := dl_of hra
        obtain ⟨y, rfl, hy⟩ := dl_of hrb
        obtain ⟨z, rfl, hz⟩ := dl_of hrc
        have hx40 : dl x ≤ 40 := by omega
        have hy40 : dl y ≤ 40 := by omega
        have hz40 : dl z ≤ 40 := by omega
        have d1 := dl_add x y
        have d2 := dl_add y z
        have d3 := dl_mul x y
        have d4 := dl_mul y z
        have d5 := dl_mul x z
        have d6 := dl_add y x
        have d7 := dl_mul y x
        have S : ∀ s : Str, (s == s) = true := fun s => by simp
        have SS := Lib.hid S
        clear S
        have q0 := SS.out (decI (x + y))
        have q1 := SS.out (decI (x + y + z))
        have q2 := SS.out (decI (x))
        have q3 := SS.out (decI (x * y))
        have q4 := SS.out (decI (x * y * z))
        have q5 := SS.out (decI (x * (y + z)))
        go_enter Tryd.func9, Tryd.ntmps9
        go_wp2_with fail
        refine (wright_ref_any (decI x) w hla).mono ?_; rintro e w' ⟨rfl, h⟩; obtain rfl := h.symm
        go_wp2_with fail
        refine (wright_ref_any (decI y) w hlb).mono ?_; rintro e w' ⟨rfl, h⟩; obtain rfl := h.symm
        go_wp2_with fail
        refine (wright_ref_any (decI z) w hlc).mono ?_; rintro e w' ⟨rfl, h⟩; obtain rfl := h.symm
        go_wp2_with fail
        refine (padd_dec (x + y) w (by omega) (by omega) rfl ht).mono ?_
        rintro e v1 ⟨rfl, hb1⟩
        have a1 := hb1
        go_wp2_with fail
        refine (padd_dec (x + y) v1 (by omega) (by omega) (by omega) (ht.below a1)).mono ?_
        rintro e v2 ⟨rfl, hb2⟩
        have a2 := a1.trans (hb2.mono a1.size)
        go_wp2_with fail
        refine (padd_dec (y + z) v2 (by omega) (by omega) rfl (ht.below a2)).mono ?_
        rintro e v3 ⟨rfl, hb3⟩
        have a3 := a2.trans (hb3.mono a2.size)
        go_wp2_with fail
        refine (padd_dec (x + y + z) v3 (by omega) (by omega) rfl (ht.below a3)).mono ?_
        rintro e v4 ⟨rfl, hb4⟩
        have a4 := a3.trans (hb4.mono a3.size)
        go_wp2_with fail
        refine (padd_dec (x + y + z) v4 (by omega) (by omega) (by omega) (ht.below a4)).mono ?_
        rintro e v5 ⟨rfl, hb5⟩
        have a5 := a4.trans (hb5.mono a4.size)
        go_wp2_with fail
        refine (psub_dec x v5 (by omega) (by omega) (by omega) (ht.below a5)).mono ?_
        rintro e v6 ⟨rfl, hb6⟩
        have a6 := a5.trans (hb6.mono a5.size)
        go_wp2_with fail
        refine (pmul_dec (x * y) v6 (by omega) (by omega) rfl (ht.below a6)).mono ?_
        rintro e v7 ⟨rfl, hb7⟩
        have a7 := a6.trans (hb7.mono a6.size)
        go_wp2_with fail
        refine (pmul_dec (x * y) v7 (by omega) (by omega) (Int.mul_comm y x) (ht.below a7)).mono ?_
        rintro e v8 ⟨rfl, hb8⟩
        have a8 := a7.trans (hb8.mono a7.size)
        go_wp2_with fail
        refine (pmul_dec (y * z) v8 (by omega) (by omega) rfl (ht.below a8)).mono ?_
        rintro e v9 ⟨rfl, hb9⟩
        have a9 := a8.trans (hb9.mono a8.size)
        go_wp2_with fail
        refine (pmul_dec (x * y * z) v9 (by omega) (by omega) rfl (ht.below a9)).mono ?_
        rintro e v10 ⟨rfl, hb10⟩
        have a10 := a9.trans (hb10.mono a9.size)
        go_wp2_with fail
        refine (pmul_dec (x * y * z) v10 (by omega) (by omega) (Int.mul_assoc x y z).symm (ht.below a10)).mono ?_
        rintro e v11 ⟨rfl, hb11⟩
        have a11 := a10.trans (hb11.mono a10.size)
        go_wp2_with fail
        refine (pmul_dec (x * z) v11 (by omega) (by omega) rfl (ht.below a11)).mono ?_
        rintro e v12 ⟨rfl, hb12⟩
        have a12 := a11.trans (hb12.mono a11.size)
        go_wp2_with fail
        refine (pmul_dec (x * (y + z)) v12 (by omega) (by omega) rfl (ht.below a12)).mono ?_
        rintro e v13 ⟨rfl, hb13⟩
        have a13 := a12.trans (hb13.mono a12.size)
        go_wp2_with fail
        refine (padd_dec (x * (y + z)) v13 (by omega) (by omega) (ring_v x y z).symm (ht.below a13)).mono ?_
        rintro e v14 ⟨rfl, hb14⟩
        have a14 := a13.trans (hb14.mono a13.size)
        go_wp2_with fail
        refine (examples_any v14 (ht.below a14) (he.below a14)).mono ?_
        rintro e vz ⟨rfl, hbz⟩
        go_wp2_with fail
        go_ret
        exact ⟨rfl, a14.trans (hbz.mono a14.size)⟩
theorem rem_law (x y : Int) (hy : y ≠ 0) : qI x y * y + rI x y = x ∧ (rI x y).natAbs < y.natAbs ∧ (rI x y ≠ 0 → ordI (rI x y) 0 = ordI y 0) ∧ (qI x y).natAbs ≤ x.natAbs := by
  have h1 : rI x y = x - y * qI x y := rfl
  have hc : qI x y * y = y * qI x y := Int.mul_comm _ _
  refine ⟨by rw [h1, hc]; omega, ?_⟩
  by_cases h : y < 0
  · have hq : qI x y = (-x) / (-y) := if_pos h
    have hd := Int.mul_ediv_add_emod (-x) (-y)
    have hm1 := Int.emod_nonneg (-x) (show -y ≠ 0 by omega)
    have hm2 := Int.emod_lt_of_pos (-x) (show 0 < -y by omega)
    have h2 : rI x y = -((-x) % (-y)) := by
      rw [h1, hq]
      rw [Int.neg_mul] at hd
      omega
    refine ⟨by rw [h2]; omega, ?_, ?_⟩
    · intro h3
      rw [h2] at h3 ⊢
      unfold ordI
      rw [if_pos (by omega), if_pos (by omega)]
    · rw [hq]; have := Int.natAbs_ediv_le_natAbs (-x) (-y); rwa [Int.natAbs_neg] at this
  · have hq : qI x y = x / y := if_neg h
    have hd := Int.mul_ediv_add_emod x y
    have hm1 := Int.emod_nonneg x hy
    have hm2 := Int.emod_lt_of_pos x (show 0 < y by omega)
    have h2 : rI x y = x % y := by rw [h1, hq]; omega
    refine ⟨by rw [h2]; omega, ?_, ?_⟩
    · intro h3
      rw [h2] at h3 ⊢
      unfold ordI
      rw [if_neg (by omega), if_pos (by omega), if_neg (by omega), if_pos (by omega)]
    · rw [hq]; exact Int.natAbs_ediv_le_natAbs x y

set_option maxHeartbeats 2000000 in
set_option maxRecDepth 100000 in
theorem wholeRemainders_walk (a : List UInt8) (b : List UInt8) (w : World) (hla : a.length ≤ maxLen) (hlb : b.length ≤ maxLen) (ht : Tab w) (he : ErrV w) :
    Calls Tryd.prog 10 #[.string (B a), .string (B b)] w fun e w' => e = .returned (.bool true) ∧ Below w.heap.size w w' := by
  by_cases ha : 60 < a.length
  · have ha' : (60 : Int) < (a.length : Int) := by omega
    go_enter Tryd.func10, Tryd.ntmps10
    go_wp2_with fail
    refine (examples_any w ht he).mono ?_
    rintro e w1 ⟨rfl, hb1⟩
    go_wp2_with fail
    go_ret
    exact ⟨rfl, hb1⟩
  have ha' : ¬ (60 : Int) < (a.length : Int) := by omega
  by_cases hb : 60 < b.length
  · have hb' : (60 : Int) < (b.length : Int) := by omega
    go_enter Tryd.func10, Tryd.ntmps10
    go_wp2_with fail
    refine (examples_any w ht he).mono ?_
    rintro e w1 ⟨rfl, hb1⟩
    go_wp2_with fail
    go_ret
    exact ⟨rfl, hb1⟩
  have hb' : ¬ (60 : Int) < (b.length : Int) := by omega
  cases hra : rightI a
  · go_enter Tryd.func10, Tryd.ntmps10
    go_wp2_with fail
    refine (wright_ref_any a w hla).mono ?_; rintro e w' ⟨rfl, h⟩; obtain rfl := h.symm
    go_wp2_with fail
    refine (examples_any w ht he).mono ?_
    rintro e w1 ⟨rfl, hb1⟩
    go_wp2_with fail
    go_ret
    exact ⟨rfl, hb1⟩
  · -- a
    cases hrb : rightI b
    · go_enter Tryd.func10, Tryd.ntmps10
      go_wp2_with fail
      refine (wright_ref_any a w hla).mono ?_; rintro e w' ⟨rfl, h⟩; obtain rfl := h.symm
      go_wp2_with fail
      refine (wright_ref_any b w hlb).mono ?_; rintro e w' ⟨rfl, h⟩; obtain rfl := h.symm
      go_wp2_with fail
      refine (examples_any w ht he).mono ?_
      rintro e w1 ⟨rfl, hb1⟩
      go_wp2_with fail
      go_ret
      exact ⟨rfl, hb1⟩
    · -- b
      obtain ⟨x, rfl, hx⟩ := dl_of hra
      obtain ⟨y, rfl, hy⟩ := dl_of hrb
      have hx60 : dl x ≤ 60 := by omega
      have hy60 : dl y ≤ 60 := by omega
      have he0 := errI_dec (x := x) (y := y) (by omega) (by omega)
      have hlx := dl_len x
      have hly := dl_len y
      by_cases hy0 : y = 0
      · have HR := divI_zero (a := decI x) (b := decI y) he0 (by rw [valI_decI]; exact hy0)
        have hb48 : (decI y == [48]) = true := by rw [hy0, decI_zero]; rfl
        have HD := Lib.hid (pdiv_any (decI x) (decI y) w (by omega) (by omega) ht)
        rw [HR.1, HR.2.1, HR.2.2] at HD
        clear HR hy0
        go_enter Tryd.func10, Tryd.ntmps10
        go_wp2_with fail
        refine (wright_ref_any (decI x) w hla).mono ?_; rintro e w' ⟨rfl, h⟩; obtain rfl := h.symm
        go_wp2_with fail
        refine (wright_ref_any (decI y) w hlb).mono ?_; rintro e w' ⟨rfl, h⟩; obtain rfl := h.symm
        go_wp2_with fail
        refine (HD.out).mono ?_
        rintro e v1 ⟨rfl, hb1⟩
        have a1 := hb1
        go_wp2_with fail
        refine (examples_any v1 (ht.below a1) (he.below a1)).mono ?_
        rintro e vz ⟨rfl, hbz⟩
        go_wp2_with fail
        go_ret
        exact ⟨rfl, a1.trans (hbz.mono a1.size)⟩
      · have HR := divI_ok (a := decI x) (b := decI y) he0 (by rw [valI_decI]; exact hy0)
        rw [valI_decI, valI_decI] at HR
        have hb48 : (decI y == [48]) = false := by
          have : decI y ≠ [48] := by intro e; rw [← decI_zero] at e; exact hy0 (decI_inj e)
          simpa using this
        have HD := Lib.hid (pdiv_any (decI x) (decI y) w (by omega) (by omega) ht)
        rw [HR.1, HR.2.1, HR.2.2] at HD
        have hq := rem_law x y hy0
        obtain ⟨hq1, hq2, hq3, hq4⟩ := hq
        clear HR
        generalize qI x y = Q at *
        generalize rI x y = R at *
        have dq := dl_mono hq4
        have dr := dl_mono (Nat.le_of_lt hq2)
        have HA1 := Lib.hid (show absIS (decI R) = decI (R.natAbs : Int) ∧ errI (decI R) (decI R) = 0 from ⟨by unfold absIS; rw [if_pos (errI_dec (by omega) (by omega)), valI_decI], errI_dec (by omega) (by omega)⟩)
        have HA2 := Lib.hid (show absIS (decI y) = decI (y.natAbs : Int) ∧ errI (decI y) (decI y) = 0 from ⟨by unfold absIS; rw [if_pos (errI_dec (by omega) (by omega)), valI_decI], errI_dec (by omega) (by omega)⟩)
        have HC := Lib.hid (show cmpIS (decI (R.natAbs : Int)) (decI (y.natAbs : Int)) = -1 by rw [cmpIS, if_pos ⟨rightI_decI _, rightI_decI _⟩, valI_decI, valI_decI]; exact ordI_lt hq2)
        have hlR := dl_len R
        have hlA := dl_len (R.natAbs : Int)
        have hlB := dl_len (y.natAbs : Int)
        have eA : dl (R.natAbs : Int) = dl R := by unfold dl; rw [Int.natAbs_natCast]
        have eB : dl (y.natAbs : Int) = dl y := by unfold dl; rw [Int.natAbs_natCast]
        have dQ := dl_mul Q y
        have HR3 := Lib.hid hq3
        have HSG := Lib.hid (show R ≠ 0 → signIS (decI R) = signIS (decI y) from fun h => by rw [signIS, signIS, if_pos (rightI_decI _), if_pos (rightI_decI _), valI_decI, valI_decI]; exact HR3.out h)
        have self : (decI x == decI x) = true := by simp
        clear hy0 hq3
        go_enter Tryd.func10, Tryd.ntmps10
        go_wp2_with fail
        refine (wright_ref_any (decI x) w hla).mono ?_; rintro e w' ⟨rfl, h⟩; obtain rfl := h.symm
        go_wp2_with fail
        refine (wright_ref_any (decI y) w hlb).mono ?_; rintro e w' ⟨rfl, h⟩; obtain rfl := h.symm
        go_wp2_with fail
        refine (HD.out).mono ?_
        rintro e v1 ⟨rfl, hb1⟩
        have a1 := hb1
        go_wp2_with fail
        refine (pmul_dec (Q * y) v1 (by omega) (by omega) rfl (ht.below a1)).mono ?_
        rintro e v2 ⟨rfl, hb2⟩
        have a2 := a1.trans (hb2.mono a1.size)
        go_wp2_with fail
        refine (padd_dec x v2 (by omega) (by omega) hq1 (ht.below a2)).mono ?_
        rintro e v3 ⟨rfl, hb3⟩
        have a3 := a2.trans (hb3.mono a2.size)
        go_wp2_with fail
        refine (pabs_any (decI R) v3 (by omega)).mono ?_
        rw [HA1.out.1, HA1.out.2]
        rintro e v4 ⟨rfl, hb4⟩
        have a4 := a3.trans (hb4.mono a3.size)
        go_wp2_with fail
        refine (pabs_any (decI y) v4 (by omega)).mono ?_
        rw [HA2.out.1, HA2.out.2]
        rintro e v5 ⟨rfl, hb5⟩
        have a5 := a4.trans (hb5.mono a4.size)
        go_wp2_with fail
        refine (pcmp_any (decI (R.natAbs : Int)) (decI (y.natAbs : Int)) v5 (by omega) (by omega)).mono ?_
        rw [HC.out]
        rintro e w' ⟨rfl, h⟩; obtain rfl := h.symm
        by_cases hR0 : R = 0
        · have h48 : (decI R == [48]) = true := by rw [hR0, decI_zero]; rfl
          clear hR0
          go_wp2_with fail
          refine (examples_any v5 (ht.below a5) (he.below a5)).mono ?_
          rintro e vz ⟨rfl, hbz⟩
          go_wp2_with fail
          go_ret
          exact ⟨rfl, a5.trans (hbz.mono a5.size)⟩
        · have h48 : (decI R == [48]) = false := by
            have : decI R ≠ [48] := by intro e; rw [← decI_zero] at e; exact hR0 (decI_inj e)
            simpa using this
          have HG := Lib.hid (HSG.out hR0)
          clear hR0
          go_wp2_with fail
          refine (psign_any (decI R) v5 (maxLen_le (by omega))).mono ?_
          rintro e w' ⟨rfl, h⟩; obtain rfl := h.symm
          go_wp2_with fail
          refine (psign_any (decI y) v5 (maxLen_le (by omega))).mono ?_
          rw [HG.out]
          rintro e w' ⟨rfl, h⟩; obtain rfl := h.symm
          go_wp2_with fail
          refine (examples_any v5 (ht.below a5) (he.below a5)).mono ?_
          rintro e vz ⟨rfl, hbz⟩
          go_wp2_with fail
          go_ret
          exact ⟨rfl, a5.trans (hbz.mono a5.size)⟩

set_option maxHeartbeats 2000000 in
set_option maxRecDepth 100000 in
theorem wholeOrder_walk (a : List UInt8) (b : List UInt8) (c : List UInt8) (n : Int) (w : World) (hla : a.length ≤ maxLen) (hlb : b.length ≤ maxLen) (hlc : c.length ≤ maxLen) (wn : (Lit.int .i64 n).wf = true) (ht : Tab w) (he : ErrV w) :
    Calls Tryd.prog 7 #[.string (B a), .string (B b), .string (B c), .int .i64 n] w fun e w' => e = .returned (.bool true) ∧ Below w.heap.size w w' := by
  have hzn : fits n := lit_fits wn
  by_cases ha : 60 < a.length
  · have ha' : (60 : Int) < (a.length : Int) := by omega
    go_enter Tryd.func7, Tryd.ntmps7
    go_wp2_with fail
    refine (examples_any w ht he).mono ?_
    rintro e w1 ⟨rfl, hb1⟩
    go_wp2_with fail
    go_ret
    exact ⟨rfl, hb1⟩
  have ha' : ¬ (60 : Int) < (a.length : Int) := by omega
  by_cases hb : 60 < b.length
  · have hb' : (60 : Int) < (b.length : Int) := by omega
    go_enter Tryd.func7, Tryd.ntmps7
    go_wp2_with fail
    refine (examples_any w ht he).mono ?_
    rintro e w1 ⟨rfl, hb1⟩
    go_wp2_with fail
    go_ret
    exact ⟨rfl, hb1⟩
  have hb' : ¬ (60 : Int) < (b.length : Int) := by omega
  by_cases hc : 60 < c.length
  · have hc' : (60 : Int) < (c.length : Int) := by omega
    go_enter Tryd.func7, Tryd.ntmps7
    go_wp2_with fail
    refine (examples_any w ht he).mono ?_
    rintro e w1 ⟨rfl, hb1⟩
    go_wp2_with fail
    go_ret
    exact ⟨rfl, hb1⟩
  have hc' : ¬ (60 : Int) < (c.length : Int) := by omega
  cases hra : rightI a
  · go_enter Tryd.func7, Tryd.ntmps7
    go_wp2_with fail
    refine (wright_ref_any a w hla).mono ?_; rintro e w' ⟨rfl, h⟩; obtain rfl := h.symm
    go_wp2_with fail
    refine (examples_any w ht he).mono ?_
    rintro e w1 ⟨rfl, hb1⟩
    go_wp2_with fail
    go_ret
    exact ⟨rfl, hb1⟩
  · -- a
    cases hrb : rightI b
    · go_enter Tryd.func7, Tryd.ntmps7
      go_wp2_with fail
      refine (wright_ref_any a w hla).mono ?_; rintro e w' ⟨rfl, h⟩; obtain rfl := h.symm
      go_wp2_with fail
      refine (wright_ref_any b w hlb).mono ?_; rintro e w' ⟨rfl, h⟩; obtain rfl := h.symm
      go_wp2_with fail
      refine (examples_any w ht he).mono ?_
      rintro e w1 ⟨rfl, hb1⟩
      go_wp2_with fail
      go_ret
      exact ⟨rfl, hb1⟩
    · -- b
      cases hrc : rightI c
      · go_enter Tryd.func7, Tryd.ntmps7
        go_wp2_with fail
        refine (wright_ref_any a w hla).mono ?_; rintro e w' ⟨rfl, h⟩; obtain rfl := h.symm
        go_wp2_with fail
        refine (wright_ref_any b w hlb).mono ?_; rintro e w' ⟨rfl, h⟩; obtain rfl := h.symm
        go_wp2_with fail
        refine (wright_ref_any c w hlc).mono ?_; rintro e w' ⟨rfl, h⟩; obtain rfl := h.symm
        go_wp2_with fail
        refine (examples_any w ht he).mono ?_
        rintro e w1 ⟨rfl, hb1⟩
        go_wp2_with fail
        go_ret
        exact ⟨rfl, hb1⟩
      · -- c
        obtain ⟨x, rfl, hx⟩ := dl_of hra
        obtain ⟨y, rfl, hy⟩ := dl_of hrb
        obtain ⟨z, rfl, hz⟩ := dl_of hrc
        have hx60 : dl x ≤ 60 := by omega
        have hy60 : dl y ≤ 60 := by omega
        have hlx := dl_len x
        have hly := dl_len y
        have hlz := dl_len z
        have dd := dl_sub x y
        have hld := dl_len (x - y)
        have K := Lib.hid (fun x y : Int => (show cmpIS (decI x) (decI y) = ordI x y by rw [cmpIS, if_pos ⟨rightI_decI _, rightI_decI _⟩, valI_decI, valI_decI]))
        have KS := Lib.hid (show signIS (decI (x - y)) = ordI (x - y) 0 by rw [signIS, if_pos (rightI_decI _), valI_decI])
        have hln := mag_length_decI n
        have hln2 := dec_len20 hzn
        have HN := Lib.hid (num_decI hzn)
        have nn : (n != n) = false := by simp
        have nn' : (!(n == n)) = false := by simp
        have hor : (ordI x y = -1 ∧ ordI y x = 1 ∧ ordI (x - y) 0 = -1 ∧ x ≠ y) ∨ (ordI x y = 0 ∧ ordI y x = 0 ∧ ordI (x - y) 0 = 0 ∧ x = y) ∨ (ordI x y = 1 ∧ ordI y x = -1 ∧ ordI (x - y) 0 = 1 ∧ x ≠ y) := by
          unfold ordI
          rcases Int.lt_trichotomy x y with h | h | h
          · left; refine ⟨if_pos h, ?_, if_pos (by omega), by omega⟩; rw [if_neg (by omega), if_pos h]
          · right; left; refine ⟨?_, ?_, ?_, h⟩ <;> rw [if_neg (by omega), if_neg (by omega)]
          · right; right; refine ⟨?_, if_pos h, ?_, by omega⟩ <;> rw [if_neg (by omega), if_pos (by omega)]
        have htr : ordI x y ≤ 0 → ordI y z ≤ 0 → ordI x z ≤ 0 := by
          unfold ordI; intro h1 h2
          by_cases e1 : x < y <;> by_cases e2 : y < x <;> by_cases e3 : y < z <;> by_cases e4 : z < y <;> by_cases e5 : x < z <;> by_cases e6 : z < x <;> simp [e1, e2, e3, e4, e5, e6] at h1 h2 ⊢ <;> omega
        have HTR := Lib.hid htr
        clear htr
        rcases hor with ⟨h1, h2, h3, h4⟩ | ⟨h1, h2, h3, h4⟩ | ⟨h1, h2, h3, h4⟩
        · have H1 := Lib.hid h1
          have H2 := Lib.hid h2
          have H3 := Lib.hid h3
          have heq : (decI x == decI y) = false := by
            have : decI x ≠ decI y := fun e => h4 (decI_inj e)
            simpa using this
          have HT3 := Lib.hid (fun h => HTR.out (by rw [h1]; decide) h)
          clear h1 h2 h3 h4
          go_enter Tryd.func7, Tryd.ntmps7
          go_wp2_with fail
          refine (wright_ref_any (decI x) w hla).mono ?_; rintro e w' ⟨rfl, h⟩; obtain rfl := h.symm
          go_wp2_with fail
          refine (wright_ref_any (decI y) w hlb).mono ?_; rintro e w' ⟨rfl, h⟩; obtain rfl := h.symm
          go_wp2_with fail
          refine (wright_ref_any (decI z) w hlc).mono ?_; rintro e w' ⟨rfl, h⟩; obtain rfl := h.symm
          go_wp2_with fail
          refine (pcmp_any (decI x) (decI y) w (by omega) (by omega)).mono ?_
          rw [K.out, H1.out]
          rintro e w' ⟨rfl, h⟩; obtain rfl := h.symm
          go_wp2_with fail
          refine (pcmp_any (decI y) (decI x) w (by omega) (by omega)).mono ?_
          rw [K.out, H2.out]
          rintro e w' ⟨rfl, h⟩; obtain rfl := h.symm
          go_wp2_with fail
          refine (pcmp_any (decI y) (decI z) w (by omega) (by omega)).mono ?_
          rw [K.out]
          rintro e w' ⟨rfl, h⟩; obtain rfl := h.symm
          go_wp2_with fail
          refine (pcmp_any (decI x) (decI z) w (by omega) (by omega)).mono ?_
          rw [K.out]
          rintro e w' ⟨rfl, h⟩; obtain rfl := h.symm
          generalize ordI y z = o2 at *
          generalize ordI x z = o3 at *
          go_wp2_with fail
          refine (psub_dec (x - y) w (by omega) (by omega) rfl ht).mono ?_
          rintro e v1 ⟨rfl, hb1⟩
          have a1 := hb1
          go_wp2_with fail
          refine (wof_any n v1 hzn (ht.below a1)).mono ?_
          rintro e v2 ⟨rfl, hb2⟩
          have a2 := a1.trans (hb2.mono a1.size)
          go_wp2_with fail
          refine (wint_any (decI n) v2 (by omega) (he.below a2)).mono ?_
          rw [HN.out.1, HN.out.2]
          rintro e v3 ⟨rfl, hb3⟩
          have a3 := a2.trans (hb3.mono a2.size)
          go_wp2_with fail
          refine (psign_any (decI (x - y)) v3 (maxLen_le (by omega))).mono ?_
          rw [KS.out, H3.out]
          rintro e w' ⟨rfl, h⟩; obtain rfl := h.symm
          by_cases h2 : 0 < o2
          · go_wp2_with fail
            refine (examples_any v3 (ht.below a3) (he.below a3)).mono ?_
            rintro e vz ⟨rfl, hbz⟩
            go_wp2_with fail
            go_ret
            exact ⟨rfl, a3.trans (hbz.mono a3.size)⟩
          · have h3 := HT3.out (by omega)
            go_wp2_with fail
            refine (examples_any v3 (ht.below a3) (he.below a3)).mono ?_
            rintro e vz ⟨rfl, hbz⟩
            go_wp2_with fail
            go_ret
            exact ⟨rfl, a3.trans (hbz.mono a3.size)⟩
        · have H1 := Lib.hid h1
          have H2 := Lib.hid h2
          have H3 := Lib.hid h3
          have heq : (decI x == decI y) = true := by rw [h4]; simp
          have HT3 := Lib.hid (fun h => HTR.out (by rw [h1]; decide) h)
          clear h1 h2 h3 h4
          go_enter Tryd.func7, Tryd.ntmps7
          go_wp2_with fail
          refine (wright_ref_any (decI x) w hla).mono ?_; rintro e w' ⟨rfl, h⟩; obtain rfl := h.symm
          go_wp2_with fail
          refine (wright_ref_any (decI y) w hlb).mono ?_; rintro e w' ⟨rfl, h⟩; obtain rfl := h.symm
          go_wp2_with fail
          refine (wright_ref_any (decI z) w hlc).mono ?_; rintro e w' ⟨rfl, h⟩; obtain rfl := h.symm
          go_wp2_with fail
          refine (pcmp_any (decI x) (decI y) w (by omega) (by omega)).mono ?_
          rw [K.out, H1.out]
          rintro e w' ⟨rfl, h⟩; obtain rfl := h.symm
          go_wp2_with fail
          refine (pcmp_any (decI y) (decI x) w (by omega) (by omega)).mono ?_
          rw [K.out, H2.out]
          rintro e w' ⟨rfl, h⟩; obtain rfl := h.symm
          go_wp2_with fail
          refine (pcmp_any (decI y) (decI z) w (by omega) (by omega)).mono ?_
          rw [K.out]
          rintro e w' ⟨rfl, h⟩; obtain rfl := h.symm
          go_wp2_with fail
          refine (pcmp_any (decI x) (decI z) w (by omega) (by omega)).mono ?_
          rw [K.out]
          rintro e w' ⟨rfl, h⟩; obtain rfl := h.symm
          generalize ordI y z = o2 at *
          generalize ordI x z = o3 at *
          go_wp2_with fail
          refine (psub_dec (x - y) w (by omega) (by omega) rfl ht).mono ?_
          rintro e v1 ⟨rfl, hb1⟩
          have a1 := hb1
          go_wp2_with fail
          refine (wof_any n v1 hzn (ht.below a1)).mono ?_
          rintro e v2 ⟨rfl, hb2⟩
          have a2 := a1.trans (hb2.mono a1.size)
          go_wp2_with fail
          refine (wint_any (decI n) v2 (by omega) (he.below a2)).mono ?_
          rw [HN.out.1, HN.out.2]
          rintro e v3 ⟨rfl, hb3⟩
          have a3 := a2.trans (hb3.mono a2.size)
          go_wp2_with fail
          refine (psign_any (decI (x - y)) v3 (maxLen_le (by omega))).mono ?_
          rw [KS.out, H3.out]
          rintro e w' ⟨rfl, h⟩; obtain rfl := h.symm
          by_cases h2 : 0 < o2
          · go_wp2_with fail
            refine (examples_any v3 (ht.below a3) (he.below a3)).mono ?_
            rintro e vz ⟨rfl, hbz⟩
            go_wp2_with fail
            go_ret
            exact ⟨rfl, a3.trans (hbz.mono a3.size)⟩
          · have h3 := HT3.out (by omega)
            go_wp2_with fail
            refine (examples_any v3 (ht.below a3) (he.below a3)).mono ?_
            rintro e vz ⟨rfl, hbz⟩
            go_wp2_with fail
            go_ret
            exact ⟨rfl, a3.trans (hbz.mono a3.size)⟩
        · have H1 := Lib.hid h1
          have H2 := Lib.hid h2
          have H3 := Lib.hid h3
          have heq : (decI x == decI y) = false := by
            have : decI x ≠ decI y := fun e => h4 (decI_inj e)
            simpa using this
          clear h1 h2 h3 h4
          go_enter Tryd.func7, Tryd.ntmps7
          go_wp2_with fail
          refine (wright_ref_any (decI x) w hla).mono ?_; rintro e w' ⟨rfl, h⟩; obtain rfl := h.symm
          go_wp2_with fail
          refine (wright_ref_any (decI y) w hlb).mono ?_; rintro e w' ⟨rfl, h⟩; obtain rfl := h.symm
          go_wp2_with fail
          refine (wright_ref_any (decI z) w hlc).mono ?_; rintro e w' ⟨rfl, h⟩; obtain rfl := h.symm
          go_wp2_with fail
          refine (pcmp_any (decI x) (decI y) w (by omega) (by omega)).mono ?_
          rw [K.out, H1.out]
          rintro e w' ⟨rfl, h⟩; obtain rfl := h.symm
          go_wp2_with fail
          refine (pcmp_any (decI y) (decI x) w (by omega) (by omega)).mono ?_
          rw [K.out, H2.out]
          rintro e w' ⟨rfl, h⟩; obtain rfl := h.symm
          go_wp2_with fail
          refine (pcmp_any (decI y) (decI z) w (by omega) (by omega)).mono ?_
          rw [K.out]
          rintro e w' ⟨rfl, h⟩; obtain rfl := h.symm
          go_wp2_with fail
          refine (pcmp_any (decI x) (decI z) w (by omega) (by omega)).mono ?_
          rw [K.out]
          rintro e w' ⟨rfl, h⟩; obtain rfl := h.symm
          generalize ordI y z = o2 at *
          generalize ordI x z = o3 at *
          go_wp2_with fail
          refine (psub_dec (x - y) w (by omega) (by omega) rfl ht).mono ?_
          rintro e v1 ⟨rfl, hb1⟩
          have a1 := hb1
          go_wp2_with fail
          refine (wof_any n v1 hzn (ht.below a1)).mono ?_
          rintro e v2 ⟨rfl, hb2⟩
          have a2 := a1.trans (hb2.mono a1.size)
          go_wp2_with fail
          refine (wint_any (decI n) v2 (by omega) (he.below a2)).mono ?_
          rw [HN.out.1, HN.out.2]
          rintro e v3 ⟨rfl, hb3⟩
          have a3 := a2.trans (hb3.mono a2.size)
          go_wp2_with fail
          refine (psign_any (decI (x - y)) v3 (maxLen_le (by omega))).mono ?_
          rw [KS.out, H3.out]
          rintro e w' ⟨rfl, h⟩; obtain rfl := h.symm
          go_wp2_with fail
          refine (examples_any v3 (ht.below a3) (he.below a3)).mono ?_
          rintro e vz ⟨rfl, hbz⟩
          go_wp2_with fail
          go_ret
          exact ⟨rfl, a3.trans (hbz.mono a3.size)⟩
end Go.Proofs.YtkggdkkfdbbglaaDoor
