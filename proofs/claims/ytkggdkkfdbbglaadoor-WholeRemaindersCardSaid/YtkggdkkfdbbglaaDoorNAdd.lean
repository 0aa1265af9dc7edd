/- nat.Add, nat.Sub. -/
import Derived.Test.YtkggdkkfdbbglaaDoorNString
import Derived.Test.YtkggdkkfdbbglaaDoorMinus
import Derived.Test.YtkggdkkfdbbglaaDoorNCompare
namespace Go.Proofs.YtkggdkkfdbbglaaDoor
open Go.RowKit Num
set_option linter.unusedVariables false
attribute [local go_sem] B_size B_get B_toList B_mk B_extract
attribute [local go_sem high] run_max2

/-- what Add answers -/
def addS (a b : List UInt8) : List UInt8 := if errT a b = 0 then resS (val a + val b) else []
def addE (a b : List UInt8) : Int := if errT a b = 0 then resE (val a + val b) else errT a b
theorem nl_len_of_pow {n k : Nat} (h : n < 10 ^ k) : (nl n).length ≤ k :=
  nl_length_le.2 (Nat.lt_of_lt_of_le h (Nat.pow_le_pow_left (by omega) _))
theorem nl_len_of_text {a : List UInt8} (h : right a = true) (hl : a.length ≤ 4096) : (nl (val a)).length ≤ 4096 :=
  Nat.le_trans (nl_len_of_pow (val_lt_len h)) hl
theorem lv_take_all {xs : List Nat} {k : Nat} (h : xs.length ≤ k) : lv (xs.take k) = lv xs := by rw [List.take_of_length_le h]

set_option maxHeartbeats 1000000 in
theorem add_any (a b : List UInt8) (w : World) (ha : a.length ≤ maxLen) (hb : b.length ≤ maxLen) (ht : Tab w) :
    Calls Tryd.prog 37 #[.string (B a), .string (B b)] w fun e w' => e = .returned (.tuple #[.string (B (addS a b)), .int .i64 (addE a b)]) ∧ Below w.heap.size w w' := by
  by_cases he : errT a b = 0
  · obtain ⟨h1, h2, h3, h4⟩ := errT_zero.1 he
    have HR := Lib.hid (show addS a b = resS (val a + val b) ∧ addE a b = resE (val a + val b) from ⟨if_pos he, if_pos he⟩)
    have hla := nl_len_of_text h1 h3
    have hlb := nl_len_of_text h2 h4
    clear he
    go_enter Tryd.func37, Tryd.ntmps37
    go_wp2_with fail
    refine (two_ok a b _ h1 h2 h3 h4).mono ?_
    rintro e w1 ⟨A, c, A', c', rfl, hA, hA', hb1⟩
    have hx := limbs_nl (val a)
    have hy := limbs_nl (val b)
    have HX := Lib.hid (lv_nl (val a))
    have HY := Lib.hid (lv_nl (val b))
    have hpa := Lib.hid (@pow_le_of_len (val a))
    have hpb := Lib.hid (@pow_le_of_len (val b))
    obtain ⟨hcx, hcl, hcm⟩ := hA
    obtain ⟨hcx', hcl', hcm'⟩ := hA'
    generalize nl (val a) = xs at *
    generalize nl (val b) = ys at *
    go_wp2_with fail
    go_loopw [9, 10, 11, 12] (fun v cr i _ wr => ∃ (k : Nat) (zs : List Nat) (A2 : Option Addr) (c2 carry : Nat), k ≤ 5000 ∧ i = .int .i64 k ∧ v = .slice A2 k c2 ∧ cr = .int .i64 carry ∧ OwnS wr w1.heap.size 3 A2 k c2 (nums zs) ∧
        zs.length = k ∧ limbs zs ∧ carry ≤ 1 ∧ lv zs + 1000000000 ^ k * carry = lv (xs.take k) + lv (ys.take k) ∧ (k ≤ max xs.length ys.length ∨ (k = max xs.length ys.length + 1 ∧ carry = 0 ∧ 1000000000 ^ (k - 1) ≤ lv zs)) ∧ Below w1.heap.size w1 wr)
      (fun _ _ i _ _ => 6000 - (intOf i).toNat)
    case atStart => exact ⟨0, [], none, 0, 0, by omega, rfl, rfl, rfl, OwnS.nil _ _ _, rfl, limbs_nil, by omega, by simp [lv], .inl (by omega), Below.refl _ _⟩
    case round =>
      obtain ⟨k, zs, A2, c2, carry, hk, rfl, rfl, rfl, hown, hzl, hz, hcr, hv, hor, hbel⟩ := hrel
      have hmx : imax (xs.length : Int) (ys.length : Int) = ((max xs.length ys.length : Nat) : Int) := imax_nat _ _
      have hmx2 : max (xs.length : Int) (ys.length : Int) = ((max xs.length ys.length : Nat) : Int) := by omega
      by_cases hgo : k < max xs.length ys.length ∨ 0 < carry
      · have hkm : k ≤ max xs.length ys.length := by rcases hor with h | h <;> omega
        have HS := Lib.hid (add_step xs ys zs k carry hzl hv)
        have hxk := atN_lt hx k
        have hyk := atN_lt hy k
        have HZ := Lib.hid hzl
        clear hzl hv hor
        have hmv : max xs.length ys.length ≤ 4096 := by omega
        have hmxx : xs.length ≤ max xs.length ys.length := by omega
        have hmxy : ys.length ≤ max xs.length ys.length := by omega
        generalize max xs.length ys.length = mx at *
        have hcx1 := hcx.below hbel
        have hcy1 := hcx'.below hbel
        have hnew : ∀ (hgo : k < mx ∨ 0 < carry), k + 1 ≤ mx ∨ (k + 1 = mx + 1 ∧ (atN xs k + atN ys k + carry) / 1000000000 = 0 ∧ 1000000000 ^ k ≤ lv (zs ++ [(atN xs k + atN ys k + carry) % 1000000000])) := by
          intro hgo
          by_cases h : k < mx
          · left; omega
          · right
            have : k = mx := by omega
            have h5 : atN xs k = 0 := atN_ge (by omega)
            have h6 : atN ys k = 0 := atN_ge (by omega)
            have h7 : carry = 1 := by omega
            rw [h5, h6, h7]
            refine ⟨by omega, by decide, ?_⟩
            rw [lv_snoc, HZ.out]; omega
        have HN := Lib.hid (hnew hgo)
        clear hnew hcx hcx'
        by_cases hlt : k < mx
        · clear hgo
          go_wp2_with fail
          refine (limb_any xs A c k _ (by omega) hcl hcm hcx1).mono ?_; rintro e w' ⟨rfl, rfl⟩
          go_wp2_with fail
          refine (limb_any ys A' c' k _ (by omega) hcl' hcm' hcy1).mono ?_; rintro e w' ⟨rfl, rfl⟩
          go_wp2_with (at_builtin; refine wp_app1 el_number rfl _ _ rfl w1.heap.size _ _ _ _ _ _ rfl hown rfl rfl (by unfold maxLen; omega) (by omega) hbel.size ?_; intro A3 c3 w2 hown1 hb2)
          go_roundw
          case rel =>
            refine ⟨k + 1, zs ++ [(atN xs k + atN ys k + carry) % 1000000000], A3, c3, (atN xs k + atN ys k + carry) / 1000000000, by omega, by go_num, rfl, by go_num, ?_, by simp [HZ.out], limbs_snoc hz (by omega), by omega, HS.out, HN.out, hbel.trans hb2⟩
            rw [nums_snoc]
            have e : (((atN xs k + atN ys k + carry) % 1000000000 : Nat) : Int) = ((atN xs k : Int) + (atN ys k : Int) + (carry : Int)) % 1000000000 := by omega
            rw [e]; exact hown1
          case measure => simp [intOf]; omega
        · have hcpos : 0 < (carry : Int) := by omega
          have hltb : decide (k < mx) = false := by simpa using hlt
          clear hgo
          go_wp2_with fail
          refine (limb_any xs A c k _ (by omega) hcl hcm hcx1).mono ?_; rintro e w' ⟨rfl, rfl⟩
          go_wp2_with fail
          refine (limb_any ys A' c' k _ (by omega) hcl' hcm' hcy1).mono ?_; rintro e w' ⟨rfl, rfl⟩
          go_wp2_with (at_builtin; refine wp_app1 el_number rfl _ _ rfl w1.heap.size _ _ _ _ _ _ rfl hown rfl rfl (by unfold maxLen; omega) (by omega) hbel.size ?_; intro A3 c3 w2 hown1 hb2)
          go_roundw
          case rel =>
            refine ⟨k + 1, zs ++ [(atN xs k + atN ys k + carry) % 1000000000], A3, c3, (atN xs k + atN ys k + carry) / 1000000000, by omega, by go_num, rfl, by go_num, ?_, by simp [HZ.out], limbs_snoc hz (by omega), by omega, HS.out, HN.out, hbel.trans hb2⟩
            rw [nums_snoc]
            have e : (((atN xs k + atN ys k + carry) % 1000000000 : Nat) : Int) = ((atN xs k : Int) + (atN ys k : Int) + (carry : Int)) % 1000000000 := by omega
            rw [e]; exact hown1
          case measure => simp [intOf]; omega
      · have hc0 : carry = 0 := by omega
        have hval : lv zs = val a + val b := by
          rw [hc0, Nat.mul_zero, Nat.add_zero, lv_take_all (by omega), lv_take_all (by omega), HX.out, HY.out] at hv
          exact hv
        have hlen : zs.length ≤ (nl (lv zs)).length := by
          rcases hor with h | h
          · have hk2 : k = max xs.length ys.length := by omega
            rcases Nat.eq_zero_or_pos k with h0 | h0
            · omega
            · have h8 : 1000000000 ^ (k - 1) ≤ lv zs := by
                rw [hval]
                rcases Nat.le_total ys.length xs.length with h9 | h9
                · have := hpa.out (by omega)
                  rw [show k = xs.length by omega]; omega
                · have := hpb.out (by omega)
                  rw [show k = ys.length by omega]; omega
              have := nl_len_ge h8
              omega
          · have := nl_len_ge h.2.2
            omega
        have hnum : NumAt wr A2 c2 (val a + val b) := by
          have := nl_of_len zs hz hlen
          rw [hval] at this
          refine ⟨?_, ?_, hown.cap.2⟩
          · rw [this]; exact hown.cells
          · rw [this]; have := hown.cap.1; omega
        have hkl : (nl (val a + val b)).length = k := by
          have := nl_of_len zs hz hlen
          rw [hval] at this
          rw [this]; exact hzl
        have HK := Lib.hid hkl
        have hkm : ¬ k < max xs.length ys.length := by omega
        clear hval hlen hor hv hzl hgo hkl
        generalize max xs.length ys.length = mx at *
        subst hc0
        have hltb : decide (k < mx) = false := by simpa using hkm
        go_wp2_with fail
        have hr := result_any (val a + val b) A2 c2 wr hnum (by rw [HK.out]; omega) ((ht.below hb1).below hbel)
        rw [HK.out] at hr
        refine hr.mono ?_
        rintro e w3 ⟨rfl, hb3⟩
        go_wp2_with fail
        go_ret2
        exact ⟨by rw [HR.out.1, HR.out.2]; rfl, (hb1.trans (hbel.mono hb1.size)).trans (hb3.mono (Nat.le_trans hb1.size hbel.size))⟩
  · have HR := Lib.hid (show addS a b = [] ∧ addE a b = errT a b from ⟨if_neg he, if_neg he⟩)
    have hne : (errT a b != 0) = true := by simpa using he
    go_enter Tryd.func37, Tryd.ntmps37
    go_wp2_with fail
    refine (two_err a b _ ha hb he).mono ?_
    rintro e w1 ⟨rfl, rfl⟩
    clear he
    go_wp2_with fail
    go_ret2
    exact ⟨by rw [HR.out.1, HR.out.2]; rfl, Below.refl _ _⟩
end Go.Proofs.YtkggdkkfdbbglaaDoor
