/- nat.Sub, nat.Mul. -/
import Derived.Test.YtkggdkkfdbbglaaDoorNAdd
namespace Go.Proofs.YtkggdkkfdbbglaaDoor
open Go.RowKit Num
set_option linter.unusedVariables false
attribute [local go_sem] B_size B_get B_toList B_mk B_extract
attribute [local go_sem high] run_max2

def subS (a b : List UInt8) : List UInt8 := if errT a b = 0 then (if val a < val b then [] else resS (val a - val b)) else []
def subE (a b : List UInt8) : Int := if errT a b = 0 then (if val a < val b then 2 else resE (val a - val b)) else errT a b

theorem sub_any (a b : List UInt8) (w : World) (ha : a.length ≤ maxLen) (hb : b.length ≤ maxLen) (ht : Tab w) :
    Calls Tryd.prog 38 #[.string (B a), .string (B b)] w fun e w' => e = .returned (.tuple #[.string (B (subS a b)), .int .i64 (subE a b)]) ∧ Below w.heap.size w w' := by
  by_cases he : errT a b = 0
  · obtain ⟨h1, h2, h3, h4⟩ := errT_zero.1 he
    have hla := nl_len_of_text h1 h3
    have hlb := nl_len_of_text h2 h4
    by_cases hlt : val a < val b
    · have HR := Lib.hid (show subS a b = [] ∧ subE a b = 2 from ⟨by rw [subS, if_pos he, if_pos hlt], by rw [subE, if_pos he, if_pos hlt]⟩)
      have hcm := Lib.hid (cmpI_lt (show (val a : Int) < val b by omega))
      clear he hlt
      go_enter Tryd.func38, Tryd.ntmps38
      go_wp2_with fail
      refine (two_ok a b _ h1 h2 h3 h4).mono ?_
      rintro e w1 ⟨A, c, A', c', rfl, hA, hA', hb1⟩
      go_wp2_with fail
      refine (ncompare_any (val a) (val b) A A' c c' _ (by omega) (by omega) hA.cells hA'.cells).mono ?_
      rintro e w2 ⟨rfl, hb2⟩
      rw [hcm.out]
      go_wp2_with fail
      go_ret2
      exact ⟨by rw [HR.out.1, HR.out.2]; rfl, hb1.trans (hb2.mono hb1.size)⟩
    · have HR := Lib.hid (show subS a b = resS (val a - val b) ∧ subE a b = resE (val a - val b) from ⟨by rw [subS, if_pos he, if_neg hlt], by rw [subE, if_pos he, if_neg hlt]⟩)
      have hcm : 0 ≤ cmpI (val a : Int) (val b : Int) := by unfold cmpI; rw [if_neg (by omega)]; split <;> omega
      have hln := nl_length_mono (show val a - val b ≤ val a by omega)
      have hle : val b ≤ val a := by omega
      clear he hlt
      go_enter Tryd.func38, Tryd.ntmps38
      go_wp2_with fail
      refine (two_ok a b _ h1 h2 h3 h4).mono ?_
      rintro e w1 ⟨A, c, A', c', rfl, hA, hA', hb1⟩
      go_wp2_with fail
      refine (ncompare_any (val a) (val b) A A' c c' _ (by omega) (by omega) hA.cells hA'.cells).mono ?_
      rintro e w2 ⟨rfl, hb2⟩
      have hA2 := hA.below hb2
      have hA2' := hA'.below hb2
      go_wp2_with fail
      refine (minus_any (val a) (val b) A A' c c' _ hA2 hA2' (by omega) hle).mono ?_
      rintro e w3 ⟨A3, c3, rfl, hn, hb3⟩
      go_wp2_with fail
      refine (result_any _ A3 c3 _ hn (by omega) (((ht.below hb1).below hb2).below hb3)).mono ?_
      rintro e w4 ⟨rfl, hb4⟩
      have h5 := hb1.trans (hb2.mono hb1.size)
      have h6 := h5.trans (hb3.mono h5.size)
      go_wp2_with fail
      go_ret2
      exact ⟨by rw [HR.out.1, HR.out.2]; rfl, h6.trans (hb4.mono h6.size)⟩
  · have HR := Lib.hid (show subS a b = [] ∧ subE a b = errT a b from ⟨if_neg he, if_neg he⟩)
    have hne : (errT a b != 0) = true := by simpa using he
    go_enter Tryd.func38, Tryd.ntmps38
    go_wp2_with fail
    refine (two_err a b _ ha hb he).mono ?_
    rintro e w1 ⟨rfl, rfl⟩
    clear he
    go_wp2_with fail
    go_ret2
    exact ⟨by rw [HR.out.1, HR.out.2]; rfl, Below.refl _ _⟩

/-! ### the product -/
def mulS (a b : List UInt8) : List UInt8 := if errT a b = 0 then resS (val a * val b) else []
def mulE (a b : List UInt8) : Int := if errT a b = 0 then resE (val a * val b) else errT a b

theorem mul_step (zs ys : List Nat) (i k x carry base : Nat) (hl : i + k < zs.length)
    (h : lv zs + 1000000000 ^ (i + k) * carry = base + 1000000000 ^ i * x * lv (ys.take k)) :
    lv (zs.set (i + k) ((atN zs (i + k) + x * atN ys k + carry) % 1000000000)) + 1000000000 ^ (i + (k + 1)) * ((atN zs (i + k) + x * atN ys k + carry) / 1000000000) =
      base + 1000000000 ^ i * x * lv (ys.take (k + 1)) := by
  have h1 := lv_set zs (i + k) ((atN zs (i + k) + x * atN ys k + carry) % 1000000000) hl
  generalize hn : atN zs (i + k) + x * atN ys k + carry = n at *
  rw [lv_take_succ, Nat.mul_add, ← Nat.add_assoc base, ← h, show i + (k + 1) = i + k + 1 from rfl, Nat.pow_succ]
  have h2 : 1000000000 ^ (i + k) * (n % 1000000000) + 1000000000 ^ (i + k) * 1000000000 * (n / 1000000000) = 1000000000 ^ (i + k) * n := by
    rw [Nat.mul_assoc, ← Nat.mul_add]; congr 1; omega
  have h3 : 1000000000 ^ i * x * (1000000000 ^ k * atN ys k) = 1000000000 ^ (i + k) * (x * atN ys k) := by
    rw [Nat.pow_add]; simp only [Nat.mul_assoc, Nat.mul_left_comm, Nat.mul_comm]
  rw [h3]
  have h4 : 1000000000 ^ (i + k) * n = 1000000000 ^ (i + k) * atN zs (i + k) + 1000000000 ^ (i + k) * (x * atN ys k) + 1000000000 ^ (i + k) * carry := by
    rw [← hn, Nat.mul_add, Nat.mul_add]
  omega
theorem mul_end (zs xs ys : List Nat) (i carry : Nat) (hl : i + ys.length < zs.length) (hz : atN zs (i + ys.length) = 0)
    (h : lv zs + 1000000000 ^ (i + ys.length) * carry = lv (xs.take i) * lv ys + 1000000000 ^ i * atN xs i * lv (ys.take ys.length)) :
    lv (zs.set (i + ys.length) carry) = lv (xs.take (i + 1)) * lv ys := by
  have h1 := lv_set zs (i + ys.length) carry hl
  rw [hz, Nat.mul_zero, Nat.add_zero] at h1
  rw [h1, h, lv_take_succ, Nat.add_mul, List.take_of_length_le (Nat.le_refl _)]
theorem mul_bound {z x y c : Nat} (hz : z < 1000000000) (hx : x < 1000000000) (hy : y < 1000000000) (hc : c < 1000000000) :
    x * y ≤ 999999998000000001 ∧ (z + x * y + c) / 1000000000 < 1000000000 := by
  have : x * y ≤ 999999999 * 999999999 := Nat.mul_le_mul (by omega) (by omega)
  omega

set_option maxHeartbeats 1000000 in
theorem mul_any (a b : List UInt8) (w : World) (ha : a.length ≤ maxLen) (hb : b.length ≤ maxLen) (ht : Tab w) :
    Calls Tryd.prog 55 #[.string (B a), .string (B b)] w fun e w' => e = .returned (.tuple #[.string (B (mulS a b)), .int .i64 (mulE a b)]) ∧ Below w.heap.size w w' := by
  by_cases he : errT a b = 0
  · obtain ⟨h1, h2, h3, h4⟩ := errT_zero.1 he
    have HR := Lib.hid (show mulS a b = resS (val a * val b) ∧ mulE a b = resE (val a * val b) from ⟨if_pos he, if_pos he⟩)
    have hla := nl_len_of_text h1 h3
    have hlb := nl_len_of_text h2 h4
    clear he
    go_enter Tryd.func55, Tryd.ntmps55
    go_wp2_with fail
    refine (two_ok a b _ h1 h2 h3 h4).mono ?_
    rintro e w1 ⟨A, c, A', c', rfl, hA, hA', hb1⟩
    have hx := limbs_nl (val a)
    have hy := limbs_nl (val b)
    have HX := Lib.hid (lv_nl (val a))
    have HY := Lib.hid (lv_nl (val b))
    obtain ⟨hcx, hcl, hcm⟩ := hA
    obtain ⟨hcx', hcl', hcm'⟩ := hA'
    generalize nl (val a) = xs at *
    generalize nl (val b) = ys at *
    go_wp2_with (refine wp_mkn el_number rfl _ _ rfl w1.heap.size _ .i64 .i64 _ _ (xs.length + ys.length) rfl rfl (by go_num) (by go_num) (by omega) (by unfold maxLen; omega) (Nat.le_refl _) rfl ?_; intro A0 w0 hown0 hb0)
    go_loopw [10, 11, 12, 13, 14, 15, 34] (fun _ _ _ _ _ _ i wr => ∃ (k : Nat) (zs : List Nat), k ≤ xs.length ∧ i = .int .i64 k ∧ OwnS wr w1.heap.size 3 A0 (xs.length + ys.length) (xs.length + ys.length) (nums zs) ∧
        limbs zs ∧ lv zs = lv (xs.take k) * lv ys ∧ (∀ j, k + ys.length ≤ j → atN zs j = 0) ∧ Below w1.heap.size w1 wr)
      (fun _ _ _ _ _ _ i _ => xs.length - (intOf i).toNat)
    case atStart => exact ⟨0, List.replicate (xs.length + ys.length) 0, Nat.zero_le _, rfl, by rw [nums_replicate]; exact hown0, limbs_replicate _, by rw [lv_replicate]; simp [lv], fun j _ => atN_replicate _ _, hb0⟩
    case round =>
      obtain ⟨i, zs, hi, rfl, hown, hz, hv, hzero, hbel⟩ := hrel
      have hzl : zs.length = xs.length + ys.length := by have := hown.len; rw [nums_length] at this; exact this
      have HZL := Lib.hid hzl
      clear hzl
      by_cases hlt : i < xs.length
      · obtain ⟨bx, offx, rfl, hbx, hcellx⟩ := (hcx.below hbel) (by rw [nums_length]; omega)
        have hci := Cells.num hcellx i hlt
        obtain ⟨g, rfl, hg1, hg2, hgc, hgf⟩ := hown.at_ (by omega)
        have HV := Lib.hid hv
        have HZ := Lib.hid hzero
        have HB := Lib.hid hcellx
        have HGC := Lib.hid hgc
        clear hv hzero hcellx hgc
        go_wp2_with fail
        go_loopw [12, 13, 14, 15, 41] (fun cr _ _ _ j w2 => ∃ (k : Nat) (us : List Nat) (carry : Nat), k ≤ ys.length ∧ j = .int .i64 k ∧ cr = .int .i64 carry ∧ OwnS w2 w1.heap.size 3 (some ⟨g, 0, none⟩) (xs.length + ys.length) (xs.length + ys.length) (nums us) ∧
            limbs us ∧ carry < 1000000000 ∧ lv us + 1000000000 ^ (i + k) * carry = lv (xs.take i) * lv ys + 1000000000 ^ i * atN xs i * lv (ys.take k) ∧ (∀ j, i + ys.length ≤ j → atN us j = 0) ∧ Below w1.heap.size w1 w2)
          (fun _ _ _ _ j _ => ys.length - (intOf j).toNat)
        case atStart => exact ⟨0, zs, 0, Nat.zero_le _, rfl, rfl, hown, hz, by omega, by rw [HV.out]; simp [lv], HZ.out, hbel⟩
        case round =>
          obtain ⟨k, us, carry, hk, rfl, rfl, hown2, hu, hcr, hv2, hzero2, hbel2⟩ := hrel
          have hul : us.length = xs.length + ys.length := by have := hown2.len; rw [nums_length] at this; exact this
          have HUL := Lib.hid hul
          have HG2 := Lib.hid (hown2.at_ (by omega))
          clear hul hgf hown hz hbel
          obtain ⟨g', hg', hg3, hg4, hgc2, hgf2⟩ := HG2.out
          injection hg' with hg'
          injection hg' with hg' _ _
          subst hg'
          clear HG2
          by_cases hkl : k < ys.length
          · obtain ⟨by', offy, rfl, hby, hcelly⟩ := (hcx'.below hbel2) (by rw [nums_length]; omega)
            have hcj := Cells.num hcelly k hkl
            have hld : wr.cell? ⟨g, i + k, none⟩ = some (.int .i64 (atN us (i + k) : Int)) := by
              rw [hgc2 (i + k) (by omega), nums_get us (i + k) (by have := HUL.out; omega)]
            have hfr := hgf2 (i + k)
            have hus := atN_lt hu (i + k)
            have hxi := atN_lt hx i
            have hyk := atN_lt hy k
            have hmb := mul_bound hus hxi hyk hcr
            have HS := Lib.hid (mul_step us ys i k (atN xs i) carry _ (by have := HUL.out; omega) hv2)
            have hst := hown2.stored (i + k) (.int .i64 (((atN us (i + k) + atN xs i * atN ys k + carry) % 1000000000 : Nat) : Int))
            rw [← nums_set] at hst
            have hq1 : ((atN xs i * atN ys k : Nat) : Int) = (atN xs i : Int) * (atN ys k : Int) := Int.natCast_mul _ _
            have hp1 : 0 ≤ (atN xs i : Int) * (atN ys k : Int) := by rw [← hq1]; omega
            have hp2 : (atN xs i : Int) * (atN ys k : Int) ≤ 999999998000000001 := by rw [← hq1]; omega
            have HQ := Lib.hid hq1
            have HM := Lib.hid hmb.2
            have HST := Lib.hid hst
            have HZ2 := Lib.hid hzero2
            have e : (((atN us (i + k) + atN xs i * atN ys k + carry) % 1000000000 : Nat) : Int) = ((atN us (i + k) : Int) + (atN xs i : Int) * (atN ys k : Int) + (carry : Int)) % 1000000000 := by rw [← hq1]; omega
            have HE := Lib.hid e
            have e2 : (((atN us (i + k) + atN xs i * atN ys k + carry) / 1000000000 : Nat) : Int) = ((atN us (i + k) : Int) + (atN xs i : Int) * (atN ys k : Int) + (carry : Int)) / 1000000000 := by rw [← hq1]; omega
            have HE2 := Lib.hid e2
            clear e2
            clear hmb hst hv2 hzero2 hcelly hgc2 hgf2 hq1 e
            go_wp2_with fail
            go_roundw
            case rel =>
              refine ⟨k + 1, us.set (i + k) ((atN us (i + k) + atN xs i * atN ys k + carry) % 1000000000), (atN us (i + k) + atN xs i * atN ys k + carry) / 1000000000, by omega, by go_num, by rw [HE2.out], ?_, limbs_set hu (by omega), HM.out, HS.out, ?_, hbel2.setCell hg1 _⟩
              · have := HST.out
                rw [HE.out] at this
                exact this
              · intro j hj
                rw [atN_set _ _ _ _ (by have := HUL.out; omega), if_neg (by omega)]
                exact HZ2.out j hj
            case measure => simp [intOf]; omega
          · obtain rfl : k = ys.length := by omega
            have hld : wr.cell? ⟨g, i + ys.length, none⟩ = some (.int .i64 0) := by
              rw [hgc2 (i + ys.length) (by omega), nums_get us (i + ys.length) (by have := HUL.out; omega), hzero2 _ (by omega)]; rfl
            have hfr := hgf2 (i + ys.length)
            have HS := Lib.hid (mul_end us xs ys i carry (by have := HUL.out; omega) (hzero2 _ (by omega)) hv2)
            have hst := hown2.stored (i + ys.length) (.int .i64 (carry : Int))
            rw [← nums_set] at hst
            have HST := Lib.hid hst
            have HZ2 := Lib.hid hzero2
            clear hst hv2 hzero2 hgc2 hgf2
            go_wp2_with fail
            go_roundw
            case rel =>
              refine ⟨i + 1, us.set (i + ys.length) carry, by omega, by go_num, HST.out, limbs_set hu hcr, HS.out, ?_, hbel2.setCell hg1 _⟩
              intro j hj
              rw [atN_set _ _ _ _ (by have := HUL.out; omega), if_neg (by omega)]
              exact HZ2.out j (by omega)
            case measure => simp [intOf]; omega
      · obtain rfl : i = xs.length := by omega
        have hval : lv zs = val a * val b := by rw [hv, List.take_of_length_le (Nat.le_refl _), HX.out, HY.out]
        have HVAL := Lib.hid hval
        have hlen : (nl (val a * val b)).length ≤ 1000000 := by
          have h9 := take_nl zs hz
          have h10 := congrArg List.length h9
          rw [List.length_take, hval, HZL.out] at h10
          omega
        clear hval hv hzero
        go_wp2_with fail
        refine (trim_num zs (val a * val b) A0 _ _ _ hz HVAL.out HZL.out hown.cap.1 hown.cap.2 hown.cells).mono ?_
        rintro e w' ⟨rfl, hnum, rfl⟩
        go_wp2_with fail
        refine (result_any _ A0 _ _ hnum hlen ((ht.below hb1).below hbel)).mono ?_
        rintro e w4 ⟨rfl, hb4⟩
        have h5 := hb1.trans (hbel.mono hb1.size)
        go_wp2_with fail
        go_ret2
        exact ⟨by rw [HR.out.1, HR.out.2]; rfl, h5.trans (hb4.mono h5.size)⟩
  · have HR := Lib.hid (show mulS a b = [] ∧ mulE a b = errT a b from ⟨if_neg he, if_neg he⟩)
    have hne : (errT a b != 0) = true := by simpa using he
    go_enter Tryd.func55, Tryd.ntmps55
    go_wp2_with fail
    refine (two_err a b _ ha hb he).mono ?_
    rintro e w1 ⟨rfl, rfl⟩
    clear he
    go_wp2_with fail
    go_ret2
    exact ⟨by rw [HR.out.1, HR.out.2]; rfl, Below.refl _ _⟩
end Go.Proofs.YtkggdkkfdbbglaaDoor
