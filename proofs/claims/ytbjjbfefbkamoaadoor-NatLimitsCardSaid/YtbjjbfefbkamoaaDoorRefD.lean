/- The reference's Div, Gcd. -/
import Derived.Test.YtbjjbfefbkamoaaDoorRefC
namespace Go.Proofs.YtbjjbfefbkamoaaDoor
open Go.RowKit Num
set_option linter.unusedVariables false
attribute [local go_sem] B_size B_get B_toList B_mk B_extract B_append
attribute [local go_sem high] run_max2

theorem slice_one (l : List UInt8) (k : Nat) (h : k < l.length) : (l.take (k + 1)).drop k = [at8 l k] := by
  rw [List.take_succ_eq_append_getElem h, List.drop_append_of_le_length (by rw [List.length_take]; omega), List.drop_of_length_le (by rw [List.length_take]; omega), at8_eq l k h]; rfl
theorem cmpT_dec (x y : Nat) : cmpT (dec x) (dec y) = cmpI (x : Int) (y : Int) := by rw [cmpT_right (right_dec x) (right_dec y), val_dec, val_dec]
theorem cmpI_nonneg {x y : Int} : 0 ≤ cmpI x y ↔ y ≤ x := by
  unfold cmpI; split
  · constructor <;> intro h <;> omega
  · split <;> constructor <;> intro h <;> omega
theorem divT_step (v y d r : Nat) (hy : 0 < y) (hr : r = v % y) (hd : d < 10) : (10 * v + d) / y = 10 * (v / y) + (10 * r + d) / y ∧ (10 * v + d) % y = (10 * r + d) % y ∧ 10 * r + d < 10 * y := by
  have h := Nat.div_add_mod v y
  rw [← hr] at h
  have e : 10 * v + d = y * (10 * (v / y)) + (10 * r + d) := by
    have : y * (10 * (v / y)) = 10 * (y * (v / y)) := Nat.mul_left_comm _ _ _
    omega
  have hlt : r < y := by rw [hr]; exact Nat.mod_lt v hy
  refine ⟨?_, ?_, by omega⟩
  · rw [e, Nat.mul_add_div hy]
  · rw [e, Nat.mul_add_mod]

set_option maxHeartbeats 2000000 in
theorem rdiv_any (a b : List UInt8) (w : World) (ha : a.length ≤ maxLen) (hb : b.length ≤ maxLen) :
    Calls Tryd.prog 15 #[.string (B a), .string (B b)] w fun e w' => e = .returned (.tuple #[.string (B (divQ a b)), .string (B (divR a b)), .int .i64 (divE a b)]) ∧ w' = w := by
  by_cases he : errT a b = 0
  · obtain ⟨h1, h2, h3, h4⟩ := errT_zero.1 he
    have hz : (errT a b != 0) = false := by simpa using he
    obtain ⟨y, rfl⟩ := (right_iff b).1 h2
    by_cases h0 : y = 0
    · have hE : divE a (dec y) = 10 := by rw [divE, if_pos he, val_dec, if_pos h0]
      have HR := Lib.hid (show divQ a (dec y) = [] ∧ divR a (dec y) = [] ∧ divE a (dec y) = 10 from ⟨by rw [divQ, hE]; rfl, by rw [divR, hE]; rfl, hE⟩)
      have ht : (dec y == [48]) = true := by rw [h0, dec_zero]; rfl
      clear he h0 hE
      go_enter Tryd.func15, Tryd.ntmps15
      simp only [B_mk]
      go_wp2_with fail
      refine (wrong_any a (dec y) _ ha hb).mono ?_; rintro e w' ⟨rfl, rfl⟩
      go_wp2_with fail
      go_ret3
      exact ⟨by rw [HR.out.1, HR.out.2.1, HR.out.2.2]; rfl, rfl⟩
    · have hE : divE a (dec y) = 0 := by rw [divE, if_pos he, val_dec, if_neg h0]
      have HR := Lib.hid (show divQ a (dec y) = dec (val a / y) ∧ divR a (dec y) = dec (val a % y) ∧ divE a (dec y) = 0 from ⟨by rw [divQ, if_pos hE, val_dec], by rw [divR, if_pos hE, val_dec], hE⟩)
      have ht : (dec y == [48]) = false := by
        rw [beq_eq_false_iff_ne]; intro e
        have := congrArg val e
        rw [val_dec] at this
        exact h0 this
      have hpos : 0 < y := by omega
      have had := right_all h1
      have ha0 : 0 < a.length := List.length_pos_iff.2 (right_ne h1)
      clear he h0 hE
      go_enter Tryd.func15, Tryd.ntmps15
      simp only [B_mk]
      go_wp2_with fail
      refine (wrong_any a (dec y) _ ha hb).mono ?_; rintro e w' ⟨rfl, rfl⟩
      go_wp2_with fail
      go_loopw [8, 9, 10, 11] (fun q rr i _ wr => ∃ k : Nat, k ≤ a.length ∧ i = .int .i64 k ∧ q = .string (B (digs k (val (a.take k) / y))) ∧ rr = .string (B (dec (val (a.take k) % y))) ∧ wr = w') (fun _ _ i _ _ => a.length - (intOf i).toNat)
      case atStart => exact ⟨0, Nat.zero_le _, rfl, by simp [digs], by simp [val, dec_zero], rfl⟩
      case round =>
        obtain ⟨k, hk, rfl, rfl, rfl, rfl⟩ := hrel
        have hql : (digs k (val (a.take k) / y)).length = k := digs_length _ _
        by_cases hgo : k < a.length
        · have HV := Lib.hid (val_take_succ a k hgo)
          have hsl := slice_one a k hgo
          have hdgl := List.all_eq_true.1 had _ (by rw [at8_eq a k hgo]; exact List.getElem_mem hgo : at8 a k ∈ a)
          have hdlt := dv_lt hdgl
          have HST := Lib.hid (divT_step (val (a.take k)) y (dv (at8 a k)) (val (a.take k) % y) hpos rfl hdlt)
          have hQL : (digs k (val (a.take k) / y)).length ≤ 5000 := by omega
          clear hql
          have hrlt := Nat.mod_lt (val (a.take k)) hpos
          generalize hQ : digs k (val (a.take k) / y) = Q at *
          have HQ := Lib.hid hQ
          clear hQ
          generalize hr : val (a.take k) % y = r at *
          have HRR := Lib.hid hr
          clear hr
          have hrl := length_dec_mono (Nat.le_of_lt hrlt)
          have hal : (dec r ++ [at8 a k]).all isDig = true := by rw [List.all_append, dec_all]; simp [hdgl]
          have HVS := Lib.hid (show val (dec r ++ [at8 a k]) = 10 * r + dv (at8 a k) by rw [val_snoc, val_dec])
          go_wp2_with fail
          refine (rtrim_any (dec r ++ [at8 a k]) _ hal (by simp) (by simp; omega)).mono ?_; rintro e w' ⟨rfl, rfl⟩
          rw [HVS.out]
          clear hal hsl
          obtain ⟨T, hT⟩ : ∃ T, T = 10 * r + dv (at8 a k) := ⟨_, rfl⟩
          have HT := Lib.hid hT
          rw [← hT]
          have hTl : T < 10 * y := by rw [hT]; exact HST.out.2.2
          have hTlen : (dec T).length ≤ 5000 := by
            have h9 := dec_len_mul 10 y
            have : (dec 10).length ≤ 2 := (length_dec_le (by omega)).2 (by omega)
            have := length_dec_mono (Nat.le_of_lt hTl)
            omega
          clear hT
          go_wp2_with fail
          go_loopw [9, 11] (fun rr n w2 => ∃ j t : Nat, n = .int .i64 j ∧ rr = .string (B (dec t)) ∧ T = y * j + t ∧ w2 = w') (fun _ n _ => 20 - (intOf n).toNat)
          case atStart => exact ⟨0, T, rfl, rfl, by omega, rfl⟩
          case round =>
            obtain ⟨j, t, rfl, rfl, htj, rfl⟩ := hrel
            have HTJ := Lib.hid htj
            have htT : t ≤ T := by omega
            have hj9 : j < 10 := by
              rcases Nat.lt_or_ge j 10 with h | h
              · exact h
              · have := Nat.mul_le_mul_left y h; omega
            have htlen := length_dec_mono htT
            clear htj
            by_cases hc : y ≤ t
            · have hcc : 0 ≤ cmpT (dec t) (dec y) := by rw [cmpT_dec]; exact cmpI_nonneg.2 (by omega)
              go_wp2_with fail
              refine (ref_compare_any (dec t) (dec y) _ (by unfold maxLen; omega) hb).mono ?_; rintro e w' ⟨rfl, rfl⟩
              go_wp2_with fail
              refine (less_any t y _ (by omega) hc).mono ?_; rintro e w' ⟨rfl, rfl⟩
              go_wp2_with fail
              go_roundw
              case rel => exact ⟨j + 1, t - y, by go_num, rfl, by rw [HTJ.out, Nat.mul_add]; omega, by trivial⟩
              case measure => simp [intOf]; omega
            · have hcc : cmpT (dec t) (dec y) < 0 := by
                have : ¬ 0 ≤ cmpT (dec t) (dec y) := by rw [cmpT_dec, cmpI_nonneg]; omega
                omega
              have hjq : T / y = j ∧ T % y = t := by
                rw [HTJ.out]
                exact ⟨by rw [Nat.mul_add_div hpos, Nat.div_eq_of_lt (by omega)]; omega, by rw [Nat.mul_add_mod, Nat.mod_eq_of_lt (by omega)]⟩
              have HJ := Lib.hid hjq
              clear hjq
              go_wp2_with fail
              refine (ref_compare_any (dec t) (dec y) _ (by unfold maxLen; omega) hb).mono ?_; rintro e w' ⟨rfl, rfl⟩
              go_wp2_with fail
              refine (letter_any j _ hj9).mono ?_; rintro e w' ⟨rfl, rfl⟩
              go_wp2_with fail
              go_roundw
              case rel =>
                have hst := HST.out
                rw [← HT.out, HJ.out.1, HJ.out.2] at hst
                refine ⟨k + 1, by omega, by go_num, ?_, ?_, by trivial⟩
                · rw [HV.out, hst.1]
                  show _ = Value.string (B (digs k ((10 * (val (a.take k) / y) + j) / 10) ++ [dch ((10 * (val (a.take k) / y) + j) % 10)]))
                  rw [show (10 * (val (a.take k) / y) + j) / 10 = val (a.take k) / y by omega, show (10 * (val (a.take k) / y) + j) % 10 = j by omega, HQ.out]
                · rw [HV.out, hst.2.1]
              case measure => simp [intOf]; omega
        · obtain rfl : k = a.length := by omega
          have hlt : val a / y < 10 ^ a.length := Nat.lt_of_le_of_lt (Nat.div_le_self _ _) (val_lt a had)
          have HV := Lib.hid (val_digs _ _ hlt)
          rw [List.take_of_length_le (Nat.le_refl _)] at hql ⊢
          have hql2 : (digs a.length (val a / y)).length ≤ 5000 := by omega
          have hql3 : 0 < (digs a.length (val a / y)).length := by omega
          have hal := digs_all a.length (val a / y)
          clear hql hlt hgo
          generalize digs a.length (val a / y) = Q at *
          go_wp2_with fail
          refine (rtrim_any Q _ hal hql3 (by omega)).mono ?_; rintro e w' ⟨rfl, rfl⟩
          rw [HV.out]
          go_wp2_with fail
          go_ret3
          exact ⟨by rw [HR.out.1, HR.out.2.1, HR.out.2.2]; rfl, rfl⟩
  · have hE : divE a b = errT a b := by rw [divE, if_neg he]
    have HR := Lib.hid (show divQ a b = [] ∧ divR a b = [] ∧ divE a b = errT a b from ⟨by rw [divQ, hE, if_neg he], by rw [divR, hE, if_neg he], hE⟩)
    have hne : (errT a b != 0) = true := by simpa using he
    clear he hE
    go_enter Tryd.func15, Tryd.ntmps15
    simp only [B_mk]
    go_wp2_with fail
    refine (wrong_any a b _ ha hb).mono ?_; rintro e w' ⟨rfl, rfl⟩
    go_wp2_with fail
    go_ret3
    exact ⟨by rw [HR.out.1, HR.out.2.1, HR.out.2.2]; rfl, rfl⟩

theorem errT_dec {p q : Nat} (hp : (dec p).length ≤ 4096) (hq : (dec q).length ≤ 4096) : errT (dec p) (dec q) = 0 := errT_zero.2 ⟨right_dec p, right_dec q, hp, hq⟩
theorem divR_dec {p q : Nat} (hp : (dec p).length ≤ 4096) (hq : (dec q).length ≤ 4096) (h : q ≠ 0) : divR (dec p) (dec q) = dec (p % q) := by
  rw [divR, divE, if_pos (errT_dec hp hq), val_dec, if_neg h, if_pos rfl, val_dec]
theorem gcd_len {a b : List UInt8} (he : errT a b = 0) : (dec (Nat.gcd (val a) (val b))).length ≤ 4096 := by
  obtain ⟨h1, h2, h3, h4⟩ := errT_zero.1 he
  rcases Nat.eq_zero_or_pos (val a) with h | h
  · rw [h, Nat.gcd_zero_left, dec_val h2]; exact h4
  · exact dec_len_4096 h1 h3 (Nat.gcd_le_left _ h)

set_option maxHeartbeats 1000000 in
theorem rgcd_any (a b : List UInt8) (w : World) (ha : a.length ≤ maxLen) (hb : b.length ≤ maxLen) :
    Calls Tryd.prog 22 #[.string (B a), .string (B b)] w fun e w' => e = .returned (.tuple #[.string (B (gcdS a b)), .int .i64 (gcdE a b)]) ∧ w' = w := by
  by_cases he : errT a b = 0
  · obtain ⟨h1, h2, h3, h4⟩ := errT_zero.1 he
    have hlen := gcd_len he
    have HR := Lib.hid (show gcdS a b = dec (Nat.gcd (val a) (val b)) ∧ gcdE a b = 0 from ⟨by rw [gcdS, if_pos he, resS, if_pos hlen], by rw [gcdE, if_pos he, resE, if_pos hlen]⟩)
    have hz : (errT a b != 0) = false := by simpa using he
    obtain ⟨x, rfl⟩ := (right_iff a).1 h1
    obtain ⟨y, rfl⟩ := (right_iff b).1 h2
    rw [val_dec, val_dec] at HR
    obtain ⟨g, hg⟩ : ∃ g, Nat.gcd x y = g := ⟨_, rfl⟩
    have HG := Lib.hid hg
    clear he hlen
    go_enter Tryd.func22, Tryd.ntmps22
    simp only [B_mk]
    go_wp2_with fail
    refine (wrong_any (dec x) (dec y) _ ha hb).mono ?_; rintro e w' ⟨rfl, rfl⟩
    go_wp2_with fail
    go_loopg [0, 1] y (fun gk u v wr => ∃ p q : Nat, u = .string (B (dec p)) ∧ v = .string (B (dec q)) ∧ Nat.gcd p q = g ∧ q ≤ gk ∧ (dec p).length ≤ 4096 ∧ (dec q).length ≤ 4096 ∧ wr = w')
    case atStart => exact ⟨x, y, rfl, rfl, hg, Nat.le_refl _, h3, h4, rfl⟩
    case round =>
      obtain ⟨p, q, rfl, rfl, hgc, hqk, hpl, hql, rfl⟩ := hrel
      clear hg
      have HGC := Lib.hid hgc
      clear hgc
      by_cases hq0 : q = 0
      · have ht : (!(dec q == [48])) = false := by rw [hq0, dec_zero]; rfl
        have hp : p = g := by have := HGC.out; rw [hq0, Nat.gcd_zero_right] at this; exact this
        have HPG := Lib.hid hp
        clear hp hq0
        go_wp2_with fail
        go_ret2
        exact ⟨by rw [HR.out.1, HR.out.2, HG.out, HPG.out]; rfl, rfl⟩
      · have ht : (!(dec q == [48])) = true := by
          rw [Bool.not_eq_true', beq_eq_false_iff_ne]; intro e
          have := congrArg val e
          rw [val_dec] at this
          exact hq0 this
        have hpos : 0 < q := by omega
        have hml := Nat.mod_lt p hpos
        have hq2 := length_dec_mono (Nat.le_of_lt hml)
        have HS := Lib.hid (gcd_step hpos HGC.out)
        have HD := Lib.hid (divR_dec hpl hql hq0)
        clear hq0
        go_wp2_with fail
        refine (rdiv_any (dec p) (dec q) _ (by unfold maxLen; omega) (by unfold maxLen; omega)).mono ?_; rintro e w' ⟨rfl, rfl⟩
        rw [HD.out]
        go_wp2_with fail
        go_roundg (p % q)
        case measure => omega
        case rel => exact ⟨q, p % q, rfl, rfl, HS.out, Nat.le_refl _, hql, by omega, rfl⟩
  · have HR := Lib.hid (show gcdS a b = [] ∧ gcdE a b = errT a b from ⟨if_neg he, if_neg he⟩)
    have hne : (errT a b != 0) = true := by simpa using he
    clear he
    go_enter Tryd.func22, Tryd.ntmps22
    simp only [B_mk]
    go_wp2_with fail
    refine (wrong_any a b _ ha hb).mono ?_; rintro e w' ⟨rfl, rfl⟩
    go_wp2_with fail
    go_ret2
    exact ⟨by rw [HR.out.1, HR.out.2]; rfl, rfl⟩
end Go.Proofs.YtbjjbfefbkamoaaDoor
