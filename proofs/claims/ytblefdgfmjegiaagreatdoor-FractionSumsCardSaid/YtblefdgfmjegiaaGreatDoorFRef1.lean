/- The reference of fraction: Bit, Has, whole, Integral, floor. (Printed by wip/fref1.py.) -/
import Derived.Test.YtblefdgfmjegiaaGreatDoorFProg5
import Derived.Test.YtblefdgfmjegiaaGreatDoorRRef5
namespace Go.Proofs.YtblefdgfmjegiaaGreatDoor
open Go.RowKit Num
set_option linter.unusedVariables false
attribute [local go_sem] B_size B_get B_toList B_mk B_extract B_append

theorem fbit_any (i : Nat) (w : World) (hi : i ≤ 62) : Calls Tryz.prog 37 #[.int .i64 i] w fun e w' => e = .returned (.int .i64 (2 ^ i : Nat)) ∧ w' = w := by
  go_enter Tryz.func37, Tryz.ntmps37
  go_wp2_with fail
  go_loop [3, 4] (fun n k => ∃ j : Nat, j ≤ i ∧ k = .int .i64 j ∧ n = .int .i64 (2 ^ j : Nat)) (fun _ k => i - (intOf k).toNat)
  case atStart => exact ⟨0, Nat.zero_le _, rfl, rfl⟩
  case round =>
    obtain ⟨j, hj, rfl, rfl⟩ := hrel
    by_cases hlt : j < i
    · have hp : 2 ^ j ≤ 2 ^ 61 := Nat.pow_le_pow_right (by omega) (by omega)
      have HP := Lib.hid (show 2 ^ (j + 1) = 2 * 2 ^ j by rw [Nat.pow_succ, Nat.mul_comm])
      rw [show (2 : Nat) ^ 61 = 2305843009213693952 by decide] at hp
      generalize (2 : Nat) ^ j = p at *
      go_wp2_with fail
      go_round
      case rel => exact ⟨j + 1, by omega, by go_num, by rw [HP.out, Int.natCast_mul]; rfl⟩
      case measure => simp [intOf]; omega
    · obtain rfl : i = j := by omega
      go_wp2_with fail
      go_ret
      exact ⟨rfl, rfl⟩
theorem frhas_any (s i : Int) (w : World) (hs : 0 ≤ s) (hs2 : fits s) :
    Calls Tryz.prog 25 #[.int .i64 s, .int .i64 i] w fun e w' => e = .returned (.bool (hasB s i)) ∧ w' = w := by
  have hs3 := hs2.2
  by_cases h0 : 0 ≤ i
  · by_cases h1 : i ≤ 62
    · obtain ⟨k, rfl⟩ : ∃ k : Nat, i = (k : Int) := ⟨i.toNat, by omega⟩
      have HB := Lib.hid (fun w => fbit_any k w (by omega))
      have hp : 0 < 2 ^ k := Nat.pow_pos (by omega)
      have hp2 : 2 ^ k ≤ 2 ^ 62 := Nat.pow_le_pow_right (by omega) (by omega)
      rw [show (2 : Nat) ^ 62 = 4611686018427387904 by decide] at hp2
      have hd0 : 0 ≤ s / ((2 ^ k : Nat) : Int) := Int.ediv_nonneg hs (by omega)
      have hd1 : s / ((2 ^ k : Nat) : Int) ≤ s := Int.ediv_le_self _ hs
      have ht : s.tdiv ((2 ^ k : Nat) : Int) = s / ((2 ^ k : Nat) : Int) := Int.tdiv_eq_ediv_of_nonneg hs
      have hm : (s / ((2 ^ k : Nat) : Int)).tmod 2 = s / ((2 ^ k : Nat) : Int) % 2 := Int.tmod_eq_emod_of_nonneg hd0
      have HV := Lib.hid (show hasB s (k : Int) = (s / ((2 ^ k : Nat) : Int) % 2 == 1) by
        unfold hasB
        have e : (2 : Int) ^ ((k : Int)).toNat = ((2 ^ k : Nat) : Int) := by rw [Int.toNat_natCast, Int.natCast_pow]; rfl
        rw [e]
        by_cases e2 : s / ((2 ^ k : Nat) : Int) % 2 = 1
        · rw [e2, decide_eq_true ⟨h0, h1, rfl⟩]; rfl
        · rw [decide_eq_false (fun h => e2 h.2.2)]; symm; rw [beq_eq_false_iff_ne]; exact e2)
      generalize 2 ^ k = p at *
      generalize hdv : s / (p : Int) = dv at *
      clear hdv
      go_enter Tryz.func25, Tryz.ntmps25
      go_wp2_with fail
      refine (HB.out _).mono ?_
      rintro e w1 ⟨rfl, rfl⟩
      go_wp2_with fail
      go_ret
      exact ⟨ret_bool HV.out.symm, rfl⟩
    · have HV := Lib.hid (show hasB s i = false by unfold hasB; rw [decide_eq_false (fun h => h1 h.2.1)])
      go_enter Tryz.func25, Tryz.ntmps25
      go_wp2_with fail
      go_ret
      exact ⟨ret_bool HV.out.symm, rfl⟩
  · have HV := Lib.hid (show hasB s i = false by unfold hasB; rw [decide_eq_false (fun h => h0 h.1)])
    go_enter Tryz.func25, Tryz.ntmps25
    go_wp2_with fail
    go_ret
    exact ⟨ret_bool HV.out.symm, rfl⟩
theorem whole_den {a : Str} (h : rightQ a = true) : prtD a = dec (qd a) ∧ wholeQ a = (dec (qd a) == [49]) := by
  obtain ⟨n, d, _, _, _, _, rfl⟩ := rightQ_out h
  have hp := parts_ratS n d
  refine ⟨?_, ?_⟩
  · unfold prtD; rw [if_pos h, hp.2.1, qd_ratS]
  · unfold wholeQ
    rw [h, hp.2.2, qd_ratS, Bool.true_and, Bool.not_not]
    by_cases e : d = 1
    · rw [e, decide_eq_true rfl, dec_lt (by omega)]; decide
    · rw [decide_eq_false e]
      symm
      rw [beq_eq_false_iff_ne]
      intro h2
      exact e (dec_inj (h2.trans (dec_lt (n := 1) (by omega)).symm))
theorem frwhole_any (a : Str) (w : World) (ha : a.length ≤ 1000000) :
    Calls Tryz.prog 28 #[.string (B a)] w fun e w' => e = .returned (.bool (wholeQ a)) ∧ Below w.heap.size w w' := by
  have HP := Lib.hid (rrparts_any a w ha)
  cases hr : rightQ a
  · have HV := Lib.hid (show wholeQ a = false by unfold wholeQ; rw [hr]; rfl)
    rw [show rightE a = 3 by unfold rightE; rw [hr]; rfl] at HP
    generalize prtN a = x at *
    generalize prtD a = y at *
    go_enter Tryz.func28, Tryz.ntmps28
    simp only [B_mk]
    go_wp2_with fail
    refine HP.out.mono ?_
    rintro e w1 ⟨rfl, hb1⟩
    go_wp2_with fail
    go_ret
    exact ⟨ret_bool HV.out.symm, hb1⟩
  · obtain ⟨h1, h2⟩ := whole_den hr
    rw [show rightE a = 0 by unfold rightE; rw [hr]; rfl, h1] at HP
    have HV := Lib.hid h2
    generalize prtN a = x at *
    generalize dec (qd a) = y at *
    clear h1 h2
    go_enter Tryz.func28, Tryz.ntmps28
    simp only [B_mk]
    go_wp2_with fail
    refine HP.out.mono ?_
    rintro e w1 ⟨rfl, hb1⟩
    go_wp2_with fail
    go_ret
    exact ⟨ret_bool HV.out.symm, hb1⟩
set_option maxRecDepth 100000 in
theorem frintegral_any (v : List Str) (V : Option Addr) (cv : Nat) (w : World) (hV : Cells w V (strs v)) (hvl : v.length ≤ 1000000) (hvx : ∀ x ∈ v, x.length ≤ 100000) :
    Calls Tryz.prog 15 #[.slice V v.length cv] w fun e w' => e = .returned (.bool (v.all wholeQ)) ∧ Below w.heap.size w w' := by
  have HV := Lib.hid hV
  have HX := Lib.hid hvx
  clear hV hvx
  go_enter Tryz.func15, Tryz.ntmps15
  go_wp2_with fail
  go_loopw [3] (fun i wr => ∃ j : Nat, j ≤ v.length ∧ i = .int .i64 j ∧ (v.take j).all wholeQ = true ∧ Below w.heap.size w wr) (fun i _ => v.length - (intOf i).toNat)
  case atStart => exact ⟨0, Nat.zero_le _, rfl, rfl, Below.refl _ _⟩
  case round =>
    obtain ⟨j, hj, rfl, hall, hbel⟩ := hrel
    have HA := Lib.hid hall
    clear hall
    by_cases hlt : j < v.length
    · obtain ⟨b, off, rfl, hb, hc⟩ := (HV.out.below hbel) (by rw [strs_length]; omega)
      have hcj := hc j _ (strs_get _ _ hlt)
      have hxg : v.getD j [] = v[j] := by rw [List.getD_eq_getElem?_getD, List.getElem?_eq_getElem hlt]; rfl
      rw [hxg] at hcj
      have hxl := HX.out _ (List.getElem_mem hlt)
      have HR := Lib.hid (fun w => frwhole_any v[j] w (by omega))
      have HS := Lib.hid (fun h => whole_take_s hlt HA.out h)
      have HB := Lib.hid (fun h => whole_miss hlt h)
      generalize v[j] = x at *
      clear hc hxg
      cases hr : wholeQ x
      · rw [hr] at HR
        have HN := Lib.hid (HB.out hr)
        go_wp2_with fail
        refine (HR.out wr).mono ?_
        rintro e w2 ⟨rfl, hb2⟩
        go_wp2_with fail
        go_ret
        exact ⟨ret_bool HN.out.symm, fbelow3 hbel hb2⟩
      · rw [hr] at HR
        have HN := Lib.hid (HS.out hr)
        go_wp2_with fail
        refine (HR.out wr).mono ?_
        rintro e w2 ⟨rfl, hb2⟩
        go_wp2_with fail
        go_roundw
        case rel => exact ⟨j + 1, by omega, by go_num, HN.out, fbelow3 hbel hb2⟩
        case measure => simp [intOf]; omega
    · have HN := Lib.hid (show v.all wholeQ = true by have h := HA.out; rw [show j = v.length by omega, List.take_length] at h; exact h)
      go_wp2_with fail
      go_ret
      exact ⟨ret_bool HN.out.symm, hbel⟩
theorem val_take_le (l : Str) (k : Nat) : val (l.take k) ≤ val l := by
  have h := val_append (l.take k) (l.drop k)
  rw [List.take_append_drop] at h
  rw [h]
  have : 1 ≤ 10 ^ (l.drop k).length := Nat.pow_pos (by omega)
  have := Nat.mul_le_mul_left (val (l.take k)) this
  omega
theorem at8_cons (c : UInt8) (l : Str) (j : Nat) : at8 (c :: l) (1 + j) = at8 l j := by
  unfold at8
  rw [List.getD_eq_getElem?_getD, List.getD_eq_getElem?_getD, Nat.add_comm, List.getElem?_cons_succ]
set_option maxRecDepth 100000 in
theorem frfloor_any (a : Str) (w : World) (ha : SumOK a) :
    Calls Tryz.prog 30 #[.string (B a)] w fun e w' => e = .returned (.int .i64 (floorZ a)) ∧ Below w.heap.size w w' := by
  have hal := ha.len
  obtain ⟨h1, h2, h3⟩ := floor_ok ha
  have HF := Lib.hid (rqfloor_any a w (by omega))
  rw [h1, show rightE a = 0 by unfold rightE; rw [if_pos ha.right]] at HF
  generalize floorZ a = z at *
  clear h1 h2 ha hal
  have hdl : (dec z.natAbs).length ≤ 20 := by
    rw [length_dec_le (by omega)]; omega
  have hvd := val_dec z.natAbs
  have hall := dec_all z.natAbs
  have hne := dec_ne_nil z.natAbs
  generalize hds : dec z.natAbs = ds at *
  have hdpos : 0 < ds.length := List.length_pos_iff.2 hne
  have hch : ∀ j, j < ds.length → 48 ≤ (at8 ds j).toNat ∧ (at8 ds j).toNat ≤ 57 ∧ val (ds.take (j + 1)) = 10 * val (ds.take j) + ((at8 ds j).toNat - 48) ∧ val (ds.take j) ≤ 100000000000000 := by
    intro j hj
    have h4 := List.all_eq_true.1 hall _ (List.getElem_mem hj)
    rw [← at8_eq ds j hj] at h4
    have h5 : 48 ≤ (at8 ds j).toNat ∧ (at8 ds j).toNat ≤ 57 := by
      unfold isDig at h4
      rw [Bool.and_eq_true, decide_eq_true_iff, decide_eq_true_iff] at h4; exact h4
    refine ⟨h5.1, h5.2, ?_, by have := val_take_le ds j; omega⟩
    rw [List.take_succ_eq_append_getElem hj, val_snoc, ← at8_eq ds j hj]; rfl
  have HD := Lib.hid hds.symm
  by_cases hz : z < 0
  · have ht : decI z = 45 :: ds := by unfold decI; rw [if_pos hz, hds]
    rw [ht] at HF
    generalize htt : 45 :: ds = t at *
    have htl : t.length = 1 + ds.length := by rw [← htt, List.length_cons]; omega
    have ht0 : (((at8 t 0).toNat : Int) == 45) = true := by rw [← htt]; rfl
    have HC := Lib.hid (show ∀ j, j < ds.length → 48 ≤ (at8 ds j).toNat ∧ (at8 ds j).toNat ≤ 57 ∧ val (ds.take (j + 1)) = 10 * val (ds.take j) + ((at8 ds j).toNat - 48) ∧ val (ds.take j) ≤ 100000000000000 ∧ at8 t (1 + j) = at8 ds j from fun j hj => by
      obtain ⟨a1, a2, a3, a4⟩ := hch j hj
      exact ⟨a1, a2, a3, a4, by rw [← htt, at8_cons]⟩)
    clear htt hch hne hall hds hvd ht
    go_enter Tryz.func30, Tryz.ntmps30
    go_wp2_with fail
    refine HF.out.mono ?_
    rintro e w1 ⟨rfl, hb1⟩
    go_wp2_with fail
    go_loop [5, 7] (fun n i => ∃ j : Nat, j ≤ ds.length ∧ i = .int .i64 ((1 + j : Nat) : Int) ∧ n = .int .i64 (val (ds.take j) : Nat)) (fun _ i => ds.length + 1 - (intOf i).toNat)
    case atStart => exact ⟨0, Nat.zero_le _, rfl, rfl⟩
    case round =>
      obtain ⟨j, hj, rfl, rfl⟩ := hrel
      by_cases hlt : j < ds.length
      · obtain ⟨hc1, hc2, hc3, hc4, hc5⟩ := HC.out j hlt
        have HS := Lib.hid hc3
        rw [← hc5] at hc1 hc2 HS
        generalize val (ds.take j) = v1 at *
        clear hc3 hc5
        have i0 : ((1 + j : Nat) : Int) < (t.length : Int) := by omega
        have i1 : (48 : Int) ≤ ((at8 t (1 + j)).toNat : Int) := by omega
        have i2 : ((at8 t (1 + j)).toNat : Int) ≤ 57 := by omega
        have i3 : (v1 : Int) ≤ 100000000000000 := by omega
        have HE := Lib.hid (show ((10 * v1 + ((at8 t (1 + j)).toNat - 48) : Nat) : Int) = 10 * (v1 : Int) + (((at8 t (1 + j)).toNat : Int) - 48) by omega)
        go_wp2_with fail
        go_round
        case rel => exact ⟨j + 1, by omega, by go_num, by rw [HS.out, HE.out]⟩
        case measure => simp [intOf]; omega
      · obtain rfl : j = ds.length := by omega
        have i0 : ¬ ((1 + ds.length : Nat) : Int) < (t.length : Int) := by omega
        have HV := Lib.hid (show val (ds.take ds.length) = z.natAbs by rw [List.take_length, HD.out, val_dec])
        rw [HV.out]
        go_wp2_with fail
        go_ret
        exact ⟨ret_int (by omega), hb1⟩
  · have ht : decI z = ds := by unfold decI; rw [if_neg hz, hds]
    rw [ht] at HF
    have hx := hch 0 hdpos
    have ht0 : (((at8 ds 0).toNat : Int) == 45) = false := by rw [beq_eq_false_iff_ne]; omega
    obtain ⟨t, htt⟩ : ∃ t, t = ds := ⟨_, rfl⟩
    rw [← htt] at HF ht0
    have htl : t.length = ds.length := by rw [htt]
    have HC := Lib.hid (show ∀ j, j < ds.length → 48 ≤ (at8 ds j).toNat ∧ (at8 ds j).toNat ≤ 57 ∧ val (ds.take (j + 1)) = 10 * val (ds.take j) + ((at8 ds j).toNat - 48) ∧ val (ds.take j) ≤ 100000000000000 ∧ at8 t j = at8 ds j from fun j hj => by
      obtain ⟨a1, a2, a3, a4⟩ := hch j hj
      exact ⟨a1, a2, a3, a4, by rw [htt]⟩)
    clear htt hch hne hall hds hvd ht hx
    go_enter Tryz.func30, Tryz.ntmps30
    go_wp2_with fail
    refine HF.out.mono ?_
    rintro e w1 ⟨rfl, hb1⟩
    go_wp2_with fail
    go_loop [5, 7] (fun n i => ∃ j : Nat, j ≤ ds.length ∧ i = .int .i64 ((j : Nat) : Int) ∧ n = .int .i64 (val (ds.take j) : Nat)) (fun _ i => ds.length + 1 - (intOf i).toNat)
    case atStart => exact ⟨0, Nat.zero_le _, rfl, rfl⟩
    case round =>
      obtain ⟨j, hj, rfl, rfl⟩ := hrel
      by_cases hlt : j < ds.length
      · obtain ⟨hc1, hc2, hc3, hc4, hc5⟩ := HC.out j hlt
        have HS := Lib.hid hc3
        rw [← hc5] at hc1 hc2 HS
        generalize val (ds.take j) = v1 at *
        clear hc3 hc5
        have i0 : ((j : Nat) : Int) < (t.length : Int) := by omega
        have i1 : (48 : Int) ≤ ((at8 t (j)).toNat : Int) := by omega
        have i2 : ((at8 t (j)).toNat : Int) ≤ 57 := by omega
        have i3 : (v1 : Int) ≤ 100000000000000 := by omega
        have HE := Lib.hid (show ((10 * v1 + ((at8 t (j)).toNat - 48) : Nat) : Int) = 10 * (v1 : Int) + (((at8 t (j)).toNat : Int) - 48) by omega)
        go_wp2_with fail
        go_round
        case rel => exact ⟨j + 1, by omega, by go_num, by rw [HS.out, HE.out]⟩
        case measure => simp [intOf]; omega
      · obtain rfl : j = ds.length := by omega
        have i0 : ¬ ((ds.length : Nat) : Int) < (t.length : Int) := by omega
        have HV := Lib.hid (show val (ds.take ds.length) = z.natAbs by rw [List.take_length, HD.out, val_dec])
        rw [HV.out]
        go_wp2_with fail
        go_ret
        exact ⟨ret_int (by omega), hb1⟩
end Go.Proofs.YtblefdgfmjegiaaGreatDoor
