/- The reference of fraction: Bit, Has, whole, Integral, floor. (Printed by wip/fref1.py.) -/
import Derived.Test.YtblefdgfmjegiaaGreatDoorFProg5
import Derived.Test.YtblefdgfmjegiaaGreatDoorRRef5
namespace Go.Proofs.YtblefdgfmjegiaaGreatDoor
open Go.RowKit Num
set_option linter.unusedVariables false
attribute [local go_sem] B_size B_get B_toList B_mk B_extract B_append

theorem fbit_any (i : Nat) (w : World) (hi : i ≤ 62) : Calls Tryz.prog 37 #[.int .i64 i] w fun e w' => e = .returned (.int .i64 (2 ^ i : Nat)) ∧ w' = w := by
  go_enter Tryz.func37, Tryz.ntmps37
  go_wp2_with fail
  go_loop [3, 4] (fun n k => ∃ j : Nat, j ≤ i ∧ k = .int .i64 j ∧ n = .int .i64 (2 ^ j : Nat)) (fun _ k => i - (intOf k).toNat)
  case atStart => exact ⟨0, Nat.zero_le _, rfl, rfl⟩
  case round =>
    obtain ⟨j, hj, rfl, rfl⟩ := hrel
    by_cases hlt : j < i
    · have hp : 2 ^ j ≤ 2 ^ 61 := Nat.pow_le_pow_right (by omega) (by omega)
      have HP := Lib.hid (show 2 ^ (j + 1) = 2 * 2 ^ j by rw [Nat.pow_succ, Nat.mul_comm])
      rw [show (2 : Nat) ^ 61 = 2305843009213693952 by decide] at hp
      generalize (2 : Nat) ^ j = p at *
      go_wp2_with fail
      go_round
      case rel => exact ⟨j + 1, by omega, by go_num, by rw [HP.out, Int.natCast_mul]; rfl⟩
      case measure => simp [intOf]; omega
    · obtain rfl : i = j := by omega
      go_wp2_with fail
      go_ret
      exact ⟨rfl, rfl⟩
theorem frhas_any (s i : Int) (w : World) (hs : 0 ≤ s) (hs2 : fits s) :
    Calls Tryz.prog 25 #[.int .i64 s, .int .i64 i] w fun e w' => e = .returned (.bool (hasB s i)) ∧ w' = w := by
  have hs3 := hs2.2
  by_cases h0 : 0 ≤ i
  · by_cases h1 : i ≤ 62
    · obtain ⟨k, rfl⟩ : ∃ k : Nat, i = (k : Int) := ⟨i.toNat, by omega⟩
      have HB := Lib.hid (fun w => fbit_any k w (by omega))
      have hp : 0 < 2 ^ k := Nat.pow_pos (by omega)
      have hp2 : 2 ^ k ≤ 2 ^ 62 := Nat.pow_le_pow_right (by omega) (by omega)
      rw [show (2 : Nat) ^ 62 = 4611686018427387904 by decide] at hp2
      have hd0 : 0 ≤ s / ((2 ^ k : Nat) : Int) := Int.ediv_nonneg hs (by omega)
      have hd1 : s / ((2 ^ k : Nat) : Int) ≤ s := Int.ediv_le_self _ hs
      have ht : s.tdiv ((2 ^ k : Nat) : Int) = s / ((2 ^ k : Nat) : Int) := Int.tdiv_eq_ediv_of_nonneg hs
      have hm : (s / ((2 ^ k : Nat) : Int)).tmod 2 = s / ((2 ^ k : Nat) : Int) % 2 := Int.tmod_eq_emod_of_nonneg hd0
      have HV := Lib.hid (show hasB s (k : Int) = (s / ((2 ^ k : Nat) : Int) % 2 == 1) by
        unfold hasB
        have e : (2 : Int) ^ ((k : Int)).toNat = ((2 ^ k : Nat) : Int) := by rw [Int.toNat_natCast, Int.natCast_pow]; rfl
        rw [e]
        by_cases e2 : s / ((2 ^ k : Nat) : Int) % 2 = 1
        · rw [e2, decide_eq_true ⟨h0, h1, rfl⟩]; rfl
        · rw [decide_eq_false (fun h => e2 h.2.2)]; symm; rw [beq_eq_false_iff_ne]; exact e2)
      generalize 2 ^ k = p at *
      generalize hdv : s / (p : Int) = dv at *
      clear hdv
      go_enter Tryz.func25, Tryz.ntmps25
      go_wp2_with fail
      refine (HB.out _).mono ?_
      rintro e w1 ⟨rfl, rfl⟩
      go_wp2_with fail
      go_ret
      exact ⟨ret_bool HV.out.symm, rfl⟩
    · have HV := Lib.hid (show hasB s i = false by unfold hasB; rw [decide_eq_false (fun h => h1 h.2.1)])
      go_enter Tryz.func25, Tryz.ntmps25
      go_wp2_with fail
      go_ret
      exact ⟨ret_bool HV.out.symm, rfl⟩
  · have HV := Lib.hid (show hasB s i = false by unfold hasB; rw [decide_eq_false (fun h => h0 h.1)])
    go_enter Tryz.func25, Tryz.ntmps25
    go_wp2_with fail
    go_ret
    exact ⟨ret_bool HV.out.symm, rfl⟩
theorem whole_den {a : Str} (h : rightQ a = true) : prtD a = dec (qd a) ∧ wholeQ a = (dec (qd a) == [49]) := by
  obtain ⟨n, d, _, _, _, _, rfl⟩ := rightQ_out h
  have hp := parts_ratS n d
  refine ⟨?_, ?_⟩
  · unfold prtD; rw [if_pos h, hp.2.1, qd_ratS]
  · unfold wholeQ
    rw [h, hp.2.2, qd_ratS, Bool.true_and, Bool.not_not]
    by_cases e : d = 1
    · rw [e, decide_eq_true rfl, dec_lt (by omega)]; decide
    · rw [decide_eq_false e]
      symm
      rw [beq_eq_false_iff_ne]
      intro h2
      exact e (dec_inj (h2.trans (dec_lt (n := 1) (by omega)).symm))
theorem frwhole_any (a : Str) (w : World) (ha : a.length ≤ 1000000) :
    Calls Tryz.prog 28 #[.string (B a)] w fun e w' => e = .returned (.bool (wholeQ a)) ∧ Below w.heap.size w w' := by
  have HP := Lib.hid (rrparts_any a w ha)
  cases hr : rightQ a
  · have HV := Lib.hid (show wholeQ a = false by unfold wholeQ; rw [hr]; rfl)
    rw [show rightE a = 3 by unfold rightE; rw [hr]; rfl] at HP
    generalize prtN a = x at *
    generalize prtD a = y at *
    go_enter Tryz.func28, Tryz.ntmps28
    simp only [B_mk]
    go_wp2_with fail
    refine HP.out.mono ?_
    rintro e w1 ⟨rfl, hb1⟩
    go_wp2_with fail
    go_ret
    exact ⟨ret_bool HV.out.symm, hb1⟩
  · obtain ⟨h1, h2⟩ := whole_den hr
    rw [show rightE a = 0 by unfold rightE; rw [hr]; rfl, h1] at HP
    have HV := Lib.hid h2
    generalize prtN a = x at *
    generalize dec (qd a) = y at *
    clear h1 h2
    go_enter Tryz.func28, Tryz.ntmps28
    simp only [B_mk]
    go_wp2_with fail
    refine HP.out.mono ?_
    rintro e w1 ⟨rfl, hb1⟩
    go_wp2_with fail
    go_ret
    exact ⟨ret_bool HV.out.symm, hb1⟩
set_option maxRecDepth 100000 in
theorem frintegral_any (v : List Str) (V : Option Addr) (cv : Nat) (w : World) (hV : Cells w V (strs v)) (hvl : v.length ≤ 1000000) (hvx : ∀ x ∈ v, x.length ≤ 100000) :
    Calls Tryz.prog 15 #[.slice V v.length cv] w fun e w' => e = .returned (.bool (v.all wholeQ)) ∧ Below w.heap.size w w' := by
  have HV := Lib.hid hV
  have HX := Lib.hid hvx
  clear hV hvx
  go_enter Tryz.func15, Tryz.ntmps15
  go_wp2_with fail
  go_loopw [3] (fun i wr => ∃ j : Nat, j ≤ v.length ∧ i = .int .i64 j ∧ (v.take j).all wholeQ = true ∧ Below w.heap.size w wr) (fun i _ => v.length - (intOf i).toNat)
  case atStart => exact ⟨0, Nat.zero_le _, rfl, rfl, Below.refl _ _⟩
  case round =>
    obtain ⟨j, hj, rfl, hall, hbel⟩ := hrel
    have HA := Lib.hid hall
    clear hall
    by_cases hlt : j < v.length
    · obtain ⟨b, off, rfl, hb, hc⟩ := (HV.out.below hbel) (by rw [strs_length]; omega)
      have hcj := hc j _ (strs_get _ _ hlt)
      have hxg : v.getD j [] = v[j] := by rw [List.getD_eq_getElem?_getD, List.getElem?_eq_getElem hlt]; rfl
      rw [hxg] at hcj
      have hxl := HX.out _ (List.getElem_mem hlt)
      have HR := Lib.hid (fun w => frwhole_any v[j] w (by omega))
      have HS := Lib.hid (fun h => whole_take_s hlt HA.out h)
      have HB := Lib.hid (fun h => whole_miss hlt h)
      generalize v[j] = x at *
      clear hc hxg
      cases hr : wholeQ x
      · rw [hr] at HR
        have HN := Lib.hid (HB.out hr)
        go_wp2_with fail
        refine (HR.out wr).mono ?_
        rintro e w2 ⟨rfl, hb2⟩
        go_wp2_with fail
        go_ret
        exact ⟨ret_bool HN.out.symm, fbelow3 hbel hb2⟩
      · rw [hr] at HR
        have HN := Lib.hid (HS.out hr)
        go_wp2_with fail
        refine (HR.out wr).mono ?_
        rintro e w2 ⟨rfl, hb2⟩
        go_wp2_with fail
        go_roundw
        case rel => exact ⟨j + 1, by omega, by go_num, HN.out, fbelow3 hbel hb2⟩
        case measure => simp [intOf]; omega
    · have HN := Lib.hid (show v.all wholeQ = true by have h := HA.out; rw [show j = v.length by omega, List.take_length] at h; exact h)
      go_wp2_with fail
      go_ret
      exact ⟨ret_bool HN.out.symm, hbel⟩
theorem val_take_le (l : Str) (k : Nat) : val (l.take k) ≤ val l := by
  have h := val_append (l.take k) (l.drop k)
  rw [List.take_append_drop] at h
  rw [h]
  have : 1 ≤ 10 ^ (l.drop k).length := Nat.pow_pos (by omega)
  have := Nat.mul_le_mul_left (val (l.take k)) this
  omega
theorem at8_cons (c : UInt8) (l : Str) (j : Nat) : at8 (c :: l) (1 + j) = at8 l j := by
  unfold at8
  rw [List.getD_eq_getElem?_getD, List.getD_eq_getElem?_getD, Nat.add_comm, List.getElem?_cons_succ]
set_option maxRecDepth 100000 in
theorem frfloor_any (a : Str) (w : World) (ha : SumOK a) :
    Calls Tryz.prog 30 #[.string (B a)] w fun e w' => e = .returned (.int .i64 (floorZ a)) ∧ Below w.heap.size w w' := by
  have hal := ha.len
  obtain ⟨h1, h2, h3⟩ := floor_ok ha
  have HF := Lib.hid (rqfloor_any a w (by omega))
  rw [h1, show rightE a = 0 by unfold rightE; rw [if_pos ha.right]] at HF
  generalize floorZ a = z at *
  clear h1 h2 ha hal
  have hdl : (dec z.natAbs).length ≤ 20 := by
    rw [length_dec_le (by omega)]; omega
  have hvd := val_dec z.natAbs
  have hall := dec_all z.natAbs
  have hne := dec_ne_nil z.natAbs
  generalize hds : dec z.natAbs = ds at *
  have hdpos : 0 < ds.length := List.length_pos_iff.2 hne
  have hch : ∀ j, j < ds.length → 48 ≤ (at8 ds j).toNat ∧ (at8 ds j).toNat ≤ 57 ∧ val (ds.take (j + 1)) = 10 * val (ds.take j) + ((at8 ds j).toNat - 48) ∧ val (ds.take j) ≤ 100000000000000 := by
    intro j hj
    have h4 := List.all_eq_true.1 hall _ (List.getElem_mem hj)
    rw [← at8_eq ds j hj] at h4
    have h5 : 48 ≤ (at8 ds j).toNat ∧ (at8 ds j).toNat ≤ 57 := by
      unfold isDig at h4
      rw [Bool.and_eq_true, decide_eq_true_iff, decide_eq_true_iff] at h4; exact h4
    refine ⟨h5.1, h5.2, ?_, by have := val_take_le ds j; omega⟩
    rw [List.take_succ_eq_append_getElem hj, val_snoc, ← at8_eq ds j hj]; rfl
  have HD := Lib.hid hds.symm
  by_cases hz : z < 0
  · have ht : decI z = 45 :: ds := by unfold decI; rw [if_pos hz, hds]
    rw [ht] at HF
    generalize htt : 45 :: ds = t at *
    have htl : t.length = 1 + ds.length := by rw [← htt, List.length_cons]; omega
    have ht0 : (((at8 t 0).toNat : Int) == 45) = true := by rw [← htt]; rfl
    have HC := Lib.hid (show ∀ j, j < ds.length → 48 ≤ (at8 ds j).toNat ∧ (at8 ds j).toNat ≤ 57 ∧ val (ds.take (j + 1)) = 10 * val (ds.take j) + ((at8 ds j).toNat - 48) ∧ val (ds.take j) ≤ 100000000000000 ∧ at8 t (1 + j) = at8 ds j from fun j hj => by
      obtain ⟨a1, a2, a3, a4⟩ := hch j hj
      exact ⟨a1, a2, a3, a4, by rw [← htt, at8_cons]⟩)
    clear htt hch hne hall hds hvd ht
    go_enter Tryz.func30, Tryz.ntmps30
    go_wp2_with fail
    refine HF.out.mono ?_
    rintro e w1 ⟨rfl, hb1⟩
    go_wp2_with fail
    go_loop [5, 7] (fun n i => ∃ j : Nat, j ≤ ds.length ∧ i = .int .i64 ((1 + j : Nat) : Int) ∧ n = .int .i64 (val (ds.take j) : Nat)) (fun _ i => ds.length + 1 - (intOf i).toNat)
    case atStart => exact ⟨0, Nat.zero_le _, rfl, rfl⟩
    case round =>
      obtain ⟨j, hj, rfl, rfl⟩ := hrel
      by_cases hlt : j < ds.length
      · obtain ⟨hc1, hc2, hc3, hc4, hc5⟩ := HC.out j hlt
        have HS := Lib.hid hc3
        rw [← hc5] at hc1 hc2 HS
        generalize val (ds.take j) = v1 at *
        clear hc3 hc5
        have i0 : ((1 + j : Nat) : Int) < (t.length : Int) := by omega
        have i1 : (48 : Int) ≤ ((at8 t (1 + j)).toNat : Int) := by omega
        have i2 : ((at8 t (1 + j)).toNat : Int) ≤ 57 := by omega
        have i3 : (v1 : Int) ≤ 100000000000000 := by omega
        have HE := Lib.hid (show ((10 * v1 + ((at8 t (1 + j)).toNat - 48) : Nat) : Int) = 10 * (v1 : Int) + (((at8 t (1 + j)).toNat : Int) - 48) by omega)
        go_wp2_with fail
        go_round
        case rel => exact ⟨j + 1, by omega, by go_num, by rw [HS.out, HE.out]⟩
        case measure => simp [intOf]; omega
      · obtain rfl : j = ds.length := by omega
        have i0 : ¬ ((1 + ds.length : Nat) : Int) < (t.length : Int) := by omega
        have HV := Lib.hid (show val (ds.take ds.length) = z.natAbs by rw [List.take_length, HD.out, val_dec])
        rw [HV.out]
        go_wp2_with fail
        go_ret
        exact ⟨ret_int (by omega), hb1⟩
  · have ht : decI z = ds := by unfold decI; rw [if_neg hz, hds]
    rw [ht] at HF
    have hx := hch 0 hdpos
    have ht0 : (((at8 ds 0).toNat : Int) == 45) = false := by rw [beq_eq_false_iff_ne]; omega
    obtain ⟨t, htt⟩ : ∃ t, t = ds := ⟨_, rfl⟩
    rw [← htt] at HF ht0
    have htl : t.length = ds.length := by rw [htt]
    have HC := Lib.hid (show ∀ j, j < ds.length → 48 ≤ (at8 ds j).toNat ∧ (at8 ds j).toNat ≤ 57 ∧ val (ds.take (j + 1)) = 10 * val (ds.take j) + ((at8 ds j).toNat - 48) ∧ val (ds.take j) ≤ 100000000000000 ∧ at8 t j = at8 ds j from fun j hj => by
      obtain ⟨a1, a2, a3, a4⟩ := hch j hj
      exact ⟨a1, a2, a3, a4, by rw [htt]⟩)
    clear htt hch hne hall hds hvd ht hx
    go_enter Tryz.func30, Tryz.ntmps30
    go_wp2_with fail
    refine HF.out.mono ?_
    rintro e w1 ⟨rfl, hb1⟩
    go_wp2_with fail
    go_loop [5, 7] (fun n i => ∃ j : Nat, j ≤ ds.length ∧ i = .int .i64 ((j : Nat) : Int) ∧ n = .int .i64 (val (ds.take j) : Nat)) (fun _ i => ds.length + 1 - (intOf i).toNat)
    case atStart => exact ⟨0, Nat.zero_le _, rfl, rfl⟩
    case round =>
      obtain ⟨j, hj, rfl, rfl⟩ := hrel
      by_cases hlt : j < ds.length
      · obtain ⟨hc1, hc2, hc3, hc4, hc5⟩ := HC.out j hlt
        have HS := Lib.hid hc3
        rw [← hc5] at hc1 hc2 HS
        generalize val (ds.take j) = v1 at *
        clear hc3 hc5
        have i0 : ((j : Nat) : Int) < (t.length : Int) := by omega
        have i1 : (48 : Int) ≤ ((at8 t (j)).toNat : Int) := by omega
        have i2 : ((at8 t (j)).toNat : Int) ≤ 57 := by omega
        have i3 : (v1 : Int) ≤ 100000000000000 := by omega
        have HE := Lib.hid (show ((10 * v1 + ((at8 t (j)).toNat - 48) : Nat) : Int) = 10 * (v1 : Int) + (((at8 t (j)).toNat : Int) - 48) by omega)
        go_wp2_with fail
        go_round
        case rel => exact ⟨j + 1, by omega, by go_num, by rw [HS.out, HE.out]⟩
        case measure => simp [intOf]; omega
      · obtain rfl : j = ds.length := by omega
        have i0 : ¬ ((ds.length : Nat) : Int) < (t.length : Int) := by omega
        have HV := Lib.hid (show val (ds.take ds.length) = z.natAbs by rw [List.take_length, HD.out, val_dec])
        rw [HV.out]
        go_wp2_with fail
        go_ret
        exact ⟨ret_int (by omega), hb1⟩
end Go.Proofs.YtblefdgfmjegiaaGreatDoor
/- The reference of fraction: sum, Used, Together, Served. (Printed by wip/fref2.py.) -/
namespace Go.Proofs.YtblefdgfmjegiaaGreatDoor
open Go.RowKit Num
set_option linter.unusedVariables false
attribute [local go_sem] B_size B_get B_toList B_mk B_extract B_append

theorem sum_bad {ns : List Int} {v : List Str} {j : Nat} (h : ¬ v.length < ns.length) (hj : j < ns.length) (hr : rightQ (v.getD j []) = false) : sumQ ns v = ([], 3) := by
  unfold sumQ timesQ
  have hl : (v.take ns.length).length = ns.length := by rw [List.length_take]; omega
  rw [if_neg h, if_pos hl.symm, if_neg]
  intro ha
  have h2 := List.all_eq_true.1 ha _ (List.getElem_mem (show j < (v.take ns.length).length by omega))
  rw [List.getElem_take] at h2
  rw [List.getD_eq_getElem?_getD, List.getElem?_eq_getElem (by omega)] at hr
  have hr : rightQ v[j] = false := hr
  rw [hr] at h2; cases h2
set_option maxRecDepth 100000 in
theorem frsum_any (ns : List Int) (N : Option Addr) (cn : Nat) (v : List Str) (V : Option Addr) (cv : Nat) (w : World) (hN : Cells w N (ints ns)) (hV : Cells w V (strs v)) (hl : ns.length ≤ 1000) (hf : ∀ n ∈ ns, fits n) (hvl : v.length ≤ cv ∧ cv ≤ maxLen) (hvx : ∀ x ∈ v, x.length ≤ 100000) :
    Calls Tryz.prog 22 #[.slice N ns.length cn, .slice V v.length cv] w fun e w' => e = .returned (.tuple #[.string (B (sumQ ns v).1), .int .i64 (sumQ ns v).2]) ∧ Below w.heap.size w w' := by
  unfold maxLen at hvl
  have HN := Lib.hid hN
  have HV := Lib.hid hV
  have HX := Lib.hid hvx
  clear hN hV
  by_cases hlt : v.length < ns.length
  · have hlt' : (v.length : Int) < (ns.length : Int) := by omega
    have HS := Lib.hid (sum_less hlt)
    go_enter Tryz.func22, Tryz.ntmps22
    simp only [B_mk]
    go_wp2_with fail
    go_ret2
    exact ⟨by rw [HS.out]; rfl, Below.refl _ _⟩
  · have hlt' : ¬ (v.length : Int) < (ns.length : Int) := by omega
    have HB := Lib.hid (fun j h1 h2 => sum_bad (ns := ns) (v := v) (j := j) hlt h1 h2)
    have htl : (v.take ns.length).length = ns.length := by rw [List.length_take]; omega
    have HT := Lib.hid (fun (w' : World) (hN : Cells w' N (ints ns)) (hA : Cells w' V (strs (v.take ns.length))) => show Calls Tryz.prog 36 #[.slice N ns.length cn, .slice V ns.length cv] w' fun e w2 => e = .returned (.tuple #[.string (B (sumQ ns v).1), .int .i64 (sumQ ns v).2]) ∧ Below w'.heap.size w' w2 from by
      have h := rqtimes_any ns (v.take ns.length) N V cn cv w' hN hA (by unfold maxLen; omega) (by unfold maxLen; omega) hf (fun x hx => hvx x (List.mem_of_mem_take hx))
      rw [htl, ← sum_more hlt] at h
      exact h)
    clear htl hvx hlt
    generalize sumQ ns v = sq at *
    go_enter Tryz.func22, Tryz.ntmps22
    simp only [B_mk]
    go_wp2_with fail
    go_loopw [6] (fun i wr => ∃ j : Nat, j ≤ ns.length ∧ i = .int .i64 j ∧ Below w.heap.size w wr) (fun i _ => ns.length - (intOf i).toNat)
    case atStart => exact ⟨0, Nat.zero_le _, rfl, Below.refl _ _⟩
    case round =>
      obtain ⟨j, hj, rfl, hbel⟩ := hrel
      by_cases hlj : j < ns.length
      · have hjv : j < v.length := by omega
        obtain ⟨b, off, rfl, hb, hc⟩ := (HV.out.below hbel) (by rw [strs_length]; omega)
        have hcj := hc j _ (strs_get _ _ hjv)
        have hxl : (v.getD j []).length ≤ 100000 := by rw [List.getD_eq_getElem?_getD, List.getElem?_eq_getElem hjv]; exact HX.out _ (List.getElem_mem hjv)
        have HR := Lib.hid (fun w => rrq_any (v.getD j []) w (by omega))
        have HBJ := Lib.hid (fun h => HB.out j hlj h)
        generalize v.getD j [] = x at *
        clear hc
        cases hr : rightQ x
        · rw [hr] at HR
          have HN := Lib.hid (HBJ.out hr)
          go_wp2_with fail
          refine (HR.out wr).mono ?_
          rintro e w2 ⟨rfl, hb2⟩
          go_wp2_with fail
          go_ret2
          exact ⟨by rw [HN.out]; rfl, fbelow3 hbel hb2⟩
        · rw [hr] at HR
          go_wp2_with fail
          refine (HR.out wr).mono ?_
          rintro e w2 ⟨rfl, hb2⟩
          go_wp2_with fail
          go_roundw
          case rel => exact ⟨j + 1, by omega, by go_num, fbelow3 hbel hb2⟩
          case measure => simp [intOf]; omega
      · have HV2 := Lib.hid (show Cells wr V (strs (v.take ns.length)) by
          have := (HV.out.below hbel).take ns.length
          unfold strs at this ⊢
          rw [← List.map_take] at this
          exact this)
        go_wp2_with fail
        refine (HT.out wr (HN.out.below hbel) HV2.out).mono ?_
        rintro e w2 ⟨rfl, hb2⟩
        go_wp2_with fail
        go_ret2
        exact ⟨rfl, fbelow3 hbel hb2⟩
theorem ints_set (xs : List Int) (j : Nat) (n : Int) : (ints xs).set j (.int .i64 n) = ints (xs.set j n) := by unfold ints; rw [List.map_set]
theorem ints_rep (n : Nat) : List.replicate n (Value.int .i64 0) = ints (List.replicate n 0) := by unfold ints; rw [List.map_replicate]
theorem ones_getD {f : Int → Int → Bool} {cs : List ColV} {j : Nat} (hj : j < cs.length) : (ones f (colL cs)).getD j 0 = if f cs[j].t cs[j].s then 1 else 0 := by
  have hl : j < (ones f (colL cs)).length := by rw [ones_len, colL_len]; exact hj
  rw [List.getD_eq_getElem?_getD, List.getElem?_eq_getElem hl]
  simp [ones, colL]
theorem zero_getD (n j : Nat) : (List.replicate n (0 : Int)).getD j 0 = 0 := by
  rw [List.getD_eq_getElem?_getD, List.getElem?_replicate]
  split <;> rfl
set_option maxHeartbeats 1000000 in
set_option maxRecDepth 100000 in
theorem frused_any (cs : List ColV) (A : Option Addr) (c : Nat) (v : List Str) (V : Option Addr) (cv : Nat) (k : Int) (w : World) (hC : ColsAt w A cs) (hV : Cells w V (strs v)) (hl : cs.length ≤ 1000) (hvl : v.length ≤ cv ∧ cv ≤ maxLen) (hvx : ∀ x ∈ v, x.length ≤ 100000)  :
    Calls Tryz.prog 9 #[.slice A cs.length c, .slice V v.length cv, .int .i64 k] w fun e w' => e = .returned (.tuple #[.string (B (usedQ (colL cs) v k).1), .int .i64 (usedQ (colL cs) v k).2]) ∧ Below w.heap.size w w' := by
  have hol : (ones (isType k) (colL cs)).length = cs.length := by rw [ones_len, colL_len]
  have hrl : (List.replicate cs.length (0 : Int)).length = cs.length := List.length_replicate
  have HS := Lib.hid (fun (w' : World) (N : Option Addr) (cn : Nat) (hN : Cells w' N (ints (ones (isType k) (colL cs)))) (hb : Below w.heap.size w w') => show Calls Tryz.prog 22 #[.slice N cs.length cn, .slice V v.length cv] w' fun e w2 => e = .returned (.tuple #[.string (B (usedQ (colL cs) v k).1), .int .i64 (usedQ (colL cs) v k).2]) ∧ Below w'.heap.size w' w2 from by
    have h := frsum_any (ones (isType k) (colL cs)) N cn v V cv w' hN (hV.below hb) (by omega) (ones_fits _ _) hvl hvx
    rw [hol] at h
    exact h)
  have HSUC := Lib.hid (fun (j : Nat) (hj : j < cs.length) => mixR_succ (n := ones (isType k) (colL cs)) (r := List.replicate cs.length (0 : Int)) (by rw [hol, hrl]) (j := j) (by rw [hrl]; exact hj) 0)
  have HSKIP := Lib.hid (fun (j : Nat) (hj : j < cs.length) h => mixR_skip (n := ones (isType k) (colL cs)) (r := List.replicate cs.length (0 : Int)) (by rw [hol, hrl]) (j := j) (by rw [hrl]; exact hj) 0 h)
  have HFULL := Lib.hid (mixR_full (n := ones (isType k) (colL cs)) (r := List.replicate cs.length (0 : Int)) (by rw [hol, hrl]) (j := cs.length) hrl.symm)
  have HZERO := Lib.hid (mixR_zero (ones (isType k) (colL cs)) (List.replicate cs.length (0 : Int)))
  have HMG := Lib.hid (fun (j i : Nat) => mixR_get? (n := ones (isType k) (colL cs)) (r := List.replicate cs.length (0 : Int)) (by rw [hol, hrl]) j i)
  have HC := Lib.hid hC

  clear hC hV hvx hol hrl
  generalize usedQ (colL cs) v k = sq at *
  go_enter Tryz.func9, Tryz.ntmps9
  simp only [B_mk]
  go_wp2_with (refine wp_mkn el_fint rfl _ _ rfl w.heap.size _ .i64 .i64 _ _ cs.length rfl rfl rfl rfl (by omega) (by unfold maxLen; omega) (Nat.le_refl _) rfl ?_; intro N wq hown hbq)
  go_loopw [9] (fun i wr => ∃ j : Nat, j ≤ cs.length ∧ i = .int .i64 j ∧ OwnS wr w.heap.size 3 N cs.length cs.length (ints (mixR (ones (isType k) (colL cs)) (List.replicate cs.length 0) j)) ∧ Below w.heap.size w wr) (fun i _ => cs.length - (intOf i).toNat)
  case atStart => exact ⟨0, Nat.zero_le _, rfl, by rw [HZERO.out, ← ints_rep]; exact hown, hbq⟩
  case round =>
    clear hown hbq
    obtain ⟨j, hj, rfl, hown, hbel⟩ := hrel
    by_cases hlj : j < cs.length
    · obtain ⟨b, off, rfl, hb, hc⟩ := (HC.out.below hbel) (by omega)
      have hcj := hc j hlj
      have d0 := hcj 0 _ rfl
      have d1 := hcj 1 _ rfl
      simp only [Nat.add_zero] at d0
      have HG := Lib.hid (ones_getD (f := (isType k)) (cs := cs) hlj)

      generalize cs[j] = r at *
      obtain ⟨g, rfl, hg1, hg2, hgc, hgf⟩ := hown.at_ (by omega)
      have hex : wr.cell? ⟨g, j, none⟩ = (ints (mixR (ones (isType k) (colL cs)) (List.replicate cs.length 0) j))[j]? := hgc j hlj
      have hval : (ints (mixR (ones (isType k) (colL cs)) (List.replicate cs.length 0) j))[j]? = some (.int .i64 0) := by
        unfold ints
        rw [List.getElem?_map, HMG.out, if_neg (Nat.lt_irrefl _), List.getElem?_replicate, if_pos hlj]; rfl
      rw [hval] at hex
      have hgf1 := hgf j
      have HOWN := Lib.hid hown
      clear hcj hc hgc hgf hval hown
      cases hf : (isType k) r.t r.s
      · rw [hf] at HG
        have HN := Lib.hid (HSKIP.out j hlj (by rw [HG.out, zero_getD]; rfl))
        have hk : (r.t == k) = false := by unfold isType at hf; simpa using hf
        clear hf
        go_wp2_with fail
        go_roundw
        case rel => exact ⟨j + 1, by omega, by go_num, by rw [HN.out]; exact HOWN.out, hbel⟩
        case measure => simp [intOf]; omega
      · rw [hf] at HG
        have HN := Lib.hid (HSUC.out j hlj)
        rw [HG.out] at HN
        have HO2 := Lib.hid (show OwnS (wr.setCell ⟨g, j, none⟩ (.int .i64 1)) w.heap.size 3 (some ⟨g, 0, none⟩) cs.length cs.length (ints (mixR (ones (isType k) (colL cs)) (List.replicate cs.length 0) (j + 1))) from by
          have := HOWN.out.stored j (.int .i64 1)
          rw [ints_set] at this
          rw [← HN.out]; exact this)
        have HB2 := Lib.hid (hbel.setCell (p := ⟨g, j, none⟩) hg1 (.int .i64 1))
        have hk : (r.t == k) = true := by unfold isType at hf; simpa using hf
        clear hf
        go_wp2_with fail
        go_roundw
        case rel => exact ⟨j + 1, by omega, by go_num, HO2.out, HB2.out⟩
        case measure => simp [intOf]; omega
    · obtain rfl : j = cs.length := by omega
      have HN := Lib.hid (show Cells wr N (ints (ones (isType k) (colL cs))) by rw [HFULL.out] at hown; exact hown.cells)
      clear hown
      go_wp2_with fail
      refine (HS.out wr N cs.length HN.out hbel).mono ?_
      rintro e w2 ⟨rfl, hb2⟩
      go_wp2_with fail
      go_ret2
      exact ⟨rfl, fbelow3 hbel hb2⟩
set_option maxHeartbeats 1000000 in
set_option maxRecDepth 100000 in
theorem frtog_any (cs : List ColV) (A : Option Addr) (c : Nat) (v : List Str) (V : Option Addr) (cv : Nat) (k1 k2 : Int) (w : World) (hC : ColsAt w A cs) (hV : Cells w V (strs v)) (hl : cs.length ≤ 1000) (hvl : v.length ≤ cv ∧ cv ≤ maxLen) (hvx : ∀ x ∈ v, x.length ≤ 100000) (hset : ∀ r ∈ cs, 0 ≤ r.s ∧ fits r.s) :
    Calls Tryz.prog 11 #[.slice A cs.length c, .slice V v.length cv, .int .i64 k1, .int .i64 k2] w fun e w' => e = .returned (.tuple #[.string (B (togQ (colL cs) v k1 k2).1), .int .i64 (togQ (colL cs) v k1 k2).2]) ∧ Below w.heap.size w w' := by
  have hol : (ones (bothIn k1 k2) (colL cs)).length = cs.length := by rw [ones_len, colL_len]
  have hrl : (List.replicate cs.length (0 : Int)).length = cs.length := List.length_replicate
  have HS := Lib.hid (fun (w' : World) (N : Option Addr) (cn : Nat) (hN : Cells w' N (ints (ones (bothIn k1 k2) (colL cs)))) (hb : Below w.heap.size w w') => show Calls Tryz.prog 22 #[.slice N cs.length cn, .slice V v.length cv] w' fun e w2 => e = .returned (.tuple #[.string (B (togQ (colL cs) v k1 k2).1), .int .i64 (togQ (colL cs) v k1 k2).2]) ∧ Below w'.heap.size w' w2 from by
    have h := frsum_any (ones (bothIn k1 k2) (colL cs)) N cn v V cv w' hN (hV.below hb) (by omega) (ones_fits _ _) hvl hvx
    rw [hol] at h
    exact h)
  have HSUC := Lib.hid (fun (j : Nat) (hj : j < cs.length) => mixR_succ (n := ones (bothIn k1 k2) (colL cs)) (r := List.replicate cs.length (0 : Int)) (by rw [hol, hrl]) (j := j) (by rw [hrl]; exact hj) 0)
  have HSKIP := Lib.hid (fun (j : Nat) (hj : j < cs.length) h => mixR_skip (n := ones (bothIn k1 k2) (colL cs)) (r := List.replicate cs.length (0 : Int)) (by rw [hol, hrl]) (j := j) (by rw [hrl]; exact hj) 0 h)
  have HFULL := Lib.hid (mixR_full (n := ones (bothIn k1 k2) (colL cs)) (r := List.replicate cs.length (0 : Int)) (by rw [hol, hrl]) (j := cs.length) hrl.symm)
  have HZERO := Lib.hid (mixR_zero (ones (bothIn k1 k2) (colL cs)) (List.replicate cs.length (0 : Int)))
  have HMG := Lib.hid (fun (j i : Nat) => mixR_get? (n := ones (bothIn k1 k2) (colL cs)) (r := List.replicate cs.length (0 : Int)) (by rw [hol, hrl]) j i)
  have HC := Lib.hid hC
  have HSET := Lib.hid hset
  clear hC hV hvx hol hrl hset
  generalize togQ (colL cs) v k1 k2 = sq at *
  go_enter Tryz.func11, Tryz.ntmps11
  simp only [B_mk]
  go_wp2_with (refine wp_mkn el_fint rfl _ _ rfl w.heap.size _ .i64 .i64 _ _ cs.length rfl rfl rfl rfl (by omega) (by unfold maxLen; omega) (Nat.le_refl _) rfl ?_; intro N wq hown hbq)
  go_loopw [11] (fun i wr => ∃ j : Nat, j ≤ cs.length ∧ i = .int .i64 j ∧ OwnS wr w.heap.size 3 N cs.length cs.length (ints (mixR (ones (bothIn k1 k2) (colL cs)) (List.replicate cs.length 0) j)) ∧ Below w.heap.size w wr) (fun i _ => cs.length - (intOf i).toNat)
  case atStart => exact ⟨0, Nat.zero_le _, rfl, by rw [HZERO.out, ← ints_rep]; exact hown, hbq⟩
  case round =>
    clear hown hbq
    obtain ⟨j, hj, rfl, hown, hbel⟩ := hrel
    by_cases hlj : j < cs.length
    · obtain ⟨b, off, rfl, hb, hc⟩ := (HC.out.below hbel) (by omega)
      have hcj := hc j hlj
      have d0 := hcj 0 _ rfl
      have d1 := hcj 1 _ rfl
      simp only [Nat.add_zero] at d0
      have HG := Lib.hid (ones_getD (f := (bothIn k1 k2)) (cs := cs) hlj)
      have hst := HSET.out _ (List.getElem_mem hlj)
      have H1 := Lib.hid (fun w => frhas_any cs[j].s k1 w hst.1 hst.2)
      have H2 := Lib.hid (fun w => frhas_any cs[j].s k2 w hst.1 hst.2)
      clear hst
      generalize cs[j] = r at *
      obtain ⟨g, rfl, hg1, hg2, hgc, hgf⟩ := hown.at_ (by omega)
      have hex : wr.cell? ⟨g, j, none⟩ = (ints (mixR (ones (bothIn k1 k2) (colL cs)) (List.replicate cs.length 0) j))[j]? := hgc j hlj
      have hval : (ints (mixR (ones (bothIn k1 k2) (colL cs)) (List.replicate cs.length 0) j))[j]? = some (.int .i64 0) := by
        unfold ints
        rw [List.getElem?_map, HMG.out, if_neg (Nat.lt_irrefl _), List.getElem?_replicate, if_pos hlj]; rfl
      rw [hval] at hex
      have hgf1 := hgf j
      have HOWN := Lib.hid hown
      clear hcj hc hgc hgf hval hown
      cases hf : (bothIn k1 k2) r.t r.s
      · rw [hf] at HG
        have HN := Lib.hid (HSKIP.out j hlj (by rw [HG.out, zero_getD]; rfl))
        cases ha : hasB r.s k1
        · rw [ha] at H1
          clear hf ha
          go_wp2_with fail
          refine (H1.out _).mono ?_
          rintro e w1 ⟨rfl, h9⟩
          obtain rfl := h9.symm
          go_wp2_with fail
          go_roundw
          case rel => exact ⟨j + 1, by omega, by go_num, by rw [HN.out]; exact HOWN.out, hbel⟩
          case measure => simp [intOf]; omega
        · have hb2 : hasB r.s k2 = false := by unfold bothIn at hf; rw [ha] at hf; exact hf
          rw [ha] at H1
          rw [hb2] at H2
          clear hf ha hb2
          go_wp2_with fail
          refine (H1.out _).mono ?_
          rintro e w1 ⟨rfl, h9⟩
          obtain rfl := h9.symm
          go_wp2_with fail
          refine (H2.out _).mono ?_
          rintro e w1 ⟨rfl, h9⟩
          obtain rfl := h9.symm
          go_wp2_with fail
          go_roundw
          case rel => exact ⟨j + 1, by omega, by go_num, by rw [HN.out]; exact HOWN.out, hbel⟩
          case measure => simp [intOf]; omega
      · rw [hf] at HG
        have HN := Lib.hid (HSUC.out j hlj)
        rw [HG.out] at HN
        have HO2 := Lib.hid (show OwnS (wr.setCell ⟨g, j, none⟩ (.int .i64 1)) w.heap.size 3 (some ⟨g, 0, none⟩) cs.length cs.length (ints (mixR (ones (bothIn k1 k2) (colL cs)) (List.replicate cs.length 0) (j + 1))) from by
          have := HOWN.out.stored j (.int .i64 1)
          rw [ints_set] at this
          rw [← HN.out]; exact this)
        have HB2 := Lib.hid (hbel.setCell (p := ⟨g, j, none⟩) hg1 (.int .i64 1))
        cases ha : hasB r.s k1
        · unfold bothIn at hf; rw [ha] at hf; cases hf
        have hb2 : hasB r.s k2 = true := by unfold bothIn at hf; rw [ha] at hf; exact hf
        rw [ha] at H1
        rw [hb2] at H2
        clear hf ha hb2
        go_wp2_with fail
        refine (H1.out _).mono ?_
        rintro e w1 ⟨rfl, h9⟩
        obtain rfl := h9.symm
        go_wp2_with fail
        refine (H2.out _).mono ?_
        rintro e w1 ⟨rfl, h9⟩
        obtain rfl := h9.symm
        go_wp2_with fail
        go_roundw
        case rel => exact ⟨j + 1, by omega, by go_num, HO2.out, HB2.out⟩
        case measure => simp [intOf]; omega
    · obtain rfl : j = cs.length := by omega
      have HN := Lib.hid (show Cells wr N (ints (ones (bothIn k1 k2) (colL cs))) by rw [HFULL.out] at hown; exact hown.cells)
      clear hown
      go_wp2_with fail
      refine (HS.out wr N cs.length HN.out hbel).mono ?_
      rintro e w2 ⟨rfl, hb2⟩
      go_wp2_with fail
      go_ret2
      exact ⟨rfl, fbelow3 hbel hb2⟩
theorem frserved_any (cs : List ColV) (A : Option Addr) (c : Nat) (v : List Str) (V : Option Addr) (cv : Nat) (a : Int) (w : World) (hC : ColsAt w A cs) (hV : Cells w V (strs v)) (hl : cs.length ≤ 1000) (hvl : v.length ≤ cv ∧ cv ≤ maxLen) (hvx : ∀ x ∈ v, x.length ≤ 100000) (hset : ∀ r ∈ cs, 0 ≤ r.s ∧ fits r.s) :
    Calls Tryz.prog 13 #[.slice A cs.length c, .slice V v.length cv, .int .i64 a] w fun e w' => e = .returned (.tuple #[.string (B (togQ (colL cs) v a a).1), .int .i64 (togQ (colL cs) v a a).2]) ∧ Below w.heap.size w w' := by
  have HS := Lib.hid (frtog_any cs A c v V cv a a w hC hV hl hvl hvx hset)
  generalize togQ (colL cs) v a a = sq at *
  clear hC hV hvx hset
  go_enter Tryz.func13, Tryz.ntmps13
  simp only [B_mk]
  go_wp2_with fail
  refine HS.out.mono ?_
  rintro e w1 ⟨rfl, hb1⟩
  go_wp2_with fail
  go_ret2
  exact ⟨rfl, hb1⟩
end Go.Proofs.YtblefdgfmjegiaaGreatDoor
/- The reference of fraction: Choices. (Printed by wip/fref3.py.) -/
namespace Go.Proofs.YtblefdgfmjegiaaGreatDoor
open Go.RowKit Num
set_option linter.unusedVariables false
attribute [local go_sem] B_size B_get B_toList B_mk B_extract B_append

theorem zero_ones (cs : List ColV) : List.replicate cs.length (0 : Int) = ones (fun _ _ => false) (colL cs) := by
  unfold ones colL
  rw [List.map_map]
  symm
  rw [List.eq_replicate_iff]
  refine ⟨by simp, fun b hb => ?_⟩
  obtain ⟨r, _, rfl⟩ := List.mem_map.1 hb
  rfl
set_option maxRecDepth 100000 in
theorem frchoices_err (cs : List ColV) (A : Option Addr) (c : Nat) (v : List Str) (V : Option Addr) (cv : Nat) (u0 u1 u4 u5 : Value) (TA OA : Option Addr) (nt ct no cno : Nat) (w : World) (q : Int) (hC : ColsAt w A cs) (hV : Cells w V (strs v)) (hl : cs.length ≤ 1000) (hvl : v.length ≤ cv ∧ cv ≤ maxLen) (hvx : ∀ x ∈ v, x.length ≤ 100000) (hset : ∀ r ∈ cs, 0 ≤ r.s ∧ fits r.s)
    (hok : AllErr (colL cs) v q) (hq0 : q ≠ 0) :
    Calls Tryz.prog 17 #[.agg (insC u0 u1 TA nt ct OA no cno u4 u5), .slice A cs.length c, .slice V v.length cv] w fun e w' => e = .returned (.tuple #[.slice none 0 0, .int .i64 q]) ∧ Below w.heap.size w w' := by
  have b0 := new_below w (.cells (insC u0 u1 TA nt ct OA no cno u4 u5) 43)
  have hrl : (List.replicate cs.length (0 : Int)).length = cs.length := List.length_replicate
  have HS := Lib.hid (fun (w' : World) (N : Option Addr) (cn : Nat) (hN : Cells w' N (ints (List.replicate cs.length 0))) (hb : Below w.heap.size w w') => show Calls Tryz.prog 22 #[.slice N cs.length cn, .slice V v.length cv] w' fun e w2 => e = .returned (.tuple #[.string (B []), .int .i64 q]) ∧ Below w'.heap.size w' w2 from by
    have h := frsum_any (List.replicate cs.length 0) N cn v V cv w' hN (hV.below hb) (by omega) (fun n hn => by rw [(List.mem_replicate.1 hn).2]; constructor <;> decide) hvl hvx
    rw [hrl, zero_ones, show sumQ (ones (fun _ _ => false) (colL cs)) v = ([], q) from hok _] at h
    exact h)
  have hq' : (q != 0) = true := by simpa using hq0
  clear hC hV hvx hset hok hq0 hrl
  go_enter Tryz.func17, Tryz.ntmps17
  go_wp2_with (refine wp_mkn el_fint rfl _ _ rfl (w.heap.size + 1) _ .i64 .i64 _ _ cs.length rfl rfl rfl rfl (by omega) (by unfold maxLen; omega) (by rw [World.size_alloc]; omega) rfl ?_; intro N wq hown hbq)
  have bq := b0.trans (hbq.mono (Nat.le_succ _))
  have hcell := hown.cells
  rw [ints_rep] at hcell
  refine (HS.out wq N cs.length hcell bq).mono ?_
  rintro e w2 ⟨rfl, hb2⟩
  go_wp2_with fail
  go_ret2
  exact ⟨rfl, fbelow3 bq hb2⟩
theorem whole_right {a : Str} (h : rightQ a = true) : wholeQ a = !hasS a := by unfold wholeQ; rw [h, Bool.true_and]
theorem typesD_no {l : List (Int × Int)} {v : List Str} {j : Nat} (h : hasS (usedQ l v j).1 = false) : typesD l v (j + 1) = typesD l v j := by
  unfold typesD; rw [flat_succ]; unfold typeDec; rw [h]; simp
theorem typesD_yes {l : List (Int × Int)} {v : List Str} {j : Nat} (h : hasS (usedQ l v j).1 = true) : typesD l v (j + 1) = typesD l v j ++ [⟨3, j, 0, floorZ (usedQ l v j).1⟩] := by
  unfold typesD; rw [flat_succ]; unfold typeDec; rw [if_pos h]
theorem rowD_no {l : List (Int × Int)} {v : List Str} (X : List Dec) {a b : Nat} (hab : a < b) (h : hasS (togQ l v a b).1 = false) : X ++ rowD l v a (b + 1) = X ++ rowD l v a b := by
  congr 1; unfold rowD; rw [flat_succ, if_pos hab]; unfold pairDec; rw [h]; simp
theorem rowD_yes {l : List (Int × Int)} {v : List Str} (X : List Dec) {a b : Nat} (hab : a < b) (h : hasS (togQ l v a b).1 = true) : X ++ rowD l v a (b + 1) = X ++ rowD l v a b ++ [⟨1, a, b, 0⟩] := by
  rw [List.append_assoc]; congr 1; unfold rowD; rw [flat_succ, if_pos hab]; unfold pairDec; rw [if_pos h]
theorem servsD_no {l : List (Int × Int)} {v : List Str} (X : List Dec) {o : Nat} (h : hasS (togQ l v o o).1 = false) : X ++ servsD l v (o + 1) = X ++ servsD l v o := by
  congr 1; unfold servsD; rw [flat_succ]; unfold servDec; rw [h]; simp
theorem servsD_yes {l : List (Int × Int)} {v : List Str} (X : List Dec) {o : Nat} (h : hasS (togQ l v o o).1 = true) : X ++ servsD l v (o + 1) = X ++ servsD l v o ++ [⟨5, o, 0, 0⟩] := by
  rw [List.append_assoc]; congr 1; unfold servsD; rw [flat_succ]; unfold servDec; rw [if_pos h]
set_option maxHeartbeats 4000000 in
set_option maxRecDepth 100000 in
theorem frchoices_ok (cs : List ColV) (A : Option Addr) (c : Nat) (v : List Str) (V : Option Addr) (cv : Nat) (u0 u1 u4 u5 : Value) (TA OA : Option Addr) (nt ct no cno : Nat) (w : World) (hC : ColsAt w A cs) (hV : Cells w V (strs v)) (hl : cs.length ≤ 1000) (hvl : v.length ≤ cv ∧ cv ≤ maxLen) (hvx : ∀ x ∈ v, x.length ≤ 100000) (hset : ∀ r ∈ cs, 0 ≤ r.s ∧ fits r.s)
    (hok : AllOK (colL cs) v) (hnt : nt ≤ 100) (hno : no ≤ 100) :
    Calls Tryz.prog 17 #[.agg (insC u0 u1 TA nt ct OA no cno u4 u5), .slice A cs.length c, .slice V v.length cv] w fun e w' => ∃ O co, e = .returned (.tuple #[.slice O (choicesD (colL cs) v nt no).length co, .int .i64 0]) ∧ OwnR w' w.heap.size 48 4 O (choicesD (colL cs) v nt no).length co (decCells (choicesD (colL cs) v nt no)) ∧ Below w.heap.size w w' := by
  have b0 := new_below w (.cells (insC u0 u1 TA nt ct OA no cno u4 u5) 43)
  have hq := row_new (w := w) (o := .cells (insC u0 u1 TA nt ct OA no cno u4 u5) 43)
  have hrl : (List.replicate cs.length (0 : Int)).length = cs.length := List.length_replicate
  have HS0 := Lib.hid (fun (w' : World) (N : Option Addr) (cn : Nat) (hN : Cells w' N (ints (List.replicate cs.length 0))) (hb : Below w.heap.size w w') => show Calls Tryz.prog 22 #[.slice N cs.length cn, .slice V v.length cv] w' fun e w2 => ∃ t, e = .returned (.tuple #[.string (B t), .int .i64 0]) ∧ Below w'.heap.size w' w2 from by
    have h := frsum_any (List.replicate cs.length 0) N cn v V cv w' hN (hV.below hb) (by omega) (fun n hn => by rw [(List.mem_replicate.1 hn).2]; constructor <;> decide) hvl hvx
    rw [hrl, zero_ones, (hok (fun _ _ => false)).1] at h
    refine Calls.mono h ?_
    rintro e w2 ⟨rfl, hb2⟩
    exact ⟨_, rfl, hb2⟩)
  have HU := Lib.hid (fun (w' : World) (k : Int) (hb : Below w.heap.size w w') => show Calls Tryz.prog 9 #[.slice A cs.length c, .slice V v.length cv, .int .i64 k] w' fun e w2 => e = .returned (.tuple #[.string (B (usedQ (colL cs) v k).1), .int .i64 0]) ∧ Below w'.heap.size w' w2 from by
    have h := frused_any cs A c v V cv k w' (hC.below hb) (hV.below hb) hl hvl hvx
    rw [show (usedQ (colL cs) v k).2 = 0 from (hok _).1] at h
    exact h)
  have HT := Lib.hid (fun (w' : World) (a b : Int) (hb : Below w.heap.size w w') => show Calls Tryz.prog 11 #[.slice A cs.length c, .slice V v.length cv, .int .i64 a, .int .i64 b] w' fun e w2 => e = .returned (.tuple #[.string (B (togQ (colL cs) v a b).1), .int .i64 0]) ∧ Below w'.heap.size w' w2 from by
    have h := frtog_any cs A c v V cv a b w' (hC.below hb) (hV.below hb) hl hvl hvx hset
    rw [show (togQ (colL cs) v a b).2 = 0 from (hok _).1] at h
    exact h)
  have HSV := Lib.hid (fun (w' : World) (a : Int) (hb : Below w.heap.size w w') => show Calls Tryz.prog 13 #[.slice A cs.length c, .slice V v.length cv, .int .i64 a] w' fun e w2 => e = .returned (.tuple #[.string (B (togQ (colL cs) v a a).1), .int .i64 0]) ∧ Below w'.heap.size w' w2 from by
    have h := frserved_any cs A c v V cv a w' (hC.below hb) (hV.below hb) hl hvl hvx hset
    rw [show (togQ (colL cs) v a a).2 = 0 from (hok _).1] at h
    exact h)
  have HUE := Lib.hid (show ∀ k, SumOK (usedQ (colL cs) v k).1 from fun k => (hok _).2)
  have HTE := Lib.hid (show ∀ a b, SumOK (togQ (colL cs) v a b).1 from fun a b => (hok _).2)
  have HK := Lib.hid (fun wr (hb : Below (w.heap.size + 1) (w.alloc (.cells (insC u0 u1 TA nt ct OA no cno u4 u5) 43)) wr) => show (wr.cell? ⟨w.heap.size, 2, none⟩ = some (.slice TA nt ct) ∧ wr.cell? ⟨w.heap.size, 3, none⟩ = some (.slice OA no cno)) ∧ Below w.heap.size w wr ∧ w.heap.size + 1 ≤ wr.heap.size from by
    have hs : (w.alloc (.cells (insC u0 u1 TA nt ct OA no cno u4 u5) 43)).heap.size = w.heap.size + 1 := World.size_alloc _ _
    exact ⟨ins_cells (row_on hq (by rw [hs]; exact hb)), b0.trans (hb.mono (Nat.le_succ _)), by have := hb.size; rw [hs] at this; exact this⟩)
  have M1 := Lib.hid (fun n => typesD_len (colL cs) v n)
  have M2 := Lib.hid (fun a => pairsD_len (colL cs) v no a)
  have M3 := Lib.hid (fun a m => rowD_len (colL cs) v a m)
  have M4 := Lib.hid (fun n => servsD_len (colL cs) v n)
  clear hC hV hvl hvx hset hok hq b0 hrl
  generalize colL cs = cl at *
  go_enter Tryz.func17, Tryz.ntmps17
  go_wp2_with (refine wp_mkn el_fint rfl _ _ rfl (w.heap.size + 1) _ .i64 .i64 _ _ cs.length rfl rfl rfl rfl (by omega) (by unfold maxLen; omega) (by rw [World.size_alloc]; omega) rfl ?_; intro N wq hown hbq)
  have hcell := hown.cells
  rw [ints_rep] at hcell
  obtain ⟨_, bq, hszq⟩ := HK.out _ hbq
  refine (HS0.out wq N cs.length hcell bq).mono ?_
  rintro e w2 ⟨t0, rfl, hb2⟩
  have HB3 := Lib.hid (hbq.trans (hb2.mono hszq))
  clear hown hcell hbq bq hszq hb2
  go_wp2_with fail
  go_loopw [10, 11, 12, 13] (fun o i _ _ wr => ∃ (j : Nat) (O : Option Addr) (co : Nat) (L : List Dec), j ≤ nt ∧ i = .int .i64 j ∧ L = typesD cl v j ∧ o = .slice O L.length co ∧ OwnR wr (w.heap.size + 1) 48 4 O L.length co (decCells L) ∧ Below (w.heap.size + 1) (w.alloc (.cells (insC u0 u1 TA nt ct OA no cno u4 u5) 43)) wr) (fun _ i _ _ _ => nt - (intOf i).toNat)
  case atStart => exact ⟨0, none, 0, [], Nat.zero_le _, rfl, rfl, rfl, OwnR.nil _ _ _ _, HB3.out⟩
  case round =>
    clear HB3
    obtain ⟨j, O, co, L, hj, rfl, hL, rfl, hown, hbel⟩ := hrel
    have HL := Lib.hid hL
    clear hL
    obtain ⟨⟨d0, d1⟩, bw, hsz⟩ := HK.out _ hbel
    have HOWN := Lib.hid hown
    clear hown
    by_cases hlt : j < nt
    · go_wp2_with fail
      clear d0 d1
      refine (HU.out wr j bw).mono ?_
      rintro e w5 ⟨rfl, hb5⟩
      have b5 := hbel.trans (hb5.mono hsz)
      obtain ⟨_, bw5, hsz5⟩ := HK.out _ b5
      have hown5 := HOWN.out.below hb5
      have hsl := (HUE.out j).len
      have HW := Lib.hid (fun w => frwhole_any ((usedQ cl v j).1) w (by omega))
      rw [whole_right (HUE.out j).right] at HW
      cases hh : hasS ((usedQ cl v j).1)
      · rw [hh] at HW
        have HN := Lib.hid (show typesD cl v (j + 1) = typesD cl v j from typesD_no hh)
        clear hh hsl
        go_wp2_with fail
        refine (HW.out w5).mono ?_
        rintro e w6 ⟨rfl, hb6⟩
        have hown6 := hown5.below hb6
        have b6 := b5.trans (hb6.mono hsz5)
        go_wp2_with fail
        go_roundw
        case rel => exact ⟨j + 1, O, co, L, by omega, by go_num, by rw [HN.out, HL.out], rfl, hown6, b6⟩
        case measure => simp [intOf]; omega
      · rw [hh] at HW
        have HN := Lib.hid (show typesD cl v (j + 1) = typesD cl v j ++ [⟨3, j, 0, floorZ (usedQ cl v j).1⟩] from typesD_yes hh)
        clear hh hsl
        go_wp2_with fail
        refine (HW.out w5).mono ?_
        rintro e w6 ⟨rfl, hb6⟩
        have hown6 := hown5.below hb6
        have b6 := b5.trans (hb6.mono hsz5)
        have hsz6 := (HK.out _ b6).2.2
        go_wp2_with fail
        refine (frfloor_any ((usedQ cl v j).1) w6 (HUE.out j)).mono ?_
        rintro e w7 ⟨rfl, hb7⟩
        have hown7 := hown6.below hb7
        have b7 := b6.trans (hb7.mono hsz6)
        have hsz7 := (HK.out _ b7).2.2
        have HLN := Lib.hid (show L.length ≤ 100000 from by rw [HL.out]; have := M1.out j; omega)
        go_wp2_with (at_builtin; refine wp_app1r el_dec rfl _ _ rfl (w.heap.size + 1) O _ co _ _ #[.int .i64 (3), .int .i64 (j), .int .i64 (0), .int .i64 (floorZ (usedQ cl v j).1)] rfl hown7 rfl rfl (by intro u hu; simp at hu; rcases hu with rfl | rfl | rfl | rfl <;> rfl) (by have := HLN.out; unfold maxLen; omega) (by have := HLN.out; omega) hsz7 ?_; intro A3 c3 w8 hown8 hb8)
        go_roundw
        case rel => exact ⟨j + 1, A3, c3, _, by omega, by go_num, by rw [HN.out, ← HL.out], by rw [List.length_append]; rfl, by rw [List.length_append, ← decCells_snoc]; exact hown8, b7.trans hb8⟩
        case measure => simp [intOf]; omega
    · obtain rfl : nt = j := by omega
      go_wp2_with fail
      clear d0 d1
      go_loopw [10, 14, 15, 16, 17] (fun o i _ _ _ wr => ∃ (a : Nat) (O : Option Addr) (co : Nat) (L : List Dec), a ≤ no ∧ i = .int .i64 a ∧ L = typesD cl v nt ++ pairsD cl v no a ∧ o = .slice O L.length co ∧ OwnR wr (w.heap.size + 1) 48 4 O L.length co (decCells L) ∧ Below (w.heap.size + 1) (w.alloc (.cells (insC u0 u1 TA nt ct OA no cno u4 u5) 43)) wr) (fun _ i _ _ _ _ => no - (intOf i).toNat)
      case atStart => exact ⟨0, O, co, L, Nat.zero_le _, rfl, by rw [show pairsD cl v no 0 = [] from rfl, List.append_nil]; exact HL.out, rfl, HOWN.out, hbel⟩
      case round =>
        clear HOWN hbel bw hsz hlt hj
        clear HL
        obtain ⟨a, O, co, L, ha, rfl, hL, rfl, hown, hbel⟩ := hrel
        have HL := Lib.hid hL
        clear hL
        obtain ⟨⟨d0, d1⟩, bw, hsz⟩ := HK.out _ hbel
        have HOWN := Lib.hid hown
        clear hown
        by_cases hlt : a < no
        · go_wp2_with fail
          clear d0 d1
          go_loopw [10, 15, 16, 17] (fun o i _ _ wr => ∃ (b : Nat) (O : Option Addr) (co : Nat) (L : List Dec), a + 1 ≤ b ∧ b ≤ no ∧ i = .int .i64 b ∧ L = typesD cl v nt ++ pairsD cl v no a ++ rowD cl v a b ∧ o = .slice O L.length co ∧ OwnR wr (w.heap.size + 1) 48 4 O L.length co (decCells L) ∧ Below (w.heap.size + 1) (w.alloc (.cells (insC u0 u1 TA nt ct OA no cno u4 u5) 43)) wr) (fun _ i _ _ _ => no - (intOf i).toNat)
          case atStart => exact ⟨a + 1, O, co, L, Nat.le_refl _, hlt, by go_num, by rw [rowD_first cl v a (a + 1) (Nat.le_refl _), List.append_nil]; exact HL.out, rfl, HOWN.out, hbel⟩
          case round =>
            clear HOWN hbel bw hsz
            clear HL
            obtain ⟨b, O, co, L, hab, hbn, rfl, hL, rfl, hown, hbel⟩ := hrel
            have HL := Lib.hid hL
            clear hL
            obtain ⟨⟨d0, d1⟩, bw, hsz⟩ := HK.out _ hbel
            have HOWN := Lib.hid hown
            clear hown
            by_cases hltb : b < no
            · have hano : a * no ≤ 100 * 100 := Nat.mul_le_mul (by omega) hno
              have HLEN := Lib.hid (show L.length ≤ 100000 from by
                rw [HL.out]
                have h1 := M1.out nt
                have h2 := M2.out a
                have h3 := M3.out a b
                rw [List.length_append, List.length_append]; omega)
              clear hano
              go_wp2_with fail
              clear d0 d1
              refine (HT.out wr a b bw).mono ?_
              rintro e w5 ⟨rfl, hb5⟩
              have b5 := hbel.trans (hb5.mono hsz)
              obtain ⟨_, bw5, hsz5⟩ := HK.out _ b5
              have hown5 := HOWN.out.below hb5
              have hsl := (HTE.out a b).len
              have HW := Lib.hid (fun w => frwhole_any ((togQ cl v a b).1) w (by omega))
              rw [whole_right (HTE.out a b).right] at HW
              cases hh : hasS ((togQ cl v a b).1)
              · rw [hh] at HW
                have HN := Lib.hid (show typesD cl v nt ++ pairsD cl v no a ++ rowD cl v a (b + 1) = typesD cl v nt ++ pairsD cl v no a ++ rowD cl v a b from rowD_no _ (by omega) hh)
                clear hh hsl
                go_wp2_with fail
                refine (HW.out w5).mono ?_
                rintro e w6 ⟨rfl, hb6⟩
                have hown6 := hown5.below hb6
                have b6 := b5.trans (hb6.mono hsz5)
                go_wp2_with fail
                go_roundw
                case rel => exact ⟨b + 1, O, co, L, by omega, by omega, by go_num, by rw [HN.out, HL.out], rfl, hown6, b6⟩
                case measure => simp [intOf]; omega
              · rw [hh] at HW
                have HN := Lib.hid (show typesD cl v nt ++ pairsD cl v no a ++ rowD cl v a (b + 1) = typesD cl v nt ++ pairsD cl v no a ++ rowD cl v a b ++ [⟨1, a, b, 0⟩] from rowD_yes _ (by omega) hh)
                clear hh hsl
                go_wp2_with fail
                refine (HW.out w5).mono ?_
                rintro e w6 ⟨rfl, hb6⟩
                have hown6 := hown5.below hb6
                have b6 := b5.trans (hb6.mono hsz5)
                have hsz6 := (HK.out _ b6).2.2
                have HLN := Lib.hid HLEN.out
                go_wp2_with (at_builtin; refine wp_app1r el_dec rfl _ _ rfl (w.heap.size + 1) O _ co _ _ #[.int .i64 (1), .int .i64 (a), .int .i64 (b), .int .i64 (0)] rfl hown6 rfl rfl (by intro u hu; simp at hu; rcases hu with rfl | rfl | rfl | rfl <;> rfl) (by have := HLN.out; unfold maxLen; omega) (by have := HLN.out; omega) hsz6 ?_; intro A3 c3 w8 hown8 hb8)
                go_roundw
                case rel => exact ⟨b + 1, A3, c3, _, by omega, by omega, by go_num, by rw [HN.out, ← HL.out], by rw [List.length_append]; rfl, by rw [List.length_append, ← decCells_snoc]; exact hown8, b6.trans hb8⟩
                case measure => simp [intOf]; omega
            · obtain rfl : no = b := by omega
              have HN := Lib.hid (pairsD_snoc cl v (typesD cl v nt) no a)
              go_wp2_with fail
              go_roundw
              case rel => exact ⟨a + 1, O, co, L, by omega, by go_num, by rw [← HN.out]; exact HL.out, rfl, HOWN.out, hbel⟩
              case measure => simp [intOf]; omega
        · obtain rfl : no = a := by omega
          go_wp2_with fail
          clear d0 d1
          go_loopw [10, 18, 19, 20] (fun o i _ _ wr => ∃ (o2 : Nat) (O : Option Addr) (co : Nat) (L : List Dec), o2 ≤ no ∧ i = .int .i64 o2 ∧ L = typesD cl v nt ++ pairsD cl v no no ++ servsD cl v o2 ∧ o = .slice O L.length co ∧ OwnR wr (w.heap.size + 1) 48 4 O L.length co (decCells L) ∧ Below (w.heap.size + 1) (w.alloc (.cells (insC u0 u1 TA nt ct OA no cno u4 u5) 43)) wr) (fun _ i _ _ _ => no - (intOf i).toNat)
          case atStart => exact ⟨0, O, co, L, Nat.zero_le _, rfl, by rw [show servsD cl v 0 = [] from rfl, List.append_nil]; exact HL.out, rfl, HOWN.out, hbel⟩
          case round =>
            clear HOWN hbel bw hsz
            clear HL
            obtain ⟨o2, O, co, L, ho, rfl, hL, rfl, hown, hbel⟩ := hrel
            have HL := Lib.hid hL
            clear hL
            obtain ⟨⟨d0, d1⟩, bw, hsz⟩ := HK.out _ hbel
            have HOWN := Lib.hid hown
            clear hown
            by_cases hlto : o2 < no
            · have hano : no * no ≤ 100 * 100 := Nat.mul_le_mul (by omega) hno
              have HLEN := Lib.hid (show L.length ≤ 100000 from by
                rw [HL.out]
                have h1 := M1.out nt
                have h2 := M2.out no
                have h3 := M4.out o2
                rw [List.length_append, List.length_append]; omega)
              clear hano
              go_wp2_with fail
              clear d0 d1
              refine (HSV.out wr o2 bw).mono ?_
              rintro e w5 ⟨rfl, hb5⟩
              have b5 := hbel.trans (hb5.mono hsz)
              obtain ⟨_, bw5, hsz5⟩ := HK.out _ b5
              have hown5 := HOWN.out.below hb5
              have hsl := (HTE.out o2 o2).len
              have HW := Lib.hid (fun w => frwhole_any ((togQ cl v o2 o2).1) w (by omega))
              rw [whole_right (HTE.out o2 o2).right] at HW
              cases hh : hasS ((togQ cl v o2 o2).1)
              · rw [hh] at HW
                have HN := Lib.hid (show typesD cl v nt ++ pairsD cl v no no ++ servsD cl v (o2 + 1) = typesD cl v nt ++ pairsD cl v no no ++ servsD cl v o2 from servsD_no _ hh)
                clear hh hsl
                go_wp2_with fail
                refine (HW.out w5).mono ?_
                rintro e w6 ⟨rfl, hb6⟩
                have hown6 := hown5.below hb6
                have b6 := b5.trans (hb6.mono hsz5)
                go_wp2_with fail
                go_roundw
                case rel => exact ⟨o2 + 1, O, co, L, by omega, by go_num, by rw [HN.out, HL.out], rfl, hown6, b6⟩
                case measure => simp [intOf]; omega
              · rw [hh] at HW
                have HN := Lib.hid (show typesD cl v nt ++ pairsD cl v no no ++ servsD cl v (o2 + 1) = typesD cl v nt ++ pairsD cl v no no ++ servsD cl v o2 ++ [⟨5, o2, 0, 0⟩] from servsD_yes _ hh)
                clear hh hsl
                go_wp2_with fail
                refine (HW.out w5).mono ?_
                rintro e w6 ⟨rfl, hb6⟩
                have hown6 := hown5.below hb6
                have b6 := b5.trans (hb6.mono hsz5)
                have hsz6 := (HK.out _ b6).2.2
                have HLN := Lib.hid HLEN.out
                go_wp2_with (at_builtin; refine wp_app1r el_dec rfl _ _ rfl (w.heap.size + 1) O _ co _ _ #[.int .i64 (5), .int .i64 (o2), .int .i64 (0), .int .i64 (0)] rfl hown6 rfl rfl (by intro u hu; simp at hu; rcases hu with rfl | rfl | rfl | rfl <;> rfl) (by have := HLN.out; unfold maxLen; omega) (by have := HLN.out; omega) hsz6 ?_; intro A3 c3 w8 hown8 hb8)
                go_roundw
                case rel => exact ⟨o2 + 1, A3, c3, _, by omega, by go_num, by rw [HN.out, ← HL.out], by rw [List.length_append]; rfl, by rw [List.length_append, ← decCells_snoc]; exact hown8, b6.trans hb8⟩
                case measure => simp [intOf]; omega
            · obtain rfl : no = o2 := by omega
              have HF := Lib.hid (show OwnR wr w.heap.size 48 4 O L.length co (decCells L) from HOWN.out.mono (Nat.le_succ _))
              have HL2 := Lib.hid (show L = choicesD cl v nt no from HL.out)
              clear HOWN
              go_wp2_with fail
              go_ret2
              exact ⟨O, co, by rw [← HL2.out]; rfl, by rw [← HL2.out]; exact HF.out, bw⟩
end Go.Proofs.YtblefdgfmjegiaaGreatDoor
