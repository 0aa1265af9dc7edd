/- The law BasisRank: the walk. -/
import Derived.Test.YtkcaheaefjcdiaaGreatDoorBLaw6
import Derived.Test.YtkcaheaefjcdiaaGreatDoorG28
import Derived.Test.YtkcaheaefjcdiaaGreatDoorBRef7
namespace Go.Proofs.YtkcaheaefjcdiaaGreatDoor
open Go.RowKit Num
set_option linter.unusedVariables false
attribute [local go_sem] B_size B_get B_toList B_mk B_extract B_append

theorem red_zero {M : List (List Str)} (h1 : M.length ≤ 64) (h2 : ∀ r ∈ M, r.length ≤ 64 ∧ r.length = (M.getD 0 []).length) (h3 : allR M = true) : redE M = 0 := by
  rw [red_same]
  unfold rredE
  have : rchkE M = 0 := by
    unfold rchkE
    rw [if_neg, if_neg]
    · intro h
      obtain ⟨r, hr, e⟩ := List.any_eq_true.1 h
      rw [decide_eq_true_iff] at e
      exact e (h2 r hr).2
    · rintro (h | h)
      · omega
      · obtain ⟨r, hr, e⟩ := List.any_eq_true.1 h
        rw [decide_eq_true_iff] at e
        have := (h2 r hr).1
        omega
  rw [if_pos this, if_pos h3]
theorem right_zero {M : List (List Str)} (h : rightB M = true) : redE M = 0 ∧ allR M = true := by
  unfold rightB at h
  rw [Bool.and_eq_true, decide_eq_true_iff] at h
  rw [red_same]
  unfold rredE
  exact ⟨by rw [if_pos h.1, if_pos h.2], h.2⟩
theorem turn_right {k : Nat} {M : List (List Str)} (hm : ∀ r ∈ M, r.length = k) (h : allR M = true) : allR (turnM k M) = true := by
  unfold allR at *
  rw [List.all_eq_true] at *
  intro r hr
  unfold turnM at hr
  obtain ⟨j, hj, rfl⟩ := List.mem_map.1 hr
  rw [List.all_eq_true]
  intro a ha
  obtain ⟨i, hi, rfl⟩ := List.mem_map.1 ha
  have hi' := List.mem_range.1 hi
  have hj' := List.mem_range.1 hj
  have h1 := h M[i] (List.getElem_mem hi')
  rw [List.all_eq_true] at h1
  have hl := hm M[i] (List.getElem_mem hi')
  rw [cellM_eq hi' (by omega)]
  exact h1 _ (List.getElem_mem _)
theorem half_add : addQE [49, 47, 50] [49, 47, 50] = 0 ∧ addQS [49, 47, 50] [49, 47, 50] = [49] := by decide +kernel
theorem turn_snoc (k : Nat) (M : List (List Str)) {j : Nat} (hj : j < k) : (turnM k M).take j ++ [(List.range M.length).map fun i => cellM M i j] = (turnM k M).take (j + 1) := by
  rw [List.take_succ_eq_append_getElem (by rw [turnM_len]; exact hj)]
  congr 2
  unfold turnM
  simp
theorem col_snoc (M : List (List Str)) (j : Nat) {i : Nat} : (List.range i).map (fun i => cellM M i j) ++ [cellM M i j] = (List.range (i + 1)).map fun i => cellM M i j := by
  rw [List.range_succ, List.map_append]; rfl
set_option maxHeartbeats 4000000 in
set_option maxRecDepth 100000 in
theorem basisRank_walk (rs : List VecV) (A : Option Addr) (c : Nat) (w : World) (hM : MatAt w A rs) (hn : rs.length ≤ c) (hc : c ≤ maxLen) (hs : ∀ r ∈ rs, r.ok) (hz : A = none → c = 0) (he : Env w) :
    Calls Tryz.prog 6 #[.slice A rs.length c] w fun e w' => e = .returned (.bool true) ∧ Below w.heap.size w w' := by
  have HF := Lib.hid (bfew_any rs A c 20 w hM (rsin_of hn hc hs) (by omega))
  have HE := Lib.hid (fun w he => bexamples_any w he)
  have HM := Lib.hid hM
  cases hf : fewB 20 (texts rs)
  · rw [hf] at HF
    clear hM hs
    go_enter Tryz.func6, Tryz.ntmps6
    go_wp2_with fail
    refine HF.out.mono ?_
    rintro e w1 ⟨rfl, h1⟩
    obtain rfl := h1.symm
    go_wp2_with fail
    refine (HE.out w he).mono ?_
    rintro e w2 ⟨rfl, hb2⟩
    go_wp2_with fail
    go_ret
    exact ⟨rfl, hb2⟩
  rw [hf] at HF
  obtain ⟨hl4, hr5⟩ := few_row hf
  rw [texts_length] at hl4
  have hmem : ∀ r ∈ rs, r.xs ∈ texts rs := fun r hr => List.mem_map.2 ⟨r, hr, rfl⟩
  have hok : RsOK rs := ⟨by omega, fun r hr => by have := (hr5 _ (hmem r hr)).1; omega, fun r hr x hx => by have := (hr5 _ (hmem r hr)).2 x hx; omega⟩
  have HRT := Lib.hid (bright_any rs A c w hM (by omega) (fun r hr => by have := hok.row r hr; omega) hok.txt)
  cases hr : rightB (texts rs)
  · rw [hr] at HRT
    clear hM hs
    go_enter Tryz.func6, Tryz.ntmps6
    go_wp2_with fail
    refine HF.out.mono ?_
    rintro e w1 ⟨rfl, h1⟩
    obtain rfl := h1.symm
    go_wp2_with fail
    refine HRT.out.mono ?_
    rintro e w2 ⟨rfl, hb2⟩
    go_wp2_with fail
    refine (HE.out w2 (he.below hb2)).mono ?_
    rintro e w3 ⟨rfl, hb3⟩
    go_wp2_with fail
    go_ret
    exact ⟨rfl, below_lift3 hb2 hb3⟩
  rw [hr] at HRT
  by_cases h0 : rs.length = 0
  · have h0' : ((rs.length : Int) == 0) = true := by rw [h0]; rfl
    clear hM hs h0
    go_enter Tryz.func6, Tryz.ntmps6
    go_wp2_with fail
    refine HF.out.mono ?_
    rintro e w1 ⟨rfl, h1⟩
    obtain rfl := h1.symm
    go_wp2_with fail
    refine HRT.out.mono ?_
    rintro e w2 ⟨rfl, hb2⟩
    go_wp2_with fail
    refine (HE.out w2 (he.below hb2)).mono ?_
    rintro e w3 ⟨rfl, hb3⟩
    go_wp2_with fail
    go_ret
    exact ⟨rfl, below_lift3 hb2 hb3⟩
  have hpos : 0 < rs.length := by omega
  obtain ⟨hE0, hAll⟩ := right_zero hr
  obtain ⟨D, k, hD, hk, hO, hk5, hmat, hD8⟩ := few_red hf hE0
  have hwk : ∀ r ∈ rs, r.xs.length = k := fun r hr => (hmat _ (hmem r hr)).1
  have hMt := turnM_mat hmat
  have htl := texts_length rs
  have hTl : (turnM k (texts rs)).length = k := turnM_len _ _
  rw [htl] at hMt
  have hmrow : ∀ r ∈ texts rs, r.length = k := fun r hr => (hmat r hr).1
  have hTrow : ∀ r ∈ turnM k (texts rs), r.length = rs.length := fun r hr => (hMt r hr).1
  have hTE : redE (turnM k (texts rs)) = 0 := red_zero (by omega) (fun r hr => by
    have h1 := hTrow r hr
    refine ⟨by omega, ?_⟩
    have h2 : 0 < (turnM k (texts rs)).length := List.length_pos_of_mem hr
    rw [h1, getD_eq h2]
    exact (hTrow _ (List.getElem_mem h2)).symm) (turn_right hmrow hAll)
  have hTred : ∃ D k', D ≤ 4096 ∧ k' ≤ 1000 ∧ RedOK D k' (turnM k (texts rs)) := by
    have hg : gr ((turnM k (texts rs)).length - 1) (1 + rs.length * 20) ≤ gr 4 81 := gr_le' (by omega) (by omega)
    rw [show gr 4 81 = 1311 by decide] at hg
    exact ⟨_, rs.length, by omega, by omega, redOK_of hMt (by omega) (by omega)⟩
  have hranks : (redM (texts rs)).2.length = (redM (turnM k (texts rs))).2.length ∧ (redM (texts rs)).2.length ≤ rs.length ∧ (redM (texts rs)).2.length ≤ k := by
    have e1 : redM (texts rs) = reduceM (texts rs) := by unfold redM; rw [if_pos hE0]
    have e2 : redM (turnM k (texts rs)) = reduceM (turnM k (texts rs)) := by unfold redM; rw [if_pos hTE]
    rw [e1, e2]
    by_cases hk0 : 0 < k
    · have hg : gr ((texts rs).length - 1) (1 + k * 20) ≤ gr 3 101 := gr_le' (by omega) (by omega)
      rw [show gr 3 101 = 815 by decide] at hg
      have hg2 : gr (k - 1) (1 + (texts rs).length * 20) ≤ gr 4 81 := gr_le' (by omega) (by omega)
      rw [show gr 4 81 = 1311 by decide] at hg2
      have := rank_same hmat (by omega) hk0 (by omega) (by omega) (by omega) (by omega)
      rw [htl] at this
      exact this
    · have hk00 : k = 0 := by omega
      have hw : ((texts rs).getD 0 []).length = 0 := by rw [getD_eq (by omega), hmrow _ (List.getElem_mem _)]; exact hk00
      have h1 : reduceM (texts rs) = (texts rs, []) := by rw [reduceM_st, hw]; rfl
      have h2 : turnM k (texts rs) = [] := by rw [hk00]; rfl
      rw [h1, h2]
      exact ⟨rfl, Nat.zero_le _, Nat.zero_le _⟩
  have HRK1 := Lib.hid (fun (w : World) (hM : MatAt w A rs) (he : Env w) => brank_any rs A c w hM hok (fun _ => ⟨D, k, hD, hk, hO⟩) he)
  have HRK2 := Lib.hid (fun (rt : List VecV) (T : Option Addr) (ct : Nat) (w : World) (hM : MatAt w T rt) (ht : texts rt = turnM k (texts rs)) (he : Env w) => show Calls Tryz.prog 20 #[.slice T k ct] w fun e w' => e = .returned (.tuple #[.int .i64 ((redM (turnM k (texts rs))).2.length : Int), .int .i64 0]) ∧ Below w.heap.size w w' from by
    have hrt : rt.length = k := by rw [← texts_length, ht, hTl]
    have hme : ∀ r ∈ rt, r.xs ∈ turnM k (texts rs) := fun r hr => by rw [← ht]; exact List.mem_map.2 ⟨r, hr, rfl⟩
    have h := brank_any rt T ct w hM ⟨by omega, fun r hr => by have := hTrow _ (hme r hr); omega, fun r hr x hx => by have := frd_len ((hMt _ (hme r hr)).2 x hx); omega⟩ (by rw [ht]; exact fun _ => hTred) he
    rw [ht, hTE, hrt] at h
    exact h)
  have HQA := Lib.hid (fun (w : World) (he : Env w) => qadd_any [49, 47, 50] [49, 47, 50] w (by decide) (by decide) he)
  have HQB := Lib.hid (fun (w : World) => rqadd_any [49, 47, 50] [49, 47, 50] w (by decide) (by decide))
  rw [half_add.1, half_add.2] at HQA HQB
  rw [hE0] at HRK1
  have hr1 := hranks.1
  have hr2 := hranks.2.1
  have hr3 := hranks.2.2
  rw [← hr1] at HRK2
  generalize (redM (texts rs)).2.length = rk at *
  have HCELL := Lib.hid (show ∀ i (hi : i < rs.length), ∀ j, j < k → rs[i].xs.getD j [] = cellM (texts rs) i j from fun i hi j hj => by unfold cellM; rw [texts_getD hi])
  have HWK := Lib.hid hwk
  have HTS := Lib.hid (fun j (hj : j < k) => turn_snoc k (texts rs) hj)
  rw [htl] at HTS
  have HTL := Lib.hid hTl
  clear hM hs hf hr hok hE0 hAll hO hmat hMt hmrow hTrow hTE hTred hranks hr5 hmem hwk hr1 htl hTl
  have hne : ((rs.length : Int) == 0) = false := by rw [beq_eq_false_iff_ne]; omega
  obtain ⟨b, off, rfl, hb, hc0⟩ := HM.out.1 hpos
  have c0 : w.cell? ⟨b, off, none⟩ = some (.slice (rs[0]'hpos).A k (rs[0]'hpos).c) := by
    have := hc0 0 hpos
    rw [HWK.out _ (List.getElem_mem hpos)] at this
    exact this
  generalize (rs[0]'hpos).A = a00 at *
  generalize (rs[0]'hpos).c = c00 at *
  have HC0 := Lib.hid (show ∀ wr, Below w.heap.size w wr → wr.cell? ⟨b, off, none⟩ = some (.slice a00 k c00) from fun wr h => (h.cell (p := ⟨b, off, none⟩) hb).trans c0)
  clear hc0 c0
  go_enter Tryz.func6, Tryz.ntmps6
  simp only [B_mk]
  go_wp2_with fail
  refine HF.out.mono ?_
  rintro e w1 ⟨rfl, h1⟩
  obtain rfl := h1.symm
  go_wp2_with fail
  refine HRT.out.mono ?_
  rintro e w2 ⟨rfl, hb2⟩
  have d0 := HC0.out w2 hb2
  go_wp2_with fail
  clear d0
  go_loopw [3, 4, 5, 6, 33] (fun v _ _ _ i wr => ∃ (j : Nat) (T : Option Addr) (ct : Nat) (rt : List VecV), j ≤ k ∧ i = .int .i64 j ∧ v = .slice T j ct ∧ rt.length = j ∧ texts rt = (turnM k (texts rs)).take j ∧ RowsO wr w.heap.size T ct rt ∧ Below w.heap.size w wr) (fun _ _ _ _ i _ => k - (intOf i).toNat)
  case atStart => exact ⟨0, none, 0, [], Nat.zero_le _, rfl, rfl, rfl, rfl, RowsO.nil _ _, hb2⟩
  case round =>
    clear hb2
    obtain ⟨j, T, ct, rt, hj, rfl, rfl, hrt, htt, hT, hbel⟩ := hrel
    have hTo := hT.outer
    rw [hrt] at hTo
    have hcapT := hTo.cap
    unfold maxLen at hcapT
    have HTT := Lib.hid htt
    have HRT := Lib.hid hrt
    clear htt hrt
    by_cases hlt : j < k
    · obtain ⟨wo, hwo⟩ : ∃ wo, wo = wr := ⟨_, rfl⟩
      subst hwo
      go_wp2_with fail
      go_loopw [5, 6, 38] (fun v _ i w4 => ∃ (l : Nat) (X : Option Addr) (cx : Nat), l ≤ rs.length ∧ i = .int .i64 l ∧ v = .slice X l cx ∧ OwnS w4 wo.heap.size 36 X l cx (strs ((List.range l).map fun i => cellM (texts rs) i j)) ∧ Below wo.heap.size wo w4) (fun _ _ i _ => rs.length - (intOf i).toNat)
      case atStart => exact ⟨0, none, 0, Nat.zero_le _, rfl, rfl, OwnS.nil _ _ _, Below.refl _ _⟩
      case round =>
        obtain ⟨l, X, cx, hl, rfl, rfl, hX, hbl⟩ := hrel
        have hcapX := hX.cap
        unfold maxLen at hcapX
        have b2 := below_lift3 hbel hbl
        by_cases hll : l < rs.length
        · obtain ⟨b', off', e', hb', hc⟩ := (HM.out.below b2).1 hpos
          injection e' with e'
          injection e' with e1 e2 _
          subst e1 e2
          have hcl := hc l hll
          have hkl := HWK.out _ (List.getElem_mem hll)
          obtain ⟨bx, ox, hAx, hbx, hcx⟩ := (HM.out.below b2).2 _ (List.getElem_mem hll) (by rw [strs_length]; omega)
          have hcj := hcx j _ (strs_get _ _ (by omega))
          rw [HCELL.out l hll j hlt] at hcj
          rw [hAx, hkl] at hcl
          generalize rs[l].c = cl at *
          clear hc hcx hAx hkl hb' hbx
          go_wp2_with (at_builtin; refine wp_app1 el_mrat rfl _ _ rfl wo.heap.size _ _ _ _ _ (.string (B (cellM (texts rs) l j))) rfl hX rfl rfl (by unfold maxLen; omega) (by omega) hbl.size ?_; intro A3 c3 w3 hown3 hb3)
          go_roundw
          case rel => exact ⟨l + 1, A3, c3, by omega, by go_num, rfl, by rw [snoc_strs, col_snoc] at hown3; exact hown3, hbl.trans hb3⟩
          case measure => simp [intOf]; omega
        · obtain rfl : l = rs.length := by omega
          have HTN := Lib.hid (hT.below hbl)
          have hT2 := hTo.below hbl
          have b2 := below_lift3 hbel hbl
          have HADD := Lib.hid (fun (w' : World) (A' : Option Addr) (c' : Nat) (ho : OwnS w' w.heap.size 23 A' (rt.length + 1) c' (rt.map hdrV ++ [hdrV ⟨X, cx, (List.range rs.length).map fun i => cellM (texts rs) i j⟩])) hk => HTN.out.add (r := ⟨X, cx, (List.range rs.length).map fun i => cellM (texts rs) i j⟩) (by
            have := hX.mono hbel.size
            simpa using this) ho hk)
          have HH := Lib.hid (show hdrV ⟨X, cx, (List.range rs.length).map fun i => cellM (texts rs) i j⟩ = .slice X rs.length cx by unfold hdrV; simp)
          clear hX
          go_wp2_with (at_builtin; refine wp_app1k el_mrow rfl _ _ rfl w.heap.size T j ct (rt.map hdrV) _ (.slice X rs.length cx) rfl hT2 rfl rfl (by unfold maxLen; omega) (by omega) b2.size ?_; intro A3 c3 w3 hown3 hb3 hk3)
          have hR3 := HADD.out w3 A3 c3 (by rw [HRT.out, HH.out]; exact hown3) hk3
          go_roundw
          case rel => exact ⟨j + 1, A3, c3, _, by omega, by go_num, rfl, by rw [List.length_append, HRT.out]; rfl, by rw [texts_snoc, HTT.out]; exact HTS.out j hlt, hR3, b2.trans hb3⟩
          case measure => simp [intOf]; omega
    · obtain rfl : j = k := by omega
      have HTF := Lib.hid (show texts rt = turnM j (texts rs) by rw [HTT.out, List.take_of_length_le (by rw [HTL.out]; omega)])
      have HAT := Lib.hid hT.at
      clear hT hTo
      go_wp2_with fail
      refine (HRK1.out wr (HM.out.below hbel) (he.below hbel)).mono ?_
      rintro e w4 ⟨rfl, hb4⟩
      have b4 := below_lift3 hbel hb4
      go_wp2_with fail
      refine (HRK2.out rt T ct w4 (HAT.out.below hb4) HTF.out (he.below b4)).mono ?_
      rintro e w5 ⟨rfl, hb5⟩
      have b5 := below_lift3 b4 hb5
      go_wp2_with fail
      refine (HQA.out w5 (he.below b5)).mono ?_
      rintro e w6 ⟨rfl, hb6⟩
      have b6 := below_lift3 b5 hb6
      go_wp2_with fail
      refine (HQB.out w6).mono ?_
      rintro e w7 ⟨rfl, hb7⟩
      have b7 := below_lift3 b6 hb7
      have d7 := HC0.out w7 b7
      have t1 : ¬ (rs.length : Int) < (rk : Int) := by omega
      have t2 : ¬ (j : Int) < (rk : Int) := by omega
      go_wp2_with fail
      refine (HE.out w7 (he.below b7)).mono ?_
      rintro e w8 ⟨rfl, hb8⟩
      go_wp2_with fail
      go_ret
      exact ⟨rfl, below_lift3 b7 hb8⟩
end Go.Proofs.YtkcaheaefjcdiaaGreatDoor
