/- The law BasisEchelon: the walk. -/
import Derived.Test.YtkcaheaefjcdiaaGreatDoorBLaw7
namespace Go.Proofs.YtkcaheaefjcdiaaGreatDoor
open Go.RowKit Num
set_option linter.unusedVariables false
attribute [local go_sem] B_size B_get B_toList B_mk B_extract B_append

/-- what the law reads off a reduced matrix -/
theorem few_ech {M : List (List Str)} (h : fewB 20 M = true) (h0 : redE M = 0) : ∃ D k, D ≤ 815 ∧ k ≤ 5 ∧ (∀ r ∈ M, r.length = k) ∧ Ech D k (redM M).1 (redM M).2 ∧ (redM M).1.length = M.length := by
  obtain ⟨D, k, hD, hk, hO, hk5, hmat, hD8⟩ := few_red h h0
  obtain ⟨h1, h2⟩ := few_row h
  have e1 : redM M = reduceM M := by unfold redM; rw [if_pos h0]
  rw [e1, reduceM_st]
  by_cases hm : 0 < M.length
  · have hw : (M.getD 0 []).length = k := by rw [getD_eq hm]; exact (hmat _ (List.getElem_mem hm)).1
    rw [hw]
    by_cases hk0 : k = 0
    · subst hk0
      have hm1 : Mat 1 1 0 M := fun r hr => ⟨(hmat r hr).1, fun a ha => by have := List.eq_nil_of_length_eq_zero (hmat r hr).1; rw [this] at ha; cases ha⟩
      have hg2 : gr (M.length - 1) (1 + 0 * 1) ≤ gr 3 101 := gr_le' (by omega) (by omega)
      rw [show gr 3 101 = 815 by decide] at hg2
      have := ech_of hm1 (by omega) (by omega)
      exact ⟨_, 0, hg2, by omega, fun r hr => (hmat r hr).1, this.1, this.2⟩
    · have hg : gr (M.length - 1) (1 + k * 20) ≤ gr 3 101 := gr_le' (by omega) (by omega)
      rw [show gr 3 101 = 815 by decide] at hg
      have := ech_of hmat (by omega) (by omega)
      exact ⟨_, k, hg, hk5, fun r hr => (hmat r hr).1, this.1, this.2⟩
  · obtain rfl : M = [] := List.eq_nil_of_length_eq_zero (by omega)
    exact ⟨1, 0, by omega, by omega, fun r hr => absurd hr (by simp), ⟨fun r hr => absurd hr (by simp [stN]), by simp [stN], fun x hx => absurd hx (by simp [stN]), by simp [stN], fun i h1 h2 => absurd h2 (by simp [stN]), fun l hl => absurd hl (by simp [stN]), fun i hi => absurd hi (by simp [stN])⟩, rfl⟩
set_option maxHeartbeats 4000000 in
set_option maxRecDepth 100000 in
theorem basisEchelon_walk (rs : List VecV) (A : Option Addr) (c : Nat) (w : World) (hM : MatAt w A rs) (hn : rs.length ≤ c) (hc : c ≤ maxLen) (hs : ∀ r ∈ rs, r.ok) (hz : A = none → c = 0) (he : Env w) :
    Calls Tryz.prog 4 #[.slice A rs.length c] w fun e w' => e = .returned (.bool true) ∧ Below w.heap.size w w' := by
  have HF := Lib.hid (bfew_any rs A c 20 w hM (rsin_of hn hc hs) (by omega))
  have HE := Lib.hid (fun w he => bexamples_any w he)
  have HM := Lib.hid hM
  cases hf : fewB 20 (texts rs)
  · rw [hf] at HF
    clear hM hs
    go_enter Tryz.func4, Tryz.ntmps4
    go_wp2_with fail
    refine HF.out.mono ?_
    rintro e w1 ⟨rfl, h1⟩
    obtain rfl := h1.symm
    go_wp2_with fail
    refine (HE.out w he).mono ?_
    rintro e w2 ⟨rfl, hb2⟩
    go_wp2_with fail
    go_ret
    exact ⟨rfl, hb2⟩
  rw [hf] at HF
  obtain ⟨hl4, hr5⟩ := few_row hf
  rw [texts_length] at hl4
  have hmem : ∀ r ∈ rs, r.xs ∈ texts rs := fun r hr => List.mem_map.2 ⟨r, hr, rfl⟩
  have hok : RsOK rs := ⟨by omega, fun r hr => by have := (hr5 _ (hmem r hr)).1; omega, fun r hr x hx => by have := (hr5 _ (hmem r hr)).2 x hx; omega⟩
  have HRT := Lib.hid (bright_any rs A c w hM (by omega) (fun r hr => by have := hok.row r hr; omega) hok.txt)
  cases hr : rightB (texts rs)
  · rw [hr] at HRT
    clear hM hs
    go_enter Tryz.func4, Tryz.ntmps4
    go_wp2_with fail
    refine HF.out.mono ?_
    rintro e w1 ⟨rfl, h1⟩
    obtain rfl := h1.symm
    go_wp2_with fail
    refine HRT.out.mono ?_
    rintro e w2 ⟨rfl, hb2⟩
    go_wp2_with fail
    refine (HE.out w2 (he.below hb2)).mono ?_
    rintro e w3 ⟨rfl, hb3⟩
    go_wp2_with fail
    go_ret
    exact ⟨rfl, below_lift3 hb2 hb3⟩
  rw [hr] at HRT
  obtain ⟨hE0, hAll⟩ := right_zero hr
  obtain ⟨D, k, hD, hk, hwk, hech, hRl⟩ := few_ech hf hE0
  rw [texts_length] at hRl
  have hred : redE (texts rs) = 0 → ∃ D k, D ≤ 4096 ∧ k ≤ 1000 ∧ RedOK D k (texts rs) := fun h => by
    obtain ⟨D, k, h1, h2, h3, _⟩ := few_red hf h
    exact ⟨D, k, h1, h2, h3⟩
  have HR1 := Lib.hid (fun (w : World) (hM : MatAt w A rs) (he : Env w) => breduceT_any rs A c w hM hok hred he)
  rw [hE0] at HR1
  generalize redM (texts rs) = res at *
  obtain ⟨R, piv⟩ := res
  have hech : Ech D k R piv := hech
  have hRl : R.length = rs.length := hRl
  rw [show (R, piv).1 = R from rfl, show (R, piv).2 = piv from rfl, hRl] at HR1
  have hRE : redE R = 0 := red_zero (by omega) (fun r hr => by
    have h1 := (hech.mat r hr).1
    have h2 : 0 < R.length := List.length_pos_of_mem hr
    rw [h1, getD_eq h2]
    exact ⟨by omega, ((hech.mat _ (List.getElem_mem h2)).1).symm⟩) (by
    unfold allR
    rw [List.all_eq_true]
    intro r hr
    rw [List.all_eq_true]
    exact fun a ha => ((hech.mat r hr).2 a ha).right (by omega) (by omega))
  have hRM : redM R = (R, piv) := by unfold redM; rw [if_pos hRE]; exact hech.again (by omega)
  have HR2 := Lib.hid (fun (rt : List VecV) (T : Option Addr) (ct : Nat) (w : World) (hM : MatAt w T rt) (ht : texts rt = R) (he : Env w) => show Calls Tryz.prog 17 #[.slice T rs.length ct] w fun e w' => ∃ (O : Option Addr) (co : Nat) (P : Option Addr) (cp : Nat), e = .returned (.tuple #[.slice O rs.length co, .slice P piv.length cp, .int .i64 0]) ∧ MatE w' w.heap.size O co R ∧ Below w.heap.size w w' from by
    have hrt : rt.length = rs.length := by rw [← texts_length, ht, hRl]
    have hme : ∀ r ∈ rt, r.xs ∈ R := fun r hr => by rw [← ht]; exact List.mem_map.2 ⟨r, hr, rfl⟩
    have h := breduceT_any rt T ct w hM ⟨by omega, fun r hr => by have := (hech.mat _ (hme r hr)).1; omega, fun r hr x hx => by have := frd_len ((hech.mat _ (hme r hr)).2 x hx); omega⟩ (by rw [ht]; exact fun _ => ⟨D, k, by omega, by omega, hech.redOK (by omega)⟩) he
    rw [ht, hRE, hRM, hrt] at h
    refine Calls.mono h ?_
    rintro e w' ⟨O, co, P, cp, rfl, h1, h2, h3⟩
    exact ⟨O, co, P, cp, by rw [show (R, piv).1 = R from rfl, hRl], h1, h3⟩)
  have HRR := Lib.hid (fun (rt ss : List VecV) (T O : Option Addr) (ct co : Nat) (w : World) (h1 : MatAt w T rt) (h2 : MatAt w O ss) (h3 : texts rt = R) (h4 : texts ss = R) => show Calls Tryz.prog 18 #[.slice T rs.length ct, .slice O rs.length co] w fun e w' => e = .returned (.bool true) ∧ Below w.heap.size w w' from by
    have hme : ∀ rt : List VecV, texts rt = R → rt.length = rs.length ∧ ∀ r ∈ rt, r.xs.length ≤ 1000000 := fun rt ht => ⟨by rw [← texts_length, ht, hRl], fun r hr => by
      have : r.xs ∈ R := by rw [← ht]; exact List.mem_map.2 ⟨r, hr, rfl⟩
      have := (hech.mat _ this).1; omega⟩
    have h := lrows_any rt ss T O ct co w h1 h2 (by have := (hme rt h3).1; omega) (by have := (hme ss h4).1; omega) (hme rt h3).2 (hme ss h4).2
    rw [(hme rt h3).1, (hme ss h4).1, h3, h4, decide_eq_true rfl] at h
    exact h)
  have HP := Lib.hid hech
  have HWK := Lib.hid (show ∀ r ∈ rs, r.xs.length = k from fun r hr => hwk _ (hmem r hr))
  have HRL := Lib.hid hRl
  have hpl : piv.length ≤ rs.length := by rw [← hRl]; exact hech.few
  have hpl' : ¬ (rs.length : Int) < (piv.length : Int) := by omega
  clear hM hs hf hr hok hE0 hAll hred hRE hRM hech hmem hwk hRl hr5
  go_enter Tryz.func4, Tryz.ntmps4
  simp only [B_mk]
  go_wp2_with fail
  refine HF.out.mono ?_
  rintro e w1 ⟨rfl, h1⟩
  obtain rfl := h1.symm
  go_wp2_with fail
  refine HRT.out.mono ?_
  rintro e w2 ⟨rfl, hb2⟩
  go_wp2_with fail
  refine (HR1.out w2 (HM.out.below hb2) (he.below hb2)).mono ?_
  rintro e w3 ⟨O, co, P, cp, rfl, hM3, hP3, hb3⟩
  have b3 := below_lift3 hb2 hb3
  obtain ⟨rt, hrt, htt, hT3⟩ := mate_at hM3
  have HTT := Lib.hid htt
  have HT3 := Lib.hid hT3
  have HRT3 := Lib.hid (show rt.length = rs.length by rw [hrt]; exact HRL.out)
  have HPC := Lib.hid hP3.cells
  have HM3 := Lib.hid (HM.out.below b3)
  clear hb2 hb3 hM3 hP3 htt hT3 hrt
  go_wp2_with fail
  go_loop [6, 7, 50] (fun _ _ i => ∃ j : Nat, j ≤ piv.length ∧ i = .int .i64 j) (fun _ _ i => piv.length - (intOf i).toNat)
  case atStart => exact ⟨0, Nat.zero_le _, rfl⟩
  case round =>
    obtain ⟨j, hj, rfl⟩ := hrel
    by_cases hlt : j < piv.length
    · have hpos : 0 < rs.length := by omega
      obtain ⟨b, off, rfl, hb, hc⟩ := HM3.out.1 hpos
      have c0 : w3.cell? ⟨b, off, none⟩ = some (.slice (rs[0]'hpos).A k (rs[0]'hpos).c) := by
        have := hc 0 hpos
        rw [HWK.out _ (List.getElem_mem hpos)] at this
        exact this
      generalize (rs[0]'hpos).A = a00 at *
      generalize (rs[0]'hpos).c = c00 at *
      clear hc
      obtain ⟨gp, op, rfl, hgp, hgc⟩ := HPC.out (by rw [nums_length]; omega)
      have dj := hgc j _ (nums_get _ _ hlt)
      have hxk : atN piv j < k := by
        have := HP.out.lt _ (List.getElem_mem hlt)
        unfold atN
        rw [List.getD_eq_getElem?_getD, List.getElem?_eq_getElem hlt]; exact this
      by_cases hj0 : 0 < j
      · have hsub : ((j : Int) - 1) = ((j - 1 : Nat) : Int) := by omega
        have d1 := hgc (j - 1) _ (nums_get _ _ (by omega))
        have hyx : atN piv (j - 1) < atN piv j := by
          have := asc_get HP.out.asc (show j - 1 < piv.length by omega) hlt (by omega)
          unfold atN
          rw [List.getD_eq_getElem?_getD, List.getElem?_eq_getElem (show j - 1 < piv.length by omega), List.getD_eq_getElem?_getD, List.getElem?_eq_getElem hlt]; exact this
        have hj0' : (0 : Int) < (j : Int) := by omega
        generalize atN piv (j - 1) = y at *
        generalize atN piv j = x at *
        have t1 : ¬ (x : Int) < 0 := by omega
        have t2 : ¬ (k : Int) ≤ (x : Int) := by omega
        have t3 : ¬ (x : Int) ≤ (y : Int) := by omega
        clear hgc
        go_wp2_with fail
        go_round
        case rel => exact ⟨j + 1, by omega, by go_num⟩
        case measure => simp [intOf]; omega
      · obtain rfl : j = 0 := by omega
        rw [Nat.add_zero] at dj
        generalize atN piv 0 = x at *
        have t1 : ¬ (x : Int) < 0 := by omega
        have t2 : ¬ (k : Int) ≤ (x : Int) := by omega
        clear hgc
        go_wp2_with fail
        go_round
        case rel => exact ⟨1, by omega, by go_num⟩
        case measure => simp [intOf]; omega
    · go_wp2_with fail
      go_loop [8, 9, 10, 11, 12, 13, 81] (fun _ _ _ _ _ _ i => ∃ j : Nat, j ≤ rs.length ∧ i = .int .i64 j) (fun _ _ _ _ _ _ i => rs.length - (intOf i).toNat)
      case atStart => exact ⟨0, Nat.zero_le _, rfl⟩
      case round =>
        clear hlt
        obtain ⟨i, hi, rfl⟩ := hrel
        by_cases hli : i < rs.length
        · obtain ⟨b, off, rfl, hb, hc⟩ := HM3.out.1 (by omega)
          have c0 : w3.cell? ⟨b, off, none⟩ = some (.slice (rs[0]'(by omega)).A k (rs[0]'(by omega)).c) := by
            have := hc 0 (by omega)
            rw [HWK.out _ (List.getElem_mem (show 0 < rs.length by omega))] at this
            exact this
          generalize (rs[0]'(show 0 < rs.length by omega)).A = a00 at *
          generalize (rs[0]'(show 0 < rs.length by omega)).c = c00 at *
          clear hc
          have hit : i < rt.length := by rw [HRT3.out]; exact hli
          obtain ⟨bo, oo, rfl, hbo, hco⟩ := HT3.out.1 (by omega)
          have hci := hco i hit
          have hx1 : rt[i].xs = R.getD i [] := by rw [← texts_getD hit, HTT.out]
          have hiR : i < R.length := by rw [HRL.out]; exact hli
          have hx2 : rt[i].xs.length = k := by rw [hx1]; exact (HP.out.mat.row hiR).1
          have HXC := Lib.hid (HT3.out.2 rt[i] (List.getElem_mem hit))
          rw [hx2] at hci
          have HCE := Lib.hid (show ∀ j, j < k → (strs rt[i].xs)[j]? = some (.string (B (cellM R i j))) from fun j hj => by
            rw [strs_get _ _ (by omega), hx1]; rfl)
          have HX2 := Lib.hid hx2
          generalize rt[i] = ri at *
          clear hco hx1 hx2 hit
          go_wp2_with fail
          go_loop [10, 11, 12, 13, 95] (fun _ _ _ _ i => ∃ j : Nat, j ≤ k ∧ i = .int .i64 j) (fun _ _ _ _ i => k - (intOf i).toNat)
          case atStart => exact ⟨0, Nat.zero_le _, rfl⟩
          case round =>
            obtain ⟨j, hjk, rfl⟩ := hrel
            by_cases hlj : j < k
            · obtain ⟨br, orr, hAr, hbr, hcr⟩ := HXC.out (by rw [strs_length, HX2.out]; omega)
              have dj := hcr j _ (HCE.out j hlj)
              rw [hAr]
              clear hcr
              have HLOW := Lib.hid (fun h => HP.out.low i h hiR j hlj)
              have HLEFT := Lib.hid (show ∀ hi : i < piv.length, j < piv[i] → cellM R i j = [48] from fun hi h => HP.out.left i hi j h)
              have HONE := Lib.hid (show ∀ hi : i < piv.length, j = piv[i] → cellM R i j = [49] from fun hi h => by
                have := HP.out.pivot i hiR i hi
                rw [if_pos rfl, ← h] at this; exact this)
              have HOTH := Lib.hid (show ∀ t (ht : t < piv.length), j = piv[t] → t ≠ i → cellM R i j = [48] from fun t ht h hne => by
                have := HP.out.pivot i hiR t ht
                rw [if_neg (fun e => hne e.symm), ← h] at this; exact this)
              generalize cellM R i j = x at *
              go_upto_region 20 with fail
              go_cut [143] (fun s wx => s = .bool false ∧ wx = w3)
              case first =>
                by_cases hip : i < piv.length
                · have hip' : ¬ (piv.length : Int) ≤ (i : Int) := by omega
                  obtain ⟨gp, op, rfl, hgp, hgc⟩ := HPC.out (by rw [nums_length]; omega)
                  have di := hgc i _ (nums_get _ _ hip)
                  have hpi : atN piv i = piv[i] := by unfold atN; rw [List.getD_eq_getElem?_getD, List.getElem?_eq_getElem hip]; rfl
                  have hL := HLEFT.out hip
                  have hO := HONE.out hip
                  rw [← hpi] at hL hO
                  generalize atN piv i = y at *
                  clear hgc hpi
                  rcases Nat.lt_trichotomy j y with e | e | e
                  · obtain rfl := hL e
                    clear hL hO
                    go_wp2_with fail
                    go_meet
                    exact ⟨rfl, rfl⟩
                  · obtain rfl := hO e
                    subst e
                    clear hL hO
                    go_wp2_with fail
                    go_meet
                    exact ⟨rfl, rfl⟩
                  · have t1 : ¬ (j : Int) < (y : Int) := by omega
                    have t2 : ((j : Int) == (y : Int)) = false := by rw [beq_eq_false_iff_ne]; omega
                    clear hL hO
                    go_wp2_with fail
                    go_meet
                    exact ⟨rfl, rfl⟩
                · have hip' : (piv.length : Int) ≤ (i : Int) := by omega
                  obtain rfl := HLOW.out (by omega)
                  go_wp2_with fail
                  go_meet
                  exact ⟨rfl, rfl⟩
              case rest =>
                obtain ⟨rfl, hw⟩ := hcut
                obtain rfl := hw.symm
                go_wp2_with fail
                go_loop [12, 13, 146] (fun _ _ i => ∃ t : Nat, t ≤ piv.length ∧ i = .int .i64 t) (fun _ _ i => piv.length - (intOf i).toNat)
                case atStart => exact ⟨0, Nat.zero_le _, rfl⟩
                case round =>
                  obtain ⟨t, ht, rfl⟩ := hrel
                  by_cases hlt : t < piv.length
                  · obtain ⟨gp, op, rfl, hgp, hgc⟩ := HPC.out (by rw [nums_length]; omega)
                    have dt := hgc t _ (nums_get _ _ hlt)
                    have hpt : atN piv t = piv[t] := by unfold atN; rw [List.getD_eq_getElem?_getD, List.getElem?_eq_getElem hlt]; rfl
                    have hO := HOTH.out t hlt
                    rw [← hpt] at hO
                    generalize atN piv t = y at *
                    clear hgc hpt
                    by_cases e : j = y
                    · subst e
                      by_cases e2 : t = i
                      · subst e2
                        clear hO
                        go_wp2_with fail
                        go_round
                        case rel => exact ⟨t + 1, by omega, by go_num⟩
                        case measure => simp [intOf]; omega
                      · obtain rfl := hO rfl e2
                        have t2 : ((t : Int) != (i : Int)) = true := by rw [bne_iff_ne]; omega
                        go_wp2_with fail
                        go_round
                        case rel => exact ⟨t + 1, by omega, by go_num⟩
                        case measure => simp [intOf]; omega
                    · have t1 : ((j : Int) == (y : Int)) = false := by rw [beq_eq_false_iff_ne]; omega
                      clear hO
                      go_wp2_with fail
                      go_round
                      case rel => exact ⟨t + 1, by omega, by go_num⟩
                      case measure => simp [intOf]; omega
                  · go_wp2_with fail
                    go_round
                    case rel => exact ⟨j + 1, by omega, by go_num⟩
                    case measure => simp [intOf]; omega
            · go_wp2_with fail
              go_round
              case rel => exact ⟨i + 1, by omega, by go_num⟩
              case measure => simp [intOf]; omega
        · go_wp2_with fail
          refine (HR2.out rt O co w3 HT3.out HTT.out (he.below b3)).mono ?_
          rintro e w4 ⟨O2, co2, P2, cp2, rfl, hM4, hb4⟩
          have b4 := below_lift3 b3 hb4
          obtain ⟨ru, hru, htu, hU⟩ := mate_at hM4
          have HRW := Lib.hid (HRR.out rt ru O O2 co co2 w4 (HT3.out.below hb4) hU HTT.out htu)
          clear hM4 hru htu hU
          go_wp2_with fail
          refine HRW.out.mono ?_
          rintro e w5 ⟨rfl, hb5⟩
          have b5 := below_lift3 b4 hb5
          go_wp2_with fail
          refine (HE.out w5 (he.below b5)).mono ?_
          rintro e w6 ⟨rfl, hb6⟩
          go_wp2_with fail
          go_ret
          exact ⟨rfl, below_lift3 b5 hb6⟩
end Go.Proofs.YtkcaheaefjcdiaaGreatDoor
