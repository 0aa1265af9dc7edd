/- The law BasisReduces: the walk. -/
import Derived.Test.YtkcaheaefjcdiaaGreatDoorG27
namespace Go.Proofs.YtkcaheaefjcdiaaGreatDoor
open Go.RowKit Num
set_option linter.unusedVariables false
attribute [local go_sem] B_size B_get B_toList B_mk B_extract B_append

theorem rsin_of {rs : List VecV} {c : Nat} (hn : rs.length ≤ c) (hc : c ≤ maxLen) (hs : ∀ r ∈ rs, r.ok) : RsIn rs := ⟨Nat.le_trans hn hc, fun r hr => Nat.le_trans (hs r hr).1 (hs r hr).2.1, fun r hr => (hs r hr).2.2⟩
theorem ask_rows {rs : List VecV} (h : askB (texts rs) = true) : rs.length ≤ 70 ∧ ∀ r ∈ rs, r.xs.length ≤ 70 ∧ ∀ x ∈ r.xs, x.length ≤ 20 := by
  unfold askB at h
  have hm : ∀ r ∈ rs, r.xs ∈ texts rs := fun r hr => List.mem_map.2 ⟨r, hr, rfl⟩
  rw [Bool.or_eq_true] at h
  rcases h with h | h
  · obtain ⟨h1, h2⟩ := few_row h
    rw [texts_length] at h1
    exact ⟨by omega, fun r hr => ⟨by have := (h2 _ (hm r hr)).1; omega, (h2 _ (hm r hr)).2⟩⟩
  · rw [Bool.and_eq_true, Bool.and_eq_true, decide_eq_true_iff, texts_length] at h
    refine ⟨h.1.1, fun r hr => ?_⟩
    have h2 := List.all_eq_true.1 h.1.2 _ (hm r hr)
    unfold rowB' shortB at h2
    rw [Bool.and_eq_true, decide_eq_true_iff] at h2
    exact ⟨h2.1, fun x hx => by simpa using List.all_eq_true.1 h2.2 x hx⟩
theorem ask_ok {rs : List VecV} (h : askB (texts rs) = true) : RsOK rs := by
  obtain ⟨h1, h2⟩ := ask_rows h
  exact ⟨by omega, fun r hr => by have := (h2 r hr).1; omega, fun r hr x hx => by have := (h2 r hr).2 x hx; omega⟩
theorem ask_red {M : List (List Str)} (h : askB M = true) (h0 : redE M = 0) : fewB 20 M = true := by
  unfold askB at h
  rw [Bool.or_eq_true] at h
  rcases h with h | h
  · exact h
  · rw [Bool.and_eq_true, decide_eq_true_iff] at h
    rw [red_same] at h0
    unfold rredE at h0
    rw [h.2, if_neg (by decide)] at h0
    cases h0
theorem rredM_same (M : List (List Str)) : rredM M = redM M := by unfold rredM redM; rw [red_same]
set_option maxHeartbeats 4000000 in
set_option maxRecDepth 100000 in
theorem basisReduces_walk (rs : List VecV) (A : Option Addr) (c : Nat) (w : World) (hM : MatAt w A rs) (hn : rs.length ≤ c) (hc : c ≤ maxLen) (hs : ∀ r ∈ rs, r.ok) (hz : A = none → c = 0) (he : Env w) :
    Calls Tryz.prog 5 #[.slice A rs.length c] w fun e w' => e = .returned (.bool true) ∧ Below w.heap.size w w' := by
  have HA := Lib.hid (basked_any rs A c w hM (rsin_of hn hc hs))
  have HE := Lib.hid (fun w he => bexamples_any w he)
  have HM := Lib.hid hM
  cases ha : askB (texts rs)
  · rw [ha] at HA
    clear hM hs
    go_enter Tryz.func5, Tryz.ntmps5
    go_wp2_with fail
    refine HA.out.mono ?_
    rintro e w1 ⟨rfl, hb1⟩
    go_wp2_with fail
    refine (HE.out w1 (he.below hb1)).mono ?_
    rintro e w2 ⟨rfl, hb2⟩
    go_wp2_with fail
    go_ret
    exact ⟨rfl, below_lift3 hb1 hb2⟩
  · rw [ha] at HA
    have hok := ask_ok ha
    obtain ⟨hl70, hr70⟩ := ask_rows ha
    have hred : redE (texts rs) = 0 → ∃ D k, D ≤ 4096 ∧ k ≤ 1000 ∧ RedOK D k (texts rs) := fun h => by
      obtain ⟨D, k, h1, h2, h3, _⟩ := few_red (ask_red ha h) h
      exact ⟨D, k, h1, h2, h3⟩
    have hredr : rredE (texts rs) = 0 → ∃ D k, D ≤ 4096 ∧ k ≤ 1000 ∧ RedOK D k (texts rs) := fun h => hred (by rw [red_same]; exact h)
    have H1 := Lib.hid (fun (w : World) (hM : MatAt w A rs) (he : Env w) => breduceT_any rs A c w hM hok hred he)
    have H2 := Lib.hid (fun (w : World) (hM : MatAt w A rs) => brreduceT_any rs A c w hM hz hok hredr)
    have H3 := Lib.hid (fun (w : World) (hM : MatAt w A rs) (he : Env w) => brank_any rs A c w hM hok hred he)
    have H4 := Lib.hid (fun (w : World) (hM : MatAt w A rs) => brrank_any rs A c w hM hz hok hredr)
    have hlen : (redM (texts rs)).1.length ≤ 1000 ∧ (∀ r ∈ (redM (texts rs)).1, r.length ≤ 1000) ∧ (redM (texts rs)).2.length ≤ 1000 := by
      unfold redM
      by_cases h0 : redE (texts rs) = 0
      · rw [if_pos h0]
        obtain ⟨D, k, h1, h2, h3⟩ := hred h0
        refine ⟨by rw [redOK_len h3, texts_length]; omega, fun r hr => ?_, ?_⟩
        · by_cases hm : 0 < (texts rs).length
          · rw [reduceM_st, h3.width hm] at hr
            rw [(h3.mat k (Nat.le_refl _) r hr).1]; exact h2
          · rw [List.eq_nil_of_length_eq_zero (by omega : (texts rs).length = 0)] at hr
            cases hr
        · by_cases hm : 0 < (texts rs).length
          · rw [reduceM_st, h3.width hm]
            have := h3.few k (Nat.le_refl _)
            rw [texts_length] at this; omega
          · rw [List.eq_nil_of_length_eq_zero (by omega : (texts rs).length = 0)]
            show 0 ≤ 1000; omega
      · rw [if_neg h0]
        exact ⟨by show 0 ≤ 1000; omega, fun r hr => absurd hr (by simp), by show 0 ≤ 1000; omega⟩
    rw [show rredM (texts rs) = redM (texts rs) from rredM_same _, ← red_same] at H2 H4
    clear hred hredr hok hM hs hr70
    have hlen1 := hlen.1
    have hlen3 := hlen.2.2
    have HLEN := Lib.hid hlen
    clear hlen
    generalize redM (texts rs) = res at *
    generalize redE (texts rs) = q at *
    obtain ⟨R, piv⟩ := res
    go_enter Tryz.func5, Tryz.ntmps5
    go_wp2_with fail
    refine HA.out.mono ?_
    rintro e w1 ⟨rfl, hb1⟩
    go_wp2_with fail
    refine (H1.out w1 (HM.out.below hb1) (he.below hb1)).mono ?_
    rintro e w2 ⟨O1, co1, P1, cp1, rfl, hM1, hP1, hb2⟩
    have b2 := below_lift3 hb1 hb2
    go_wp2_with fail
    refine (H2.out w2 (HM.out.below b2)).mono ?_
    rintro e w3 ⟨O2, co2, rs2, P2, cp2, rfl, hM2, ht2, hP2, hb3⟩
    have b3 := below_lift3 b2 hb3
    go_wp2_with fail
    refine (H3.out w3 (HM.out.below b3) (he.below b3)).mono ?_
    rintro e w4 ⟨rfl, hb4⟩
    have b4 := below_lift3 b3 hb4
    go_wp2_with fail
    refine (H4.out w4 (HM.out.below b4)).mono ?_
    rintro e w5 ⟨rfl, hb5⟩
    have b5 := below_lift3 b4 hb5
    obtain ⟨rs1, hl1, ht1, hM1'⟩ := mate_at hM1
    have hl1 : rs1.length = R.length := hl1
    have hrl1 : ∀ r ∈ rs1, r.xs.length ≤ 1000 := fun r hr => by
      have : r.xs ∈ R := by
        have h : r.xs ∈ texts rs1 := List.mem_map.2 ⟨r, hr, rfl⟩
        rw [ht1] at h; exact h
      exact HLEN.out.2.1 _ this
    have ht2' : texts rs2 = R := ht2
    have hl2 : rs2.length = R.length := by rw [← ht2', texts_length]
    have hrl2 : ∀ r ∈ rs2, r.xs.length ≤ 1000 := fun r hr => by
      have : r.xs ∈ R := by
        have h : r.xs ∈ texts rs2 := List.mem_map.2 ⟨r, hr, rfl⟩
        rw [ht2'] at h; exact h
      exact HLEN.out.2.1 _ this
    have hlen1' : R.length ≤ 1000 := hlen1
    have HRW := Lib.hid (lrows_any rs1 rs2 O1 O2 co1 co2 w5 (hM1'.below (below_lift3 (below_lift3 hb3 hb4) hb5)) (hM2.below (below_lift3 hb4 hb5)) (by omega) (by omega) (fun r hr => by have := hrl1 r hr; omega) (fun r hr => by have := hrl2 r hr; omega))
    rw [show decide (texts rs1 = texts rs2) = true by rw [decide_eq_true_iff, ht1, ht2'], hl1] at HRW
    have hP15 := (hP1.below (below_lift3 (below_lift3 hb3 hb4) hb5)).cells
    have hP25 := (hP2.below (below_lift3 hb4 hb5)).cells
    have hpl : piv.length ≤ 1000 := hlen3
    have hP15 : Cells w5 P1 (nums piv) := hP15
    have hP25 : Cells w5 P2 (nums piv) := hP25
    have HPP := Lib.hid (show Cells w5 P1 (nums piv) ∧ Cells w5 P2 (nums piv) from ⟨hP15, hP25⟩)
    clear hM1 hM1' hM2 hP1 hP2 hP15 hP25 hrl1 hrl2 ht1 ht2 ht2' hl1 hl2 hlen1 hlen1' hlen3 hb1 hb2 hb3 hb4 hb5 b2 b3 b4
    go_wp2_with fail
    refine HRW.out.mono ?_
    rintro e w6 ⟨rfl, hb6⟩
    have b6 := below_lift3 b5 hb6
    have HP6 := Lib.hid (show Cells w6 P1 (nums piv) ∧ Cells w6 P2 (nums piv) from ⟨HPP.out.1.below hb6, HPP.out.2.below hb6⟩)
    clear HPP b5 hb6
    go_wp2_with fail
    go_loopw [13, 68] (fun _ i wr => ∃ k : Nat, k ≤ piv.length ∧ i = .int .i64 k ∧ Below w6.heap.size w6 wr) (fun _ i _ => piv.length - (intOf i).toNat)
    case atStart => exact ⟨0, Nat.zero_le _, rfl, Below.refl _ _⟩
    case round =>
      obtain ⟨k, hk, rfl, hbel⟩ := hrel
      by_cases hlt : k < piv.length
      · obtain ⟨g1, o1, rfl, hg1, hc1⟩ := (HP6.out.1.below hbel) (by rw [nums_length]; omega)
        obtain ⟨g2, o2, rfl, hg2, hc2⟩ := (HP6.out.2.below hbel) (by rw [nums_length]; omega)
        have d1 := hc1 k _ (nums_get _ _ hlt)
        have d2 := hc2 k _ (nums_get _ _ hlt)
        clear hc1 hc2
        go_wp2_with fail
        go_quiet (fail)
        go_wp2_with fail
        have hq := below_drewN hbel nq
        go_roundw
        case rel => exact ⟨k + 1, by omega, by go_num, hq⟩
        case measure => simp [intOf]; omega
      · have b7 := below_lift3 b6 hbel
        go_wp2_with fail
        refine (HE.out wr (he.below b7)).mono ?_
        rintro e w8 ⟨rfl, hb8⟩
        go_wp2_with fail
        go_ret
        exact ⟨rfl, below_lift3 b7 hb8⟩
end Go.Proofs.YtkcaheaefjcdiaaGreatDoor
