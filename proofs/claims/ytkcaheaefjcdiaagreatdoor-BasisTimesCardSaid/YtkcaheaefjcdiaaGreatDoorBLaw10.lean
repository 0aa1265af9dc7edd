/- The law BasisTimes: the walk. -/
import Derived.Test.YtkcaheaefjcdiaaGreatDoorBLaw9
import Derived.Test.YtkcaheaefjcdiaaGreatDoorG29
namespace Go.Proofs.YtkcaheaefjcdiaaGreatDoor
open Go.RowKit Num
set_option linter.unusedVariables false
attribute [local go_sem] B_size B_get B_toList B_mk B_extract B_append

theorem unit_right (n a : Nat) : allR [unitR n a] = true := by
  rw [allR_one, List.all_eq_true]
  exact fun x hx => ((unit_frd (g := 1) (n := n) (a := a) (Nat.le_refl _)).2 x hx).right (by omega) (by omega)
theorem few_dot {M : List (List Str)} {x : List Str} (h : fewB 20 M = true) (hx : shortB 20 x = true) (h5 : x.length ≤ 5) (h0 : timE M x = 0) : ∀ r ∈ M, DotOK r x := by
  obtain ⟨h1, h2⟩ := few_row h
  obtain ⟨_, _, h3, _, _, h6⟩ := chk_zero (M := M) (wd := (x.length : Int)) (sq := false) (vs := [x]) h0
  unfold shortB at hx
  intro r hr
  have hl : r.length = x.length := by
    have := h3 r hr
    unfold widthE at this
    rw [if_neg (by omega)] at this
    omega
  refine (dot_ok (n := 20) (n' := 20) (fun a ha => frd_short (h6 r (List.mem_append_left _ hr) a ha) ((h2 r hr).2 a ha)) (fun a ha => frd_short (h6 x (by simp) a ha) (by simpa using List.all_eq_true.1 hx a ha)) hl (by omega) ?_).1
  rw [hl]
  have : x.length * (20 + 20 + 1) ≤ 5 * (20 + 20 + 1) := Nat.mul_le_mul_right _ h5
  omega
theorem few_inv {M : List (List Str)} (h : fewB 20 M = true) (h0 : chkE M (-1) true [] = 0) : InvOK M ∧ ∃ D k, D ≤ 4096 ∧ k ≤ 1000 ∧ M.length < k ∧ RedOK D k (wideM M (unitR M.length)) := by
  obtain ⟨hm, h4, _⟩ := few_sq h h0
  by_cases hn : 0 < M.length
  · have hg : gr (M.length - 1) (1 + (M.length + 1) * 20) ≤ gr 3 101 := gr_le' (by omega) (by omega)
    rw [show gr 3 101 = 815 by decide] at hg
    have hg2 : gr (M.length - 1) (1 + (M.length + M.length) * 20) ≤ gr 3 161 := gr_le' (by omega) (by omega)
    rw [show gr 3 161 = 1295 by decide] at hg2
    have hI := fun i (hi : i < M.length) => inv_cols (g := 20) hm rfl hn (by omega) (by omega) (by omega) hi
    have hIE : invE M = solE (reduceM (wideM M (unitR M.length))).2 M.length := by unfold invE; rw [if_pos h0]
    have hIM : invE M = 0 → invM M = solM (wideM M (unitR M.length)) M.length := fun h => by unfold invM; rw [if_pos h]
    have hck : ∀ i, chkE M (-1) true [unitR M.length i] = 0 := by
      intro i
      have h1 := h0
      rw [chk_sq] at h1
      obtain ⟨a1, a2, a3, a4⟩ := next_zero h1
      rw [chk_sq]
      exact next_ok a1 ⟨a2.1, fun v hv => by rw [List.mem_singleton.1 hv, unit_len]⟩ ⟨a3, unit_right _ _⟩
    have herr : ∀ i, i < M.length → slvE M (unitR M.length i) = invE M := by
      intro i hi
      unfold slvE
      rw [if_pos (hck i), (hI i hi).1, hIE]
    refine ⟨⟨fun i hi => ⟨gr (M.length - 1) (1 + (M.length + 1) * 20), by omega, wide_red hm rfl hn (unit_frd (a := i) (by omega)) (by omega)⟩, herr, fun h => by omega, fun hz => ?_, fun hz i hi => ?_⟩, ⟨gr (M.length - 1) (1 + (M.length + M.length) * 20), M.length + M.length, by omega, by omega, by omega, ?_⟩⟩
    · obtain ⟨_, h2, h3, _⟩ := (hI 0 hn).2 (by rw [← hIE]; exact hz)
      rw [hIM hz]
      exact ⟨h2, h3⟩
    · obtain ⟨h1, h2, h3, h5⟩ := (hI i hi).2 (by rw [← hIE]; exact hz)
      have hs : slvM M (unitR M.length i) = (solM (wideM M (oneMore (unitR M.length i))) M.length).map (·.getD 0 []) := by
        unfold slvM
        rw [if_pos (by rw [herr i hi]; exact hz)]
      rw [hs, hIM hz]
      exact ⟨by rw [List.length_map]; exact h5, h1⟩
    · have hw := wide_mat (l := M.length) (more := unitR M.length) hm (fun r hr => unit_frd (by omega))
      have hl : (wideM M (unitR M.length)).length = M.length := wideM_len _ _
      have := redOK_of hw (by rw [hl]; omega) (by omega)
      rw [hl] at this
      exact this
  · obtain rfl : M = [] := List.eq_nil_of_length_eq_zero (by omega)
    refine ⟨⟨fun i hi => absurd hi (by simp), fun i hi => absurd hi (by simp), fun _ => by decide +kernel, fun _ => ⟨by decide +kernel, fun r hr => absurd hr (by rw [show invM [] = [] by decide +kernel]; simp)⟩, fun _ i hi => absurd hi (by simp)⟩, ⟨815, 1, by omega, by omega, by simp, red_nil⟩⟩
set_option maxHeartbeats 4000000 in
set_option maxRecDepth 100000 in
theorem basisTimes_walk (rs : List VecV) (A : Option Addr) (c : Nat) (bs : List Str) (V : Option Addr) (cv : Nat) (w : World) (hM : MatAt w A rs) (hn : rs.length ≤ c) (hc : c ≤ maxLen) (hs : ∀ r ∈ rs, r.ok) (hz : A = none → c = 0) (hV : Cells w V (strs bs)) (hb : bs.length ≤ cv) (hcv : cv ≤ maxLen) (hlb : ∀ x ∈ bs, x.length ≤ maxLen) (he : Env w) :
    Calls Tryz.prog 7 #[.slice A rs.length c, .slice V bs.length cv] w fun e w' => e = .returned (.bool true) ∧ Below w.heap.size w w' := by
  have HA := Lib.hid (basked_any rs A c w hM (rsin_of hn hc hs))
  have HE := Lib.hid (fun w he => bexamples_any w he)
  have HSH := Lib.hid (fun w hV => bshort_any bs V cv 20 w hV (Nat.le_trans hb hcv) hlb (by omega))
  have HM := Lib.hid hM
  have HV := Lib.hid hV
  have hbm : bs.length ≤ maxLen := Nat.le_trans hb hcv
  unfold maxLen at hbm
  cases ha : askB (texts rs)
  · rw [ha] at HA
    clear hM hs hV hlb
    go_enter Tryz.func7, Tryz.ntmps7
    go_wp2_with fail
    refine HA.out.mono ?_
    rintro e w1 ⟨rfl, hb1⟩
    go_wp2_with fail
    refine (HE.out w1 (he.below hb1)).mono ?_
    rintro e w2 ⟨rfl, hb2⟩
    go_wp2_with fail
    go_ret
    exact ⟨rfl, below_lift3 hb1 hb2⟩
  rw [ha] at HA
  by_cases h5 : bs.length ≤ 5
  · have h5' : ¬ (5 : Int) < (bs.length : Int) := by omega
    cases hsh : shortB 20 bs
    · rw [hsh] at HSH
      clear hM hs hV hlb h5
      go_enter Tryz.func7, Tryz.ntmps7
      go_wp2_with fail
      refine HA.out.mono ?_
      rintro e w1 ⟨rfl, hb1⟩
      go_wp2_with fail
      refine (HSH.out w1 (HV.out.below hb1)).mono ?_
      rintro e w2 ⟨rfl, h2⟩
      obtain rfl := h2.symm
      go_wp2_with fail
      refine (HE.out w1 (he.below hb1)).mono ?_
      rintro e w2 ⟨rfl, hb2⟩
      go_wp2_with fail
      go_ret
      exact ⟨rfl, below_lift3 hb1 hb2⟩
    rw [hsh] at HSH
    have hok := ask_ok ha
    obtain ⟨hl70, hr70⟩ := ask_rows ha
    have hbx : ∀ x ∈ bs, x.length ≤ 100000 := fun x hx => by
      unfold shortB at hsh
      have : x.length ≤ 20 := by simpa using List.all_eq_true.1 hsh x hx
      omega
    have hdot : timE (texts rs) bs = 0 → ∀ r ∈ rs, DotOK r.xs bs := fun h r hr => by
      have h1 := h
      rw [chk_time] at h1
      exact few_dot (ask_few ha (next_zero h1).1) hsh h5 h r.xs (List.mem_map.2 ⟨r, hr, rfl⟩)
    have hinv0 : chkE (texts rs) (-1) true [] = 0 → InvOK (texts rs) ∧ ∃ D k, D ≤ 4096 ∧ k ≤ 1000 ∧ (texts rs).length < k ∧ RedOK D k (wideM (texts rs) (unitR (texts rs).length)) := fun h => by
      have h1 := h
      rw [chk_sq] at h1
      exact few_inv (ask_few ha (next_zero h1).1) h
    have H1 := Lib.hid (fun (w : World) (hM : MatAt w A rs) (hV : Cells w V (strs bs)) (he : Env w) => btimesT_any rs A c bs V cv w hM hV hok ⟨hb, hcv⟩ (by omega) hbx hdot he)
    have H2 := Lib.hid (fun (w : World) (hM : MatAt w A rs) (hV : Cells w V (strs bs)) => brtimesT_any rs A c bs V cv w hM hV hok (by omega) hbx hdot)
    have H3 := Lib.hid (fun (w : World) (hM : MatAt w A rs) (he : Env w) => binverseT_any rs A c w hM hok (by omega) (fun h => by
      have := (hinv0 h).2
      rw [texts_length] at this
      exact this) he)
    have H4 := Lib.hid (fun (w : World) (hM : MatAt w A rs) => brinverseT_any rs A c w hM hok (by omega) (fun h => (hinv0 h).1))
    have hsl : (timM (texts rs) bs).length ≤ 1000 := by
      unfold timM
      split
      · rw [List.length_map, texts_length]; omega
      · simp
    have hil : (invM (texts rs)).length ≤ 1000 ∧ ∀ r ∈ invM (texts rs), r.length ≤ 1000 := by
      by_cases h0 : invE (texts rs) = 0
      · have hck : chkE (texts rs) (-1) true [] = 0 := by
          by_cases h1 : chkE (texts rs) (-1) true [] = 0
          · exact h1
          · unfold invE at h0
            rw [if_neg h1] at h0
            exact absurd h0 h1
        obtain ⟨h1, h2⟩ := (hinv0 hck).1.len h0
        rw [texts_length] at h1 h2
        exact ⟨by omega, fun r hr => by rw [h2 r hr]; omega⟩
      · have : invM (texts rs) = [] := by unfold invM; rw [if_neg h0]
        rw [this]
        exact ⟨by simp, fun r hr => absurd hr (by simp)⟩
    have HRR := Lib.hid (fun (rt ss : List VecV) (T O : Option Addr) (ct co : Nat) (w : World) (h1 : MatAt w T rt) (h2 : MatAt w O ss) (h3 : texts rt = invM (texts rs)) (h4 : texts ss = invM (texts rs)) => show Calls Tryz.prog 18 #[.slice T rt.length ct, .slice O ss.length co] w fun e w' => e = .returned (.bool true) ∧ Below w.heap.size w w' from by
      have hme : ∀ rt : List VecV, texts rt = invM (texts rs) → rt.length ≤ 1000000 ∧ ∀ r ∈ rt, r.xs.length ≤ 1000000 := fun rt ht => ⟨by rw [← texts_length, ht]; omega, fun r hr => by
        have : r.xs ∈ invM (texts rs) := by rw [← ht]; exact List.mem_map.2 ⟨r, hr, rfl⟩
        have := hil.2 _ this; omega⟩
      have h := lrows_any rt ss T O ct co w h1 h2 (hme rt h3).1 (hme ss h4).1 (hme rt h3).2 (hme ss h4).2
      rw [h3, h4, decide_eq_true rfl] at h
      exact h)
    generalize timM (texts rs) bs = sv at *
    generalize timE (texts rs) bs = q at *
    generalize invM (texts rs) = iv at *
    generalize invE (texts rs) = p at *
    clear hdot hinv0 hil hok hM hs hr70 hV hlb hbx h5
    go_enter Tryz.func7, Tryz.ntmps7
    go_wp2_with fail
    refine HA.out.mono ?_
    rintro e w1 ⟨rfl, hb1⟩
    go_wp2_with fail
    refine (HSH.out w1 (HV.out.below hb1)).mono ?_
    rintro e w2 ⟨rfl, h2⟩
    obtain rfl := h2.symm
    go_wp2_with fail
    refine (H1.out w1 (HM.out.below hb1) (HV.out.below hb1) (he.below hb1)).mono ?_
    rintro e w2 ⟨X1, cx1, rfl, hX1, hb2⟩
    have b2 := below_lift3 hb1 hb2
    go_wp2_with fail
    refine (H2.out w2 (HM.out.below b2) (HV.out.below b2)).mono ?_
    rintro e w3 ⟨X2, cx2, rfl, hX2, hb3⟩
    have b3 := below_lift3 b2 hb3
    go_wp2_with fail
    refine (H3.out w3 (HM.out.below b3) (he.below b3)).mono ?_
    rintro e w4 ⟨O3, co3, rs3, rfl, hM3, ht3, hb4⟩
    have b4 := below_lift3 b3 hb4
    go_wp2_with fail
    refine (H4.out w4 (HM.out.below b4)).mono ?_
    rintro e w5 ⟨O4, co4, rs4, rfl, hM4, ht4, hb5⟩
    have b5 := below_lift3 b4 hb5
    have HSS := Lib.hid (lsame_any sv sv X1 X2 cx1 cx2 w5 (hX1.cells.below (below_lift3 (below_lift3 hb3 hb4) hb5)) (hX2.cells.below (below_lift3 hb4 hb5)) (by omega) (by omega))
    rw [decide_eq_true (show sv = sv from rfl)] at HSS
    have HRW := Lib.hid (fun w6 (hb6 : Below w5.heap.size w5 w6) => HRR.out rs3 rs4 O3 O4 co3 co4 w6 (hM3.below (below_lift3 hb5 hb6)) (hM4.below hb6) ht3 ht4)
    clear hX1 hX2 hM3 hM4 ht3 ht4
    go_wp2_with fail
    refine HSS.out.mono ?_
    rintro e w6 ⟨rfl, hb6⟩
    have b6 := below_lift3 b5 hb6
    go_wp2_with fail
    refine (HRW.out w6 hb6).mono ?_
    rintro e w7 ⟨rfl, hb7⟩
    have b7 := below_lift3 b6 hb7
    go_wp2_with fail
    refine (HE.out w7 (he.below b7)).mono ?_
    rintro e w8 ⟨rfl, hb8⟩
    go_wp2_with fail
    go_ret
    exact ⟨rfl, below_lift3 b7 hb8⟩
  · have h5' : (5 : Int) < (bs.length : Int) := by omega
    clear hM hs hV hlb
    go_enter Tryz.func7, Tryz.ntmps7
    go_wp2_with fail
    refine HA.out.mono ?_
    rintro e w1 ⟨rfl, hb1⟩
    go_wp2_with fail
    refine (HE.out w1 (he.below hb1)).mono ?_
    rintro e w2 ⟨rfl, hb2⟩
    go_wp2_with fail
    go_ret
    exact ⟨rfl, below_lift3 hb1 hb2⟩
end Go.Proofs.YtkcaheaefjcdiaaGreatDoor
