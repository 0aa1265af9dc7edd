/- The law BasisSolution: the walk. -/
import Derived.Test.YtkcaheaefjcdiaaGreatDoorBLaw9
namespace Go.Proofs.YtkcaheaefjcdiaaGreatDoor
open Go.RowKit Num
set_option linter.unusedVariables false
attribute [local go_sem] B_size B_get B_toList B_mk B_extract B_append

theorem right_zero2 {M : List (List Str)} (h : rightB M = true) : redE M = 0 ∧ allR M = true := by
  unfold rightB at h
  rw [Bool.and_eq_true, decide_eq_true_iff] at h
  rw [red_same]
  unfold rredE
  exact ⟨by rw [if_pos h.1, if_pos h.2], h.2⟩
theorem right_parts {M : List (List Str)} (h : rightB M = true) : rchkE M = 0 ∧ allR M = true := by
  unfold rightB at h
  rw [Bool.and_eq_true, decide_eq_true_iff] at h
  exact h
theorem slv_kinds {M : List (List Str)} {b : List Str} (hM : rightB M = true) (hb : b.all rightQ = true) (h : slvE M b ≠ 0) : (slvE M b = 2 ∨ slvE M b = 7) ∧ slvM M b = [] := by
  refine ⟨?_, by unfold slvM; rw [if_neg h]⟩
  obtain ⟨h1, h2⟩ := right_parts hM
  rw [slv_same] at h ⊢
  unfold rslvE at h ⊢
  by_cases hp : sqB M = true ∧ b.length = M.length
  · have hn := next_ok (vs := [b]) h1 hp ⟨h2, by rw [allR_one]; exact hb⟩
    rw [if_pos hn] at h ⊢
    unfold solE at h ⊢
    split
    · exact .inr rfl
    · rename_i hbp; rw [if_neg hbp] at h; exact absurd rfl h
  · have hn := next_arg (vs := [b]) h1 hp
    rw [hn, if_neg (by decide)]
    exact .inl rfl
/-- the solution, when there is one -/
theorem solution {M : List (List Str)} {b : List Str} (hf : fewB 20 M = true) (hb : shortB 20 b = true) (h0 : slvE M b = 0) :
    (slvM M b).length ≤ 4 ∧ (∀ x ∈ slvM M b, x.length ≤ 100000) ∧ timE M (slvM M b) = 0 ∧ (∀ r ∈ M, DotOK r (slvM M b)) ∧ timM M (slvM M b) = b ∧ (redM M).2.length = M.length := by
  obtain ⟨hck, _⟩ := slv_zero h0
  obtain ⟨hm, h4, hv⟩ := few_sq hf hck
  obtain ⟨hbl, hbr⟩ := hv b (by simp)
  have hck' := hck
  rw [chk_sq] at hck'
  obtain ⟨a1, a2, a3, a4⟩ := next_zero hck'
  have hE0 : redE M = 0 := by
    rw [red_same]
    unfold rredE
    rw [if_pos a1, if_pos a3]
  have hsh : ∀ a ∈ b, a.length ≤ 20 := fun a ha => by unfold shortB at hb; simpa using List.all_eq_true.1 hb a ha
  by_cases hn : 0 < M.length
  · have hg : gr (M.length - 1) (1 + (M.length + 1) * 20) ≤ gr 3 101 := gr_le' (by omega) (by omega)
    rw [show gr 3 101 = 815 by decide] at hg
    obtain ⟨s1, s2, s3, s4⟩ := sol_rows hm rfl hn ⟨hbl, fun a ha => frd_short (hbr a ha) (hsh a ha)⟩ (by omega) h0
    have s2' : ∀ x ∈ slvM M b, FrD 815 815 x := fun x hx => (s2 x hx).mono hg hg
    have hdot : ∀ r ∈ M, DotOK r (slvM M b) ∧ FrD 4096 4096 (dotN r (slvM M b) r.length) ∧ rq (dotN r (slvM M b) r.length) = sumR (fun i => rq (r.getD i []) * rq ((slvM M b).getD i [])) r.length := by
      intro r hr
      have hrl := (hm r hr).1
      refine dot_ok (n := 20) (n' := 815) (hm r hr).2 s2' (by omega) (by omega) ?_
      have : r.length * (20 + 815 + 1) ≤ 4 * (20 + 815 + 1) := Nat.mul_le_mul_right _ (by omega)
      omega
    have ht : timE M (slvM M b) = 0 := by
      rw [chk_time]
      refine next_ok a1 (.inr ?_) ⟨a3, ?_⟩
      · rw [s1, getD_eq hn]; exact (hm _ (List.getElem_mem hn)).1
      · rw [allR_one, List.all_eq_true]
        exact fun x hx => (s2' x hx).right (by omega) (by omega)
    refine ⟨by omega, fun x hx => by have := frd_len (s2' x hx); omega, ht, fun r hr => (hdot r hr).1, ?_, ?_⟩
    · unfold timM
      rw [if_pos ht]
      apply List.ext_getElem (by rw [List.length_map]; omega)
      intro i h1 h2
      rw [List.length_map] at h1
      rw [List.getElem_map]
      have hri := List.getElem_mem h1
      have hd := hdot M[i] hri
      refine rq_inj (hd.2.1.right (by omega) (by omega)) (hbr _ (List.getElem_mem h2)) ?_
      rw [hd.2.2]
      have h3 := s3 i h1
      rw [show b.getD i [] = b[i] by rw [List.getD_eq_getElem?_getD, List.getElem?_eq_getElem h2]; rfl] at h3
      rw [← h3, (hm _ hri).1]
      refine sumR_congr _ fun j hj => ?_
      unfold cellM
      rw [getD_eq h1]
    · unfold redM
      rw [if_pos hE0]; exact s4
  · obtain rfl : M = [] := List.eq_nil_of_length_eq_zero (by omega)
    obtain rfl : b = [] := List.eq_nil_of_length_eq_zero (by rw [hbl]; rfl)
    refine ⟨by decide +kernel, fun x hx => ?_, by decide +kernel, fun r hr => absurd hr (by simp), by decide +kernel, by decide +kernel⟩
    rw [show slvM [] [] = [] by decide +kernel] at hx
    cases hx
set_option maxHeartbeats 4000000 in
set_option maxRecDepth 100000 in
theorem basisSolution_walk (rs : List VecV) (A : Option Addr) (c : Nat) (bs : List Str) (V : Option Addr) (cv : Nat) (w : World) (hM : MatAt w A rs) (hn : rs.length ≤ c) (hc : c ≤ maxLen) (hs : ∀ r ∈ rs, r.ok) (hz : A = none → c = 0) (hV : Cells w V (strs bs)) (hb : bs.length ≤ cv) (hcv : cv ≤ maxLen) (hlb : ∀ x ∈ bs, x.length ≤ maxLen) (he : Env w) :
    Calls Tryz.prog 8 #[.slice A rs.length c, .slice V bs.length cv] w fun e w' => e = .returned (.bool true) ∧ Below w.heap.size w w' := by
  have HF := Lib.hid (bfew_any rs A c 20 w hM (rsin_of hn hc hs) (by omega))
  have HE := Lib.hid (fun w he => bexamples_any w he)
  have HSH := Lib.hid (bshort_any bs V cv 20 w hV (Nat.le_trans hb hcv) hlb (by omega))
  have HM := Lib.hid hM
  have HV := Lib.hid hV
  have hbm : bs.length ≤ maxLen := Nat.le_trans hb hcv
  unfold maxLen at hbm
  cases hf : fewB 20 (texts rs)
  · rw [hf] at HF
    clear hM hs hV hlb
    go_enter Tryz.func8, Tryz.ntmps8
    go_wp2_with fail
    refine HF.out.mono ?_
    rintro e w1 ⟨rfl, h1⟩
    obtain rfl := h1.symm
    go_wp2_with fail
    refine (HE.out w he).mono ?_
    rintro e w2 ⟨rfl, hb2⟩
    go_wp2_with fail
    go_ret
    exact ⟨rfl, hb2⟩
  rw [hf] at HF
  by_cases h5 : bs.length ≤ 5
  · have h5' : ¬ (5 : Int) < (bs.length : Int) := by omega
    cases hsh : shortB 20 bs
    · rw [hsh] at HSH
      clear hM hs hV hlb h5
      go_enter Tryz.func8, Tryz.ntmps8
      go_wp2_with fail
      refine HF.out.mono ?_
      rintro e w1 ⟨rfl, h1⟩
      obtain rfl := h1.symm
      go_wp2_with fail
      refine HSH.out.mono ?_
      rintro e w2 ⟨rfl, h2⟩
      obtain rfl := h2.symm
      go_wp2_with fail
      refine (HE.out w he).mono ?_
      rintro e w2 ⟨rfl, hb2⟩
      go_wp2_with fail
      go_ret
      exact ⟨rfl, hb2⟩
    rw [hsh] at HSH
    obtain ⟨hl4, hr5⟩ := few_row hf
    rw [texts_length] at hl4
    have hmem : ∀ r ∈ rs, r.xs ∈ texts rs := fun r hr => List.mem_map.2 ⟨r, hr, rfl⟩
    have hok : RsOK rs := ⟨by omega, fun r hr => by have := (hr5 _ (hmem r hr)).1; omega, fun r hr x hx => by have := (hr5 _ (hmem r hr)).2 x hx; omega⟩
    have hbx : ∀ x ∈ bs, x.length ≤ 100000 := fun x hx => by
      unfold shortB at hsh
      have : x.length ≤ 20 := by simpa using List.all_eq_true.1 hsh x hx
      omega
    have HRT := Lib.hid (bright_any rs A c w hM (by omega) (fun r hr => by have := hok.row r hr; omega) hok.txt)
    have HRB := Lib.hid (fun w h => brright_any bs V cv w h (by omega) hbx)
    cases hr : rightB (texts rs)
    · rw [hr] at HRT
      clear hM hs hV hlb h5 hr5 hmem
      go_enter Tryz.func8, Tryz.ntmps8
      go_wp2_with fail
      refine HF.out.mono ?_
      rintro e w1 ⟨rfl, h1⟩
      obtain rfl := h1.symm
      go_wp2_with fail
      refine HSH.out.mono ?_
      rintro e w2 ⟨rfl, h2⟩
      obtain rfl := h2.symm
      go_wp2_with fail
      refine HRT.out.mono ?_
      rintro e w1 ⟨rfl, hb1⟩
      go_wp2_with fail
      refine (HE.out w1 (he.below hb1)).mono ?_
      rintro e w2 ⟨rfl, hb2⟩
      go_wp2_with fail
      go_ret
      exact ⟨rfl, below_lift3 hb1 hb2⟩
    rw [hr] at HRT
    cases hbr : bs.all rightQ
    · rw [hbr] at HRB
      clear hM hs hV hlb h5 hr5 hmem
      go_enter Tryz.func8, Tryz.ntmps8
      go_wp2_with fail
      refine HF.out.mono ?_
      rintro e w1 ⟨rfl, h1⟩
      obtain rfl := h1.symm
      go_wp2_with fail
      refine HSH.out.mono ?_
      rintro e w2 ⟨rfl, h2⟩
      obtain rfl := h2.symm
      go_wp2_with fail
      refine HRT.out.mono ?_
      rintro e w1 ⟨rfl, hb1⟩
      go_wp2_with fail
      refine (HRB.out w1 (HV.out.below hb1)).mono ?_
      rintro e w2 ⟨rfl, hb2⟩
      have b2 := below_lift3 hb1 hb2
      go_wp2_with fail
      refine (HE.out w2 (he.below b2)).mono ?_
      rintro e w3 ⟨rfl, hb3⟩
      go_wp2_with fail
      go_ret
      exact ⟨rfl, below_lift3 b2 hb3⟩
    rw [hbr] at HRB
    have hred : chkE (texts rs) (-1) true [bs] = 0 → ∃ D, D ≤ 4096 ∧ RedOK D (rs.length + 1) (wideM (texts rs) (oneMore bs)) := fun h => by
      obtain ⟨D, hD, hO⟩ := few_wide hf h hsh
      rw [texts_length] at hO
      exact ⟨D, by omega, hO⟩
    have H1 := Lib.hid (fun (w : World) (hM : MatAt w A rs) (hV : Cells w V (strs bs)) (he : Env w) => bsolveT_any rs A c bs V cv w hM hV hok (by omega) ⟨hb, hcv⟩ (by omega) hbx hred he)
    by_cases h0 : slvE (texts rs) bs = 0
    · obtain ⟨s1, s2, s3, s4, s5, s6⟩ := solution hf hsh h0
      obtain ⟨hE0, _⟩ := right_zero2 hr
      rw [h0] at H1
      rw [texts_length] at s6
      have H2 := Lib.hid (fun (w : World) (Y : Option Addr) (cy : Nat) (hc2 : (slvM (texts rs) bs).length ≤ cy ∧ cy ≤ maxLen) (hM : MatAt w A rs) (hY : Cells w Y (strs (slvM (texts rs) bs))) (he : Env w) => btimesT_any rs A c (slvM (texts rs) bs) Y cy w hM hY hok hc2 (by omega) s2 (fun _ r hr => s4 r.xs (hmem r hr)) he)
      rw [s5, s3] at H2
      have H3 := Lib.hid (fun (w : World) (hM : MatAt w A rs) (he : Env w) => brank_any rs A c w hM hok (fun h => by
        obtain ⟨D, k, h1, h2, h3, _⟩ := few_red hf h
        exact ⟨D, k, h1, h2, h3⟩) he)
      rw [s6, hE0] at H3
      generalize slvM (texts rs) bs = sv at *
      clear hM hs hV hlb h5 hr5 hmem hred hok hbx s2 s3 s4 s5 s6 h0 hE0
      go_enter Tryz.func8, Tryz.ntmps8
      go_wp2_with fail
      refine HF.out.mono ?_
      rintro e w1 ⟨rfl, h1⟩
      obtain rfl := h1.symm
      go_wp2_with fail
      refine HSH.out.mono ?_
      rintro e w2 ⟨rfl, h2⟩
      obtain rfl := h2.symm
      go_wp2_with fail
      refine HRT.out.mono ?_
      rintro e w1 ⟨rfl, hb1⟩
      go_wp2_with fail
      refine (HRB.out w1 (HV.out.below hb1)).mono ?_
      rintro e w2 ⟨rfl, hb2⟩
      have b2 := below_lift3 hb1 hb2
      go_wp2_with fail
      refine (H1.out w2 (HM.out.below b2) (HV.out.below b2) (he.below b2)).mono ?_
      rintro e w3 ⟨X1, cx1, rfl, hX1, hb3⟩
      have b3 := below_lift3 b2 hb3
      have hcap := hX1.cap
      go_wp2_with fail
      refine (H2.out w3 X1 cx1 hcap (HM.out.below b3) hX1.cells (he.below b3)).mono ?_
      rintro e w4 ⟨Z, cz, rfl, hZ, hb4⟩
      have b4 := below_lift3 b3 hb4
      go_wp2_with fail
      refine (H3.out w4 (HM.out.below b4) (he.below b4)).mono ?_
      rintro e w5 ⟨rfl, hb5⟩
      have b5 := below_lift3 b4 hb5
      have HSS := Lib.hid (lsame_any bs bs Z V cz cv w5 (hZ.cells.below hb5) (HV.out.below b5) (by omega) (by omega))
      rw [decide_eq_true (show bs = bs from rfl)] at HSS
      clear hX1 hZ
      go_wp2_with fail
      refine HSS.out.mono ?_
      rintro e w6 ⟨rfl, hb6⟩
      have b6 := below_lift3 b5 hb6
      go_wp2_with fail
      refine (HE.out w6 (he.below b6)).mono ?_
      rintro e w7 ⟨rfl, hb7⟩
      go_wp2_with fail
      go_ret
      exact ⟨rfl, below_lift3 b6 hb7⟩
    · obtain ⟨hk, hsv⟩ := slv_kinds hr hbr h0
      rw [hsv] at H1
      have h0' : (slvE (texts rs) bs != 0) = true := by simpa using h0
      generalize slvE (texts rs) bs = q at *
      clear hM hs hV hlb h5 hr5 hmem hred hok hbx h0 hsv
      rcases hk with rfl | rfl
      all_goals
        go_enter Tryz.func8, Tryz.ntmps8
        go_wp2_with fail
        refine HF.out.mono ?_
        rintro e w1 ⟨rfl, h1⟩
        obtain rfl := h1.symm
        go_wp2_with fail
        refine HSH.out.mono ?_
        rintro e w2 ⟨rfl, h2⟩
        obtain rfl := h2.symm
        go_wp2_with fail
        refine HRT.out.mono ?_
        rintro e w1 ⟨rfl, hb1⟩
        go_wp2_with fail
        refine (HRB.out w1 (HV.out.below hb1)).mono ?_
        rintro e w2 ⟨rfl, hb2⟩
        have b2 := below_lift3 hb1 hb2
        go_wp2_with fail
        refine (H1.out w2 (HM.out.below b2) (HV.out.below b2) (he.below b2)).mono ?_
        rintro e w3 ⟨X1, cx1, rfl, hX1, hb3⟩
        have b3 := below_lift3 b2 hb3
        clear hX1
        go_wp2_with fail
        refine (HE.out w3 (he.below b3)).mono ?_
        rintro e w4 ⟨rfl, hb4⟩
        go_wp2_with fail
        go_ret
        exact ⟨rfl, below_lift3 b3 hb4⟩
  · have h5' : (5 : Int) < (bs.length : Int) := by omega
    clear hM hs hV hlb
    go_enter Tryz.func8, Tryz.ntmps8
    go_wp2_with fail
    refine HF.out.mono ?_
    rintro e w1 ⟨rfl, h1⟩
    obtain rfl := h1.symm
    go_wp2_with fail
    refine (HE.out w he).mono ?_
    rintro e w2 ⟨rfl, hb2⟩
    go_wp2_with fail
    go_ret
    exact ⟨rfl, hb2⟩
end Go.Proofs.YtkcaheaefjcdiaaGreatDoor
