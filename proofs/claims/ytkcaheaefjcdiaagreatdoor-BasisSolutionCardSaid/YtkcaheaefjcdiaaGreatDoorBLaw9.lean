/- The law BasisSolves: the walk. -/
import Derived.Test.YtkcaheaefjcdiaaGreatDoorBLaw6
import Derived.Test.YtkcaheaefjcdiaaGreatDoorG29
namespace Go.Proofs.YtkcaheaefjcdiaaGreatDoor
open Go.RowKit Num
set_option linter.unusedVariables false
attribute [local go_sem] B_size B_get B_toList B_mk B_extract B_append

theorem ask_few {M : List (List Str)} (h : askB M = true) (h0 : rchkE M = 0) : fewB 20 M = true := by
  unfold askB at h
  rw [Bool.or_eq_true] at h
  rcases h with h | h
  · exact h
  · rw [Bool.and_eq_true, decide_eq_true_iff, h0] at h
    exact absurd h.2 (by decide)
theorem next_zero {M vs : List (List Str)} {p : Prop} [Decidable p] (h : nextE M p vs = 0) : rchkE M = 0 ∧ p ∧ allR M = true ∧ allR vs = true := by
  unfold nextE at h
  by_cases h1 : rchkE M = 0
  · rw [if_pos h1] at h
    by_cases h2 : p
    · rw [if_pos h2] at h
      by_cases h3 : allR M = true ∧ allR vs = true
      · exact ⟨h1, h2, h3.1, h3.2⟩
      · rw [if_neg h3] at h; exact absurd h (by decide)
    · rw [if_neg h2] at h; exact absurd h (by decide)
  · rw [if_neg h1] at h; exact absurd h h1
theorem frd_short {a : Str} (h : rightQ a = true) (hl : a.length ≤ 20) : FrD 20 20 a := by
  have := mat_of_right (g := 20) (k := 1) (M := [[a]]) (by simp [h, hl])
  exact (this [a] (by simp)).2 a (by simp)
theorem few_sq {M vs : List (List Str)} (h : fewB 20 M = true) (h0 : chkE M (-1) true vs = 0) : Mat 20 20 M.length M ∧ M.length ≤ 4 ∧ ∀ v ∈ vs, v.length = M.length ∧ ∀ a ∈ v, rightQ a = true := by
  obtain ⟨h1, h2⟩ := few_row h
  obtain ⟨_, _, _, h4, h5, h6⟩ := chk_zero h0
  refine ⟨fun r hr => ⟨h4 rfl r hr, fun a ha => frd_short (h6 r (List.mem_append_left _ hr) a ha) ((h2 r hr).2 a ha)⟩, h1, fun v hv => ⟨h5 rfl v hv, fun a ha => h6 v (List.mem_append_right _ hv) a ha⟩⟩
theorem stN_nil (c : Nat) : stN [] c = ([], []) := by
  induction c with
  | zero => exact stN_zero []
  | succ c ih => exact stN_miss ih rfl
theorem stN_nil_len (c : Nat) : (stN [] c).1.length = ([] : List (List Str)).length := by rw [stN_nil c]
theorem red_nil {k : Nat} : RedOK 815 (k + 1) ([] : List (List Str)) :=
  ⟨fun h => absurd h (by simp), fun c hc => stN_nil_len c, fun c hc r hr => absurd hr (by rw [List.eq_nil_of_length_eq_zero (stN_nil_len c)]; simp), fun c hc => by
    have := (stN_piv [] c); rw [stN_nil c]; simp, fun c hc h => absurd (show findM (stN [] c).1 (stN [] c).2.length c = 0 by rw [stN_nil c]; rfl) h⟩
theorem few_wide {M : List (List Str)} {b : List Str} (h : fewB 20 M = true) (h0 : chkE M (-1) true [b] = 0) (hb : shortB 20 b = true) : ∃ D, D ≤ 815 ∧ RedOK D (M.length + 1) (wideM M (oneMore b)) := by
  obtain ⟨hm, h4, hv⟩ := few_sq h h0
  obtain ⟨hbl, hbr⟩ := hv b (by simp)
  unfold shortB at hb
  by_cases hn : 0 < M.length
  · have hg : gr (M.length - 1) (1 + (M.length + 1) * 20) ≤ gr 3 101 := gr_le' (by omega) (by omega)
    rw [show gr 3 101 = 815 by decide] at hg
    exact ⟨_, hg, wide_red hm rfl hn ⟨hbl, fun a ha => frd_short (hbr a ha) (by simpa using List.all_eq_true.1 hb a ha)⟩ (by omega)⟩
  · obtain rfl : M = [] := List.eq_nil_of_length_eq_zero (by omega)
    exact ⟨815, by omega, red_nil⟩
set_option maxHeartbeats 4000000 in
set_option maxRecDepth 100000 in
theorem basisSolves_walk (rs : List VecV) (A : Option Addr) (c : Nat) (bs : List Str) (V : Option Addr) (cv : Nat) (w : World) (hM : MatAt w A rs) (hn : rs.length ≤ c) (hc : c ≤ maxLen) (hs : ∀ r ∈ rs, r.ok) (hz : A = none → c = 0) (hV : Cells w V (strs bs)) (hb : bs.length ≤ cv) (hcv : cv ≤ maxLen) (hlb : ∀ x ∈ bs, x.length ≤ maxLen) (he : Env w) :
    Calls Tryz.prog 3 #[.slice A rs.length c, .slice V bs.length cv] w fun e w' => e = .returned (.bool true) ∧ Below w.heap.size w w' := by
  have HA := Lib.hid (basked_any rs A c w hM (rsin_of hn hc hs))
  have HE := Lib.hid (fun w he => bexamples_any w he)
  have HSH := Lib.hid (fun w hV => bshort_any bs V cv 20 w hV (Nat.le_trans hb hcv) hlb (by omega))
  have HM := Lib.hid hM
  have HV := Lib.hid hV
  have hbm : bs.length ≤ maxLen := Nat.le_trans hb hcv
  unfold maxLen at hbm
  cases ha : askB (texts rs)
  · rw [ha] at HA
    clear hM hs hV hlb
    go_enter Tryz.func3, Tryz.ntmps3
    go_wp2_with fail
    refine HA.out.mono ?_
    rintro e w1 ⟨rfl, hb1⟩
    go_wp2_with fail
    refine (HE.out w1 (he.below hb1)).mono ?_
    rintro e w2 ⟨rfl, hb2⟩
    go_wp2_with fail
    go_ret
    exact ⟨rfl, below_lift3 hb1 hb2⟩
  rw [ha] at HA
  by_cases h5 : bs.length ≤ 5
  · have h5' : ¬ (5 : Int) < (bs.length : Int) := by omega
    cases hsh : shortB 20 bs
    · rw [hsh] at HSH
      clear hM hs hV hlb h5
      go_enter Tryz.func3, Tryz.ntmps3
      go_wp2_with fail
      refine HA.out.mono ?_
      rintro e w1 ⟨rfl, hb1⟩
      go_wp2_with fail
      refine (HSH.out w1 (HV.out.below hb1)).mono ?_
      rintro e w2 ⟨rfl, h2⟩
      obtain rfl := h2.symm
      go_wp2_with fail
      refine (HE.out w1 (he.below hb1)).mono ?_
      rintro e w2 ⟨rfl, hb2⟩
      go_wp2_with fail
      go_ret
      exact ⟨rfl, below_lift3 hb1 hb2⟩
    rw [hsh] at HSH
    have hok := ask_ok ha
    obtain ⟨hl70, hr70⟩ := ask_rows ha
    have hred : chkE (texts rs) (-1) true [bs] = 0 → ∃ D, D ≤ 4096 ∧ RedOK D (rs.length + 1) (wideM (texts rs) (oneMore bs)) := fun h => by
      have h1 := h
      rw [chk_sq] at h1
      obtain ⟨D, hD, hO⟩ := few_wide (ask_few ha (next_zero h1).1) h hsh
      rw [texts_length] at hO
      exact ⟨D, by omega, hO⟩
    have hbx : ∀ x ∈ bs, x.length ≤ 100000 := fun x hx => by
      unfold shortB at hsh
      have : x.length ≤ 20 := by simpa using List.all_eq_true.1 hsh x hx
      omega
    have H1 := Lib.hid (fun (w : World) (hM : MatAt w A rs) (hV : Cells w V (strs bs)) (he : Env w) => bsolveT_any rs A c bs V cv w hM hV hok (by omega) ⟨hb, hcv⟩ (by omega) hbx hred he)
    have H2 := Lib.hid (fun (w : World) (hM : MatAt w A rs) (hV : Cells w V (strs bs)) => brsolveT_any rs A c bs V cv w hM hV hok (by omega) (by omega) hbx hred)
    have hsl : (slvM (texts rs) bs).length ≤ 1000 := by
      unfold slvM
      split
      · rename_i h0
        obtain ⟨h1, h2⟩ := slv_zero h0
        obtain ⟨D, hD, hO⟩ := hred h1
        have := redOK_len hO
        rw [wideM_len, texts_length] at this
        rw [List.length_map]
        unfold solM
        split
        · simp
        · rw [List.length_map, this]; omega
      · simp
    generalize slvM (texts rs) bs = sv at *
    generalize slvE (texts rs) bs = q at *
    clear hred hok hM hs hr70 hV hlb hbx h5
    go_enter Tryz.func3, Tryz.ntmps3
    go_wp2_with fail
    refine HA.out.mono ?_
    rintro e w1 ⟨rfl, hb1⟩
    go_wp2_with fail
    refine (HSH.out w1 (HV.out.below hb1)).mono ?_
    rintro e w2 ⟨rfl, h2⟩
    obtain rfl := h2.symm
    go_wp2_with fail
    refine (H1.out w1 (HM.out.below hb1) (HV.out.below hb1) (he.below hb1)).mono ?_
    rintro e w2 ⟨X1, cx1, rfl, hX1, hb2⟩
    have b2 := below_lift3 hb1 hb2
    go_wp2_with fail
    refine (H2.out w2 (HM.out.below b2) (HV.out.below b2)).mono ?_
    rintro e w3 ⟨X2, cx2, rfl, hX2, hb3⟩
    have b3 := below_lift3 b2 hb3
    have HSS := Lib.hid (lsame_any sv sv X1 X2 cx1 cx2 w3 (hX1.cells.below hb3) hX2.cells (by omega) (by omega))
    rw [decide_eq_true (show sv = sv from rfl)] at HSS
    clear hX1 hX2
    go_wp2_with fail
    refine HSS.out.mono ?_
    rintro e w4 ⟨rfl, hb4⟩
    have b4 := below_lift3 b3 hb4
    go_wp2_with fail
    refine (HE.out w4 (he.below b4)).mono ?_
    rintro e w5 ⟨rfl, hb5⟩
    go_wp2_with fail
    go_ret
    exact ⟨rfl, below_lift3 b4 hb5⟩
  · have h5' : (5 : Int) < (bs.length : Int) := by omega
    clear hM hs hV hlb
    go_enter Tryz.func3, Tryz.ntmps3
    go_wp2_with fail
    refine HA.out.mono ?_
    rintro e w1 ⟨rfl, hb1⟩
    go_wp2_with fail
    refine (HE.out w1 (he.below hb1)).mono ?_
    rintro e w2 ⟨rfl, hb2⟩
    go_wp2_with fail
    go_ret
    exact ⟨rfl, below_lift3 hb1 hb2⟩
end Go.Proofs.YtkcaheaefjcdiaaGreatDoor
