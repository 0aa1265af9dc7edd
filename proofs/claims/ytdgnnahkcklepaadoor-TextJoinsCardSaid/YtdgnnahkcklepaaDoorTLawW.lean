/- The law TextWords. -/
import Derived.Test.YtdgnnahkcklepaaDoorTSame
namespace Go.Proofs.YtdgnnahkcklepaaDoor
open Go.RowKit Num Txt
set_option linter.unusedVariables false
attribute [local go_sem] B_size B_get B_toList B_mk B_extract B_append

theorem joinP_len : ∀ (ps : List Str), ps.length ≤ (joinP ps).length + 1 := by
  intro ps
  induction ps with
  | nil => simp
  | cons p r ih =>
    rw [joinP_cons]
    by_cases h : r = []
    · rw [if_pos h, h]; simp
    · rw [if_neg h, List.length_append, List.length_cons, List.length_cons]; omega
theorem words_cases (l : Str) : (wordsE l = 0 ∧ joinP (wordsL l) = l ∧ (wordsL l).length ≤ l.length + 1) ∨ (wordsE l = 3 ∧ wordsL l = []) := by
  by_cases h : ∃ ps, lineOK l ps
  · obtain ⟨ps, hp⟩ := h
    have h1 := words_ok hp
    have h2 := joinP_len ps
    rw [← hp.2] at h2
    exact .inl ⟨h1.2, by rw [h1.1]; exact hp.2.symm, by rw [h1.1]; exact h2⟩
  · have h1 := words_no (fun ps hp => h ⟨ps, hp⟩)
    exact .inr ⟨h1.2, h1.1⟩
set_option maxHeartbeats 1000000 in
theorem textWords_walk (l : List UInt8) (w : World) (hl : l.length ≤ maxLen) (ht : Tab w) (he : ErrV w) :
    Calls Tryd.prog 6 #[.string (B l)] w fun e w' => e = .returned (.bool true) ∧ Below w.heap.size w w' := by
  by_cases h : 300 < l.length
  · have h' : (300 : Int) < (l.length : Int) := by omega
    go_enter Tryd.func6, Tryd.ntmps6
    go_wp2_with fail
    refine (awake_any w ht he).mono ?_
    rintro e w1 ⟨rfl, hb1⟩
    go_wp2_with fail
    go_ret
    exact ⟨rfl, hb1⟩
  · have h' : ¬ (300 : Int) < (l.length : Int) := by omega
    have WC := Lib.hid (words_cases l)
    have t3 : (l != l) = false := by simp
    go_enter Tryd.func6, Tryd.ntmps6
    go_wp2_with fail
    refine (words_any l w (by omega)).mono ?_
    rintro e w1 ⟨A1, c1, rfl, hown1, hb1⟩
    go_wp2_with fail
    refine (rwords_any l w1 (by omega)).mono ?_
    rintro e w2 ⟨A2, c2, rfl, hown2, hb2⟩
    have h2 := hb1.trans (hb2.mono hb1.size)
    have hown1' := hown1.below hb2
    generalize wordsL l = ps at *
    generalize wordsE l = E at *
    have t2 : (E == E) = true := by simp
    clear hown1
    rcases WC.out with ⟨hE, hj, hlen⟩ | ⟨hE, hp⟩
    · have HJ := Lib.hid hj
      subst hE
      clear hj
      go_wp2_with fail
      refine (join_any ps A1 c1 w2 hown1'.cells hown1'.cap.1 (by rw [HJ.out]; omega) (by omega)).mono ?_
      rw [HJ.out]
      rintro e w3 ⟨rfl, hb3⟩
      have h3 := h2.trans (hb3.mono h2.size)
      go_wp2_with fail
      refine (same_any ps A1 A2 c1 c2 w3 (hown1'.below hb3).cells (hown2.below hb3).cells hown1'.cap.1 hown2.cap.1 (by omega)).mono ?_
      rintro e w4 ⟨rfl, hb4⟩
      have h4 := h3.trans (hb4.mono h3.size)
      go_wp2_with fail
      refine (awake_any _ (ht.below h4) (he.below h4)).mono ?_
      rintro e w5 ⟨rfl, hb5⟩
      go_wp2_with fail
      go_ret
      exact ⟨rfl, h4.trans (hb5.mono h4.size)⟩
    · subst hE; subst hp
      go_wp2_with fail
      refine (same_any [] A1 A2 c1 c2 w2 hown1'.cells hown2.cells (by simp) (by simp) (by simp)).mono ?_
      rintro e w4 ⟨rfl, hb4⟩
      have h4 := h2.trans (hb4.mono h2.size)
      go_wp2_with fail
      refine (awake_any _ (ht.below h4) (he.below h4)).mono ?_
      rintro e w5 ⟨rfl, hb5⟩
      go_wp2_with fail
      go_ret
      exact ⟨rfl, h4.trans (hb5.mono h4.size)⟩
end Go.Proofs.YtdgnnahkcklepaaDoor
