/- awake; the laws TextNames, TextNumbers. -/
import Derived.Test.YtdgnnahkcklepaaDoorTWords
namespace Go.Proofs.YtdgnnahkcklepaaDoor
open Go.RowKit Num Txt
set_option linter.unusedVariables false
attribute [local go_sem] B_size B_get B_toList B_mk B_extract B_append

theorem aw_120 : decI (-120) = [45, 49, 50, 48] := by
  have h : dec 120 = [49, 50, 48] := by
    have := dec_val (l := [49, 50, 48]) (by decide)
    rw [← this]; rfl
  unfold decI
  rw [if_pos (by decide), show (-120 : Int).natAbs = 120 from rfl, h]
theorem aw_num : numE [45, 49, 50, 48] = 0 ∧ numV [45, 49, 50, 48] = -120 := by rw [← aw_120]; exact num_decI (by decide)
def awL : List Str := [[111, 114, 100, 101, 114], [34, 97, 32, 98, 34], [53]]
theorem aw_words : wordsL [111, 114, 100, 101, 114, 32, 34, 97, 32, 98, 34, 32, 53] = awL ∧ wordsE [111, 114, 100, 101, 114, 32, 34, 97, 32, 98, 34, 32, 53] = 0 := by
  refine words_ok ⟨?_, rfl⟩
  intro p hp
  simp only [awL, List.mem_cons, List.not_mem_nil, or_false] at hp
  rcases hp with rfl | rfl | rfl
  · exact .inl (by decide)
  · exact .inr ⟨[97, 32, 98], by decide⟩
  · exact .inl (by decide)
theorem aw_quote : quote [97, 34, 10] = [34, 97, 92, 34, 92, 110, 34] := by decide
theorem aw_join : joinP awL = [111, 114, 100, 101, 114, 32, 34, 97, 32, 98, 34, 32, 53] := rfl
theorem aw_n1 : nameOK [104, 117, 98, 95, 50] = true := by decide
theorem aw_n2 : nameOK [50, 110, 100] = false := by decide

set_option maxHeartbeats 1000000 in
set_option maxRecDepth 100000 in
theorem awake_any (w : World) (ht : Tab w) (he : ErrV w) :
    Calls Tryd.prog 10 #[] w fun e w' => e = .returned (.bool true) ∧ Below w.heap.size w w' := by
  go_enter Tryd.func10, Tryd.ntmps10
  simp only [B_mk]
  go_wp2_with fail
  refine (number_any [45, 49, 50, 48] w (by decide) he).mono ?_
  rw [aw_num.1, aw_num.2]
  rintro e w1 ⟨rfl, hb1⟩
  go_wp2_with fail
  refine (words_any [111, 114, 100, 101, 114, 32, 34, 97, 32, 98, 34, 32, 53] w1 (by decide)).mono ?_
  rw [aw_words.1, aw_words.2]
  rintro e w2 ⟨A, c, rfl, hown, hb2⟩
  have h2 := hb1.trans (hb2.mono hb1.size)
  have hl3 : awL.length = 3 := rfl
  rw [hl3] at hown ⊢
  obtain ⟨g, hgA, _, hgs, _, _⟩ := hown.at_ (by omega)
  subst hgA
  have hcap := hown.cap
  go_wp2_with fail
  refine (decimal_any (-120) w2 (by decide) (ht.below h2)).mono ?_
  rw [aw_120]
  rintro e w3 ⟨rfl, hb3⟩
  have hown3 := hown.below hb3
  have h3 := h2.trans (hb3.mono h2.size)
  go_wp2_with fail
  refine (quote_any [97, 34, 10] w3 (by decide)).mono ?_
  rw [aw_quote]
  rintro e w4 ⟨rfl, hb4⟩
  have hown4 := hown3.below hb4
  have h4 := h3.trans (hb4.mono h3.size)
  have hcell : w4.cell? ⟨g, 1, none⟩ = some (.string (B [34, 97, 32, 98, 34])) := by
    have := World.ownsRow.cellAt hown4 1 (by omega)
    exact this
  go_wp2_with fail
  refine (join_any awL (some ⟨g, 0, none⟩) c w4 hown4.cells (by rw [hl3]; omega) (by rw [aw_join]; decide) (by rw [hl3]; omega)).mono ?_
  rw [aw_join]
  rintro e w5 ⟨rfl, hb5⟩
  have h5 := h4.trans (hb5.mono h4.size)
  go_wp2_with fail
  refine (name_any [104, 117, 98, 95, 50] w5 (by unfold maxLen; decide)).mono ?_
  rw [aw_n1]
  rintro e w6 ⟨rfl, rfl⟩
  go_wp2_with fail
  refine (name_any [50, 110, 100] _ (by unfold maxLen; decide)).mono ?_
  rw [aw_n2]
  rintro e w7 ⟨rfl, rfl⟩
  go_wp2_with fail
  go_ret
  exact ⟨rfl, h5⟩

theorem textNames_walk (l : List UInt8) (w : World) (hl : l.length ≤ maxLen) (ht : Tab w) (he : ErrV w) :
    Calls Tryd.prog 3 #[.string (B l)] w fun e w' => e = .returned (.bool true) ∧ Below w.heap.size w w' := by
  by_cases h : 300 < l.length
  · have h' : (300 : Int) < (l.length : Int) := by omega
    go_enter Tryd.func3, Tryd.ntmps3
    go_wp2_with fail
    refine (awake_any w ht he).mono ?_
    rintro e w1 ⟨rfl, hb1⟩
    go_wp2_with fail
    go_ret
    exact ⟨rfl, hb1⟩
  · have h' : ¬ (300 : Int) < (l.length : Int) := by omega
    have hs := names_same l
    go_enter Tryd.func3, Tryd.ntmps3
    go_wp2_with fail
    refine (name_any l w hl).mono ?_
    rintro e w1 ⟨rfl, rfl⟩
    go_wp2_with fail
    refine (rname_any l _ hl).mono ?_
    rintro e w1 ⟨rfl, rfl⟩
    go_wp2_with fail
    refine (awake_any _ ht he).mono ?_
    rintro e w1 ⟨rfl, hb1⟩
    go_wp2_with fail
    go_ret
    exact ⟨rfl, hb1⟩
end Go.Proofs.YtdgnnahkcklepaaDoor
