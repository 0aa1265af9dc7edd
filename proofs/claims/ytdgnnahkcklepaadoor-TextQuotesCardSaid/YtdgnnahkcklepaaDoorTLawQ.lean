/- The law TextQuotes. -/
import Derived.Test.YtdgnnahkcklepaaDoorTAwake
import Derived.Test.YtdgnnahkcklepaaDoorTRef
namespace Go.Proofs.YtdgnnahkcklepaaDoor
open Go.RowKit Num Txt
set_option linter.unusedVariables false
attribute [local go_sem] B_size B_get B_toList B_mk B_extract B_append

theorem forms_ge (b : Str) : b.length ≤ (forms b).length := by
  induction b with
  | nil => simp
  | cons c b ih => rw [forms_cons, List.length_append, List.length_cons]; have := List.length_pos_iff.2 (form_ne c); omega
theorem unq_back {l : Str} (h : unqE l = 0) : quote (unqS l) = l ∧ (unqS l).length ≤ l.length := by
  obtain ⟨t, rfl⟩ := unqE_zero h
  rw [unqS_quote]
  exact ⟨rfl, by rw [quote_len]; have := forms_ge t; omega⟩
set_option maxHeartbeats 1000000 in
theorem textQuotes_walk (l : List UInt8) (w : World) (hl : l.length ≤ maxLen) (ht : Tab w) (he : ErrV w) :
    Calls Tryd.prog 5 #[.string (B l)] w fun e w' => e = .returned (.bool true) ∧ Below w.heap.size w w' := by
  by_cases h : 300 < l.length
  · have h' : (300 : Int) < (l.length : Int) := by omega
    go_enter Tryd.func5, Tryd.ntmps5
    go_wp2_with fail
    refine (awake_any w ht he).mono ?_
    rintro e w1 ⟨rfl, hb1⟩
    go_wp2_with fail
    go_ret
    exact ⟨rfl, hb1⟩
  · have h' : ¬ (300 : Int) < (l.length : Int) := by omega
    have hq := quote_len l
    have hf := forms_len l
    have UB := Lib.hid (@unq_back l)
    have UC := Lib.hid (unqE_cases l)
    go_enter Tryd.func5, Tryd.ntmps5
    go_wp2_with fail
    refine (quote_any l w (by omega)).mono ?_
    rintro e w1 ⟨rfl, hb1⟩
    go_wp2_with fail
    refine (unquote_any (quote l) w1 (by omega)).mono ?_
    rw [unqS_quote, unqE_quote]
    rintro e w2 ⟨rfl, hb2⟩
    have h2 := hb1.trans (hb2.mono hb1.size)
    go_wp2_with fail
    refine (unquote_any l w2 (by omega)).mono ?_
    rintro e w3 ⟨rfl, hb3⟩
    have h3 := h2.trans (hb3.mono h2.size)
    go_wp2_with fail
    refine (runquote_any l w3 (by omega)).mono ?_
    rintro e w4 ⟨rfl, hb4⟩
    have h4 := h3.trans (hb4.mono h3.size)
    generalize unqS l = u at *
    generalize unqE l = E at *
    clear hq hf
    generalize hQ : quote l = q at *
    have HQ := Lib.hid hQ
    clear hQ
    have t1 : (u == u) = true := by simp
    have t2 : (E == E) = true := by simp
    have t3 : (l == l) = true := by simp
    have t4 : (q == q) = true := by simp
    by_cases h0 : E = 0
    · have q0 : (E == 0) = true := by simpa using h0
      have HB := Lib.hid (UB.out h0)
      have hul := HB.out.2
      clear h0
      go_wp2_with fail
      refine (quote_any u _ (by omega)).mono ?_
      rw [HB.out.1]
      rintro e w5 ⟨rfl, hb5⟩
      have h5 := h4.trans (hb5.mono h4.size)
      have t5 : (l != l) = false := by simp
      go_wp2_with fail
      refine (rquote_any l _ (by omega)).mono ?_
      rw [HQ.out]
      rintro e w6 ⟨rfl, hb6⟩
      have h6 := h5.trans (hb6.mono h5.size)
      go_wp2_with fail
      refine (awake_any _ (ht.below h6) (he.below h6)).mono ?_
      rintro e w7 ⟨rfl, hb7⟩
      go_wp2_with fail
      go_ret
      exact ⟨rfl, h6.trans (hb7.mono h6.size)⟩
    · have q0 : (E == 0) = false := by simpa using h0
      clear h0
      go_wp2_with fail
      refine (rquote_any l _ (by omega)).mono ?_
      rw [HQ.out]
      rintro e w6 ⟨rfl, hb6⟩
      have h6 := h4.trans (hb6.mono h4.size)
      go_wp2_with fail
      refine (awake_any _ (ht.below h6) (he.below h6)).mono ?_
      rintro e w7 ⟨rfl, hb7⟩
      go_wp2_with fail
      go_ret
      exact ⟨rfl, h6.trans (hb7.mono h6.size)⟩
end Go.Proofs.YtdgnnahkcklepaaDoor
