/- text.Words, Join. -/
import Derived.Test.YtdgnnahkcklepaaDoorTPart
import Derived.Test.YtdgnnahkcklepaaDoorStrs
import Derived.Lib.Join
namespace Go.Proofs.YtdgnnahkcklepaaDoor
open Go.RowKit Num Txt
set_option linter.unusedVariables false
attribute [local go_sem] B_size B_get B_toList B_mk B_extract B_append

def wInv (l s : Str) (os : List Str) : Prop := (∀ p ∈ os, isPart p) ∧ ((os = [] ∧ s = l) ∨ (os ≠ [] ∧ s ≠ [] ∧ l = joinP os ++ 32 :: s))
theorem wInv_start (l : Str) : wInv l l [] := ⟨by simp, .inl ⟨rfl, rfl⟩⟩
/-- a line that goes on goes on with a part -/
theorem wInv_line {l s : Str} {os ps : List Str} (h : wInv l s os) (hs : s ≠ []) (hl : lineOK l ps) : ∃ p ps', lineOK s (p :: ps') := by
  obtain ⟨ho, ⟨rfl, rfl⟩ | ⟨h1, h2, h3⟩⟩ := h
  · cases ps with
    | nil => exact absurd hl.2 hs
    | cons p ps => exact ⟨p, ps, hl⟩
  · rw [h3] at hl
    obtain ⟨ps', h4, _, h6⟩ := line_split os ps s h1 hs ho hl
    cases ps' with
    | nil => exact absurd rfl h4
    | cons p ps' => exact ⟨p, ps', h6⟩
theorem words_bad0 {l s : Str} {os : List Str} (h : wInv l s os) (hs : s ≠ []) (hn : partN s = 0) : wordsL l = [] ∧ wordsE l = 3 := words_no (fun ps hl => by
  obtain ⟨p, ps', h1⟩ := wInv_line h hs hl
  have h2 := (line_head h1).1
  have h3 := List.length_pos_iff.2 (isPart_ne (h1.1 p (by simp)))
  omega)
theorem words_bad1 {l s : Str} {os : List Str} (h : wInv l s os) (hs : s ≠ []) (hn : partN s < s.length) (hb : at8 s (partN s) ≠ 32 ∨ partN s + 1 = s.length) : wordsL l = [] ∧ wordsE l = 3 := words_no (fun ps hl => by
  obtain ⟨p, ps', h1⟩ := wInv_line h hs hl
  obtain ⟨h2, h3⟩ := line_head h1
  rcases h3 with ⟨_, e⟩ | ⟨hne, e⟩
  · rw [h2, e] at hn; omega
  · have h4 := joinP_ne hne (fun q hq => h1.1 q (by simp [hq]))
    rw [h2] at hb
    rcases hb with hb | hb
    · apply hb
      rw [e]; unfold at8; simp
    · rw [e, List.length_append, List.length_cons] at hb
      have := List.length_pos_iff.2 h4
      omega)
theorem words_last {l s : Str} {os : List Str} (h : wInv l s os) (hs : s ≠ []) (hn : partN s = s.length) : wordsL l = os ++ [s] ∧ wordsE l = 0 := by
  have hp : isPart s := by
    have := (isPart_of (s := s) (by rw [hn]; exact List.length_pos_iff.2 hs)).1
    rwa [hn, List.take_of_length_le (Nat.le_refl _)] at this
  obtain ⟨ho, h1⟩ := h
  refine words_ok ⟨?_, ?_⟩
  · intro p hp'
    rw [List.mem_append] at hp'
    rcases hp' with hp' | hp'
    · exact ho p hp'
    · simp at hp'; rw [hp']; exact hp
  · rcases h1 with ⟨rfl, rfl⟩ | ⟨h1, h2, h3⟩
    · rfl
    · rw [joinP_append h1 (by simp)]; exact h3
theorem words_step {l s : Str} {os : List Str} (h : wInv l s os) (h0 : 0 < partN s) (hn : partN s + 1 < s.length) (hb : at8 s (partN s) = 32) : wInv l (s.drop (partN s + 1)) (os ++ [s.take (partN s)]) := by
  have hp := (isPart_of h0).1
  obtain ⟨ho, h1⟩ := h
  have hs : s = s.take (partN s) ++ 32 :: s.drop (partN s + 1) := by
    conv => lhs; rw [← List.take_append_drop (partN s) s]
    rw [drop_at (by omega), hb]
  refine ⟨?_, .inr ⟨by simp, ?_, ?_⟩⟩
  · intro p hp'
    rw [List.mem_append] at hp'
    rcases hp' with hp' | hp'
    · exact ho p hp'
    · simp at hp'; rw [hp']; exact hp
  · intro e
    have := congrArg List.length e
    rw [List.length_drop, List.length_nil] at this; omega
  · rcases h1 with ⟨rfl, rfl⟩ | ⟨h1, h2, h3⟩
    · exact hs
    · rw [joinP_append h1 (by simp), h3]
      conv => lhs; rw [hs]
      simp [joinP]
theorem words_empty {l : Str} {os : List Str} (h : wInv l [] os) : os = [] ∧ wordsL l = [] ∧ wordsE l = 0 := by
  obtain ⟨_, ⟨rfl, rfl⟩ | ⟨_, h2, _⟩⟩ := h
  · exact ⟨rfl, words_ok ⟨by simp, rfl⟩⟩
  · exact absurd rfl h2

theorem ret_ti {A A' : Option Addr} {n m c c' : Nat} {a b : Int} (hA : A = A') (h : n = m) (hc : c = c') (h2 : a = b) : Ending.returned (.tuple #[.slice A n c, .int .i64 a]) = .returned (.tuple #[.slice A' m c', .int .i64 b]) := by rw [hA, h, hc, h2]

set_option maxHeartbeats 1000000 in
theorem words_any (l : List UInt8) (w : World) (hl : l.length ≤ 100000) :
    Calls Tryd.prog 19 #[.string (B l)] w fun e w' => ∃ A c, e = .returned (.tuple #[.slice A (wordsL l).length c, .int .i64 (wordsE l)]) ∧ OwnS w' w.heap.size 9 A (wordsL l).length c (strs (wordsL l)) ∧ Below w.heap.size w w' := by
  go_enter Tryd.func19, Tryd.ntmps19
  simp only [B_mk]
  go_wp2_with fail
  go_loopw [0, 4, 5] (fun sv v _ wr => ∃ (s : List UInt8) (os : List (List UInt8)) (A : Option Addr) (c : Nat), sv = .string (B s) ∧ v = .slice A os.length c ∧ wInv l s os ∧ os.length + s.length ≤ l.length ∧ OwnS wr w.heap.size 9 A os.length c (strs os) ∧ Below w.heap.size w wr) (fun sv _ _ _ => match sv with | .string s => s.size | _ => 0)
  case atStart => exact ⟨l, [], none, 0, rfl, rfl, wInv_start l, by simp, OwnS.nil _ _ _, Below.refl _ _⟩
  case round =>
    obtain ⟨s, os, A, c, rfl, rfl, hinv, hsz, hown, hbel⟩ := hrel
    have HI := Lib.hid hinv
    clear hinv
    by_cases h0 : s = []
    · subst h0
      have HE := words_empty HI.out
      obtain ⟨rfl, he⟩ := HE
      have HB := Lib.hid he
      clear he
      go_wp2_with fail
      go_ret2
      rw [HB.out.1, HB.out.2]
      exact ⟨A, c, rfl, hown, hbel⟩
    have h1 : (s == []) = false := by simpa using h0
    have h1' : (!(s == [])) = true := by simpa using h0
    have h1'' : (s != []) = true := by simpa using h0
    have hspos : 0 < s.length := List.length_pos_iff.2 h0
    have B0 := Lib.hid (words_bad0 HI.out h0)
    have B1 := Lib.hid (words_bad1 HI.out h0)
    have BL := Lib.hid (words_last HI.out h0)
    have BS := Lib.hid (@words_step l s os HI.out)
    have PL := Lib.hid (fun h => (@isPart_of s h).2)
    clear h0
    go_wp2_with fail
    refine (part_any s wr (by omega)).mono ?_
    rintro e w2 ⟨rfl, hb2⟩
    have hown2 := hown.below hb2
    have hbel2 := hbel.trans (hb2.mono hbel.size)
    clear hown hb2 hbel
    generalize partN s = n at *
    by_cases hn0 : n = 0
    · have HB := Lib.hid (B0.out hn0)
      have e1 : ((n : Int) == 0) = true := by simp; omega
      clear hn0
      go_wp2_with fail
      go_ret2
      rw [HB.out.1, HB.out.2]
      exact ⟨none, 0, rfl, OwnS.nil _ _ _, hbel2⟩
    have e1 : ((n : Int) == 0) = false := by rw [beq_eq_false_iff_ne]; omega
    have hnl := PL.out (by omega)
    by_cases hnn : n = s.length
    · have HB := Lib.hid (BL.out hnn)
      have e2 : ((n : Int) == (s.length : Int)) = true := by simp; omega
      clear hn0 hnn
      go_wp2_with (at_builtin; refine wp_app1 el_string rfl _ _ rfl w.heap.size _ _ _ (strs os) _ (.string (B s)) rfl hown2 rfl rfl (by unfold maxLen; omega) (by omega) hbel2.size ?_; intro A' c' w3 hown3 hb3)
      go_ret2
      rw [snoc_strs] at hown3
      rw [HB.out.1, HB.out.2]
      exact ⟨A', c', by simp, by simpa using hown3, hbel2.trans hb3⟩
    have e2 : ((n : Int) == (s.length : Int)) = false := by rw [beq_eq_false_iff_ne]; omega
    have hlt0 : (n : Int) < (s.length : Int) := by omega
    by_cases hb : at8 s n = 32
    · have e3 : (((at8 s n).toNat : Int) != 32) = false := by rw [hb]; rfl
      by_cases hend : n + 1 = s.length
      · have HB := Lib.hid (B1.out (by omega) (.inr hend))
        have e4 : (((n : Int) + 1) == (s.length : Int)) = true := by simp; omega
        clear hn0 hnn hb hend
        go_wp2_with fail
        go_ret2
        rw [HB.out.1, HB.out.2]
        exact ⟨none, 0, rfl, OwnS.nil _ _ _, hbel2⟩
      · have HB := Lib.hid (BS.out (by omega) (by omega) hb)
        have e4 : (((n : Int) + 1) == (s.length : Int)) = false := by rw [beq_eq_false_iff_ne]; omega
        have hlt : n + 1 < s.length := by omega
        clear hn0 hnn hb hend
        go_wp2_with (at_builtin; refine wp_app1 el_string rfl _ _ rfl w.heap.size _ _ _ (strs os) _ (.string (B (s.take n))) rfl hown2 rfl rfl (by unfold maxLen; omega) (by omega) hbel2.size ?_; intro A' c' w3 hown3 hb3)
        go_roundw
        case rel => 
          rw [snoc_strs] at hown3
          exact ⟨s.drop (n + 1), os ++ [s.take n], A', c', by simp, by simp, HB.out, by simp; omega, by simpa using hown3, hbel2.trans hb3⟩
        case measure => simp [B_size]; omega
    · have HB := Lib.hid (B1.out (by omega) (.inl hb))
      have e3 : (((at8 s n).toNat : Int) != 32) = true := by have := u8_not hb; simp at this ⊢; omega
      clear hn0 hnn hb
      go_wp2_with fail
      go_ret2
      rw [HB.out.1, HB.out.2]
      exact ⟨none, 0, rfl, OwnS.nil _ _ _, hbel2⟩

theorem join_joinP : ∀ ps : List Str, Lib.join ps [32] = joinP ps := by
  intro ps
  induction ps with
  | nil => rfl
  | cons p r ih =>
    cases r with
    | nil => simp [Lib.join, joinP, List.intercalate]
    | cons q r =>
      rw [joinP]
      rw [← ih]
      simp [Lib.join, List.intercalate]
theorem join_any (ps : List Str) (A : Option Addr) (c : Nat) (w : World) (hc : Cells w A (strs ps)) (hn : ps.length ≤ c) (hl : (joinP ps).length ≤ 1000000000) (hl2 : ps.length ≤ 1000000000) :
    Calls Tryd.prog 21 #[.slice A ps.length c] w fun e w' => e = .returned (.string (B (joinP ps))) ∧ Below w.heap.size w w' := by
  have key : Calls Tryd.prog 37 #[.slice A ps.length c, .string (B [32])] w fun e w' => e = .returned (.string (B (joinP ps))) ∧ Below w.heap.size w w' := by
    by_cases h0 : ps = []
    · subst h0
      refine (Tryd.strings_Join_none A c (B [32]) w).mono ?_
      rintro e w' ⟨rfl, rfl⟩
      exact ⟨rfl, Below.refl _ _⟩
    · obtain ⟨b, off, rfl, hb, hcell⟩ := hc (by rw [strs_length]; exact List.length_pos_iff.2 h0)
      have hm : (ps.map B).map (fun x => x.data.toList) = ps := by
        rw [List.map_map]
        conv => rhs; rw [← List.map_id ps]
        apply List.map_congr_left
        intro x _
        simp [B]
      have hs : (B [32]).data.toList = [32] := rfl
      have := Tryd.strings_Join b off c (ps.map B) (B [32]) w (by
        intro j x hj
        apply hcell j (.string x)
        rw [List.getElem?_map] at hj
        unfold strs
        rw [List.getElem?_map]
        cases h : ps[j]? with
        | none => rw [h] at hj; cases hj
        | some y => rw [h] at hj; injection hj with hj; rw [← hj]; rfl) hb (by rw [List.length_map]; omega) (by rw [List.length_map]; exact hn) (by rw [hm, hs, join_joinP]; omega)
      rw [List.length_map, hm, hs, join_joinP] at this
      exact this
  go_enter Tryd.func21, Tryd.ntmps21
  simp only [B_mk]
  go_wp2_with fail
  refine key.mono ?_
  rintro e w' ⟨rfl, hb⟩
  go_wp2_with fail
  go_ret
  exact ⟨rfl, hb⟩
end Go.Proofs.YtdgnnahkcklepaaDoor
