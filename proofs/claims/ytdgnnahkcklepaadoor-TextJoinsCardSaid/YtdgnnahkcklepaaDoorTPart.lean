/- text.quoted, word, part. -/
import Derived.Test.YtdgnnahkcklepaaDoorTUnq
namespace Go.Proofs.YtdgnnahkcklepaaDoor
open Go.RowKit Num Txt
set_option linter.unusedVariables false
attribute [local go_sem] B_size B_get B_toList B_mk B_extract B_append

def qAt (s : Str) (i : Nat) : Nat := match scan (s.drop i) with | some n => n + i | none => 0
theorem q_start (s : Str) : quotedN s = qAt s 1 := rfl
theorem q_end {s : Str} {i : Nat} (h : s.length ≤ i) : qAt s i = 0 := by unfold qAt; rw [List.drop_of_length_le h]; rfl
theorem q_quote {s : Str} {i : Nat} (h : i < s.length) (hc : at8 s i = 34) : qAt s i = i + 1 := by
  unfold qAt; rw [drop_at h, hc, scan_end]; simp; omega
theorem q_bs {s : Str} {i : Nat} (h : i < s.length) (hc : at8 s i = 92) : qAt s i = qAt s (i + 2) := by
  unfold qAt
  rw [drop_at h, hc]
  by_cases h2 : i + 1 < s.length
  · rw [drop_at h2, scan_two]
    cases scan (s.drop (i + 1 + 1)) <;> simp; omega
  · rw [List.drop_of_length_le (show s.length ≤ i + 1 by omega), List.drop_of_length_le (show s.length ≤ i + 2 by omega)]
    simp [scan]
theorem q_other {s : Str} {i : Nat} (h : i < s.length) (h1 : at8 s i ≠ 34) (h2 : at8 s i ≠ 92) : qAt s i = qAt s (i + 1) := by
  unfold qAt
  rw [drop_at h, scan_one h1 h2]
  cases scan (s.drop (i + 1)) <;> simp; omega
theorem qAt_le (s : Str) (i : Nat) : qAt s i ≤ s.length := by
  obtain ⟨k, hk⟩ : ∃ k, k = s.length - i := ⟨_, rfl⟩
  induction k using Nat.strongRecOn generalizing i with
  | _ k ih =>
    by_cases h : i < s.length
    · by_cases h1 : at8 s i = 34
      · rw [q_quote h h1]; omega
      · by_cases h2 : at8 s i = 92
        · rw [q_bs h h2]; exact ih (s.length - (i + 2)) (by omega) _ rfl
        · rw [q_other h h1 h2]; exact ih (s.length - (i + 1)) (by omega) _ rfl
    · rw [q_end (by omega)]; omega

theorem quoted_any (l : List UInt8) (w : World) (hl : l.length ≤ 1000000) :
    Calls Tryd.prog 44 #[.string (B l)] w fun e w' => e = .returned (.int .i64 (quotedN l : Nat)) ∧ w' = w := by
  have HQ := Lib.hid (q_start l)
  go_enter Tryd.func44, Tryd.ntmps44
  go_wp2_with fail
  go_loop [3] (fun i => ∃ k : Nat, k ≤ l.length + 1 ∧ i = .int .i64 k ∧ quotedN l = qAt l k) (fun i => l.length + 1 - (intOf i).toNat)
  case atStart => exact ⟨1, by omega, rfl, HQ.out⟩
  case round =>
    obtain ⟨k, hk, rfl, hq⟩ := hrel
    have HK := Lib.hid hq
    clear hq
    by_cases hlt : k < l.length
    · by_cases hb : at8 l k = 92
      · have e1 : (((at8 l k).toNat : Int) == 92) = true := u8_is hb
        have HB := Lib.hid (q_bs hlt hb)
        clear hb
        go_wp2_with fail
        go_round
        case rel => exact ⟨k + 2, by omega, by go_num, by rw [HK.out, HB.out]⟩
        case measure => simp [intOf]; omega
      · have e1 : (((at8 l k).toNat : Int) == 92) = false := u8_not hb
        by_cases hq : at8 l k = 34
        · have e2 : (((at8 l k).toNat : Int) == 34) = true := u8_is hq
          have HB := Lib.hid (q_quote hlt hq)
          clear hb hq
          go_wp2_with fail
          go_ret
          exact ⟨ret_int (by rw [HK.out, HB.out]; omega), rfl⟩
        · have e2 : (((at8 l k).toNat : Int) == 34) = false := u8_not hq
          have HB := Lib.hid (q_other hlt hq hb)
          clear hb hq
          go_wp2_with fail
          go_round
          case rel => exact ⟨k + 1, by omega, by go_num, by rw [HK.out, HB.out]⟩
          case measure => simp [intOf]; omega
    · have HB := Lib.hid (q_end (s := l) (i := k) (by omega))
      go_wp2_with fail
      go_ret
      exact ⟨ret_int (by rw [HK.out, HB.out]; rfl), rfl⟩

theorem isWord_no {s : Str} {k : Nat} (h : k < s.length) (hc : wch (at8 s k) = false) : isWord s = false := by
  unfold isWord; rw [not_all_of h hc]; simp
theorem isWord_yes {s : Str} (h : s ≠ []) (ha : s.all wch = true) : isWord s = true := by unfold isWord; rw [ha]; simp [h]
theorem wch_no1 {c : UInt8} (h : c.toNat ≤ 32) : wch c = false := by unfold wch; rw [decide_eq_false (by omega : ¬ 33 ≤ c.toNat)]; rfl
theorem wch_no2 {c : UInt8} (h : 126 < c.toNat) : wch c = false := by unfold wch; rw [decide_eq_false (by omega : ¬ c.toNat ≤ 126)]; simp
theorem wch_no3 {c : UInt8} (h : c = 34) : wch c = false := by subst h; rfl
theorem wch_yes {c : UInt8} (h : ¬ c.toNat ≤ 32) (h2 : ¬ 126 < c.toNat) (h3 : ¬ c = 34) : wch c = true := by
  unfold wch; rw [decide_eq_true (by omega : 33 ≤ c.toNat), decide_eq_true (by omega : c.toNat ≤ 126)]; simp [h3]
theorem word_any (l : List UInt8) (w : World) (hl : l.length ≤ 1000000) :
    Calls Tryd.prog 45 #[.string (B l)] w fun e w' => e = .returned (.bool (isWord l)) ∧ w' = w := by
  go_enter Tryd.func45, Tryd.ntmps45
  simp only [B_mk]
  go_wp2_with fail
  go_loop [3, 6] (fun _ i => ∃ k : Nat, k ≤ l.length ∧ i = .int .i64 k ∧ (l.take k).all wch = true) (fun _ i => l.length - (intOf i).toNat)
  case atStart => exact ⟨0, by omega, rfl, by simp⟩
  case round =>
    obtain ⟨k, hk, rfl, ha⟩ := hrel
    have HA := Lib.hid ha
    clear ha
    by_cases hlt : k < l.length
    · have NO := Lib.hid (@isWord_no l k hlt)
      by_cases h1 : (at8 l k).toNat ≤ 32
      · have HB := Lib.hid (NO.out (wch_no1 h1))
        have h1' : ((at8 l k).toNat : Int) ≤ 32 := by omega
        clear h1
        go_wp2_with fail
        go_ret
        exact ⟨ret_bool HB.out.symm, rfl⟩
      · have h1' : ¬ ((at8 l k).toNat : Int) ≤ 32 := by omega
        by_cases h2 : 126 < (at8 l k).toNat
        · have HB := Lib.hid (NO.out (wch_no2 h2))
          have h2' : (126 : Int) < ((at8 l k).toNat : Int) := by omega
          clear h1 h2
          go_wp2_with fail
          go_ret
          exact ⟨ret_bool HB.out.symm, rfl⟩
        · have h2' : ((at8 l k).toNat : Int) ≤ 126 := by omega
          by_cases h3 : at8 l k = 34
          · have HB := Lib.hid (NO.out (wch_no3 h3))
            have h3' : (((at8 l k).toNat : Int) == 34) = true := u8_is h3
            clear h1 h2 h3
            go_wp2_with fail
            go_ret
            exact ⟨ret_bool HB.out.symm, rfl⟩
          · have HB := Lib.hid (all_take_succ hlt HA.out (wch_yes h1 h2 h3))
            have h3' : (((at8 l k).toNat : Int) == 34) = false := u8_not h3
            clear h1 h2 h3
            go_wp2_with fail
            go_round
            case rel => exact ⟨k + 1, by omega, by go_num, HB.out⟩
            case measure => simp [intOf]; omega
    · have hall := HA.out
      rw [List.take_of_length_le (by omega)] at hall
      by_cases h0 : l = []
      · subst h0
        go_wp2_with fail
        go_ret
        exact ⟨rfl, rfl⟩
      · have HB := Lib.hid (isWord_yes h0 hall)
        have h0' : (l == []) = false := by simpa using h0
        have h0'' : (!(l == [])) = true := by simpa using h0
        have h0b : (l != []) = true := by simpa using h0
        clear h0 hall
        go_wp2_with fail
        go_ret
        exact ⟨ret_bool HB.out.symm, rfl⟩

theorem idx32_index : ∀ (s : Str), Lib.indexByte s 32 = if idx32 s < s.length then (idx32 s : Int) else -1 := by
  intro s
  induction s with
  | nil => rfl
  | cons c t ih =>
    unfold Lib.indexByte
    by_cases h : c = 32
    · subst h
      have : idx32 (32 :: t) = 0 := by simp [idx32]
      rw [this]; simp
    · have h2 : idx32 (c :: t) = idx32 t + 1 := by simp [idx32, h]
      rw [h2, ih]
      simp only [beq_iff_eq, h, if_false, List.length_cons]
      by_cases h3 : idx32 t < t.length
      · have h4 : ¬ ((idx32 t : Int) = -1) := by omega
        simp [h3, h4]
      · simp [h3]
theorem index32_any (l : List UInt8) (w : World) : Calls Tryd.prog 42 #[.string (B l), .int .u8 32] w fun e w' => e = .returned (.int .i64 (if idx32 l < l.length then (idx32 l : Int) else -1)) ∧ w' = w := by
  refine (Tryd.strings_IndexByte (B l) 32 w).mono ?_
  rintro e w' ⟨rfl, rfl⟩
  refine ⟨?_, rfl⟩
  have h1 : ((32 : Int)).toNat.toUInt8 = 32 := rfl
  rw [h1, show (B l).data.toList = l from by simp [B], idx32_index]
theorem unqE_cases (s : Str) : unqE s = 0 ∨ unqE s = 3 := by
  by_cases h : ∃ t, s = quote t
  · obtain ⟨t, rfl⟩ := h; exact .inl (unqE_quote t)
  · exact .inr (unq_no (fun t e => h ⟨t, e⟩)).2
theorem part_q1 {s : Str} (h : s.head? = some 34) (h2 : unqE (s.take (quotedN s)) = 0) : partN s = quotedN s := by unfold partN; rw [if_pos h, if_pos h2]
theorem part_q0 {s : Str} (h : s.head? = some 34) (h2 : unqE (s.take (quotedN s)) = 3) : partN s = 0 := by unfold partN; rw [if_pos h, if_neg (by rw [h2]; decide)]
theorem part_w1 {s : Str} (h : s.head? ≠ some 34) (h2 : isWord (s.take (idx32 s)) = true) : partN s = idx32 s := by unfold partN; rw [if_neg h, if_pos h2]
theorem part_w0 {s : Str} (h : s.head? ≠ some 34) (h2 : isWord (s.take (idx32 s)) = false) : partN s = 0 := by unfold partN; rw [if_neg h, if_neg (by rw [h2]; decide)]

theorem part_any (l : List UInt8) (w : World) (hl : l.length ≤ 1000000) :
    Calls Tryd.prog 35 #[.string (B l)] w fun e w' => e = .returned (.int .i64 (partN l : Nat)) ∧ Below w.heap.size w w' := by
  have P1 := Lib.hid (@part_q1 l)
  have P0 := Lib.hid (@part_q0 l)
  have W1 := Lib.hid (@part_w1 l)
  have W0 := Lib.hid (@part_w0 l)
  have UC := Lib.hid (unqE_cases (l.take (quotedN l)))
  have hqle : quotedN l ≤ l.length := qAt_le l 1
  have hile := idx32_le l
  by_cases hh : l.head? = some 34
  · have hne : l ≠ [] := by rintro rfl; cases hh
    have hlen : 0 < l.length := List.length_pos_iff.2 hne
    have e0 : (l == []) = false := by simpa using hne
    have e0' : (!(l == [])) = true := by simpa using hne
    have e0'' : (l != []) = true := by simpa using hne
    have e1 : (((at8 l 0).toNat : Int) == 34) = true := by
      have := at8_zero_head l hne
      rw [hh] at this; injection this with this
      exact u8_is this.symm
    have PP1 := Lib.hid (P1.out hh)
    have PP0 := Lib.hid (P0.out hh)
    clear hh hne hile
    go_enter Tryd.func35, Tryd.ntmps35
    simp only [B_mk]
    go_wp2_with fail
    refine (quoted_any l w hl).mono ?_
    rintro e w' ⟨rfl, rfl⟩
    generalize quotedN l = n at *
    go_wp2_with fail
    refine (unquote_any (l.take n) _ (by rw [List.length_take]; omega)).mono ?_
    rintro e w2 ⟨rfl, hb⟩
    rcases UC.out with hu | hu
    · have HP := Lib.hid (PP1.out hu)
      rw [hu]
      clear hu
      go_wp2_with fail
      go_ret
      exact ⟨ret_int (by rw [HP.out]), hb⟩
    · have HP := Lib.hid (PP0.out hu)
      rw [hu]
      clear hu
      go_wp2_with fail
      go_ret
      exact ⟨ret_int (by rw [HP.out]; rfl), hb⟩
  · by_cases h0 : l = []
    · subst h0
      go_enter Tryd.func35, Tryd.ntmps35
      simp only [B_mk]
      go_wp2_with fail
      refine (index32_any [] w).mono ?_
      rintro e w' ⟨rfl, rfl⟩
      rw [if_neg (by simp)]
      go_wp2_with fail
      refine (word_any [] _ (by simp)).mono ?_
      rintro e w2 ⟨rfl, rfl⟩
      go_wp2_with fail
      go_ret
      exact ⟨ret_int (by rw [W0.out (by simp) rfl]; rfl), Below.refl _ _⟩
    · have h2 : 0 < l.length := List.length_pos_iff.2 h0
      have hc : ¬ at8 l 0 = 34 := fun e => hh (by rw [at8_zero_head l h0, e])
      have h3 : (((at8 l 0).toNat : Int) == 34) = false := u8_not hc
      have h1 : (l == []) = false := by simpa using h0
      have h1' : (!(l == [])) = true := by simpa using h0
      have h1'' : (l != []) = true := by simpa using h0
      have WW1 := Lib.hid (W1.out hh)
      have WW0 := Lib.hid (W0.out hh)
      clear hh hc h0
      go_enter Tryd.func35, Tryd.ntmps35
      simp only [B_mk]
      go_wp2_with fail
      refine (index32_any l w).mono ?_
      rintro e w' ⟨rfl, rfl⟩
      generalize idx32 l = n at *
      by_cases hn : n < l.length
      · rw [if_pos hn]
        go_wp2_with fail
        refine (word_any (l.take n) _ (by rw [List.length_take]; omega)).mono ?_
        rintro e w2 ⟨rfl, rfl⟩
        cases hw : isWord (l.take n)
        · have HP := Lib.hid (WW0.out hw)
          clear hw
          go_wp2_with fail
          go_ret
          exact ⟨ret_int (by rw [HP.out]; rfl), Below.refl _ _⟩
        · have HP := Lib.hid (WW1.out hw)
          clear hw
          go_wp2_with fail
          go_ret
          exact ⟨ret_int (by rw [HP.out]), Below.refl _ _⟩
      · rw [if_neg hn]
        obtain rfl : n = l.length := by omega
        have htl : List.take l.length l = l := List.take_of_length_le (Nat.le_refl _)
        rw [htl] at WW0 WW1
        go_wp2_with fail
        refine (word_any l _ hl).mono ?_
        rintro e w2 ⟨rfl, rfl⟩
        cases hw : isWord l
        · have HP := Lib.hid (WW0.out hw)
          clear hw
          go_wp2_with fail
          go_ret
          exact ⟨ret_int (by rw [HP.out]; rfl), Below.refl _ _⟩
        · have HP := Lib.hid (WW1.out hw)
          clear hw
          go_wp2_with fail
          go_ret
          exact ⟨ret_int (by rw [HP.out]), Below.refl _ _⟩
end Go.Proofs.YtdgnnahkcklepaaDoor
