/- text.Quote; the reference's form, Quote. -/
import Derived.Test.YtdgnnahkcklepaaDoorTForm
import Derived.Test.YtdgnnahkcklepaaDoorTRDec
import Derived.Deep.QuietTactic
import Derived.BigQuiet
namespace Go.Proofs.YtdgnnahkcklepaaDoor
open Go.RowKit Num Txt
set_option linter.unusedVariables false
attribute [local go_sem] B_size B_get B_toList B_mk B_extract B_append

theorem snoc_bytes (a : List UInt8) (c : UInt8) : bytes a ++ [.int .u8 c.toNat] = bytes (a ++ [c]) := by simp [bytes]
theorem form_len (c : UInt8) : (form c).length ≤ 4 := by unfold form; split <;> (try split) <;> (try split) <;> simp
theorem forms_len (t : List UInt8) : (forms t).length ≤ 4 * t.length := by
  induction t with
  | nil => simp [forms]
  | cons c t ih => rw [forms_cons, List.length_append, List.length_cons]; have := form_len c; omega
theorem quote_len (t : List UInt8) : (quote t).length = (forms t).length + 2 := by simp [quote]
theorem forms_take (l : List UInt8) (k : Nat) (h : k < l.length) : forms (l.take (k + 1)) = forms (l.take k) ++ form (at8 l k) := by
  rw [List.take_succ_eq_append_getElem h, forms_snoc, at8_eq l k h]

set_option maxHeartbeats 1000000 in
theorem quote_any (l : List UInt8) (w : World) (hl : l.length ≤ 10000) :
    Calls Tryd.prog 15 #[.string (B l)] w fun e w' => e = .returned (.string (B (quote l))) ∧ Below w.heap.size w w' := by
  have HQ := Lib.hid (show quote l = 34 :: forms (l.take l.length) ++ [34] by rw [List.take_of_length_le (Nat.le_refl _)]; rfl)
  go_enter Tryd.func15, Tryd.ntmps15
  simp only [B_mk]
  go_wp2_with (first
    | (refine wp_mk0 el_byte rfl _ _ rfl w.heap.size _ _ _ _ (l.length + 2) rfl rfl (by omega) (by omega) (by unfold maxLen; omega) (Nat.le_refl _) ?_; intro A0 w0 hown0 hb0)
    | (at_builtin; refine wp_app1 el_byte rfl _ _ rfl w.heap.size _ _ _ _ _ _ rfl hown0 rfl rfl (by unfold maxLen; omega) (by omega) hb0.size ?_; intro A1 c1 w1 hown1 hb1))
  have hown2 : OwnS w1 w.heap.size 5 A1 (34 :: forms (l.take 0)).length c1 (bytes (34 :: forms (l.take 0))) := by simpa [bytes, forms] using hown1
  have hbel := hb0.trans hb1
  clear hown1 hown0 hb0 hb1
  go_loopw [3, 4, 14] (fun v _ i wr => ∃ (k : Nat) (A : Option Addr) (c : Nat), k ≤ l.length ∧ i = .int .i64 k ∧ v = .slice A (34 :: forms (l.take k)).length c ∧ OwnS wr w.heap.size 5 A (34 :: forms (l.take k)).length c (bytes (34 :: forms (l.take k))) ∧ Below w.heap.size w wr) (fun _ _ i _ => l.length - (intOf i).toNat)
  case atStart => exact ⟨0, A1, c1, Nat.zero_le _, rfl, rfl, hown2, hbel⟩
  case round =>
    obtain ⟨k, A, c, hk, rfl, rfl, hown, hbelr⟩ := hrel
    have hfl := forms_len (l.take k)
    have hfl2 : (34 :: forms (l.take k)).length ≤ 40001 := by rw [List.length_cons]; rw [List.length_take] at hfl; omega
    clear hown2 hbel hfl
    by_cases hlt : k < l.length
    · have HF := Lib.hid (forms_take l k hlt)
      go_wp2_with fail
      refine (form_any _ A _ c (at8 l k) w.heap.size wr hown hbelr.size (by omega)).mono ?_
      rintro e w2 ⟨A', c', rfl, hown', hb'⟩
      go_wp2_with fail
      go_roundw
      case rel =>
        have e1 : (34 :: forms (l.take k)) ++ form (at8 l k) = 34 :: forms (l.take (k + 1)) := by rw [HF.out]; rfl
        have e2 : (34 :: forms (l.take k)).length + (form (at8 l k)).length = (34 :: forms (l.take (k + 1))).length := by rw [← e1, List.length_append]
        rw [e1, e2] at hown'
        exact ⟨k + 1, A', c', by omega, by go_num, congrArg (fun n => Value.slice A' n c') e2, hown', hbelr.trans hb'⟩
      case measure => simp [intOf]; omega
    · obtain rfl : k = l.length := by omega
      generalize hq : 34 :: forms (l.take l.length) = q at *
      have HQ2 := Lib.hid hq
      clear hq
      go_wp2_with (at_builtin; refine wp_app1 el_byte rfl _ _ rfl w.heap.size _ _ _ (bytes q) _ (.int .u8 34) rfl hown rfl rfl (by unfold maxLen; omega) (by omega) hbelr.size ?_; intro A' c' w1 hown1 hb1; obtain ⟨g, hgA, _⟩ := hown1.at_ (by omega); subst hgA; have cv := conv_bytes g (q.length + 1) c' w.heap.size (q ++ [34]) w1 (by simp) (by rw [← snoc_bytes]; exact hown1))
      go_ret
      exact ⟨ret_str (by rw [HQ.out]), hbelr.trans hb1⟩

theorem hexL_sub : ∀ n, n < 16 → (hexL.take (n + 1)).drop n = [hexd n] := by decide
set_option maxHeartbeats 1000000 in
set_option maxRecDepth 100000 in
theorem rform_any (c : UInt8) (w : World) : Calls Tryd.prog 34 #[.int .u8 c.toNat] w fun e w' => e = .returned (.string (B (form c))) ∧ Below w.heap.size w w' := by
  have hc := c.toNat_lt
  have e1 := u8_eq c 34
  have e2 := u8_eq c 92
  have e3 := u8_eq c 10
  simp only [show ((34 : UInt8).toNat : Int) = 34 from rfl, show ((92 : UInt8).toNat : Int) = 92 from rfl, show ((10 : UInt8).toNat : Int) = 10 from rfl] at e1 e2 e3
  by_cases hq : c = 34
  · subst hq
    go_enter Tryd.func34, Tryd.ntmps34
    simp only [B_mk]
    go_wp2_with fail
    go_ret
    exact ⟨rfl, Below.refl _ _⟩
  · by_cases hb : c = 92
    · subst hb
      go_enter Tryd.func34, Tryd.ntmps34
      simp only [B_mk]
      go_wp2_with fail
      go_ret
      exact ⟨rfl, Below.refl _ _⟩
    · by_cases hn : c = 10
      · subst hn
        go_enter Tryd.func34, Tryd.ntmps34
        simp only [B_mk]
        go_wp2_with fail
        go_ret
        exact ⟨rfl, Below.refl _ _⟩
      · have hqb : ¬ (c = 34 ∨ c = 92) := by rintro (h | h); exact hq h; exact hb h
        have h1 : decide (c = 34) = false := by simpa using hq
        have h2 : decide (c = 92) = false := by simpa using hb
        have h3 : decide (c = 10) = false := by simpa using hn
        rw [h1] at e1; rw [h2] at e2; rw [h3] at e3
        by_cases hx : c.toNat < 32 ∨ 126 < c.toNat
        · have HF := Lib.hid (form_hex hqb hn hx)
          have S1 := Lib.hid (hexL_sub (c.toNat / 16) (by omega))
          have S2 := Lib.hid (hexL_sub (c.toNat % 16) (by omega))
          clear hqb h1 h2 h3 hq hb hn
          have i1 : ((c.toNat : Int) / 16).toNat = c.toNat / 16 := by omega
          have i2 : ((c.toNat : Int) % 16).toNat = c.toNat % 16 := by omega
          have i3 : 0 ≤ (c.toNat : Int) / 16 := by omega
          have i4 : (c.toNat : Int) / 16 < 16 := by omega
          have i5 : 0 ≤ (c.toNat : Int) % 16 := by omega
          have i6 : (c.toNat : Int) % 16 < 16 := by omega
          rcases hx with hx | hx
          · have hx' : (c.toNat : Int) < 32 := by omega
            go_enter Tryd.func34, Tryd.ntmps34
            simp only [B_mk]
            go_wp2_with fail
            go_quiet (fail)
            go_wp2_with fail
            go_ret
            refine ⟨ret_str ?_, ?_⟩
            · have a1 := S1.out
              have a2 := S2.out
              simp only [hexL, List.take_succ_cons] at a1 a2
              rw [HF.out, a1, a2]; rfl
            · exact (below_drewN (Below.refl _ _) _)
          · have hx' : ¬ (c.toNat : Int) < 32 := by omega
            have hx'' : (126 : Int) < (c.toNat : Int) := by omega
            go_enter Tryd.func34, Tryd.ntmps34
            simp only [B_mk]
            go_wp2_with fail
            go_quiet (fail)
            go_wp2_with fail
            go_ret
            refine ⟨ret_str ?_, ?_⟩
            · have a1 := S1.out
              have a2 := S2.out
              simp only [hexL, List.take_succ_cons] at a1 a2
              rw [HF.out, a1, a2]; rfl
            · exact (below_drewN (Below.refl _ _) _)
        · have HF := Lib.hid (form_plain hqb hn hx)
          have hx1 : ¬ (c.toNat : Int) < 32 := by omega
          have hx2 : (c.toNat : Int) ≤ 126 := by omega
          clear hx hqb h1 h2 h3 hq hb hn
          have cv := one_byte w c.toNat (by omega) (by omega)
          go_enter Tryd.func34, Tryd.ntmps34
          simp only [B_mk]
          go_wp2_with fail
          go_ret
          exact ⟨ret_str (by rw [HF.out]), (Below.refl _ _).alloc (Nat.le_refl _) _⟩

set_option maxHeartbeats 1000000 in
theorem rquote_any (l : List UInt8) (w : World) (hl : l.length ≤ 10000) :
    Calls Tryd.prog 18 #[.string (B l)] w fun e w' => e = .returned (.string (B (quote l))) ∧ Below w.heap.size w w' := by
  have HQ := Lib.hid (show quote l = 34 :: forms (l.take l.length) ++ [34] by rw [List.take_of_length_le (Nat.le_refl _)]; rfl)
  have hown2 : OwnS (w.alloc (.cells #[.int .u8 34] 5)) w.heap.size 5 (some ⟨w.heap.size, 0, none⟩) (34 :: forms (l.take 0)).length 1 (bytes (34 :: forms (l.take 0))) :=
    OwnS.lit w 5 #[.int .u8 34] w.heap.size 1 (Nat.le_refl _) rfl (by unfold maxLen; omega)
  have hbel : Below w.heap.size w (w.alloc (.cells #[.int .u8 34] 5)) := (Below.refl _ _).alloc (Nat.le_refl _) _
  go_enter Tryd.func18, Tryd.ntmps18
  simp only [B_mk]
  go_wp2_with fail
  go_loopw [3, 4] (fun v i wr => ∃ (k : Nat) (A : Option Addr) (c : Nat), k ≤ l.length ∧ i = .int .i64 k ∧ v = .slice A (34 :: forms (l.take k)).length c ∧ OwnS wr w.heap.size 5 A (34 :: forms (l.take k)).length c (bytes (34 :: forms (l.take k))) ∧ Below w.heap.size w wr) (fun _ i _ => l.length - (intOf i).toNat)
  case atStart => exact ⟨0, _, 1, Nat.zero_le _, rfl, rfl, hown2, hbel⟩
  case round =>
    obtain ⟨k, A, c, hk, rfl, rfl, hown, hbelr⟩ := hrel
    have hfl := forms_len (l.take k)
    have hfl2 : (34 :: forms (l.take k)).length ≤ 40001 := by rw [List.length_cons]; rw [List.length_take] at hfl; omega
    clear hown2 hbel hfl
    by_cases hlt : k < l.length
    · have HF := Lib.hid (forms_take l k hlt)
      go_wp2_with fail
      refine (rform_any (at8 l k) wr).mono ?_
      rintro e w2 ⟨rfl, hb2⟩
      have hown2 := hown.below hb2
      have hbel2 := hbelr.trans (hb2.mono hbelr.size)
      have hfm := form_len (at8 l k)
      go_wp2_with (at_builtin; refine wp_apps rfl _ _ rfl w.heap.size _ _ _ (34 :: forms (l.take k)) _ (form (at8 l k)) rfl hown2 rfl (by omega) hbel2.size ?_; intro A' c' w3 hown3 hb3)
      go_roundw
      case rel =>
        have e1 : (34 :: forms (l.take k)) ++ form (at8 l k) = 34 :: forms (l.take (k + 1)) := by rw [HF.out]; rfl
        have e2 : (34 :: forms (l.take k)).length + (form (at8 l k)).length = (34 :: forms (l.take (k + 1))).length := by rw [← e1, List.length_append]
        rw [e1, e2] at hown3
        exact ⟨k + 1, A', c', by omega, by go_num, congrArg (fun n => Value.slice A' n c') e2, hown3, hbel2.trans hb3⟩
      case measure => simp [intOf]; omega
    · obtain rfl : k = l.length := by omega
      generalize hq : 34 :: forms (l.take l.length) = q at *
      have HQ2 := Lib.hid hq
      clear hq
      go_wp2_with (at_builtin; refine wp_app1 el_byte rfl _ _ rfl w.heap.size _ _ _ (bytes q) _ (.int .u8 34) rfl hown rfl rfl (by unfold maxLen; omega) (by omega) hbelr.size ?_; intro A' c' w1 hown1 hb1; obtain ⟨g, hgA, _⟩ := hown1.at_ (by omega); subst hgA; have cv := conv_bytes g (q.length + 1) c' w.heap.size (q ++ [34]) w1 (by simp) (by rw [← snoc_bytes]; exact hown1))
      go_ret
      exact ⟨ret_str (by rw [HQ.out]), hbelr.trans hb1⟩
end Go.Proofs.YtdgnnahkcklepaaDoor
