/- the reference's Decimal. -/
import Derived.Test.YtdgnnahkcklepaaDoorTRNum
namespace Go.Proofs.YtdgnnahkcklepaaDoor
open Go.RowKit Num Txt
set_option linter.unusedVariables false
attribute [local go_sem] B_size B_get B_toList B_mk B_extract B_append

theorem one_byte (w : World) (c : Int) (h0 : 0 ≤ c) (h1 : c ≤ 255) :
    (convert 44 9 (.slice (some ⟨w.heap.size, 0, none⟩) 1 1)).run Tryd.prog (w.alloc (.cells #[.int .u8 c] 5)) = .ok (.string (B [UInt8.ofNat c.toNat])) (w.alloc (.cells #[.int .u8 c] 5)) := by
  have := OwnS.lit w 5 #[.int .u8 c] w.heap.size 1 (Nat.le_refl _) rfl (by unfold maxLen; omega)
  have e : (#[Value.int .u8 c]).toList = bytes [UInt8.ofNat c.toNat] := by
    simp only [bytes, List.map_cons, List.map_nil, UInt8.toNat_ofNat']
    congr 2; omega
  rw [e] at this
  exact conv_bytes _ _ _ _ _ _ rfl this
theorem dec_step (m : Nat) : dec m = (if m / 10 ≠ 0 then dec (m / 10) else []) ++ [dch (m % 10)] := by
  rw [dec]
  by_cases h : m < 10
  · rw [dif_pos h, if_neg (by omega), Nat.mod_eq_of_lt h]; rfl
  · rw [dif_neg h, if_pos (by omega)]
theorem tail_len {a b c : Str} (h : a = b ++ c) (ha : a.length ≤ 20) : c.length ≤ 20 := by rw [h, List.length_append] at ha; omega
theorem rdecimal_any (z : Int) (w : World) (hz : fits z) :
    Calls Tryd.prog 14 #[.int .i64 z] w fun e w' => e = .returned (.string (B (decI z))) ∧ Below w.heap.size w w' := by
  have HL := Lib.hid (dec_len20 hz)
  have HZ := Lib.hid (show decI z = if z < 0 then 45 :: dec z.natAbs else dec z.natAbs from rfl)
  unfold fits at hz
  go_enter Tryd.func14, Tryd.ntmps14
  simp only [B_mk]
  go_wp2_with fail
  go_loopw [3, 4, 5, 6] (fun s l a _ wr => ∃ (x : Int) (t : Str) (b : Bool), s = .string (B t) ∧ l = .int .i64 x ∧ a = .bool b ∧ -9223372036854775808 ≤ x ∧ x ≤ 9223372036854775807 ∧ dec z.natAbs = (if b = true then dec x.natAbs else []) ++ t ∧ Below w.heap.size w wr)
    (fun _ l a _ _ => match a with | .bool true => 1 + (intOf l).natAbs | _ => 0)
  case atStart => exact ⟨z, [], true, rfl, rfl, rfl, hz.1, hz.2, by simp, Below.refl _ _⟩
  case round =>
    obtain ⟨x, t, b, rfl, rfl, rfl, hx1, hx2, hd, hbel⟩ := hrel
    have htl := tail_len hd HL.out
    have HD := Lib.hid hd
    clear hd
    cases b with
    | true =>
      have c1 := one_byte wr (48 + Int.tmod x 10)
      have c2 := one_byte wr (48 + -Int.tmod x 10)
      have TM := Lib.hid (tmod_abs x)
      have TD := Lib.hid (tdiv_abs x)
      have DS := Lib.hid (dec_step x.natAbs)
      have hm1 : -9 ≤ Int.tmod x 10 := by have := TM.out; omega
      have hm2 : Int.tmod x 10 ≤ 9 := by have := TM.out; omega
      have hq : Int.tdiv x 10 ≤ 9223372036854775807 ∧ -9223372036854775808 ≤ Int.tdiv x 10 := by have := TD.out; omega
      obtain ⟨hq1, hq2⟩ := hq
      by_cases hneg : Int.tmod x 10 < 0
      · have c3 := c2 (by omega) (by omega)
        have HC := Lib.hid (show UInt8.ofNat (48 + -Int.tmod x 10).toNat = dch (x.natAbs % 10) by
          unfold dch; congr 1; have := TM.out; omega)
        clear c1 c2
        by_cases hq0 : Int.tdiv x 10 = 0
        · have hqt : (Int.tdiv x 10 != 0) = false := by simp [hq0]
          have HQ := Lib.hid hq0
          clear hq0
          go_wp2_with fail
          go_roundw
          case rel =>
            refine ⟨Int.tdiv x 10, _, false, rfl, rfl, rfl, hq2, hq1, ?_, hbel.alloc hbel.size _⟩
            rw [HD.out, if_pos rfl, DS.out, HC.out]
            have := TD.out
            have := HQ.out
            rw [if_neg (by omega)]; rfl
          case measure =>
            show 0 < _
            simp [intOf]; omega
        · have hqt : (Int.tdiv x 10 != 0) = true := by simp [hq0]
          have HQ := Lib.hid hq0
          clear hq0
          go_wp2_with fail
          go_roundw
          case rel =>
            refine ⟨Int.tdiv x 10, _, true, rfl, rfl, rfl, hq2, hq1, ?_, hbel.alloc hbel.size _⟩
            rw [HD.out, if_pos rfl, DS.out, HC.out]
            have := TD.out
            have := HQ.out
            rw [if_pos (by omega), if_pos rfl, ← TD.out]
            simp
          case measure =>
            have := TD.out
            have := HQ.out
            have e : x.natAbs.div 10 = x.natAbs / 10 := rfl
            simp [intOf]; omega
      · have c3 := c1 (by omega) (by omega)
        have HC := Lib.hid (show UInt8.ofNat (48 + Int.tmod x 10).toNat = dch (x.natAbs % 10) by
          unfold dch; congr 1; have := TM.out; omega)
        clear c1 c2
        by_cases hq0 : Int.tdiv x 10 = 0
        · have hqt : (Int.tdiv x 10 != 0) = false := by simp [hq0]
          have HQ := Lib.hid hq0
          clear hq0
          go_wp2_with fail
          go_roundw
          case rel =>
            refine ⟨Int.tdiv x 10, _, false, rfl, rfl, rfl, hq2, hq1, ?_, hbel.alloc hbel.size _⟩
            rw [HD.out, if_pos rfl, DS.out, HC.out]
            have := TD.out
            have := HQ.out
            rw [if_neg (by omega)]; rfl
          case measure =>
            show 0 < _
            simp [intOf]; omega
        · have hqt : (Int.tdiv x 10 != 0) = true := by simp [hq0]
          have HQ := Lib.hid hq0
          clear hq0
          go_wp2_with fail
          go_roundw
          case rel =>
            refine ⟨Int.tdiv x 10, _, true, rfl, rfl, rfl, hq2, hq1, ?_, hbel.alloc hbel.size _⟩
            rw [HD.out, if_pos rfl, DS.out, HC.out]
            have := TD.out
            have := HQ.out
            rw [if_pos (by omega), if_pos rfl, ← TD.out]
            simp
          case measure =>
            have := TD.out
            have := HQ.out
            have e : x.natAbs.div 10 = x.natAbs / 10 := rfl
            simp [intOf]; omega
    | false =>
      have HT := Lib.hid (show t = dec z.natAbs by rw [HD.out]; rfl)
      by_cases h : z < 0
      · have HF := Lib.hid (show 45 :: t = decI z by rw [HZ.out, if_pos h, HT.out])
        go_wp2_with fail
        go_ret
        exact ⟨ret_str HF.out, hbel⟩
      · have HF := Lib.hid (show t = decI z by rw [HZ.out, if_neg h, HT.out])
        go_wp2_with fail
        go_ret
        exact ⟨ret_str HF.out, hbel⟩
end Go.Proofs.YtdgnnahkcklepaaDoor
