/- text.form, Quote. -/
import Derived.Test.YtdgnnahkcklepaaDoorRow
import Derived.Test.YtdgnnahkcklepaaDoorTxt2
namespace Go.Proofs.YtdgnnahkcklepaaDoor
open Go.RowKit Num Txt
set_option linter.unusedVariables false
attribute [local go_sem] B_size B_get B_toList B_mk B_extract B_append

theorem bytes_append (a b : List UInt8) : bytes (a ++ b) = bytes a ++ bytes b := by simp [bytes]
theorem bytes_one' (a : List UInt8) : ∀ u ∈ bytes a, u.oneCell' = true := by
  intro u hu; simp [bytes] at hu; obtain ⟨x, _, rfl⟩ := hu; rfl
theorem form_qb {c : UInt8} (h : c = 34 ∨ c = 92) : form c = [92, c] := by unfold form; rw [if_pos h]
theorem form_nl {c : UInt8} (h : c = 10) : form c = [92, 110] := by subst h; rfl
theorem form_hex {c : UInt8} (h : ¬ (c = 34 ∨ c = 92)) (h2 : ¬ c = 10) (h3 : c.toNat < 32 ∨ 126 < c.toNat) : form c = [92, 120, hexd (c.toNat / 16), hexd (c.toNat % 16)] := by unfold form; rw [if_neg h, if_neg h2, if_pos h3]
theorem form_plain {c : UInt8} (h : ¬ (c = 34 ∨ c = 92)) (h2 : ¬ c = 10) (h3 : ¬ (c.toNat < 32 ∨ 126 < c.toNat)) : form c = [c] := by unfold form; rw [if_neg h, if_neg h2, if_neg h3]
def hexL : List UInt8 := [48, 49, 50, 51, 52, 53, 54, 55, 56, 57, 97, 98, 99, 100, 101, 102]
theorem hexL_at : ∀ n, n < 16 → at8 hexL n = hexd n := by decide
theorem and15 : ∀ n : Nat, n < 256 → bits BinOp.and IntKind.u8 (n : Int) 15 = ((n % 16 : Nat) : Int) := by decide +kernel
theorem u8_eq (c k : UInt8) : ((c.toNat : Int) == (k.toNat : Int)) = decide (c = k) := by
  by_cases h : c = k
  · rw [h]; simp
  · have : ¬ c.toNat = k.toNat := fun e => h (UInt8.toNat_inj.1 e)
    rw [beq_eq_false_iff_ne.2 (by omega)]; simp [h]

set_option maxHeartbeats 1000000 in
set_option maxRecDepth 100000 in
theorem form_any (xs : List UInt8) (A : Option Addr) (n cp : Nat) (c : UInt8) (Bs : Nat) (w : World) (hown : OwnS w Bs 5 A n cp (bytes xs)) (hB : Bs ≤ w.heap.size) (hn : n ≤ 1000000) :
    Calls Tryd.prog 31 #[.slice A n cp, .int .u8 c.toNat] w fun e w' => ∃ A' cp', e = .returned (.slice A' (n + (form c).length) cp') ∧ OwnS w' Bs 5 A' (n + (form c).length) cp' (bytes (xs ++ form c)) ∧ Below Bs w w' := by
  have hc := c.toNat_lt
  have hal : ∀ cs, Below Bs w (w.alloc (.cells cs 5)) := fun cs => (Below.refl _ _).alloc hB _
  have e1 := u8_eq c 34
  have e2 := u8_eq c 92
  have e3 := u8_eq c 10
  simp only [show ((34 : UInt8).toNat : Int) = 34 from rfl, show ((92 : UInt8).toNat : Int) = 92 from rfl, show ((10 : UInt8).toNat : Int) = 10 from rfl] at e1 e2 e3
  by_cases hqb : c = 34 ∨ c = 92
  · have HF := Lib.hid (form_qb hqb)
    have HC := Lib.hid (show ([92, c] : List UInt8).length = 2 from rfl)
    have two : (decide (c = 34) = true) ∨ (decide (c = 34) = false ∧ decide (c = 92) = true) := by
      by_cases h : c = 34
      · exact .inl (by simp [h])
      · exact .inr ⟨by simp [h], by simpa [h] using hqb⟩
    clear hqb
    rcases two with h1 | ⟨h1, h2⟩
    all_goals
      first | rw [h1] at e1 | skip
      first | rw [h2] at e2 | skip
      have cell : Cells (w.alloc (.cells #[.int .u8 92, .int .u8 c.toNat] 5)) (some ⟨w.heap.size, 0, none⟩) (bytes [92, c]) := (OwnS.lit w 5 #[.int .u8 92, .int .u8 c.toNat] w.heap.size 2 (Nat.le_refl _) rfl (by unfold maxLen; omega)).cells
      go_enter Tryd.func31, Tryd.ntmps31
      go_wp2_with (at_builtin; refine wp_appn el_byte rfl _ _ rfl Bs _ _ _ _ _ _ 2 2 (bytes [92, c]) rfl (hown.alloc _) rfl rfl cell (bytes_one' _) (by unfold maxLen; omega) (by omega) (Nat.le_trans hB (hal _).size) ?_; intro A' c' w1 hown1 hb1)
      go_ret
      refine ⟨A', c', ?_, ?_, (hal _).trans hb1⟩
      · rw [HF.out]; rfl
      · rw [HF.out, bytes_append]; exact hown1
  · by_cases hnl : c = 10
    · have HF := Lib.hid (form_nl hnl)
      have h1 : decide (c = 34) = false := by simp; exact fun h => hqb (.inl h)
      have h2 : decide (c = 92) = false := by simp; exact fun h => hqb (.inr h)
      have h3 : decide (c = 10) = true := by simpa using hnl
      rw [h1] at e1; rw [h2] at e2; rw [h3] at e3
      clear hqb hnl h1 h2 h3
      have cell : Cells (w.alloc (.cells #[.int .u8 92, .int .u8 110] 5)) (some ⟨w.heap.size, 0, none⟩) (bytes [92, 110]) := (OwnS.lit w 5 #[.int .u8 92, .int .u8 110] w.heap.size 2 (Nat.le_refl _) rfl (by unfold maxLen; omega)).cells
      go_enter Tryd.func31, Tryd.ntmps31
      go_wp2_with (at_builtin; refine wp_appn el_byte rfl _ _ rfl Bs _ _ _ _ _ _ 2 2 (bytes [92, 110]) rfl (hown.alloc _) rfl rfl cell (bytes_one' _) (by unfold maxLen; omega) (by omega) (Nat.le_trans hB (hal _).size) ?_; intro A' c' w1 hown1 hb1)
      go_ret
      refine ⟨A', c', ?_, ?_, (hal _).trans hb1⟩
      · rw [HF.out]; rfl
      · rw [HF.out, bytes_append]; exact hown1
    · by_cases hx : c.toNat < 32 ∨ 126 < c.toNat
      · have HF := Lib.hid (form_hex hqb hnl hx)
        have h1 : decide (c = 34) = false := by simp; exact fun h => hqb (.inl h)
        have h2 : decide (c = 92) = false := by simp; exact fun h => hqb (.inr h)
        have h3 : decide (c = 10) = false := by simpa using hnl
        rw [h1] at e1; rw [h2] at e2; rw [h3] at e3
        clear hqb hnl h1 h2 h3
        have ha := and15 c.toNat (by omega)
        have i1 : ((c.toNat : Int) / 16).toNat = c.toNat / 16 := by omega
        have i2 : ((c.toNat : Int) % 16).toNat = c.toNat % 16 := by omega
        have i3 : 0 ≤ (c.toNat : Int) / 16 := by omega
        have i4 : (c.toNat : Int) / 16 < 16 := by omega
        have i5 : 0 ≤ (c.toNat : Int) % 16 := by omega
        have i6 : (c.toNat : Int) % 16 < 16 := by omega
        have H1 := hexL_at (c.toNat / 16) (by omega)
        have H2 := hexL_at (c.toNat % 16) (by omega)
        have HH1 := Lib.hid H1
        have HH2 := Lib.hid H2
        unfold hexL at H1 H2
        generalize hx1 : hexd (c.toNat / 16) = x1 at *
        generalize hx2 : hexd (c.toNat % 16) = x2 at *
        have own4 : OwnS (w.alloc (.cells #[.int .u8 92, .int .u8 120, .int .u8 x1.toNat, .int .u8 x2.toNat] 5)).drew Bs 5 A n cp (bytes xs) := hown.below (((Below.refl _ _).alloc (Nat.le_refl _) _).drew)
        have cell4 : Cells (w.alloc (.cells #[.int .u8 92, .int .u8 120, .int .u8 x1.toNat, .int .u8 x2.toNat] 5)).drew (some ⟨w.heap.size, 0, none⟩) (bytes [92, 120, x1, x2]) := (OwnS.lit w 5 #[.int .u8 92, .int .u8 120, .int .u8 x1.toNat, .int .u8 x2.toNat] w.heap.size 4 (Nat.le_refl _) rfl (by unfold maxLen; omega)).cells.below ((Below.refl _ _).drew)
        have hal4 : Below Bs w (w.alloc (.cells #[.int .u8 92, .int .u8 120, .int .u8 x1.toNat, .int .u8 x2.toNat] 5)).drew := (hal _).drew
        have hsz4 : Bs ≤ ((w.alloc (.cells #[.int .u8 92, .int .u8 120, .int .u8 x1.toNat, .int .u8 x2.toNat] 5)).drew).heap.size := Nat.le_trans hB hal4.size
        clear HH1 HH2
        rcases hx with hx | hx
        · have hx' : (c.toNat : Int) < 32 := by omega
          go_enter Tryd.func31, Tryd.ntmps31
          simp only [B_mk]
          go_wp2_with fail
          go_region_law (refine step_appn el_byte rfl _ _ rfl Bs A n cp (bytes xs) _ ⟨w.heap.size, 0, none⟩ 4 4 (bytes [92, 120, x1, x2]) rfl own4 rfl rfl cell4 (bytes_one' _) (by unfold maxLen; omega) (by omega) hsz4 ?_; intro A' c' w1 hown1 hb1)
          all_goals
            go_wp2_with fail
            go_ret
            refine ⟨A', c', ?_, ?_, hal4.trans hb1⟩
            · rw [HF.out]; rfl
            · rw [HF.out, bytes_append]; exact hown1
        · have hx' : ¬ (c.toNat : Int) < 32 := by omega
          have hx'' : (126 : Int) < (c.toNat : Int) := by omega
          go_enter Tryd.func31, Tryd.ntmps31
          simp only [B_mk]
          go_wp2_with fail
          go_region_law (refine step_appn el_byte rfl _ _ rfl Bs A n cp (bytes xs) _ ⟨w.heap.size, 0, none⟩ 4 4 (bytes [92, 120, x1, x2]) rfl own4 rfl rfl cell4 (bytes_one' _) (by unfold maxLen; omega) (by omega) hsz4 ?_; intro A' c' w1 hown1 hb1)
          all_goals
            go_wp2_with fail
            go_ret
            refine ⟨A', c', ?_, ?_, hal4.trans hb1⟩
            · rw [HF.out]; rfl
            · rw [HF.out, bytes_append]; exact hown1
      · have HF := Lib.hid (form_plain hqb hnl hx)
        have h1 : decide (c = 34) = false := by simp; exact fun h => hqb (.inl h)
        have h2 : decide (c = 92) = false := by simp; exact fun h => hqb (.inr h)
        have h3 : decide (c = 10) = false := by simpa using hnl
        rw [h1] at e1; rw [h2] at e2; rw [h3] at e3
        clear hqb hnl h1 h2 h3
        have hx1 : ¬ (c.toNat : Int) < 32 := by omega
        have hx2 : (c.toNat : Int) ≤ 126 := by omega
        clear hx
        go_enter Tryd.func31, Tryd.ntmps31
        simp only [B_mk]
        go_wp2_with (at_builtin; refine wp_app1 el_byte rfl _ _ rfl Bs _ _ _ (bytes xs) _ (.int .u8 c.toNat) rfl hown rfl rfl (by unfold maxLen; omega) (by omega) hB ?_; intro A' c' w1 hown1 hb1)
        go_ret
        refine ⟨A', c', ?_, ?_, hb1⟩
        · rw [HF.out]; rfl
        · rw [HF.out, bytes_append]; exact hown1
end Go.Proofs.YtdgnnahkcklepaaDoor
