/- nat.Div, nat.Gcd. -/
import Derived.Test.YtkggdkkfdbbglaaDoorDivide
import Derived.Deep.LoopGhost
namespace Go.Proofs.YtkggdkkfdbbglaaDoor
open Go.RowKit Num
set_option linter.unusedVariables false
attribute [local go_sem] B_size B_get B_toList B_mk B_extract
attribute [local go_sem high] run_max2

def divE (a b : List UInt8) : Int := if errT a b = 0 then (if val b = 0 then 10 else 0) else errT a b
def divQ (a b : List UInt8) : List UInt8 := if divE a b = 0 then dec (val a / val b) else []
def divR (a b : List UInt8) : List UInt8 := if divE a b = 0 then dec (val a % val b) else []

set_option maxHeartbeats 1000000 in
theorem div_any (a b : List UInt8) (w : World) (ha : a.length ≤ maxLen) (hb : b.length ≤ maxLen) (ht : Tab w) :
    Calls Tryd.prog 36 #[.string (B a), .string (B b)] w fun e w' => e = .returned (.tuple #[.string (B (divQ a b)), .string (B (divR a b)), .int .i64 (divE a b)]) ∧ Below w.heap.size w w' := by
  by_cases he : errT a b = 0
  · obtain ⟨h1, h2, h3, h4⟩ := errT_zero.1 he
    have hla := nl_len_of_text h1 h3
    have hlb := nl_len_of_text h2 h4
    by_cases h0 : val b = 0
    · have hE : divE a b = 10 := by rw [divE, if_pos he, if_pos h0]
      have HR := Lib.hid (show divQ a b = [] ∧ divR a b = [] ∧ divE a b = 10 from ⟨by rw [divQ, hE]; rfl, by rw [divR, hE]; rfl, hE⟩)
      have hlen := Lib.hid (show (nl (val b)).length = 0 by rw [h0, nl_zero]; rfl)
      clear he h0 hE
      go_enter Tryd.func36, Tryd.ntmps36
      go_wp2_with fail
      refine (two_ok a b _ h1 h2 h3 h4).mono ?_
      rintro e w1 ⟨A, c, A', c', rfl, hA, hA', hb1⟩
      rw [hlen.out]
      go_wp2_with fail
      go_ret3
      exact ⟨by rw [HR.out.1, HR.out.2.1, HR.out.2.2]; rfl, hb1⟩
    · have hE : divE a b = 0 := by rw [divE, if_pos he, if_neg h0]
      have HR := Lib.hid (show divQ a b = dec (val a / val b) ∧ divR a b = dec (val a % val b) ∧ divE a b = 0 from ⟨by rw [divQ, if_pos hE], by rw [divR, if_pos hE], hE⟩)
      have hpos : 0 < val b := by omega
      have hn1 : 0 < (nl (val b)).length := List.length_pos_iff.2 (fun e => h0 (nl_eq_nil.1 e))
      have hnb : (((nl (val b)).length : Int) == 0) = false := by rw [beq_eq_false_iff_ne]; omega
      have hq1 := nl_length_mono (Nat.div_le_self (val a) (val b))
      have hq2 := nl_length_mono (Nat.le_of_lt (Nat.mod_lt (val a) hpos))
      clear he h0 hE
      go_enter Tryd.func36, Tryd.ntmps36
      go_wp2_with fail
      refine (two_ok a b _ h1 h2 h3 h4).mono ?_
      rintro e w1 ⟨A, c, A', c', rfl, hA, hA', hb1⟩
      go_wp2_with fail
      refine (divide_any (val a) (val b) A A' c c' _ hA hA' (by omega) (by omega) hpos).mono ?_
      rintro e w2 ⟨A1, c1, A2, c2, rfl, hn1, hn2, hb2⟩
      go_wp2_with fail
      refine (string_any _ A1 c1 _ hn1 (by omega) ((ht.below hb1).below hb2)).mono ?_
      rintro e w3 ⟨rfl, hb3⟩
      go_wp2_with fail
      refine (string_any _ A2 c2 _ (hn2.below hb3) (by omega) (((ht.below hb1).below hb2).below hb3)).mono ?_
      rintro e w4 ⟨rfl, hb4⟩
      have h5 := hb1.trans (hb2.mono hb1.size)
      have h6 := h5.trans (hb3.mono h5.size)
      go_wp2_with fail
      go_ret3
      exact ⟨by rw [HR.out.1, HR.out.2.1, HR.out.2.2]; rfl, h6.trans (hb4.mono h6.size)⟩
  · have hE : divE a b = errT a b := by rw [divE, if_neg he]
    have HR := Lib.hid (show divQ a b = [] ∧ divR a b = [] ∧ divE a b = errT a b from ⟨by rw [divQ, hE, if_neg he], by rw [divR, hE, if_neg he], hE⟩)
    have hne : (errT a b != 0) = true := by simpa using he
    clear hE
    go_enter Tryd.func36, Tryd.ntmps36
    go_wp2_with fail
    refine (two_err a b _ ha hb he).mono ?_
    rintro e w1 ⟨rfl, rfl⟩
    clear he
    go_wp2_with fail
    go_ret3
    exact ⟨by rw [HR.out.1, HR.out.2.1, HR.out.2.2]; rfl, Below.refl _ _⟩

end Go.Proofs.YtkggdkkfdbbglaaDoor
