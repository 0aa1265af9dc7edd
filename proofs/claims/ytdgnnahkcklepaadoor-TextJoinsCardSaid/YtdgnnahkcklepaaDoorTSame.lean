/- law01.same; the reference's Join. -/
import Derived.Test.YtdgnnahkcklepaaDoorTRWords
import Derived.Test.YtdgnnahkcklepaaDoorTAwake
import Derived.Deep.QuietTactic
import Derived.BigQuiet
namespace Go.Proofs.YtdgnnahkcklepaaDoor
open Go.RowKit Num Txt
set_option linter.unusedVariables false
attribute [local go_sem] B_size B_get B_toList B_mk B_extract B_append

theorem joinP_take_succ {ps : List Str} {k : Nat} (hk : k < ps.length) : joinP (ps.take (k + 1)) = if k = 0 then ps.getD 0 [] else joinP (ps.take k) ++ 32 :: ps.getD k [] := by
  rw [List.take_succ_eq_append_getElem hk]
  by_cases h : k = 0
  · subst h; simp [joinP, List.getD, hk]
  · rw [if_neg h, joinP_append (by intro e; have := congrArg List.length e; rw [List.length_take, List.length_nil] at this; omega) (by simp)]
    simp [joinP, List.getD, hk]

theorem same_any (ps : List Str) (A1 A2 : Option Addr) (c1 c2 : Nat) (w : World) (h1 : Cells w A1 (strs ps)) (h2 : Cells w A2 (strs ps)) (hc1 : ps.length ≤ c1) (hc2 : ps.length ≤ c2) (hn : ps.length ≤ 1000000) :
    Calls Tryd.prog 22 #[.slice A1 ps.length c1, .slice A2 ps.length c2] w fun e w' => e = .returned (.bool true) ∧ Below w.heap.size w w' := by
  have e0 : ((ps.length : Int) != (ps.length : Int)) = false := by simp
  by_cases h0 : ps.length = 0
  · rw [h0] at e0 ⊢
    go_enter Tryd.func22, Tryd.ntmps22
    go_wp2_with fail
    go_loopw [5] (fun i wr => i = .int .i64 0 ∧ wr = w) (fun _ _ => 0)
    case atStart => exact ⟨rfl, by trivial⟩
    case round =>
      obtain ⟨rfl, rfl⟩ := hrel
      go_wp2_with fail
      go_ret
      exact ⟨rfl, Below.refl _ _⟩
  · obtain ⟨b1, o1, rfl, hb1, hx1⟩ := h1 (by rw [strs_length]; omega)
    obtain ⟨b2, o2, rfl, hb2, hx2⟩ := h2 (by rw [strs_length]; omega)
    clear h1 h2
    go_enter Tryd.func22, Tryd.ntmps22
    go_wp2_with fail
    go_loopw [5] (fun i wr => ∃ k : Nat, k ≤ ps.length ∧ i = .int .i64 k ∧ Below w.heap.size w wr) (fun i _ => ps.length - (intOf i).toNat)
    case atStart => exact ⟨0, by omega, rfl, Below.refl _ _⟩
    case round =>
      obtain ⟨k, hk, rfl, hbel⟩ := hrel
      by_cases hlt : k < ps.length
      · have y1 : wr.cell? ⟨b1, o1 + k, none⟩ = some (.string (B (ps.getD k []))) := (hbel.cell (p := ⟨b1, o1 + k, none⟩) hb1).trans (hx1 k _ (strs_get ps k hlt))
        have y2 : wr.cell? ⟨b2, o2 + k, none⟩ = some (.string (B (ps.getD k []))) := (hbel.cell (p := ⟨b2, o2 + k, none⟩) hb2).trans (hx2 k _ (strs_get ps k hlt))
        generalize ps.getD k [] = x at *
        have e1 : (x != x) = false := by simp
        have hkl : (k : Int) < (ps.length : Int) := by omega
        go_wp2_with fail
        go_quiet (fail)
        have hb0 : Below w.heap.size w (wr.drewN ‹Nat›) := below_drewN hbel _
        generalize wr.drewN ‹Nat› = w2 at *
        go_wp2_with fail
        go_roundw
        case rel => exact ⟨k + 1, by omega, by go_num, hb0⟩
        case measure => simp [intOf]; omega
      · go_wp2_with fail
        go_ret
        exact ⟨rfl, hbel⟩
end Go.Proofs.YtdgnnahkcklepaaDoor
