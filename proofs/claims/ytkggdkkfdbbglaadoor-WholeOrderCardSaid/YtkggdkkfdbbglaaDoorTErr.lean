/- strconv.ErrRange; strconv.Itoa of any int. -/
import Derived.Test.YtkggdkkfdbbglaaDoorTNumP
import Derived.Lib.AtoiErrMem
namespace Go.Proofs.YtkggdkkfdbbglaaDoor
open Go.RowKit Num
set_option linter.unusedVariables false
attribute [local go_sem] B_size B_get B_toList B_mk B_extract B_append

/-- the variable ErrRange of strconv holds a pointer -/
def ErrV (w : World) : Prop := ∃ tp p, w.var? Tryd.prog "strconv.ErrRange" = some #[.iface tp p]
theorem ErrV.below {w w' : World} (h : ErrV w) (hb : Below w.heap.size w w') : ErrV w' := by
  obtain ⟨tp, p, h⟩ := h
  refine ⟨tp, p, ?_⟩
  rw [← h]
  unfold World.var? at h ⊢
  cases hg : Tryd.prog.globalNamed "strconv.ErrRange" with
  | none => rw [hg] at h; cases h
  | some g =>
    rw [hg] at h
    simp only [Option.bind_some] at h ⊢
    rw [hb.block g]
    rcases Nat.lt_or_ge g w.heap.size with h' | h'
    · exact h'
    · rw [Array.getElem?_eq_none h'] at h; simp at h
theorem itoaI_any (z : Int) (w : World) (hz : fits z) (ht : Tab w) :
    Calls Tryd.prog 52 #[.int .i64 z] w fun e w' => e = .returned (.string (B (decI z))) ∧ Below w.heap.size w w' := by
  refine (Tryd.strconv_Itoa z hz.1 hz.2 w ht).mono ?_
  rintro e w' ⟨rfl, k, os, rfl⟩
  refine ⟨?_, Lib.below_grow _ w (Nat.le_refl _) k os⟩
  have : Lib.itoa z = decI z := by
    unfold Lib.itoa decI
    by_cases h : z < 0
    · rw [if_pos h, if_pos h, decDigits_eq]
    · rw [if_neg h, if_neg h, decDigits_eq]
      congr 1; omega
  rw [this]; rfl
end Go.Proofs.YtkggdkkfdbbglaaDoor
