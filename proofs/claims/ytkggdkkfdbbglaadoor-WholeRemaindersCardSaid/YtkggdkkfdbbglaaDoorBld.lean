/- strings.Builder. -/
import Derived.Test.YtkggdkkfdbbglaaDoorTabs
import Derived.Test.YtkggdkkfdbbglaaDoorBase
import Derived.Test.YtkggdkkfdbbglaaDoorShelf
import Derived.Lib.AppendIntMem
import Derived.WalkSmall
namespace Go.Proofs.YtkggdkkfdbbglaaDoor
open Go.RowKit Num
set_option linter.unusedVariables false
attribute [local go_sem] B_size B_get B_toList B_mk B_extract
attribute [local go_sem high] run_max2

/-- a strings.Builder in block b, of the call's own, that holds the bytes l -/
def Bld (w : World) (b : Nat) (l : List UInt8) : Prop := Lib.IsBuilderF 87 5 b b (Lib.byteCells l) w
theorem Bld.below {w w' : World} {b : Nat} {l : List UInt8} (h : Bld w b l) (hb : Below w.heap.size w w') : Bld w' b l := by
  have key : ∀ p, Lib.BuilderAtF 87 5 b b p (Lib.byteCells l) w → Lib.BuilderAtF 87 5 b b p (Lib.byteCells l) w' := by
    rintro p ⟨hB, v, hbk, hown, hne⟩
    have hlt : b < w.heap.size := by
      rcases Nat.lt_or_ge b w.heap.size with h' | h'
      · exact h'
      · rw [Array.getElem?_eq_none h'] at hbk; cases hbk
    refine ⟨hB, v, by rw [hb.block b hlt]; exact hbk, hown.kept (row := none) ⟨hb.os, hb.tape, hb.output, hb.size, fun k hk _ => hb.block k hk⟩ ?_, hne⟩
    cases hv : v.ownBlock with
    | none => exact .inl rfl
    | some k => exact .inr (by simp)
  rcases h with h | h
  · exact .inl (key _ h)
  · exact .inr (key _ h)
theorem Bld.new (w : World) : Bld (w.alloc (.cells #[.pointer none, .slice none 0 0] 87)) w.heap.size [] := by
  exact .inl (Lib.BuilderAtF.of ⟨Nat.le_refl _, .slice none 0 0, heap_alloc_new w _, World.ownsRow_nil _ _ _ _, by simp [Value.ownBlock]⟩)
theorem write_any (b : Nat) (l s : List UInt8) (w : World) (h : Bld w b l) (hl : l.length + s.length ≤ 1000000000000) :
    Calls Tryd.prog 77 #[.pointer (some ⟨b, 0, none⟩), .string (B s)] w fun e w' => e = .returned (.tuple #[.int .i64 s.length, .nilIface]) ∧ Bld w' b (l ++ s) ∧ Below b w w' := by
  have hb : b ≤ w.heap.size := by
    have : ∀ p, Lib.BuilderAtF 87 5 b b p (Lib.byteCells l) w → b ≤ w.heap.size := by
      rintro p ⟨hB, v, hbk, _⟩
      rcases Nat.lt_or_ge b w.heap.size with h' | h'
      · omega
      · rw [Array.getElem?_eq_none h'] at hbk; cases hbk
    rcases h with h | h
    · exact this _ h
    · exact this _ h
  refine (Tryd.Builder_WriteString_k b b (Lib.byteCells l) (B s) w h (by rw [Lib.byteCells_length, B_size]; omega) hb).mono ?_
  rintro e w' ⟨rfl, hb', hbel, _⟩
  rw [B_size]
  refine ⟨rfl, .inr ?_, hbel⟩
  have e1 : Lib.byteCells l ++ Lib.strCells (B s) = Lib.byteCells (l ++ s) := by rw [Lib.strCells_eq]; simp [Lib.byteCells, B]
  rw [e1] at hb'
  exact hb'
theorem bstring_any (b : Nat) (l : List UInt8) (w : World) (h : Bld w b l) (hb : b ≤ w.heap.size) :
    Calls Tryd.prog 79 #[.pointer (some ⟨b, 0, none⟩)] w fun e w' => e = .returned (.string (B l)) ∧ Bld w' b l ∧ Below b w w' := by
  refine (Tryd.Builder_String_any_k b b l w h hb).mono ?_
  rintro e w' ⟨rfl, hb', hbel, _⟩
  exact ⟨rfl, hb', hbel⟩

end Go.Proofs.YtkggdkkfdbbglaaDoor
