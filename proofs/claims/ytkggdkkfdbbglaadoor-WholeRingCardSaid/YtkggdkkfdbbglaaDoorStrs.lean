/- Slices of strings. -/
import Derived.Test.YtkggdkkfdbbglaaDoorRow
namespace Go.Proofs.YtkggdkkfdbbglaaDoor
open Go.RowKit Num
def strs (ps : List Str) : List Value := ps.map fun p => Value.string (B p)
theorem strs_length (ps : List Str) : (strs ps).length = ps.length := by simp [strs]
theorem snoc_strs (ps : List Str) (p : Str) : strs ps ++ [.string (B p)] = strs (ps ++ [p]) := by simp [strs]
theorem str_info : (Tryd.prog.info? 9).map (fun i => (i.zero, i.size, i.bytes)) = some (some (.string (B [])), 1, 16) := by kernel_rfl
theorem el_string : Elem Tryd.prog 66 9 (.string (B [])) 16 := ⟨Tryd.underlying66, info_parts str_info, rfl⟩
theorem strs_get (ps : List Str) (j : Nat) (h : j < ps.length) : (strs ps)[j]? = some (.string (B (ps.getD j []))) := by simp [strs, List.getD, h]
end Go.Proofs.YtkggdkkfdbbglaaDoor
