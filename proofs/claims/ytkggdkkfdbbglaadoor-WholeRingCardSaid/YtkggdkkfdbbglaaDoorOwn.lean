/- The Nat package's slices of limbs. -/
import Derived.Test.YtkggdkkfdbbglaaDoorOwnG
namespace Go.Proofs.YtkggdkkfdbbglaaDoor
open Go.RowKit
theorem el_number : Elem Tryd.prog 67 3 (.int .i64 0) 8 := ⟨Tryd.underlying67, info_parts int_info, rfl⟩
end Go.Proofs.YtkggdkkfdbbglaaDoor
