/- The table of this program's types, and what holds of the program. No conditions. -/
import Derived.Test.YtgoimoadaeijkaaRows
import Derived.Test.YtgoimoadaeijkaaVcZf
namespace Go.Proofs.Ytgoimoadaeijkaa
open Go.Vq
def ty : List (Nat × Td) := [(2, ⟨.int .i64, [.int .i64], 8⟩),
  (3, ⟨.int .i64, [.int .i64], 8⟩),
  (4, ⟨.bool, [.bool], 1⟩),
  (5, ⟨.int .u8, [.int .u8], 1⟩),
  (22, ⟨.slice 3, [.sl [.int .i64]], 24⟩),
  (23, ⟨.struct [(0, 1, false), (1, 1, false), (2, 1, false)], [.int .i64, .sl [.int .i64], .sl [.int .i64]], 56⟩),
  (24, ⟨.struct [(0, 1, false), (1, 1, false), (2, 1, false)], [.int .i64, .sl [.int .i64], .sl [.int .i64]], 56⟩),
  (27, ⟨.struct [(0, 1, false), (1, 1, false), (2, 1, false)], [.int .i64, .sl [.int .i64], .sl [.int .i64]], 56⟩),
  (35, ⟨.slice 5, [.sl [.int .u8]], 24⟩),
  (53, ⟨.struct [(0, 1, false), (1, 1, false), (2, 1, false)], [.sl [.int .u8], .int .i64, .int .i64], 40⟩),
  (54, ⟨.struct [(0, 1, false), (1, 1, false), (2, 1, false)], [.sl [.int .u8], .int .i64, .int .i64], 40⟩),
  (56, ⟨.int .u64, [.int .u64], 8⟩)]
theorem ty_ok : TyOk Try.prog ty := by unfold TyOk; kernel_rfl
theorem mixed : Try.prog.follows .mixedOrders = true := by kernel_rfl
end Go.Proofs.Ytgoimoadaeijkaa
