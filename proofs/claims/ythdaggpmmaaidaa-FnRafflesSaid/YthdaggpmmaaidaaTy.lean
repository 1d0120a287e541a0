/- The table of this program's types, and what holds of the program. No conditions. -/
import Derived.Test.YthdaggpmmaaidaaRows
import Derived.Test.YthdaggpmmaaidaaVcZf
namespace Go.Proofs.Ythdaggpmmaaidaa
open Go.Vq
def ty : List (Nat × Td) := [(2, ⟨.int .i64, [.int .i64], 8⟩),
  (3, ⟨.int .i64, [.int .i64], 8⟩),
  (4, ⟨.bool, [.bool], 1⟩),
  (5, ⟨.int .u8, [.int .u8], 1⟩),
  (24, ⟨.slice 47, [.sl [.int .i64, .int .i64]], 24⟩),
  (27, ⟨.slice 40, [.sl [.int .i64, .int .i64]], 24⟩),
  (33, ⟨.slice 5, [.sl [.int .u8]], 24⟩),
  (37, ⟨.slice 3, [.sl [.int .i64]], 24⟩),
  (39, ⟨.struct [(0, 1, false), (1, 1, false)], [.int .i64, .int .i64], 16⟩),
  (40, ⟨.struct [(0, 1, false), (1, 1, false)], [.int .i64, .int .i64], 16⟩),
  (47, ⟨.struct [(0, 1, false), (1, 1, false)], [.int .i64, .int .i64], 16⟩),
  (53, ⟨.struct [(0, 1, false), (1, 1, false), (2, 1, false)], [.sl [.int .u8], .int .i64, .int .i64], 40⟩),
  (54, ⟨.struct [(0, 1, false), (1, 1, false), (2, 1, false)], [.sl [.int .u8], .int .i64, .int .i64], 40⟩),
  (56, ⟨.int .u64, [.int .u64], 8⟩)]
theorem ty_ok : TyOk Try.prog ty := by unfold TyOk; kernel_rfl
theorem mixed : Try.prog.follows .mixedOrders = true := by kernel_rfl
end Go.Proofs.Ythdaggpmmaaidaa
