/- The table of this program's types, and what holds of the program. No conditions. -/
import Derived.Test.YtjaeandgeefpdaaRows
import Derived.Test.YtjaeandgeefpdaaVcZe
namespace Go.Proofs.Ytjaeandgeefpdaa
open Go.Vq
def ty : List (Nat × Td) := [(2, ⟨.int .i64, [.int .i64], 8⟩),
  (3, ⟨.int .i64, [.int .i64], 8⟩),
  (4, ⟨.bool, [.bool], 1⟩),
  (5, ⟨.int .u8, [.int .u8], 1⟩),
  (22, ⟨.slice 48, [.sl [.int .i64, .int .i64, .int .i64]], 24⟩),
  (25, ⟨.slice 45, [.sl [.int .i64, .int .i64, .int .i64]], 24⟩),
  (30, ⟨.slice 3, [.sl [.int .i64]], 24⟩),
  (39, ⟨.slice 5, [.sl [.int .u8]], 24⟩),
  (44, ⟨.struct [(0, 1, false), (1, 1, false), (2, 1, false)], [.int .i64, .int .i64, .int .i64], 24⟩),
  (45, ⟨.struct [(0, 1, false), (1, 1, false), (2, 1, false)], [.int .i64, .int .i64, .int .i64], 24⟩),
  (48, ⟨.struct [(0, 1, false), (1, 1, false), (2, 1, false)], [.int .i64, .int .i64, .int .i64], 24⟩),
  (55, ⟨.struct [(0, 1, false), (1, 1, false), (2, 1, false)], [.sl [.int .u8], .int .i64, .int .i64], 40⟩),
  (56, ⟨.struct [(0, 1, false), (1, 1, false), (2, 1, false)], [.sl [.int .u8], .int .i64, .int .i64], 40⟩),
  (58, ⟨.int .u64, [.int .u64], 8⟩)]
theorem ty_ok : TyOk Try.prog ty := by unfold TyOk; kernel_rfl
theorem mixed : Try.prog.follows .mixedOrders = true := by kernel_rfl
end Go.Proofs.Ytjaeandgeefpdaa
