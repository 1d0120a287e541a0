/- The table of this program's types, and what holds of the program. No conditions. -/
import Derived.Test.YtaipkkbpgdpffaaRows
import Derived.Test.YtaipkkbpgdpffaaVcZf
namespace Go.Proofs.Ytaipkkbpgdpffaa
open Go.Vq
def ty : List (Nat × Td) := [(2, ⟨.int .i64, [.int .i64], 8⟩),
  (3, ⟨.int .i64, [.int .i64], 8⟩),
  (4, ⟨.bool, [.bool], 1⟩),
  (5, ⟨.int .u8, [.int .u8], 1⟩),
  (22, ⟨.slice 26, [.sl [.int .i64, .int .i64, .int .i64]], 24⟩),
  (23, ⟨.struct [(0, 1, false), (1, 1, false)], [.int .i64, .sl [.int .i64, .int .i64, .int .i64]], 32⟩),
  (24, ⟨.struct [(0, 1, false), (1, 1, false)], [.int .i64, .sl [.int .i64, .int .i64, .int .i64]], 32⟩),
  (25, ⟨.struct [(0, 1, false), (1, 1, false), (2, 1, false)], [.int .i64, .int .i64, .int .i64], 24⟩),
  (26, ⟨.struct [(0, 1, false), (1, 1, false), (2, 1, false)], [.int .i64, .int .i64, .int .i64], 24⟩),
  (28, ⟨.slice 34, [.sl [.int .i64, .int .i64, .int .i64]], 24⟩),
  (29, ⟨.struct [(0, 1, false), (1, 1, false)], [.int .i64, .sl [.int .i64, .int .i64, .int .i64]], 32⟩),
  (30, ⟨.struct [(0, 1, false), (1, 1, false)], [.int .i64, .sl [.int .i64, .int .i64, .int .i64]], 32⟩),
  (34, ⟨.struct [(0, 1, false), (1, 1, false), (2, 1, false)], [.int .i64, .int .i64, .int .i64], 24⟩),
  (39, ⟨.slice 5, [.sl [.int .u8]], 24⟩),
  (44, ⟨.slice 3, [.sl [.int .i64]], 24⟩),
  (84, ⟨.slice 30, [.sl [.int .i64, .sl [.int .i64, .int .i64, .int .i64]]], 24⟩),
  (88, ⟨.slice 4, [.sl [.bool]], 24⟩),
  (93, ⟨.struct [(0, 1, false), (1, 1, false), (2, 1, false)], [.sl [.int .u8], .int .i64, .int .i64], 40⟩),
  (94, ⟨.struct [(0, 1, false), (1, 1, false), (2, 1, false)], [.sl [.int .u8], .int .i64, .int .i64], 40⟩),
  (98, ⟨.int .u64, [.int .u64], 8⟩)]
theorem ty_ok : TyOk Try.prog ty := by unfold TyOk; kernel_rfl
theorem mixed : Try.prog.follows .mixedOrders = true := by kernel_rfl
end Go.Proofs.Ytaipkkbpgdpffaa
