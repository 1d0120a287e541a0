/-
  No cell of these rows narrows 'for every input' (looked for: loops, veiled, ifaces, maps, wideKeys, modest, calm, conditions, laid).
  DERIVED. THE GIVEN ROWS OF THIS SEAT. 10 by the template 'for every input the law returns true; each argument reads behind the call as it read before'; 0 by the template 'total and deterministic' (their statements: YtcibheinilkcoaaTotals.lean).
  GIVEN WITH THE SEED: the statements are not yours to turn. If you find one false, say at which input.
  Laid BY PROGRAM, IN A SANDBOX (cutbox-rows.mjs): the forced cells as the released guide's own fill.sh prints them over the translation d26812fc6a274878… (all of the seat's roots in one cut). By AI agents, Wed Nov 11 2026. No macro, syntax, notation, axiom, sorry.
-/
import Derived.Test.YtcibheinilkcoaaChecked
import GoSem.Claim
import GoSem.ClaimJoined
import GoSem.ClaimMapViews
import Derived.JoinedTies
import Derived.KernelRfl
namespace Go.Proofs.Ytcibheinilkcoaa
/- THE CELL 'sum', in the pinned program and in every row, IS THE sha256 OF THE DUMP (.gsa) THAT YtcibheinilkcoaaProg.lean LOADS. Nothing in Lean hashes anything: it is a label: what it is worth is what the hold of that sum in a sandbox is worth. -/
noncomputable def Try.pinned : Pinned := { name := "ytcibheinilkcoaa", sum := "d26812fc6a274878353ad2b7f66305fa7fe5eee4b9069538b3339df285e5f99c", checked := Try.checked }
namespace Rows
def none {H : Type} : Left H := { results := [], args := [] }

/-- 'laws.FnExactOrderOk': WHATEVER THE INPUT: true; the input reads as it did. -/
def fnExactOrderOkSpec : ChangeSpec := { name := "fnExactOrderOk", fn := fun _ => fun
  | [d] => { results := [.lit (.bool true)], args := [d] }
  | _ => none }
def fnExactOrderOkRow : OpenClaim := { program := "ytcibheinilkcoaa", sum := "d26812fc6a274878353ad2b7f66305fa7fe5eee4b9069538b3339df285e5f99c", func := "loop.example/g03304/laws.FnExactOrderOk", spec := "fnExactOrderOk", apart := false }
def FnExactOrderOkSaid : Prop := fnExactOrderOkRow.holds Try.pinned (OpenSpec.ofChange fnExactOrderOkSpec)

/-- ITS FALSE NEIGHBOUR: 'it returns false'. Refute it at one input. -/
def fnExactOrderOkWrong : ChangeSpec := { name := "fnExactOrderOk", fn := fun _ => fun
  | [d] => { results := [.lit (.bool false)], args := [d] }
  | _ => none }
def FnExactOrderOkWrongFalsely : Prop := fnExactOrderOkRow.holds Try.pinned (OpenSpec.ofChange fnExactOrderOkWrong)

/-- 'laws.FnExactQuiltSize': WHATEVER THE INPUT: true; the input reads as it did. -/
def fnExactQuiltSizeSpec : ChangeSpec := { name := "fnExactQuiltSize", fn := fun _ => fun
  | [d] => { results := [.lit (.bool true)], args := [d] }
  | _ => none }
def fnExactQuiltSizeRow : OpenClaim := { program := "ytcibheinilkcoaa", sum := "d26812fc6a274878353ad2b7f66305fa7fe5eee4b9069538b3339df285e5f99c", func := "loop.example/g03304/laws.FnExactQuiltSize", spec := "fnExactQuiltSize", apart := false }
def FnExactQuiltSizeSaid : Prop := fnExactQuiltSizeRow.holds Try.pinned (OpenSpec.ofChange fnExactQuiltSizeSpec)

/-- ITS FALSE NEIGHBOUR: 'it returns false'. Refute it at one input. -/
def fnExactQuiltSizeWrong : ChangeSpec := { name := "fnExactQuiltSize", fn := fun _ => fun
  | [d] => { results := [.lit (.bool false)], args := [d] }
  | _ => none }
def FnExactQuiltSizeWrongFalsely : Prop := fnExactQuiltSizeRow.holds Try.pinned (OpenSpec.ofChange fnExactQuiltSizeWrong)

/-- 'laws.FnExactTurnQuilt': WHATEVER THE INPUT: true; the input reads as it did. -/
def fnExactTurnQuiltSpec : ChangeSpec := { name := "fnExactTurnQuilt", fn := fun _ => fun
  | [d1, d2] => { results := [.lit (.bool true)], args := [d1, d2] }
  | _ => none }
def fnExactTurnQuiltRow : OpenClaim := { program := "ytcibheinilkcoaa", sum := "d26812fc6a274878353ad2b7f66305fa7fe5eee4b9069538b3339df285e5f99c", func := "loop.example/g03304/laws.FnExactTurnQuilt", spec := "fnExactTurnQuilt", apart := false }
def FnExactTurnQuiltSaid : Prop := fnExactTurnQuiltRow.holds Try.pinned (OpenSpec.ofChange fnExactTurnQuiltSpec)

/-- ITS FALSE NEIGHBOUR: 'it returns false'. Refute it at one input. -/
def fnExactTurnQuiltWrong : ChangeSpec := { name := "fnExactTurnQuilt", fn := fun _ => fun
  | [d1, d2] => { results := [.lit (.bool false)], args := [d1, d2] }
  | _ => none }
def FnExactTurnQuiltWrongFalsely : Prop := fnExactTurnQuiltRow.holds Try.pinned (OpenSpec.ofChange fnExactTurnQuiltWrong)

/-- 'laws.FnExactShiftQuilt': WHATEVER THE INPUT: true; the input reads as it did. -/
def fnExactShiftQuiltSpec : ChangeSpec := { name := "fnExactShiftQuilt", fn := fun _ => fun
  | [d1, d2, d3, d4] => { results := [.lit (.bool true)], args := [d1, d2, d3, d4] }
  | _ => none }
def fnExactShiftQuiltRow : OpenClaim := { program := "ytcibheinilkcoaa", sum := "d26812fc6a274878353ad2b7f66305fa7fe5eee4b9069538b3339df285e5f99c", func := "loop.example/g03304/laws.FnExactShiftQuilt", spec := "fnExactShiftQuilt", apart := false }
def FnExactShiftQuiltSaid : Prop := fnExactShiftQuiltRow.holds Try.pinned (OpenSpec.ofChange fnExactShiftQuiltSpec)

/-- ITS FALSE NEIGHBOUR: 'it returns false'. Refute it at one input. -/
def fnExactShiftQuiltWrong : ChangeSpec := { name := "fnExactShiftQuilt", fn := fun _ => fun
  | [d1, d2, d3, d4] => { results := [.lit (.bool false)], args := [d1, d2, d3, d4] }
  | _ => none }
def FnExactShiftQuiltWrongFalsely : Prop := fnExactShiftQuiltRow.holds Try.pinned (OpenSpec.ofChange fnExactShiftQuiltWrong)

/-- 'laws.FnExactLeastShift': WHATEVER THE INPUT: true; the input reads as it did. -/
def fnExactLeastShiftSpec : ChangeSpec := { name := "fnExactLeastShift", fn := fun _ => fun
  | [d1, d2] => { results := [.lit (.bool true)], args := [d1, d2] }
  | _ => none }
def fnExactLeastShiftRow : OpenClaim := { program := "ytcibheinilkcoaa", sum := "d26812fc6a274878353ad2b7f66305fa7fe5eee4b9069538b3339df285e5f99c", func := "loop.example/g03304/laws.FnExactLeastShift", spec := "fnExactLeastShift", apart := false }
def FnExactLeastShiftSaid : Prop := fnExactLeastShiftRow.holds Try.pinned (OpenSpec.ofChange fnExactLeastShiftSpec)

/-- ITS FALSE NEIGHBOUR: 'it returns false'. Refute it at one input. -/
def fnExactLeastShiftWrong : ChangeSpec := { name := "fnExactLeastShift", fn := fun _ => fun
  | [d1, d2] => { results := [.lit (.bool false)], args := [d1, d2] }
  | _ => none }
def FnExactLeastShiftWrongFalsely : Prop := fnExactLeastShiftRow.holds Try.pinned (OpenSpec.ofChange fnExactLeastShiftWrong)

/-- 'laws.FnExactPiecesFor': WHATEVER THE INPUT: true; the input reads as it did. -/
def fnExactPiecesForSpec : ChangeSpec := { name := "fnExactPiecesFor", fn := fun _ => fun
  | [d] => { results := [.lit (.bool true)], args := [d] }
  | _ => none }
def fnExactPiecesForRow : OpenClaim := { program := "ytcibheinilkcoaa", sum := "d26812fc6a274878353ad2b7f66305fa7fe5eee4b9069538b3339df285e5f99c", func := "loop.example/g03304/laws.FnExactPiecesFor", spec := "fnExactPiecesFor", unfollowed := true, recurses := true, apart := false }
def FnExactPiecesForSaid : Prop := fnExactPiecesForRow.holds Try.pinned (OpenSpec.ofChange fnExactPiecesForSpec)

/-- ITS FALSE NEIGHBOUR: 'it returns false'. Refute it at one input. -/
def fnExactPiecesForWrong : ChangeSpec := { name := "fnExactPiecesFor", fn := fun _ => fun
  | [d] => { results := [.lit (.bool false)], args := [d] }
  | _ => none }
def FnExactPiecesForWrongFalsely : Prop := fnExactPiecesForRow.holds Try.pinned (OpenSpec.ofChange fnExactPiecesForWrong)

/-- 'laws.FnExactBestView': WHATEVER THE INPUT: true; the input reads as it did. -/
def fnExactBestViewSpec : ChangeSpec := { name := "fnExactBestView", fn := fun _ => fun
  | [d1, d2] => { results := [.lit (.bool true)], args := [d1, d2] }
  | _ => none }
def fnExactBestViewRow : OpenClaim := { program := "ytcibheinilkcoaa", sum := "d26812fc6a274878353ad2b7f66305fa7fe5eee4b9069538b3339df285e5f99c", func := "loop.example/g03304/laws.FnExactBestView", spec := "fnExactBestView", unfollowed := true, recurses := true, apart := false }
def FnExactBestViewSaid : Prop := fnExactBestViewRow.holds Try.pinned (OpenSpec.ofChange fnExactBestViewSpec)

/-- ITS FALSE NEIGHBOUR: 'it returns false'. Refute it at one input. -/
def fnExactBestViewWrong : ChangeSpec := { name := "fnExactBestView", fn := fun _ => fun
  | [d1, d2] => { results := [.lit (.bool false)], args := [d1, d2] }
  | _ => none }
def FnExactBestViewWrongFalsely : Prop := fnExactBestViewRow.holds Try.pinned (OpenSpec.ofChange fnExactBestViewWrong)

/-- 'laws.FnQuilts': WHATEVER THE INPUT: true; the input reads as it did. -/
def fnQuiltsSpec : ChangeSpec := { name := "fnQuilts", fn := fun _ => fun
  | [d] => { results := [.lit (.bool true)], args := [d] }
  | _ => none }
def fnQuiltsRow : OpenClaim := { program := "ytcibheinilkcoaa", sum := "d26812fc6a274878353ad2b7f66305fa7fe5eee4b9069538b3339df285e5f99c", func := "loop.example/g03304/laws.FnQuilts", spec := "fnQuilts", unfollowed := true, recurses := true, apart := false }
def FnQuiltsSaid : Prop := fnQuiltsRow.holds Try.pinned (OpenSpec.ofChange fnQuiltsSpec)

/-- ITS FALSE NEIGHBOUR: 'it returns false'. Refute it at one input. -/
def fnQuiltsWrong : ChangeSpec := { name := "fnQuilts", fn := fun _ => fun
  | [d] => { results := [.lit (.bool false)], args := [d] }
  | _ => none }
def FnQuiltsWrongFalsely : Prop := fnQuiltsRow.holds Try.pinned (OpenSpec.ofChange fnQuiltsWrong)

/-- 'laws.FnExactSwapRounds': WHATEVER THE INPUT: true; the input reads as it did. -/
def fnExactSwapRoundsSpec : ChangeSpec := { name := "fnExactSwapRounds", fn := fun _ => fun
  | [d] => { results := [.lit (.bool true)], args := [d] }
  | _ => none }
def fnExactSwapRoundsRow : OpenClaim := { program := "ytcibheinilkcoaa", sum := "d26812fc6a274878353ad2b7f66305fa7fe5eee4b9069538b3339df285e5f99c", func := "loop.example/g03304/laws.FnExactSwapRounds", spec := "fnExactSwapRounds", apart := false }
def FnExactSwapRoundsSaid : Prop := fnExactSwapRoundsRow.holds Try.pinned (OpenSpec.ofChange fnExactSwapRoundsSpec)

/-- ITS FALSE NEIGHBOUR: 'it returns false'. Refute it at one input. -/
def fnExactSwapRoundsWrong : ChangeSpec := { name := "fnExactSwapRounds", fn := fun _ => fun
  | [d] => { results := [.lit (.bool false)], args := [d] }
  | _ => none }
def FnExactSwapRoundsWrongFalsely : Prop := fnExactSwapRoundsRow.holds Try.pinned (OpenSpec.ofChange fnExactSwapRoundsWrong)

/-- 'laws.FnOrders': WHATEVER THE INPUT: true; the input reads as it did. -/
def fnOrdersSpec : ChangeSpec := { name := "fnOrders", fn := fun _ => fun
  | [d] => { results := [.lit (.bool true)], args := [d] }
  | _ => none }
def fnOrdersRow : OpenClaim := { program := "ytcibheinilkcoaa", sum := "d26812fc6a274878353ad2b7f66305fa7fe5eee4b9069538b3339df285e5f99c", func := "loop.example/g03304/laws.FnOrders", spec := "fnOrders", unfollowed := true, recurses := true, apart := false }
def FnOrdersSaid : Prop := fnOrdersRow.holds Try.pinned (OpenSpec.ofChange fnOrdersSpec)

/-- ITS FALSE NEIGHBOUR: 'it returns false'. Refute it at one input. -/
def fnOrdersWrong : ChangeSpec := { name := "fnOrders", fn := fun _ => fun
  | [d] => { results := [.lit (.bool false)], args := [d] }
  | _ => none }
def FnOrdersWrongFalsely : Prop := fnOrdersRow.holds Try.pinned (OpenSpec.ofChange fnOrdersWrong)

/- THE SECOND FORM. 'bulk': how many values and letters a reading holds, each counted each time it is reached (what is shared counts as often as it is met; a slice's spare places count too). A statement '..UptoSaid' is the law's where the arguments, and the package variables that the reading takes, are together of bulk at most 1048576: NARROWER than '..Said'. Prove '..Said' where nothing that the law and all that it calls make is longer than what came in: it says more and counts as full. Else prove '..UptoSaid'. A law counts once. -/
mutual
def uptoBulk {H : Type} : DataW H → Nat
  | .lit (.string bytes) => bytes.length + 1
  | .lit _ => 1
  | .nil => 1
  | .ptr d => uptoBulk d + 1
  | .slice elems spare => uptoBulkAll elems + uptoBulkAll spare + 1
  | .agg parts => uptoBulkAll parts + 1
  | .iface _ d => uptoBulk d + 1
  | .map entries => uptoBulkEntries entries + 1
  | .held _ => 1
def uptoBulkAll {H : Type} : List (DataW H) → Nat
  | [] => 0
  | d :: r => uptoBulk d + uptoBulkAll r
def uptoBulkEntries {H : Type} : List (Lit × DataW H) → Nat
  | [] => 0
  | x :: r => uptoBulkEntry x + uptoBulkEntries r
def uptoBulkEntry {H : Type} : Lit × DataW H → Nat
  | (.string bytes, d) => bytes.length + uptoBulk d + 1
  | (_, d) => uptoBulk d + 1
 end
def uptoSmall : (H : Type) → List (DataW H) → Bool := fun _ ds => decide (uptoBulkAll ds ≤ 1048576)
def OpenSpec.upto (s : _root_.Go.ChangeSpec) : _root_.Go.OpenSpec := { _root_.Go.OpenSpec.ofChange s with cond := some uptoSmall }

/-- 'laws.FnExactOrderOk', WHERE WHAT IT READS IS OF BULK AT MOST 1048576: true; the input reads as it did. -/
def fnExactOrderOkUptoRow : OpenClaim := { program := "ytcibheinilkcoaa", sum := "d26812fc6a274878353ad2b7f66305fa7fe5eee4b9069538b3339df285e5f99c", func := "loop.example/g03304/laws.FnExactOrderOk", spec := "fnExactOrderOk", apart := false, narrowed := true }
def FnExactOrderOkUptoSaid : Prop := fnExactOrderOkUptoRow.holds Try.pinned (OpenSpec.upto fnExactOrderOkSpec)

/-- 'laws.FnExactQuiltSize', WHERE WHAT IT READS IS OF BULK AT MOST 1048576: true; the input reads as it did. -/
def fnExactQuiltSizeUptoRow : OpenClaim := { program := "ytcibheinilkcoaa", sum := "d26812fc6a274878353ad2b7f66305fa7fe5eee4b9069538b3339df285e5f99c", func := "loop.example/g03304/laws.FnExactQuiltSize", spec := "fnExactQuiltSize", apart := false, narrowed := true }
def FnExactQuiltSizeUptoSaid : Prop := fnExactQuiltSizeUptoRow.holds Try.pinned (OpenSpec.upto fnExactQuiltSizeSpec)

/-- 'laws.FnExactTurnQuilt', WHERE WHAT IT READS IS OF BULK AT MOST 1048576: true; the input reads as it did. -/
def fnExactTurnQuiltUptoRow : OpenClaim := { program := "ytcibheinilkcoaa", sum := "d26812fc6a274878353ad2b7f66305fa7fe5eee4b9069538b3339df285e5f99c", func := "loop.example/g03304/laws.FnExactTurnQuilt", spec := "fnExactTurnQuilt", apart := false, narrowed := true }
def FnExactTurnQuiltUptoSaid : Prop := fnExactTurnQuiltUptoRow.holds Try.pinned (OpenSpec.upto fnExactTurnQuiltSpec)

/-- 'laws.FnExactShiftQuilt', WHERE WHAT IT READS IS OF BULK AT MOST 1048576: true; the input reads as it did. -/
def fnExactShiftQuiltUptoRow : OpenClaim := { program := "ytcibheinilkcoaa", sum := "d26812fc6a274878353ad2b7f66305fa7fe5eee4b9069538b3339df285e5f99c", func := "loop.example/g03304/laws.FnExactShiftQuilt", spec := "fnExactShiftQuilt", apart := false, narrowed := true }
def FnExactShiftQuiltUptoSaid : Prop := fnExactShiftQuiltUptoRow.holds Try.pinned (OpenSpec.upto fnExactShiftQuiltSpec)

/-- 'laws.FnExactLeastShift', WHERE WHAT IT READS IS OF BULK AT MOST 1048576: true; the input reads as it did. -/
def fnExactLeastShiftUptoRow : OpenClaim := { program := "ytcibheinilkcoaa", sum := "d26812fc6a274878353ad2b7f66305fa7fe5eee4b9069538b3339df285e5f99c", func := "loop.example/g03304/laws.FnExactLeastShift", spec := "fnExactLeastShift", apart := false, narrowed := true }
def FnExactLeastShiftUptoSaid : Prop := fnExactLeastShiftUptoRow.holds Try.pinned (OpenSpec.upto fnExactLeastShiftSpec)

/-- 'laws.FnExactPiecesFor', WHERE WHAT IT READS IS OF BULK AT MOST 1048576: true; the input reads as it did. -/
def fnExactPiecesForUptoRow : OpenClaim := { program := "ytcibheinilkcoaa", sum := "d26812fc6a274878353ad2b7f66305fa7fe5eee4b9069538b3339df285e5f99c", func := "loop.example/g03304/laws.FnExactPiecesFor", spec := "fnExactPiecesFor", unfollowed := true, recurses := true, apart := false, narrowed := true }
def FnExactPiecesForUptoSaid : Prop := fnExactPiecesForUptoRow.holds Try.pinned (OpenSpec.upto fnExactPiecesForSpec)

/-- 'laws.FnExactBestView', WHERE WHAT IT READS IS OF BULK AT MOST 1048576: true; the input reads as it did. -/
def fnExactBestViewUptoRow : OpenClaim := { program := "ytcibheinilkcoaa", sum := "d26812fc6a274878353ad2b7f66305fa7fe5eee4b9069538b3339df285e5f99c", func := "loop.example/g03304/laws.FnExactBestView", spec := "fnExactBestView", unfollowed := true, recurses := true, apart := false, narrowed := true }
def FnExactBestViewUptoSaid : Prop := fnExactBestViewUptoRow.holds Try.pinned (OpenSpec.upto fnExactBestViewSpec)

/-- 'laws.FnQuilts', WHERE WHAT IT READS IS OF BULK AT MOST 1048576: true; the input reads as it did. -/
def fnQuiltsUptoRow : OpenClaim := { program := "ytcibheinilkcoaa", sum := "d26812fc6a274878353ad2b7f66305fa7fe5eee4b9069538b3339df285e5f99c", func := "loop.example/g03304/laws.FnQuilts", spec := "fnQuilts", unfollowed := true, recurses := true, apart := false, narrowed := true }
def FnQuiltsUptoSaid : Prop := fnQuiltsUptoRow.holds Try.pinned (OpenSpec.upto fnQuiltsSpec)

/-- 'laws.FnExactSwapRounds', WHERE WHAT IT READS IS OF BULK AT MOST 1048576: true; the input reads as it did. -/
def fnExactSwapRoundsUptoRow : OpenClaim := { program := "ytcibheinilkcoaa", sum := "d26812fc6a274878353ad2b7f66305fa7fe5eee4b9069538b3339df285e5f99c", func := "loop.example/g03304/laws.FnExactSwapRounds", spec := "fnExactSwapRounds", apart := false, narrowed := true }
def FnExactSwapRoundsUptoSaid : Prop := fnExactSwapRoundsUptoRow.holds Try.pinned (OpenSpec.upto fnExactSwapRoundsSpec)

/-- 'laws.FnOrders', WHERE WHAT IT READS IS OF BULK AT MOST 1048576: true; the input reads as it did. -/
def fnOrdersUptoRow : OpenClaim := { program := "ytcibheinilkcoaa", sum := "d26812fc6a274878353ad2b7f66305fa7fe5eee4b9069538b3339df285e5f99c", func := "loop.example/g03304/laws.FnOrders", spec := "fnOrders", unfollowed := true, recurses := true, apart := false, narrowed := true }
def FnOrdersUptoSaid : Prop := fnOrdersUptoRow.holds Try.pinned (OpenSpec.upto fnOrdersSpec)

end Rows
end Go.Proofs.Ytcibheinilkcoaa
