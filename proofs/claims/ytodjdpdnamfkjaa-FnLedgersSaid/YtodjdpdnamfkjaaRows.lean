/-
  No cell of these rows narrows 'for every input' (looked for: loops, veiled, ifaces, maps, wideKeys, modest, calm, conditions, laid).
  DERIVED. THE GIVEN ROWS OF THIS SEAT. 7 by the template 'for every input the law returns true; each argument reads behind the call as it read before'; 0 by the template 'total and deterministic' (their statements: YtodjdpdnamfkjaaTotals.lean).
  GIVEN WITH THE SEED: the statements are not yours to turn. If you find one false, say at which input.
  Laid BY PROGRAM, IN A SANDBOX (cutbox-rows.mjs): the forced cells as the released guide's own fill.sh prints them over the translation aa652ed3c402a761… (all of the seat's roots in one cut). By AI agents, Wed Nov 11 2026. No macro, syntax, notation, axiom, sorry.
-/
import Derived.Test.YtodjdpdnamfkjaaChecked
import GoSem.Claim
import GoSem.ClaimJoined
import GoSem.ClaimMapViews
import Derived.JoinedTies
import Derived.KernelRfl
namespace Go.Proofs.Ytodjdpdnamfkjaa
/- THE CELL 'sum', in the pinned program and in every row, IS THE sha256 OF THE DUMP (.gsa) THAT YtodjdpdnamfkjaaProg.lean LOADS. Nothing in Lean hashes anything: it is a label: what it is worth is what the hold of that sum in a sandbox is worth. -/
noncomputable def Try.pinned : Pinned := { name := "ytodjdpdnamfkjaa", sum := "aa652ed3c402a7610ca7f95e7e28408947f3e48127a44978da1cb9389e5e0e9c", checked := Try.checked }
namespace Rows
def none {H : Type} : Left H := { results := [], args := [] }

/-- 'laws.FnExactLedgerOk': WHATEVER THE INPUT: true; the input reads as it did. -/
def fnExactLedgerOkSpec : ChangeSpec := { name := "fnExactLedgerOk", fn := fun _ => fun
  | [d] => { results := [.lit (.bool true)], args := [d] }
  | _ => none }
def fnExactLedgerOkRow : OpenClaim := { program := "ytodjdpdnamfkjaa", sum := "aa652ed3c402a7610ca7f95e7e28408947f3e48127a44978da1cb9389e5e0e9c", func := "loop.example/g03304/laws.FnExactLedgerOk", spec := "fnExactLedgerOk", apart := false }
def FnExactLedgerOkSaid : Prop := fnExactLedgerOkRow.holds Try.pinned (OpenSpec.ofChange fnExactLedgerOkSpec)

/-- ITS FALSE NEIGHBOUR: 'it returns false'. Refute it at one input. -/
def fnExactLedgerOkWrong : ChangeSpec := { name := "fnExactLedgerOk", fn := fun _ => fun
  | [d] => { results := [.lit (.bool false)], args := [d] }
  | _ => none }
def FnExactLedgerOkWrongFalsely : Prop := fnExactLedgerOkRow.holds Try.pinned (OpenSpec.ofChange fnExactLedgerOkWrong)

/-- 'laws.FnExactMovedBetween': WHATEVER THE INPUT: true; the input reads as it did. -/
def fnExactMovedBetweenSpec : ChangeSpec := { name := "fnExactMovedBetween", fn := fun _ => fun
  | [d1, d2, d3] => { results := [.lit (.bool true)], args := [d1, d2, d3] }
  | _ => none }
def fnExactMovedBetweenRow : OpenClaim := { program := "ytodjdpdnamfkjaa", sum := "aa652ed3c402a7610ca7f95e7e28408947f3e48127a44978da1cb9389e5e0e9c", func := "loop.example/g03304/laws.FnExactMovedBetween", spec := "fnExactMovedBetween", apart := false }
def FnExactMovedBetweenSaid : Prop := fnExactMovedBetweenRow.holds Try.pinned (OpenSpec.ofChange fnExactMovedBetweenSpec)

/-- ITS FALSE NEIGHBOUR: 'it returns false'. Refute it at one input. -/
def fnExactMovedBetweenWrong : ChangeSpec := { name := "fnExactMovedBetween", fn := fun _ => fun
  | [d1, d2, d3] => { results := [.lit (.bool false)], args := [d1, d2, d3] }
  | _ => none }
def FnExactMovedBetweenWrongFalsely : Prop := fnExactMovedBetweenRow.holds Try.pinned (OpenSpec.ofChange fnExactMovedBetweenWrong)

/-- 'laws.FnExactBalanceOf': WHATEVER THE INPUT: true; the input reads as it did. -/
def fnExactBalanceOfSpec : ChangeSpec := { name := "fnExactBalanceOf", fn := fun _ => fun
  | [d1, d2] => { results := [.lit (.bool true)], args := [d1, d2] }
  | _ => none }
def fnExactBalanceOfRow : OpenClaim := { program := "ytodjdpdnamfkjaa", sum := "aa652ed3c402a7610ca7f95e7e28408947f3e48127a44978da1cb9389e5e0e9c", func := "loop.example/g03304/laws.FnExactBalanceOf", spec := "fnExactBalanceOf", apart := false }
def FnExactBalanceOfSaid : Prop := fnExactBalanceOfRow.holds Try.pinned (OpenSpec.ofChange fnExactBalanceOfSpec)

/-- ITS FALSE NEIGHBOUR: 'it returns false'. Refute it at one input. -/
def fnExactBalanceOfWrong : ChangeSpec := { name := "fnExactBalanceOf", fn := fun _ => fun
  | [d1, d2] => { results := [.lit (.bool false)], args := [d1, d2] }
  | _ => none }
def FnExactBalanceOfWrongFalsely : Prop := fnExactBalanceOfRow.holds Try.pinned (OpenSpec.ofChange fnExactBalanceOfWrong)

/-- 'laws.FnExactBookSum': WHATEVER THE INPUT: true; the input reads as it did. -/
def fnExactBookSumSpec : ChangeSpec := { name := "fnExactBookSum", fn := fun _ => fun
  | [d1, d2] => { results := [.lit (.bool true)], args := [d1, d2] }
  | _ => none }
def fnExactBookSumRow : OpenClaim := { program := "ytodjdpdnamfkjaa", sum := "aa652ed3c402a7610ca7f95e7e28408947f3e48127a44978da1cb9389e5e0e9c", func := "loop.example/g03304/laws.FnExactBookSum", spec := "fnExactBookSum", apart := false }
def FnExactBookSumSaid : Prop := fnExactBookSumRow.holds Try.pinned (OpenSpec.ofChange fnExactBookSumSpec)

/-- ITS FALSE NEIGHBOUR: 'it returns false'. Refute it at one input. -/
def fnExactBookSumWrong : ChangeSpec := { name := "fnExactBookSum", fn := fun _ => fun
  | [d1, d2] => { results := [.lit (.bool false)], args := [d1, d2] }
  | _ => none }
def FnExactBookSumWrongFalsely : Prop := fnExactBookSumRow.holds Try.pinned (OpenSpec.ofChange fnExactBookSumWrong)

/-- 'laws.FnExactTurnBack': WHATEVER THE INPUT: true; the input reads as it did. -/
def fnExactTurnBackSpec : ChangeSpec := { name := "fnExactTurnBack", fn := fun _ => fun
  | [d1, d2, d3] => { results := [.lit (.bool true)], args := [d1, d2, d3] }
  | _ => none }
def fnExactTurnBackRow : OpenClaim := { program := "ytodjdpdnamfkjaa", sum := "aa652ed3c402a7610ca7f95e7e28408947f3e48127a44978da1cb9389e5e0e9c", func := "loop.example/g03304/laws.FnExactTurnBack", spec := "fnExactTurnBack", apart := false }
def FnExactTurnBackSaid : Prop := fnExactTurnBackRow.holds Try.pinned (OpenSpec.ofChange fnExactTurnBackSpec)

/-- ITS FALSE NEIGHBOUR: 'it returns false'. Refute it at one input. -/
def fnExactTurnBackWrong : ChangeSpec := { name := "fnExactTurnBack", fn := fun _ => fun
  | [d1, d2, d3] => { results := [.lit (.bool false)], args := [d1, d2, d3] }
  | _ => none }
def FnExactTurnBackWrongFalsely : Prop := fnExactTurnBackRow.holds Try.pinned (OpenSpec.ofChange fnExactTurnBackWrong)

/-- 'laws.FnExactBalancesOf': WHATEVER THE INPUT: true; the input reads as it did. -/
def fnExactBalancesOfSpec : ChangeSpec := { name := "fnExactBalancesOf", fn := fun _ => fun
  | [d] => { results := [.lit (.bool true)], args := [d] }
  | _ => none }
def fnExactBalancesOfRow : OpenClaim := { program := "ytodjdpdnamfkjaa", sum := "aa652ed3c402a7610ca7f95e7e28408947f3e48127a44978da1cb9389e5e0e9c", func := "loop.example/g03304/laws.FnExactBalancesOf", spec := "fnExactBalancesOf", apart := false }
def FnExactBalancesOfSaid : Prop := fnExactBalancesOfRow.holds Try.pinned (OpenSpec.ofChange fnExactBalancesOfSpec)

/-- ITS FALSE NEIGHBOUR: 'it returns false'. Refute it at one input. -/
def fnExactBalancesOfWrong : ChangeSpec := { name := "fnExactBalancesOf", fn := fun _ => fun
  | [d] => { results := [.lit (.bool false)], args := [d] }
  | _ => none }
def FnExactBalancesOfWrongFalsely : Prop := fnExactBalancesOfRow.holds Try.pinned (OpenSpec.ofChange fnExactBalancesOfWrong)

/-- 'laws.FnLedgers': WHATEVER THE INPUT: true; the input reads as it did. -/
def fnLedgersSpec : ChangeSpec := { name := "fnLedgers", fn := fun _ => fun
  | [d] => { results := [.lit (.bool true)], args := [d] }
  | _ => none }
def fnLedgersRow : OpenClaim := { program := "ytodjdpdnamfkjaa", sum := "aa652ed3c402a7610ca7f95e7e28408947f3e48127a44978da1cb9389e5e0e9c", func := "loop.example/g03304/laws.FnLedgers", spec := "fnLedgers", apart := false }
def FnLedgersSaid : Prop := fnLedgersRow.holds Try.pinned (OpenSpec.ofChange fnLedgersSpec)

/-- ITS FALSE NEIGHBOUR: 'it returns false'. Refute it at one input. -/
def fnLedgersWrong : ChangeSpec := { name := "fnLedgers", fn := fun _ => fun
  | [d] => { results := [.lit (.bool false)], args := [d] }
  | _ => none }
def FnLedgersWrongFalsely : Prop := fnLedgersRow.holds Try.pinned (OpenSpec.ofChange fnLedgersWrong)

/- THE SECOND FORM. 'bulk': how many values and letters a reading holds, each counted each time it is reached (what is shared counts as often as it is met; a slice's spare places count too). A statement '..UptoSaid' is the law's where the arguments, and the package variables that the reading takes, are together of bulk at most 1048576: NARROWER than '..Said'. Prove '..Said' where nothing that the law and all that it calls make is longer than what came in: it says more and counts as full. Else prove '..UptoSaid'. A law counts once. -/
mutual
def uptoBulk {H : Type} : DataW H → Nat
  | .lit (.string bytes) => bytes.length + 1
  | .lit _ => 1
  | .nil => 1
  | .ptr d => uptoBulk d + 1
  | .slice elems spare => uptoBulkAll elems + uptoBulkAll spare + 1
  | .agg parts => uptoBulkAll parts + 1
  | .iface _ d => uptoBulk d + 1
  | .map entries => uptoBulkEntries entries + 1
  | .held _ => 1
def uptoBulkAll {H : Type} : List (DataW H) → Nat
  | [] => 0
  | d :: r => uptoBulk d + uptoBulkAll r
def uptoBulkEntries {H : Type} : List (Lit × DataW H) → Nat
  | [] => 0
  | x :: r => uptoBulkEntry x + uptoBulkEntries r
def uptoBulkEntry {H : Type} : Lit × DataW H → Nat
  | (.string bytes, d) => bytes.length + uptoBulk d + 1
  | (_, d) => uptoBulk d + 1
 end
def uptoSmall : (H : Type) → List (DataW H) → Bool := fun _ ds => decide (uptoBulkAll ds ≤ 1048576)
def OpenSpec.upto (s : _root_.Go.ChangeSpec) : _root_.Go.OpenSpec := { _root_.Go.OpenSpec.ofChange s with cond := some uptoSmall }

/-- 'laws.FnExactLedgerOk', WHERE WHAT IT READS IS OF BULK AT MOST 1048576: true; the input reads as it did. -/
def fnExactLedgerOkUptoRow : OpenClaim := { program := "ytodjdpdnamfkjaa", sum := "aa652ed3c402a7610ca7f95e7e28408947f3e48127a44978da1cb9389e5e0e9c", func := "loop.example/g03304/laws.FnExactLedgerOk", spec := "fnExactLedgerOk", apart := false, narrowed := true }
def FnExactLedgerOkUptoSaid : Prop := fnExactLedgerOkUptoRow.holds Try.pinned (OpenSpec.upto fnExactLedgerOkSpec)

/-- 'laws.FnExactMovedBetween', WHERE WHAT IT READS IS OF BULK AT MOST 1048576: true; the input reads as it did. -/
def fnExactMovedBetweenUptoRow : OpenClaim := { program := "ytodjdpdnamfkjaa", sum := "aa652ed3c402a7610ca7f95e7e28408947f3e48127a44978da1cb9389e5e0e9c", func := "loop.example/g03304/laws.FnExactMovedBetween", spec := "fnExactMovedBetween", apart := false, narrowed := true }
def FnExactMovedBetweenUptoSaid : Prop := fnExactMovedBetweenUptoRow.holds Try.pinned (OpenSpec.upto fnExactMovedBetweenSpec)

/-- 'laws.FnExactBalanceOf', WHERE WHAT IT READS IS OF BULK AT MOST 1048576: true; the input reads as it did. -/
def fnExactBalanceOfUptoRow : OpenClaim := { program := "ytodjdpdnamfkjaa", sum := "aa652ed3c402a7610ca7f95e7e28408947f3e48127a44978da1cb9389e5e0e9c", func := "loop.example/g03304/laws.FnExactBalanceOf", spec := "fnExactBalanceOf", apart := false, narrowed := true }
def FnExactBalanceOfUptoSaid : Prop := fnExactBalanceOfUptoRow.holds Try.pinned (OpenSpec.upto fnExactBalanceOfSpec)

/-- 'laws.FnExactBookSum', WHERE WHAT IT READS IS OF BULK AT MOST 1048576: true; the input reads as it did. -/
def fnExactBookSumUptoRow : OpenClaim := { program := "ytodjdpdnamfkjaa", sum := "aa652ed3c402a7610ca7f95e7e28408947f3e48127a44978da1cb9389e5e0e9c", func := "loop.example/g03304/laws.FnExactBookSum", spec := "fnExactBookSum", apart := false, narrowed := true }
def FnExactBookSumUptoSaid : Prop := fnExactBookSumUptoRow.holds Try.pinned (OpenSpec.upto fnExactBookSumSpec)

/-- 'laws.FnExactTurnBack', WHERE WHAT IT READS IS OF BULK AT MOST 1048576: true; the input reads as it did. -/
def fnExactTurnBackUptoRow : OpenClaim := { program := "ytodjdpdnamfkjaa", sum := "aa652ed3c402a7610ca7f95e7e28408947f3e48127a44978da1cb9389e5e0e9c", func := "loop.example/g03304/laws.FnExactTurnBack", spec := "fnExactTurnBack", apart := false, narrowed := true }
def FnExactTurnBackUptoSaid : Prop := fnExactTurnBackUptoRow.holds Try.pinned (OpenSpec.upto fnExactTurnBackSpec)

/-- 'laws.FnExactBalancesOf', WHERE WHAT IT READS IS OF BULK AT MOST 1048576: true; the input reads as it did. -/
def fnExactBalancesOfUptoRow : OpenClaim := { program := "ytodjdpdnamfkjaa", sum := "aa652ed3c402a7610ca7f95e7e28408947f3e48127a44978da1cb9389e5e0e9c", func := "loop.example/g03304/laws.FnExactBalancesOf", spec := "fnExactBalancesOf", apart := false, narrowed := true }
def FnExactBalancesOfUptoSaid : Prop := fnExactBalancesOfUptoRow.holds Try.pinned (OpenSpec.upto fnExactBalancesOfSpec)

/-- 'laws.FnLedgers', WHERE WHAT IT READS IS OF BULK AT MOST 1048576: true; the input reads as it did. -/
def fnLedgersUptoRow : OpenClaim := { program := "ytodjdpdnamfkjaa", sum := "aa652ed3c402a7610ca7f95e7e28408947f3e48127a44978da1cb9389e5e0e9c", func := "loop.example/g03304/laws.FnLedgers", spec := "fnLedgers", apart := false, narrowed := true }
def FnLedgersUptoSaid : Prop := fnLedgersUptoRow.holds Try.pinned (OpenSpec.upto fnLedgersSpec)

end Rows
end Go.Proofs.Ytodjdpdnamfkjaa
