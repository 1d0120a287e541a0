/-
  No cell of these rows narrows 'for every input' (looked for: loops, veiled, ifaces, maps, wideKeys, modest, calm, conditions, laid).
  DERIVED. THE GIVEN ROWS OF THIS SEAT. 6 by the template 'for every input the law returns true; each argument reads behind the call as it read before'; 0 by the template 'total and deterministic' (their statements: YthdaggpmmaaidaaTotals.lean).
  GIVEN WITH THE SEED: the statements are not yours to turn. If you find one false, say at which input.
  Laid BY PROGRAM, IN A SANDBOX (cutbox-rows.mjs): the forced cells as the released guide's own fill.sh prints them over the translation e756920686cfd739… (all of the seat's roots in one cut). By AI agents, Wed Nov 11 2026. No macro, syntax, notation, axiom, sorry.
-/
import Derived.Test.YthdaggpmmaaidaaChecked
import GoSem.Claim
import GoSem.ClaimJoined
import GoSem.ClaimMapViews
import Derived.JoinedTies
import Derived.KernelRfl
namespace Go.Proofs.Ythdaggpmmaaidaa
/- THE CELL 'sum', in the pinned program and in every row, IS THE sha256 OF THE DUMP (.gsa) THAT YthdaggpmmaaidaaProg.lean LOADS. Nothing in Lean hashes anything: it is a label: what it is worth is what the hold of that sum in a sandbox is worth. -/
noncomputable def Try.pinned : Pinned := { name := "ythdaggpmmaaidaa", sum := "e756920686cfd73983ec49393a28bfb1122f23cc275a78d65584d3adc7c99c73", checked := Try.checked }
namespace Rows
def none {H : Type} : Left H := { results := [], args := [] }

/-- 'laws.FnExactSeedAfter': WHATEVER THE INPUT: true; the input reads as it did. -/
def fnExactSeedAfterSpec : ChangeSpec := { name := "fnExactSeedAfter", fn := fun _ => fun
  | [d1, d2] => { results := [.lit (.bool true)], args := [d1, d2] }
  | _ => none }
def fnExactSeedAfterRow : OpenClaim := { program := "ythdaggpmmaaidaa", sum := "e756920686cfd73983ec49393a28bfb1122f23cc275a78d65584d3adc7c99c73", func := "loop.example/g03304/laws.FnExactSeedAfter", spec := "fnExactSeedAfter", apart := false }
def FnExactSeedAfterSaid : Prop := fnExactSeedAfterRow.holds Try.pinned (OpenSpec.ofChange fnExactSeedAfterSpec)

/-- ITS FALSE NEIGHBOUR: 'it returns false'. Refute it at one input. -/
def fnExactSeedAfterWrong : ChangeSpec := { name := "fnExactSeedAfter", fn := fun _ => fun
  | [d1, d2] => { results := [.lit (.bool false)], args := [d1, d2] }
  | _ => none }
def FnExactSeedAfterWrongFalsely : Prop := fnExactSeedAfterRow.holds Try.pinned (OpenSpec.ofChange fnExactSeedAfterWrong)

/-- 'laws.FnExactTicketsOk': WHATEVER THE INPUT: true; the input reads as it did. -/
def fnExactTicketsOkSpec : ChangeSpec := { name := "fnExactTicketsOk", fn := fun _ => fun
  | [d] => { results := [.lit (.bool true)], args := [d] }
  | _ => none }
def fnExactTicketsOkRow : OpenClaim := { program := "ythdaggpmmaaidaa", sum := "e756920686cfd73983ec49393a28bfb1122f23cc275a78d65584d3adc7c99c73", func := "loop.example/g03304/laws.FnExactTicketsOk", spec := "fnExactTicketsOk", apart := false }
def FnExactTicketsOkSaid : Prop := fnExactTicketsOkRow.holds Try.pinned (OpenSpec.ofChange fnExactTicketsOkSpec)

/-- ITS FALSE NEIGHBOUR: 'it returns false'. Refute it at one input. -/
def fnExactTicketsOkWrong : ChangeSpec := { name := "fnExactTicketsOk", fn := fun _ => fun
  | [d] => { results := [.lit (.bool false)], args := [d] }
  | _ => none }
def FnExactTicketsOkWrongFalsely : Prop := fnExactTicketsOkRow.holds Try.pinned (OpenSpec.ofChange fnExactTicketsOkWrong)

/-- 'laws.FnExactChancesOf': WHATEVER THE INPUT: true; the input reads as it did. -/
def fnExactChancesOfSpec : ChangeSpec := { name := "fnExactChancesOf", fn := fun _ => fun
  | [d1, d2] => { results := [.lit (.bool true)], args := [d1, d2] }
  | _ => none }
def fnExactChancesOfRow : OpenClaim := { program := "ythdaggpmmaaidaa", sum := "e756920686cfd73983ec49393a28bfb1122f23cc275a78d65584d3adc7c99c73", func := "loop.example/g03304/laws.FnExactChancesOf", spec := "fnExactChancesOf", apart := false }
def FnExactChancesOfSaid : Prop := fnExactChancesOfRow.holds Try.pinned (OpenSpec.ofChange fnExactChancesOfSpec)

/-- ITS FALSE NEIGHBOUR: 'it returns false'. Refute it at one input. -/
def fnExactChancesOfWrong : ChangeSpec := { name := "fnExactChancesOf", fn := fun _ => fun
  | [d1, d2] => { results := [.lit (.bool false)], args := [d1, d2] }
  | _ => none }
def FnExactChancesOfWrongFalsely : Prop := fnExactChancesOfRow.holds Try.pinned (OpenSpec.ofChange fnExactChancesOfWrong)

/-- 'laws.FnExactWinnerOf': WHATEVER THE INPUT: true; the input reads as it did. -/
def fnExactWinnerOfSpec : ChangeSpec := { name := "fnExactWinnerOf", fn := fun _ => fun
  | [d1, d2] => { results := [.lit (.bool true)], args := [d1, d2] }
  | _ => none }
def fnExactWinnerOfRow : OpenClaim := { program := "ythdaggpmmaaidaa", sum := "e756920686cfd73983ec49393a28bfb1122f23cc275a78d65584d3adc7c99c73", func := "loop.example/g03304/laws.FnExactWinnerOf", spec := "fnExactWinnerOf", apart := false }
def FnExactWinnerOfSaid : Prop := fnExactWinnerOfRow.holds Try.pinned (OpenSpec.ofChange fnExactWinnerOfSpec)

/-- ITS FALSE NEIGHBOUR: 'it returns false'. Refute it at one input. -/
def fnExactWinnerOfWrong : ChangeSpec := { name := "fnExactWinnerOf", fn := fun _ => fun
  | [d1, d2] => { results := [.lit (.bool false)], args := [d1, d2] }
  | _ => none }
def FnExactWinnerOfWrongFalsely : Prop := fnExactWinnerOfRow.holds Try.pinned (OpenSpec.ofChange fnExactWinnerOfWrong)

/-- 'laws.FnRaffles': WHATEVER THE INPUT: true; the input reads as it did. -/
def fnRafflesSpec : ChangeSpec := { name := "fnRaffles", fn := fun _ => fun
  | [d] => { results := [.lit (.bool true)], args := [d] }
  | _ => none }
def fnRafflesRow : OpenClaim := { program := "ythdaggpmmaaidaa", sum := "e756920686cfd73983ec49393a28bfb1122f23cc275a78d65584d3adc7c99c73", func := "loop.example/g03304/laws.FnRaffles", spec := "fnRaffles", apart := false }
def FnRafflesSaid : Prop := fnRafflesRow.holds Try.pinned (OpenSpec.ofChange fnRafflesSpec)

/-- ITS FALSE NEIGHBOUR: 'it returns false'. Refute it at one input. -/
def fnRafflesWrong : ChangeSpec := { name := "fnRaffles", fn := fun _ => fun
  | [d] => { results := [.lit (.bool false)], args := [d] }
  | _ => none }
def FnRafflesWrongFalsely : Prop := fnRafflesRow.holds Try.pinned (OpenSpec.ofChange fnRafflesWrong)

/-- 'laws.FnExactWinnersOf': WHATEVER THE INPUT: true; the input reads as it did. -/
def fnExactWinnersOfSpec : ChangeSpec := { name := "fnExactWinnersOf", fn := fun _ => fun
  | [d1, d2, d3] => { results := [.lit (.bool true)], args := [d1, d2, d3] }
  | _ => none }
def fnExactWinnersOfRow : OpenClaim := { program := "ythdaggpmmaaidaa", sum := "e756920686cfd73983ec49393a28bfb1122f23cc275a78d65584d3adc7c99c73", func := "loop.example/g03304/laws.FnExactWinnersOf", spec := "fnExactWinnersOf", apart := false }
def FnExactWinnersOfSaid : Prop := fnExactWinnersOfRow.holds Try.pinned (OpenSpec.ofChange fnExactWinnersOfSpec)

/-- ITS FALSE NEIGHBOUR: 'it returns false'. Refute it at one input. -/
def fnExactWinnersOfWrong : ChangeSpec := { name := "fnExactWinnersOf", fn := fun _ => fun
  | [d1, d2, d3] => { results := [.lit (.bool false)], args := [d1, d2, d3] }
  | _ => none }
def FnExactWinnersOfWrongFalsely : Prop := fnExactWinnersOfRow.holds Try.pinned (OpenSpec.ofChange fnExactWinnersOfWrong)

/- THE SECOND FORM. 'bulk': how many values and letters a reading holds, each counted each time it is reached (what is shared counts as often as it is met; a slice's spare places count too). A statement '..UptoSaid' is the law's where the arguments, and the package variables that the reading takes, are together of bulk at most 1048576: NARROWER than '..Said'. Prove '..Said' where nothing that the law and all that it calls make is longer than what came in: it says more and counts as full. Else prove '..UptoSaid'. A law counts once. -/
mutual
def uptoBulk {H : Type} : DataW H → Nat
  | .lit (.string bytes) => bytes.length + 1
  | .lit _ => 1
  | .nil => 1
  | .ptr d => uptoBulk d + 1
  | .slice elems spare => uptoBulkAll elems + uptoBulkAll spare + 1
  | .agg parts => uptoBulkAll parts + 1
  | .iface _ d => uptoBulk d + 1
  | .map entries => uptoBulkEntries entries + 1
  | .held _ => 1
def uptoBulkAll {H : Type} : List (DataW H) → Nat
  | [] => 0
  | d :: r => uptoBulk d + uptoBulkAll r
def uptoBulkEntries {H : Type} : List (Lit × DataW H) → Nat
  | [] => 0
  | x :: r => uptoBulkEntry x + uptoBulkEntries r
def uptoBulkEntry {H : Type} : Lit × DataW H → Nat
  | (.string bytes, d) => bytes.length + uptoBulk d + 1
  | (_, d) => uptoBulk d + 1
 end
def uptoSmall : (H : Type) → List (DataW H) → Bool := fun _ ds => decide (uptoBulkAll ds ≤ 1048576)
def OpenSpec.upto (s : _root_.Go.ChangeSpec) : _root_.Go.OpenSpec := { _root_.Go.OpenSpec.ofChange s with cond := some uptoSmall }

/-- 'laws.FnExactSeedAfter', WHERE WHAT IT READS IS OF BULK AT MOST 1048576: true; the input reads as it did. -/
def fnExactSeedAfterUptoRow : OpenClaim := { program := "ythdaggpmmaaidaa", sum := "e756920686cfd73983ec49393a28bfb1122f23cc275a78d65584d3adc7c99c73", func := "loop.example/g03304/laws.FnExactSeedAfter", spec := "fnExactSeedAfter", apart := false, narrowed := true }
def FnExactSeedAfterUptoSaid : Prop := fnExactSeedAfterUptoRow.holds Try.pinned (OpenSpec.upto fnExactSeedAfterSpec)

/-- 'laws.FnExactTicketsOk', WHERE WHAT IT READS IS OF BULK AT MOST 1048576: true; the input reads as it did. -/
def fnExactTicketsOkUptoRow : OpenClaim := { program := "ythdaggpmmaaidaa", sum := "e756920686cfd73983ec49393a28bfb1122f23cc275a78d65584d3adc7c99c73", func := "loop.example/g03304/laws.FnExactTicketsOk", spec := "fnExactTicketsOk", apart := false, narrowed := true }
def FnExactTicketsOkUptoSaid : Prop := fnExactTicketsOkUptoRow.holds Try.pinned (OpenSpec.upto fnExactTicketsOkSpec)

/-- 'laws.FnExactChancesOf', WHERE WHAT IT READS IS OF BULK AT MOST 1048576: true; the input reads as it did. -/
def fnExactChancesOfUptoRow : OpenClaim := { program := "ythdaggpmmaaidaa", sum := "e756920686cfd73983ec49393a28bfb1122f23cc275a78d65584d3adc7c99c73", func := "loop.example/g03304/laws.FnExactChancesOf", spec := "fnExactChancesOf", apart := false, narrowed := true }
def FnExactChancesOfUptoSaid : Prop := fnExactChancesOfUptoRow.holds Try.pinned (OpenSpec.upto fnExactChancesOfSpec)

/-- 'laws.FnExactWinnerOf', WHERE WHAT IT READS IS OF BULK AT MOST 1048576: true; the input reads as it did. -/
def fnExactWinnerOfUptoRow : OpenClaim := { program := "ythdaggpmmaaidaa", sum := "e756920686cfd73983ec49393a28bfb1122f23cc275a78d65584d3adc7c99c73", func := "loop.example/g03304/laws.FnExactWinnerOf", spec := "fnExactWinnerOf", apart := false, narrowed := true }
def FnExactWinnerOfUptoSaid : Prop := fnExactWinnerOfUptoRow.holds Try.pinned (OpenSpec.upto fnExactWinnerOfSpec)

/-- 'laws.FnRaffles', WHERE WHAT IT READS IS OF BULK AT MOST 1048576: true; the input reads as it did. -/
def fnRafflesUptoRow : OpenClaim := { program := "ythdaggpmmaaidaa", sum := "e756920686cfd73983ec49393a28bfb1122f23cc275a78d65584d3adc7c99c73", func := "loop.example/g03304/laws.FnRaffles", spec := "fnRaffles", apart := false, narrowed := true }
def FnRafflesUptoSaid : Prop := fnRafflesUptoRow.holds Try.pinned (OpenSpec.upto fnRafflesSpec)

/-- 'laws.FnExactWinnersOf', WHERE WHAT IT READS IS OF BULK AT MOST 1048576: true; the input reads as it did. -/
def fnExactWinnersOfUptoRow : OpenClaim := { program := "ythdaggpmmaaidaa", sum := "e756920686cfd73983ec49393a28bfb1122f23cc275a78d65584d3adc7c99c73", func := "loop.example/g03304/laws.FnExactWinnersOf", spec := "fnExactWinnersOf", apart := false, narrowed := true }
def FnExactWinnersOfUptoSaid : Prop := fnExactWinnersOfUptoRow.holds Try.pinned (OpenSpec.upto fnExactWinnersOfSpec)

end Rows
end Go.Proofs.Ythdaggpmmaaidaa
