/-
  No cell of these rows narrows 'for every input' (looked for: loops, veiled, ifaces, maps, wideKeys, modest, calm, conditions, laid).
  DERIVED. THE GIVEN ROWS OF THIS SEAT. 10 by the template 'for every input the law returns true; each argument reads behind the call as it read before'; 0 by the template 'total and deterministic' (their statements: YtaipkkbpgdpffaaTotals.lean).
  GIVEN WITH THE SEED: the statements are not yours to turn. If you find one false, say at which input.
  Laid BY PROGRAM, IN A SANDBOX (cutbox-rows.mjs): the forced cells as the released guide's own fill.sh prints them over the translation b991f8881b9b095a… (all of the seat's roots in one cut). By AI agents, Wed Nov 11 2026. No macro, syntax, notation, axiom, sorry.
-/
import Derived.Test.YtaipkkbpgdpffaaChecked
import GoSem.Claim
import GoSem.ClaimJoined
import GoSem.ClaimMapViews
import Derived.JoinedTies
import Derived.KernelRfl
namespace Go.Proofs.Ytaipkkbpgdpffaa
/- THE CELL 'sum', in the pinned program and in every row, IS THE sha256 OF THE DUMP (.gsa) THAT YtaipkkbpgdpffaaProg.lean LOADS. Nothing in Lean hashes anything: it is a label: what it is worth is what the hold of that sum in a sandbox is worth. -/
noncomputable def Try.pinned : Pinned := { name := "ytaipkkbpgdpffaa", sum := "b991f8881b9b095a58b2fda2528d78e422d25b77110bc7a2c33268ee2e2c209c", checked := Try.checked }
namespace Rows
def none {H : Type} : Left H := { results := [], args := [] }

/-- 'laws.FnExactWithCell': WHATEVER THE INPUT: true; the input reads as it did. -/
def fnExactWithCellSpec : ChangeSpec := { name := "fnExactWithCell", fn := fun _ => fun
  | [d1, d2, d3, d4] => { results := [.lit (.bool true)], args := [d1, d2, d3, d4] }
  | _ => none }
def fnExactWithCellRow : OpenClaim := { program := "ytaipkkbpgdpffaa", sum := "b991f8881b9b095a58b2fda2528d78e422d25b77110bc7a2c33268ee2e2c209c", func := "loop.example/g03304/laws.FnExactWithCell", spec := "fnExactWithCell", apart := false }
def FnExactWithCellSaid : Prop := fnExactWithCellRow.holds Try.pinned (OpenSpec.ofChange fnExactWithCellSpec)

/-- ITS FALSE NEIGHBOUR: 'it returns false'. Refute it at one input. -/
def fnExactWithCellWrong : ChangeSpec := { name := "fnExactWithCell", fn := fun _ => fun
  | [d1, d2, d3, d4] => { results := [.lit (.bool false)], args := [d1, d2, d3, d4] }
  | _ => none }
def FnExactWithCellWrongFalsely : Prop := fnExactWithCellRow.holds Try.pinned (OpenSpec.ofChange fnExactWithCellWrong)

/-- 'laws.FnBlocks': WHATEVER THE INPUT: true; the input reads as it did. -/
def fnBlocksSpec : ChangeSpec := { name := "fnBlocks", fn := fun _ => fun
  | [d] => { results := [.lit (.bool true)], args := [d] }
  | _ => none }
def fnBlocksRow : OpenClaim := { program := "ytaipkkbpgdpffaa", sum := "b991f8881b9b095a58b2fda2528d78e422d25b77110bc7a2c33268ee2e2c209c", func := "loop.example/g03304/laws.FnBlocks", spec := "fnBlocks", unfollowed := true, recurses := true, apart := false }
def FnBlocksSaid : Prop := fnBlocksRow.holds Try.pinned (OpenSpec.ofChange fnBlocksSpec)

/-- ITS FALSE NEIGHBOUR: 'it returns false'. Refute it at one input. -/
def fnBlocksWrong : ChangeSpec := { name := "fnBlocks", fn := fun _ => fun
  | [d] => { results := [.lit (.bool false)], args := [d] }
  | _ => none }
def FnBlocksWrongFalsely : Prop := fnBlocksRow.holds Try.pinned (OpenSpec.ofChange fnBlocksWrong)

/-- 'laws.FnExactExchangeBlock': WHATEVER THE INPUT: true; the input reads as it did. -/
def fnExactExchangeBlockSpec : ChangeSpec := { name := "fnExactExchangeBlock", fn := fun _ => fun
  | [d1, d2] => { results := [.lit (.bool true)], args := [d1, d2] }
  | _ => none }
def fnExactExchangeBlockRow : OpenClaim := { program := "ytaipkkbpgdpffaa", sum := "b991f8881b9b095a58b2fda2528d78e422d25b77110bc7a2c33268ee2e2c209c", func := "loop.example/g03304/laws.FnExactExchangeBlock", spec := "fnExactExchangeBlock", unfollowed := true, recurses := true, apart := false }
def FnExactExchangeBlockSaid : Prop := fnExactExchangeBlockRow.holds Try.pinned (OpenSpec.ofChange fnExactExchangeBlockSpec)

/-- ITS FALSE NEIGHBOUR: 'it returns false'. Refute it at one input. -/
def fnExactExchangeBlockWrong : ChangeSpec := { name := "fnExactExchangeBlock", fn := fun _ => fun
  | [d1, d2] => { results := [.lit (.bool false)], args := [d1, d2] }
  | _ => none }
def FnExactExchangeBlockWrongFalsely : Prop := fnExactExchangeBlockRow.holds Try.pinned (OpenSpec.ofChange fnExactExchangeBlockWrong)

/-- 'laws.FnExactSeenFrom': WHATEVER THE INPUT: true; the input reads as it did. -/
def fnExactSeenFromSpec : ChangeSpec := { name := "fnExactSeenFrom", fn := fun _ => fun
  | [d1, d2] => { results := [.lit (.bool true)], args := [d1, d2] }
  | _ => none }
def fnExactSeenFromRow : OpenClaim := { program := "ytaipkkbpgdpffaa", sum := "b991f8881b9b095a58b2fda2528d78e422d25b77110bc7a2c33268ee2e2c209c", func := "loop.example/g03304/laws.FnExactSeenFrom", spec := "fnExactSeenFrom", unfollowed := true, recurses := true, apart := false }
def FnExactSeenFromSaid : Prop := fnExactSeenFromRow.holds Try.pinned (OpenSpec.ofChange fnExactSeenFromSpec)

/-- ITS FALSE NEIGHBOUR: 'it returns false'. Refute it at one input. -/
def fnExactSeenFromWrong : ChangeSpec := { name := "fnExactSeenFrom", fn := fun _ => fun
  | [d1, d2] => { results := [.lit (.bool false)], args := [d1, d2] }
  | _ => none }
def FnExactSeenFromWrongFalsely : Prop := fnExactSeenFromRow.holds Try.pinned (OpenSpec.ofChange fnExactSeenFromWrong)

/-- 'laws.FnTurns': WHATEVER THE INPUT: true; the input reads as it did. -/
def fnTurnsSpec : ChangeSpec := { name := "fnTurns", fn := fun _ => fun
  | [d] => { results := [.lit (.bool true)], args := [d] }
  | _ => none }
def fnTurnsRow : OpenClaim := { program := "ytaipkkbpgdpffaa", sum := "b991f8881b9b095a58b2fda2528d78e422d25b77110bc7a2c33268ee2e2c209c", func := "loop.example/g03304/laws.FnTurns", spec := "fnTurns", unfollowed := true, recurses := true, apart := false }
def FnTurnsSaid : Prop := fnTurnsRow.holds Try.pinned (OpenSpec.ofChange fnTurnsSpec)

/-- ITS FALSE NEIGHBOUR: 'it returns false'. Refute it at one input. -/
def fnTurnsWrong : ChangeSpec := { name := "fnTurns", fn := fun _ => fun
  | [d] => { results := [.lit (.bool false)], args := [d] }
  | _ => none }
def FnTurnsWrongFalsely : Prop := fnTurnsRow.holds Try.pinned (OpenSpec.ofChange fnTurnsWrong)

/-- 'laws.FnExactIsMirrored': WHATEVER THE INPUT: true; the input reads as it did. -/
def fnExactIsMirroredSpec : ChangeSpec := { name := "fnExactIsMirrored", fn := fun _ => fun
  | [d] => { results := [.lit (.bool true)], args := [d] }
  | _ => none }
def fnExactIsMirroredRow : OpenClaim := { program := "ytaipkkbpgdpffaa", sum := "b991f8881b9b095a58b2fda2528d78e422d25b77110bc7a2c33268ee2e2c209c", func := "loop.example/g03304/laws.FnExactIsMirrored", spec := "fnExactIsMirrored", unfollowed := true, recurses := true, apart := false }
def FnExactIsMirroredSaid : Prop := fnExactIsMirroredRow.holds Try.pinned (OpenSpec.ofChange fnExactIsMirroredSpec)

/-- ITS FALSE NEIGHBOUR: 'it returns false'. Refute it at one input. -/
def fnExactIsMirroredWrong : ChangeSpec := { name := "fnExactIsMirrored", fn := fun _ => fun
  | [d] => { results := [.lit (.bool false)], args := [d] }
  | _ => none }
def FnExactIsMirroredWrongFalsely : Prop := fnExactIsMirroredRow.holds Try.pinned (OpenSpec.ofChange fnExactIsMirroredWrong)

/-- 'laws.FnExactSymmetriesOf': WHATEVER THE INPUT: true; the input reads as it did. -/
def fnExactSymmetriesOfSpec : ChangeSpec := { name := "fnExactSymmetriesOf", fn := fun _ => fun
  | [d] => { results := [.lit (.bool true)], args := [d] }
  | _ => none }
def fnExactSymmetriesOfRow : OpenClaim := { program := "ytaipkkbpgdpffaa", sum := "b991f8881b9b095a58b2fda2528d78e422d25b77110bc7a2c33268ee2e2c209c", func := "loop.example/g03304/laws.FnExactSymmetriesOf", spec := "fnExactSymmetriesOf", unfollowed := true, recurses := true, apart := false }
def FnExactSymmetriesOfSaid : Prop := fnExactSymmetriesOfRow.holds Try.pinned (OpenSpec.ofChange fnExactSymmetriesOfSpec)

/-- ITS FALSE NEIGHBOUR: 'it returns false'. Refute it at one input. -/
def fnExactSymmetriesOfWrong : ChangeSpec := { name := "fnExactSymmetriesOf", fn := fun _ => fun
  | [d] => { results := [.lit (.bool false)], args := [d] }
  | _ => none }
def FnExactSymmetriesOfWrongFalsely : Prop := fnExactSymmetriesOfRow.holds Try.pinned (OpenSpec.ofChange fnExactSymmetriesOfWrong)

/-- 'laws.FnExactIsColorway': WHATEVER THE INPUT: true; the input reads as it did. -/
def fnExactIsColorwaySpec : ChangeSpec := { name := "fnExactIsColorway", fn := fun _ => fun
  | [d1, d2] => { results := [.lit (.bool true)], args := [d1, d2] }
  | _ => none }
def fnExactIsColorwayRow : OpenClaim := { program := "ytaipkkbpgdpffaa", sum := "b991f8881b9b095a58b2fda2528d78e422d25b77110bc7a2c33268ee2e2c209c", func := "loop.example/g03304/laws.FnExactIsColorway", spec := "fnExactIsColorway", unfollowed := true, recurses := true, apart := false }
def FnExactIsColorwaySaid : Prop := fnExactIsColorwayRow.holds Try.pinned (OpenSpec.ofChange fnExactIsColorwaySpec)

/-- ITS FALSE NEIGHBOUR: 'it returns false'. Refute it at one input. -/
def fnExactIsColorwayWrong : ChangeSpec := { name := "fnExactIsColorway", fn := fun _ => fun
  | [d1, d2] => { results := [.lit (.bool false)], args := [d1, d2] }
  | _ => none }
def FnExactIsColorwayWrongFalsely : Prop := fnExactIsColorwayRow.holds Try.pinned (OpenSpec.ofChange fnExactIsColorwayWrong)

/-- 'laws.FnExactBestLikeness': WHATEVER THE INPUT: true; the input reads as it did. -/
def fnExactBestLikenessSpec : ChangeSpec := { name := "fnExactBestLikeness", fn := fun _ => fun
  | [d1, d2] => { results := [.lit (.bool true)], args := [d1, d2] }
  | _ => none }
def fnExactBestLikenessRow : OpenClaim := { program := "ytaipkkbpgdpffaa", sum := "b991f8881b9b095a58b2fda2528d78e422d25b77110bc7a2c33268ee2e2c209c", func := "loop.example/g03304/laws.FnExactBestLikeness", spec := "fnExactBestLikeness", unfollowed := true, recurses := true, apart := false }
def FnExactBestLikenessSaid : Prop := fnExactBestLikenessRow.holds Try.pinned (OpenSpec.ofChange fnExactBestLikenessSpec)

/-- ITS FALSE NEIGHBOUR: 'it returns false'. Refute it at one input. -/
def fnExactBestLikenessWrong : ChangeSpec := { name := "fnExactBestLikeness", fn := fun _ => fun
  | [d1, d2] => { results := [.lit (.bool false)], args := [d1, d2] }
  | _ => none }
def FnExactBestLikenessWrongFalsely : Prop := fnExactBestLikenessRow.holds Try.pinned (OpenSpec.ofChange fnExactBestLikenessWrong)

/-- 'laws.FnExactColorwayAt': WHATEVER THE INPUT: true; the input reads as it did. -/
def fnExactColorwayAtSpec : ChangeSpec := { name := "fnExactColorwayAt", fn := fun _ => fun
  | [d1, d2] => { results := [.lit (.bool true)], args := [d1, d2] }
  | _ => none }
def fnExactColorwayAtRow : OpenClaim := { program := "ytaipkkbpgdpffaa", sum := "b991f8881b9b095a58b2fda2528d78e422d25b77110bc7a2c33268ee2e2c209c", func := "loop.example/g03304/laws.FnExactColorwayAt", spec := "fnExactColorwayAt", unfollowed := true, recurses := true, apart := false }
def FnExactColorwayAtSaid : Prop := fnExactColorwayAtRow.holds Try.pinned (OpenSpec.ofChange fnExactColorwayAtSpec)

/-- ITS FALSE NEIGHBOUR: 'it returns false'. Refute it at one input. -/
def fnExactColorwayAtWrong : ChangeSpec := { name := "fnExactColorwayAt", fn := fun _ => fun
  | [d1, d2] => { results := [.lit (.bool false)], args := [d1, d2] }
  | _ => none }
def FnExactColorwayAtWrongFalsely : Prop := fnExactColorwayAtRow.holds Try.pinned (OpenSpec.ofChange fnExactColorwayAtWrong)

/- THE SECOND FORM. 'bulk': how many values and letters a reading holds, each counted each time it is reached (what is shared counts as often as it is met; a slice's spare places count too). A statement '..UptoSaid' is the law's where the arguments, and the package variables that the reading takes, are together of bulk at most 1048576: NARROWER than '..Said'. Prove '..Said' where nothing that the law and all that it calls make is longer than what came in: it says more and counts as full. Else prove '..UptoSaid'. A law counts once. -/
mutual
def uptoBulk {H : Type} : DataW H → Nat
  | .lit (.string bytes) => bytes.length + 1
  | .lit _ => 1
  | .nil => 1
  | .ptr d => uptoBulk d + 1
  | .slice elems spare => uptoBulkAll elems + uptoBulkAll spare + 1
  | .agg parts => uptoBulkAll parts + 1
  | .iface _ d => uptoBulk d + 1
  | .map entries => uptoBulkEntries entries + 1
  | .held _ => 1
def uptoBulkAll {H : Type} : List (DataW H) → Nat
  | [] => 0
  | d :: r => uptoBulk d + uptoBulkAll r
def uptoBulkEntries {H : Type} : List (Lit × DataW H) → Nat
  | [] => 0
  | x :: r => uptoBulkEntry x + uptoBulkEntries r
def uptoBulkEntry {H : Type} : Lit × DataW H → Nat
  | (.string bytes, d) => bytes.length + uptoBulk d + 1
  | (_, d) => uptoBulk d + 1
 end
def uptoSmall : (H : Type) → List (DataW H) → Bool := fun _ ds => decide (uptoBulkAll ds ≤ 1048576)
def OpenSpec.upto (s : _root_.Go.ChangeSpec) : _root_.Go.OpenSpec := { _root_.Go.OpenSpec.ofChange s with cond := some uptoSmall }

/-- 'laws.FnExactWithCell', WHERE WHAT IT READS IS OF BULK AT MOST 1048576: true; the input reads as it did. -/
def fnExactWithCellUptoRow : OpenClaim := { program := "ytaipkkbpgdpffaa", sum := "b991f8881b9b095a58b2fda2528d78e422d25b77110bc7a2c33268ee2e2c209c", func := "loop.example/g03304/laws.FnExactWithCell", spec := "fnExactWithCell", apart := false, narrowed := true }
def FnExactWithCellUptoSaid : Prop := fnExactWithCellUptoRow.holds Try.pinned (OpenSpec.upto fnExactWithCellSpec)

/-- 'laws.FnBlocks', WHERE WHAT IT READS IS OF BULK AT MOST 1048576: true; the input reads as it did. -/
def fnBlocksUptoRow : OpenClaim := { program := "ytaipkkbpgdpffaa", sum := "b991f8881b9b095a58b2fda2528d78e422d25b77110bc7a2c33268ee2e2c209c", func := "loop.example/g03304/laws.FnBlocks", spec := "fnBlocks", unfollowed := true, recurses := true, apart := false, narrowed := true }
def FnBlocksUptoSaid : Prop := fnBlocksUptoRow.holds Try.pinned (OpenSpec.upto fnBlocksSpec)

/-- 'laws.FnExactExchangeBlock', WHERE WHAT IT READS IS OF BULK AT MOST 1048576: true; the input reads as it did. -/
def fnExactExchangeBlockUptoRow : OpenClaim := { program := "ytaipkkbpgdpffaa", sum := "b991f8881b9b095a58b2fda2528d78e422d25b77110bc7a2c33268ee2e2c209c", func := "loop.example/g03304/laws.FnExactExchangeBlock", spec := "fnExactExchangeBlock", unfollowed := true, recurses := true, apart := false, narrowed := true }
def FnExactExchangeBlockUptoSaid : Prop := fnExactExchangeBlockUptoRow.holds Try.pinned (OpenSpec.upto fnExactExchangeBlockSpec)

/-- 'laws.FnExactSeenFrom', WHERE WHAT IT READS IS OF BULK AT MOST 1048576: true; the input reads as it did. -/
def fnExactSeenFromUptoRow : OpenClaim := { program := "ytaipkkbpgdpffaa", sum := "b991f8881b9b095a58b2fda2528d78e422d25b77110bc7a2c33268ee2e2c209c", func := "loop.example/g03304/laws.FnExactSeenFrom", spec := "fnExactSeenFrom", unfollowed := true, recurses := true, apart := false, narrowed := true }
def FnExactSeenFromUptoSaid : Prop := fnExactSeenFromUptoRow.holds Try.pinned (OpenSpec.upto fnExactSeenFromSpec)

/-- 'laws.FnTurns', WHERE WHAT IT READS IS OF BULK AT MOST 1048576: true; the input reads as it did. -/
def fnTurnsUptoRow : OpenClaim := { program := "ytaipkkbpgdpffaa", sum := "b991f8881b9b095a58b2fda2528d78e422d25b77110bc7a2c33268ee2e2c209c", func := "loop.example/g03304/laws.FnTurns", spec := "fnTurns", unfollowed := true, recurses := true, apart := false, narrowed := true }
def FnTurnsUptoSaid : Prop := fnTurnsUptoRow.holds Try.pinned (OpenSpec.upto fnTurnsSpec)

/-- 'laws.FnExactIsMirrored', WHERE WHAT IT READS IS OF BULK AT MOST 1048576: true; the input reads as it did. -/
def fnExactIsMirroredUptoRow : OpenClaim := { program := "ytaipkkbpgdpffaa", sum := "b991f8881b9b095a58b2fda2528d78e422d25b77110bc7a2c33268ee2e2c209c", func := "loop.example/g03304/laws.FnExactIsMirrored", spec := "fnExactIsMirrored", unfollowed := true, recurses := true, apart := false, narrowed := true }
def FnExactIsMirroredUptoSaid : Prop := fnExactIsMirroredUptoRow.holds Try.pinned (OpenSpec.upto fnExactIsMirroredSpec)

/-- 'laws.FnExactSymmetriesOf', WHERE WHAT IT READS IS OF BULK AT MOST 1048576: true; the input reads as it did. -/
def fnExactSymmetriesOfUptoRow : OpenClaim := { program := "ytaipkkbpgdpffaa", sum := "b991f8881b9b095a58b2fda2528d78e422d25b77110bc7a2c33268ee2e2c209c", func := "loop.example/g03304/laws.FnExactSymmetriesOf", spec := "fnExactSymmetriesOf", unfollowed := true, recurses := true, apart := false, narrowed := true }
def FnExactSymmetriesOfUptoSaid : Prop := fnExactSymmetriesOfUptoRow.holds Try.pinned (OpenSpec.upto fnExactSymmetriesOfSpec)

/-- 'laws.FnExactIsColorway', WHERE WHAT IT READS IS OF BULK AT MOST 1048576: true; the input reads as it did. -/
def fnExactIsColorwayUptoRow : OpenClaim := { program := "ytaipkkbpgdpffaa", sum := "b991f8881b9b095a58b2fda2528d78e422d25b77110bc7a2c33268ee2e2c209c", func := "loop.example/g03304/laws.FnExactIsColorway", spec := "fnExactIsColorway", unfollowed := true, recurses := true, apart := false, narrowed := true }
def FnExactIsColorwayUptoSaid : Prop := fnExactIsColorwayUptoRow.holds Try.pinned (OpenSpec.upto fnExactIsColorwaySpec)

/-- 'laws.FnExactBestLikeness', WHERE WHAT IT READS IS OF BULK AT MOST 1048576: true; the input reads as it did. -/
def fnExactBestLikenessUptoRow : OpenClaim := { program := "ytaipkkbpgdpffaa", sum := "b991f8881b9b095a58b2fda2528d78e422d25b77110bc7a2c33268ee2e2c209c", func := "loop.example/g03304/laws.FnExactBestLikeness", spec := "fnExactBestLikeness", unfollowed := true, recurses := true, apart := false, narrowed := true }
def FnExactBestLikenessUptoSaid : Prop := fnExactBestLikenessUptoRow.holds Try.pinned (OpenSpec.upto fnExactBestLikenessSpec)

/-- 'laws.FnExactColorwayAt', WHERE WHAT IT READS IS OF BULK AT MOST 1048576: true; the input reads as it did. -/
def fnExactColorwayAtUptoRow : OpenClaim := { program := "ytaipkkbpgdpffaa", sum := "b991f8881b9b095a58b2fda2528d78e422d25b77110bc7a2c33268ee2e2c209c", func := "loop.example/g03304/laws.FnExactColorwayAt", spec := "fnExactColorwayAt", unfollowed := true, recurses := true, apart := false, narrowed := true }
def FnExactColorwayAtUptoSaid : Prop := fnExactColorwayAtUptoRow.holds Try.pinned (OpenSpec.upto fnExactColorwayAtSpec)

end Rows
end Go.Proofs.Ytaipkkbpgdpffaa
