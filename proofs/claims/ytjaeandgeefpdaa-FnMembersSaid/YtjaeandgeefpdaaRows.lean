/-
  No cell of these rows narrows 'for every input' (looked for: loops, veiled, ifaces, maps, wideKeys, modest, calm, conditions, laid).
  DERIVED. THE GIVEN ROWS OF THIS SEAT. 7 by the template 'for every input the law returns true; each argument reads behind the call as it read before'; 0 by the template 'total and deterministic' (their statements: YtjaeandgeefpdaaTotals.lean).
  GIVEN WITH THE SEED: the statements are not yours to turn. If you find one false, say at which input.
  Laid BY PROGRAM, IN A SANDBOX (cutbox-rows.mjs): the forced cells as the released guide's own fill.sh prints them over the translation 3c8ffbf62e155112… (all of the seat's roots in one cut). By AI agents, Wed Nov 11 2026. No macro, syntax, notation, axiom, sorry.
-/
import Derived.Test.YtjaeandgeefpdaaChecked
import GoSem.Claim
import GoSem.ClaimJoined
import GoSem.ClaimMapViews
import Derived.JoinedTies
import Derived.KernelRfl
namespace Go.Proofs.Ytjaeandgeefpdaa
/- THE CELL 'sum', in the pinned program and in every row, IS THE sha256 OF THE DUMP (.gsa) THAT YtjaeandgeefpdaaProg.lean LOADS. Nothing in Lean hashes anything: it is a label: what it is worth is what the hold of that sum in a sandbox is worth. -/
noncomputable def Try.pinned : Pinned := { name := "ytjaeandgeefpdaa", sum := "3c8ffbf62e15511242769ab4a6127219a9cd82c0e4ba73744697d4a11c3a79ac", checked := Try.checked }
namespace Rows
def none {H : Type} : Left H := { results := [], args := [] }

/-- 'laws.FnExactMembersOk': WHATEVER THE INPUT: true; the input reads as it did. -/
def fnExactMembersOkSpec : ChangeSpec := { name := "fnExactMembersOk", fn := fun _ => fun
  | [d] => { results := [.lit (.bool true)], args := [d] }
  | _ => none }
def fnExactMembersOkRow : OpenClaim := { program := "ytjaeandgeefpdaa", sum := "3c8ffbf62e15511242769ab4a6127219a9cd82c0e4ba73744697d4a11c3a79ac", func := "loop.example/g03304/laws.FnExactMembersOk", spec := "fnExactMembersOk", apart := false }
def FnExactMembersOkSaid : Prop := fnExactMembersOkRow.holds Try.pinned (OpenSpec.ofChange fnExactMembersOkSpec)

/-- ITS FALSE NEIGHBOUR: 'it returns false'. Refute it at one input. -/
def fnExactMembersOkWrong : ChangeSpec := { name := "fnExactMembersOk", fn := fun _ => fun
  | [d] => { results := [.lit (.bool false)], args := [d] }
  | _ => none }
def FnExactMembersOkWrongFalsely : Prop := fnExactMembersOkRow.holds Try.pinned (OpenSpec.ofChange fnExactMembersOkWrong)

/-- 'laws.FnExactSeniorOf': WHATEVER THE INPUT: true; the input reads as it did. -/
def fnExactSeniorOfSpec : ChangeSpec := { name := "fnExactSeniorOf", fn := fun _ => fun
  | [d] => { results := [.lit (.bool true)], args := [d] }
  | _ => none }
def fnExactSeniorOfRow : OpenClaim := { program := "ytjaeandgeefpdaa", sum := "3c8ffbf62e15511242769ab4a6127219a9cd82c0e4ba73744697d4a11c3a79ac", func := "loop.example/g03304/laws.FnExactSeniorOf", spec := "fnExactSeniorOf", apart := false }
def FnExactSeniorOfSaid : Prop := fnExactSeniorOfRow.holds Try.pinned (OpenSpec.ofChange fnExactSeniorOfSpec)

/-- ITS FALSE NEIGHBOUR: 'it returns false'. Refute it at one input. -/
def fnExactSeniorOfWrong : ChangeSpec := { name := "fnExactSeniorOf", fn := fun _ => fun
  | [d] => { results := [.lit (.bool false)], args := [d] }
  | _ => none }
def FnExactSeniorOfWrongFalsely : Prop := fnExactSeniorOfRow.holds Try.pinned (OpenSpec.ofChange fnExactSeniorOfWrong)

/-- 'laws.FnExactOwedBy': WHATEVER THE INPUT: true; the input reads as it did. -/
def fnExactOwedBySpec : ChangeSpec := { name := "fnExactOwedBy", fn := fun _ => fun
  | [d1, d2] => { results := [.lit (.bool true)], args := [d1, d2] }
  | _ => none }
def fnExactOwedByRow : OpenClaim := { program := "ytjaeandgeefpdaa", sum := "3c8ffbf62e15511242769ab4a6127219a9cd82c0e4ba73744697d4a11c3a79ac", func := "loop.example/g03304/laws.FnExactOwedBy", spec := "fnExactOwedBy", apart := false }
def FnExactOwedBySaid : Prop := fnExactOwedByRow.holds Try.pinned (OpenSpec.ofChange fnExactOwedBySpec)

/-- ITS FALSE NEIGHBOUR: 'it returns false'. Refute it at one input. -/
def fnExactOwedByWrong : ChangeSpec := { name := "fnExactOwedBy", fn := fun _ => fun
  | [d1, d2] => { results := [.lit (.bool false)], args := [d1, d2] }
  | _ => none }
def FnExactOwedByWrongFalsely : Prop := fnExactOwedByRow.holds Try.pinned (OpenSpec.ofChange fnExactOwedByWrong)

/-- 'laws.FnExactJoinGuild': WHATEVER THE INPUT: true; the input reads as it did. -/
def fnExactJoinGuildSpec : ChangeSpec := { name := "fnExactJoinGuild", fn := fun _ => fun
  | [d1, d2, d3] => { results := [.lit (.bool true)], args := [d1, d2, d3] }
  | _ => none }
def fnExactJoinGuildRow : OpenClaim := { program := "ytjaeandgeefpdaa", sum := "3c8ffbf62e15511242769ab4a6127219a9cd82c0e4ba73744697d4a11c3a79ac", func := "loop.example/g03304/laws.FnExactJoinGuild", spec := "fnExactJoinGuild", apart := false }
def FnExactJoinGuildSaid : Prop := fnExactJoinGuildRow.holds Try.pinned (OpenSpec.ofChange fnExactJoinGuildSpec)

/-- ITS FALSE NEIGHBOUR: 'it returns false'. Refute it at one input. -/
def fnExactJoinGuildWrong : ChangeSpec := { name := "fnExactJoinGuild", fn := fun _ => fun
  | [d1, d2, d3] => { results := [.lit (.bool false)], args := [d1, d2, d3] }
  | _ => none }
def FnExactJoinGuildWrongFalsely : Prop := fnExactJoinGuildRow.holds Try.pinned (OpenSpec.ofChange fnExactJoinGuildWrong)

/-- 'laws.FnExactPayDues': WHATEVER THE INPUT: true; the input reads as it did. -/
def fnExactPayDuesSpec : ChangeSpec := { name := "fnExactPayDues", fn := fun _ => fun
  | [d1, d2, d3] => { results := [.lit (.bool true)], args := [d1, d2, d3] }
  | _ => none }
def fnExactPayDuesRow : OpenClaim := { program := "ytjaeandgeefpdaa", sum := "3c8ffbf62e15511242769ab4a6127219a9cd82c0e4ba73744697d4a11c3a79ac", func := "loop.example/g03304/laws.FnExactPayDues", spec := "fnExactPayDues", apart := false }
def FnExactPayDuesSaid : Prop := fnExactPayDuesRow.holds Try.pinned (OpenSpec.ofChange fnExactPayDuesSpec)

/-- ITS FALSE NEIGHBOUR: 'it returns false'. Refute it at one input. -/
def fnExactPayDuesWrong : ChangeSpec := { name := "fnExactPayDues", fn := fun _ => fun
  | [d1, d2, d3] => { results := [.lit (.bool false)], args := [d1, d2, d3] }
  | _ => none }
def FnExactPayDuesWrongFalsely : Prop := fnExactPayDuesRow.holds Try.pinned (OpenSpec.ofChange fnExactPayDuesWrong)

/-- 'laws.FnExactGoodStanding': WHATEVER THE INPUT: true; the input reads as it did. -/
def fnExactGoodStandingSpec : ChangeSpec := { name := "fnExactGoodStanding", fn := fun _ => fun
  | [d1, d2] => { results := [.lit (.bool true)], args := [d1, d2] }
  | _ => none }
def fnExactGoodStandingRow : OpenClaim := { program := "ytjaeandgeefpdaa", sum := "3c8ffbf62e15511242769ab4a6127219a9cd82c0e4ba73744697d4a11c3a79ac", func := "loop.example/g03304/laws.FnExactGoodStanding", spec := "fnExactGoodStanding", apart := false }
def FnExactGoodStandingSaid : Prop := fnExactGoodStandingRow.holds Try.pinned (OpenSpec.ofChange fnExactGoodStandingSpec)

/-- ITS FALSE NEIGHBOUR: 'it returns false'. Refute it at one input. -/
def fnExactGoodStandingWrong : ChangeSpec := { name := "fnExactGoodStanding", fn := fun _ => fun
  | [d1, d2] => { results := [.lit (.bool false)], args := [d1, d2] }
  | _ => none }
def FnExactGoodStandingWrongFalsely : Prop := fnExactGoodStandingRow.holds Try.pinned (OpenSpec.ofChange fnExactGoodStandingWrong)

/-- 'laws.FnMembers': WHATEVER THE INPUT: true; the input reads as it did. -/
def fnMembersSpec : ChangeSpec := { name := "fnMembers", fn := fun _ => fun
  | [d] => { results := [.lit (.bool true)], args := [d] }
  | _ => none }
def fnMembersRow : OpenClaim := { program := "ytjaeandgeefpdaa", sum := "3c8ffbf62e15511242769ab4a6127219a9cd82c0e4ba73744697d4a11c3a79ac", func := "loop.example/g03304/laws.FnMembers", spec := "fnMembers", apart := false }
def FnMembersSaid : Prop := fnMembersRow.holds Try.pinned (OpenSpec.ofChange fnMembersSpec)

/-- ITS FALSE NEIGHBOUR: 'it returns false'. Refute it at one input. -/
def fnMembersWrong : ChangeSpec := { name := "fnMembers", fn := fun _ => fun
  | [d] => { results := [.lit (.bool false)], args := [d] }
  | _ => none }
def FnMembersWrongFalsely : Prop := fnMembersRow.holds Try.pinned (OpenSpec.ofChange fnMembersWrong)

/- THE SECOND FORM. 'bulk': how many values and letters a reading holds, each counted each time it is reached (what is shared counts as often as it is met; a slice's spare places count too). A statement '..UptoSaid' is the law's where the arguments, and the package variables that the reading takes, are together of bulk at most 1048576: NARROWER than '..Said'. Prove '..Said' where nothing that the law and all that it calls make is longer than what came in: it says more and counts as full. Else prove '..UptoSaid'. A law counts once. -/
mutual
def uptoBulk {H : Type} : DataW H → Nat
  | .lit (.string bytes) => bytes.length + 1
  | .lit _ => 1
  | .nil => 1
  | .ptr d => uptoBulk d + 1
  | .slice elems spare => uptoBulkAll elems + uptoBulkAll spare + 1
  | .agg parts => uptoBulkAll parts + 1
  | .iface _ d => uptoBulk d + 1
  | .map entries => uptoBulkEntries entries + 1
  | .held _ => 1
def uptoBulkAll {H : Type} : List (DataW H) → Nat
  | [] => 0
  | d :: r => uptoBulk d + uptoBulkAll r
def uptoBulkEntries {H : Type} : List (Lit × DataW H) → Nat
  | [] => 0
  | x :: r => uptoBulkEntry x + uptoBulkEntries r
def uptoBulkEntry {H : Type} : Lit × DataW H → Nat
  | (.string bytes, d) => bytes.length + uptoBulk d + 1
  | (_, d) => uptoBulk d + 1
 end
def uptoSmall : (H : Type) → List (DataW H) → Bool := fun _ ds => decide (uptoBulkAll ds ≤ 1048576)
def OpenSpec.upto (s : _root_.Go.ChangeSpec) : _root_.Go.OpenSpec := { _root_.Go.OpenSpec.ofChange s with cond := some uptoSmall }

/-- 'laws.FnExactMembersOk', WHERE WHAT IT READS IS OF BULK AT MOST 1048576: true; the input reads as it did. -/
def fnExactMembersOkUptoRow : OpenClaim := { program := "ytjaeandgeefpdaa", sum := "3c8ffbf62e15511242769ab4a6127219a9cd82c0e4ba73744697d4a11c3a79ac", func := "loop.example/g03304/laws.FnExactMembersOk", spec := "fnExactMembersOk", apart := false, narrowed := true }
def FnExactMembersOkUptoSaid : Prop := fnExactMembersOkUptoRow.holds Try.pinned (OpenSpec.upto fnExactMembersOkSpec)

/-- 'laws.FnExactSeniorOf', WHERE WHAT IT READS IS OF BULK AT MOST 1048576: true; the input reads as it did. -/
def fnExactSeniorOfUptoRow : OpenClaim := { program := "ytjaeandgeefpdaa", sum := "3c8ffbf62e15511242769ab4a6127219a9cd82c0e4ba73744697d4a11c3a79ac", func := "loop.example/g03304/laws.FnExactSeniorOf", spec := "fnExactSeniorOf", apart := false, narrowed := true }
def FnExactSeniorOfUptoSaid : Prop := fnExactSeniorOfUptoRow.holds Try.pinned (OpenSpec.upto fnExactSeniorOfSpec)

/-- 'laws.FnExactOwedBy', WHERE WHAT IT READS IS OF BULK AT MOST 1048576: true; the input reads as it did. -/
def fnExactOwedByUptoRow : OpenClaim := { program := "ytjaeandgeefpdaa", sum := "3c8ffbf62e15511242769ab4a6127219a9cd82c0e4ba73744697d4a11c3a79ac", func := "loop.example/g03304/laws.FnExactOwedBy", spec := "fnExactOwedBy", apart := false, narrowed := true }
def FnExactOwedByUptoSaid : Prop := fnExactOwedByUptoRow.holds Try.pinned (OpenSpec.upto fnExactOwedBySpec)

/-- 'laws.FnExactJoinGuild', WHERE WHAT IT READS IS OF BULK AT MOST 1048576: true; the input reads as it did. -/
def fnExactJoinGuildUptoRow : OpenClaim := { program := "ytjaeandgeefpdaa", sum := "3c8ffbf62e15511242769ab4a6127219a9cd82c0e4ba73744697d4a11c3a79ac", func := "loop.example/g03304/laws.FnExactJoinGuild", spec := "fnExactJoinGuild", apart := false, narrowed := true }
def FnExactJoinGuildUptoSaid : Prop := fnExactJoinGuildUptoRow.holds Try.pinned (OpenSpec.upto fnExactJoinGuildSpec)

/-- 'laws.FnExactPayDues', WHERE WHAT IT READS IS OF BULK AT MOST 1048576: true; the input reads as it did. -/
def fnExactPayDuesUptoRow : OpenClaim := { program := "ytjaeandgeefpdaa", sum := "3c8ffbf62e15511242769ab4a6127219a9cd82c0e4ba73744697d4a11c3a79ac", func := "loop.example/g03304/laws.FnExactPayDues", spec := "fnExactPayDues", apart := false, narrowed := true }
def FnExactPayDuesUptoSaid : Prop := fnExactPayDuesUptoRow.holds Try.pinned (OpenSpec.upto fnExactPayDuesSpec)

/-- 'laws.FnExactGoodStanding', WHERE WHAT IT READS IS OF BULK AT MOST 1048576: true; the input reads as it did. -/
def fnExactGoodStandingUptoRow : OpenClaim := { program := "ytjaeandgeefpdaa", sum := "3c8ffbf62e15511242769ab4a6127219a9cd82c0e4ba73744697d4a11c3a79ac", func := "loop.example/g03304/laws.FnExactGoodStanding", spec := "fnExactGoodStanding", apart := false, narrowed := true }
def FnExactGoodStandingUptoSaid : Prop := fnExactGoodStandingUptoRow.holds Try.pinned (OpenSpec.upto fnExactGoodStandingSpec)

/-- 'laws.FnMembers', WHERE WHAT IT READS IS OF BULK AT MOST 1048576: true; the input reads as it did. -/
def fnMembersUptoRow : OpenClaim := { program := "ytjaeandgeefpdaa", sum := "3c8ffbf62e15511242769ab4a6127219a9cd82c0e4ba73744697d4a11c3a79ac", func := "loop.example/g03304/laws.FnMembers", spec := "fnMembers", apart := false, narrowed := true }
def FnMembersUptoSaid : Prop := fnMembersUptoRow.holds Try.pinned (OpenSpec.upto fnMembersSpec)

end Rows
end Go.Proofs.Ytjaeandgeefpdaa
