/-
  No cell of these rows narrows 'for every input' (looked for: loops, veiled, ifaces, maps, wideKeys, modest, calm, conditions, laid).
  DERIVED. THE GIVEN ROWS OF THIS SEAT. 6 by the template 'for every input the law returns true; each argument reads behind the call as it read before'; 0 by the template 'total and deterministic' (their statements: YtgoimoadaeijkaaTotals.lean).
  GIVEN WITH THE SEED: the statements are not yours to turn. If you find one false, say at which input.
  Laid BY PROGRAM, IN A SANDBOX (cutbox-rows.mjs): the forced cells as the released guide's own fill.sh prints them over the translation ac68af3f7a024c24… (all of the seat's roots in one cut). By AI agents, Wed Nov 11 2026. No macro, syntax, notation, axiom, sorry.
-/
import Derived.Test.YtgoimoadaeijkaaChecked
import GoSem.Claim
import GoSem.ClaimJoined
import GoSem.ClaimMapViews
import Derived.JoinedTies
import Derived.KernelRfl
namespace Go.Proofs.Ytgoimoadaeijkaa
/- THE CELL 'sum', in the pinned program and in every row, IS THE sha256 OF THE DUMP (.gsa) THAT YtgoimoadaeijkaaProg.lean LOADS. Nothing in Lean hashes anything: it is a label: what it is worth is what the hold of that sum in a sandbox is worth. -/
noncomputable def Try.pinned : Pinned := { name := "ytgoimoadaeijkaa", sum := "ac68af3f7a024c246eb8d63d961ac9132c9d7482deb1a8e74a1750d30e26782d", checked := Try.checked }
namespace Rows
def none {H : Type} : Left H := { results := [], args := [] }

/-- 'laws.FnExactLessonOk': WHATEVER THE INPUT: true; the input reads as it did. -/
def fnExactLessonOkSpec : ChangeSpec := { name := "fnExactLessonOk", fn := fun _ => fun
  | [d] => { results := [.lit (.bool true)], args := [d] }
  | _ => none }
def fnExactLessonOkRow : OpenClaim := { program := "ytgoimoadaeijkaa", sum := "ac68af3f7a024c246eb8d63d961ac9132c9d7482deb1a8e74a1750d30e26782d", func := "loop.example/g03304/laws.FnExactLessonOk", spec := "fnExactLessonOk", apart := false }
def FnExactLessonOkSaid : Prop := fnExactLessonOkRow.holds Try.pinned (OpenSpec.ofChange fnExactLessonOkSpec)

/-- ITS FALSE NEIGHBOUR: 'it returns false'. Refute it at one input. -/
def fnExactLessonOkWrong : ChangeSpec := { name := "fnExactLessonOk", fn := fun _ => fun
  | [d] => { results := [.lit (.bool false)], args := [d] }
  | _ => none }
def FnExactLessonOkWrongFalsely : Prop := fnExactLessonOkRow.holds Try.pinned (OpenSpec.ofChange fnExactLessonOkWrong)

/-- 'laws.FnExactWaitPlace': WHATEVER THE INPUT: true; the input reads as it did. -/
def fnExactWaitPlaceSpec : ChangeSpec := { name := "fnExactWaitPlace", fn := fun _ => fun
  | [d1, d2] => { results := [.lit (.bool true)], args := [d1, d2] }
  | _ => none }
def fnExactWaitPlaceRow : OpenClaim := { program := "ytgoimoadaeijkaa", sum := "ac68af3f7a024c246eb8d63d961ac9132c9d7482deb1a8e74a1750d30e26782d", func := "loop.example/g03304/laws.FnExactWaitPlace", spec := "fnExactWaitPlace", apart := false }
def FnExactWaitPlaceSaid : Prop := fnExactWaitPlaceRow.holds Try.pinned (OpenSpec.ofChange fnExactWaitPlaceSpec)

/-- ITS FALSE NEIGHBOUR: 'it returns false'. Refute it at one input. -/
def fnExactWaitPlaceWrong : ChangeSpec := { name := "fnExactWaitPlace", fn := fun _ => fun
  | [d1, d2] => { results := [.lit (.bool false)], args := [d1, d2] }
  | _ => none }
def FnExactWaitPlaceWrongFalsely : Prop := fnExactWaitPlaceRow.holds Try.pinned (OpenSpec.ofChange fnExactWaitPlaceWrong)

/-- 'laws.FnExactEnrol': WHATEVER THE INPUT: true; the input reads as it did. -/
def fnExactEnrolSpec : ChangeSpec := { name := "fnExactEnrol", fn := fun _ => fun
  | [d1, d2] => { results := [.lit (.bool true)], args := [d1, d2] }
  | _ => none }
def fnExactEnrolRow : OpenClaim := { program := "ytgoimoadaeijkaa", sum := "ac68af3f7a024c246eb8d63d961ac9132c9d7482deb1a8e74a1750d30e26782d", func := "loop.example/g03304/laws.FnExactEnrol", spec := "fnExactEnrol", apart := false }
def FnExactEnrolSaid : Prop := fnExactEnrolRow.holds Try.pinned (OpenSpec.ofChange fnExactEnrolSpec)

/-- ITS FALSE NEIGHBOUR: 'it returns false'. Refute it at one input. -/
def fnExactEnrolWrong : ChangeSpec := { name := "fnExactEnrol", fn := fun _ => fun
  | [d1, d2] => { results := [.lit (.bool false)], args := [d1, d2] }
  | _ => none }
def FnExactEnrolWrongFalsely : Prop := fnExactEnrolRow.holds Try.pinned (OpenSpec.ofChange fnExactEnrolWrong)

/-- 'laws.FnExactSetPlaces': WHATEVER THE INPUT: true; the input reads as it did. -/
def fnExactSetPlacesSpec : ChangeSpec := { name := "fnExactSetPlaces", fn := fun _ => fun
  | [d1, d2] => { results := [.lit (.bool true)], args := [d1, d2] }
  | _ => none }
def fnExactSetPlacesRow : OpenClaim := { program := "ytgoimoadaeijkaa", sum := "ac68af3f7a024c246eb8d63d961ac9132c9d7482deb1a8e74a1750d30e26782d", func := "loop.example/g03304/laws.FnExactSetPlaces", spec := "fnExactSetPlaces", apart := false }
def FnExactSetPlacesSaid : Prop := fnExactSetPlacesRow.holds Try.pinned (OpenSpec.ofChange fnExactSetPlacesSpec)

/-- ITS FALSE NEIGHBOUR: 'it returns false'. Refute it at one input. -/
def fnExactSetPlacesWrong : ChangeSpec := { name := "fnExactSetPlaces", fn := fun _ => fun
  | [d1, d2] => { results := [.lit (.bool false)], args := [d1, d2] }
  | _ => none }
def FnExactSetPlacesWrongFalsely : Prop := fnExactSetPlacesRow.holds Try.pinned (OpenSpec.ofChange fnExactSetPlacesWrong)

/-- 'laws.FnExactLeaveLesson': WHATEVER THE INPUT: true; the input reads as it did. -/
def fnExactLeaveLessonSpec : ChangeSpec := { name := "fnExactLeaveLesson", fn := fun _ => fun
  | [d1, d2] => { results := [.lit (.bool true)], args := [d1, d2] }
  | _ => none }
def fnExactLeaveLessonRow : OpenClaim := { program := "ytgoimoadaeijkaa", sum := "ac68af3f7a024c246eb8d63d961ac9132c9d7482deb1a8e74a1750d30e26782d", func := "loop.example/g03304/laws.FnExactLeaveLesson", spec := "fnExactLeaveLesson", apart := false }
def FnExactLeaveLessonSaid : Prop := fnExactLeaveLessonRow.holds Try.pinned (OpenSpec.ofChange fnExactLeaveLessonSpec)

/-- ITS FALSE NEIGHBOUR: 'it returns false'. Refute it at one input. -/
def fnExactLeaveLessonWrong : ChangeSpec := { name := "fnExactLeaveLesson", fn := fun _ => fun
  | [d1, d2] => { results := [.lit (.bool false)], args := [d1, d2] }
  | _ => none }
def FnExactLeaveLessonWrongFalsely : Prop := fnExactLeaveLessonRow.holds Try.pinned (OpenSpec.ofChange fnExactLeaveLessonWrong)

/-- 'laws.FnLessons': WHATEVER THE INPUT: true; the input reads as it did. -/
def fnLessonsSpec : ChangeSpec := { name := "fnLessons", fn := fun _ => fun
  | [d] => { results := [.lit (.bool true)], args := [d] }
  | _ => none }
def fnLessonsRow : OpenClaim := { program := "ytgoimoadaeijkaa", sum := "ac68af3f7a024c246eb8d63d961ac9132c9d7482deb1a8e74a1750d30e26782d", func := "loop.example/g03304/laws.FnLessons", spec := "fnLessons", apart := false }
def FnLessonsSaid : Prop := fnLessonsRow.holds Try.pinned (OpenSpec.ofChange fnLessonsSpec)

/-- ITS FALSE NEIGHBOUR: 'it returns false'. Refute it at one input. -/
def fnLessonsWrong : ChangeSpec := { name := "fnLessons", fn := fun _ => fun
  | [d] => { results := [.lit (.bool false)], args := [d] }
  | _ => none }
def FnLessonsWrongFalsely : Prop := fnLessonsRow.holds Try.pinned (OpenSpec.ofChange fnLessonsWrong)

/- THE SECOND FORM. 'bulk': how many values and letters a reading holds, each counted each time it is reached (what is shared counts as often as it is met; a slice's spare places count too). A statement '..UptoSaid' is the law's where the arguments, and the package variables that the reading takes, are together of bulk at most 1048576: NARROWER than '..Said'. Prove '..Said' where nothing that the law and all that it calls make is longer than what came in: it says more and counts as full. Else prove '..UptoSaid'. A law counts once. -/
mutual
def uptoBulk {H : Type} : DataW H → Nat
  | .lit (.string bytes) => bytes.length + 1
  | .lit _ => 1
  | .nil => 1
  | .ptr d => uptoBulk d + 1
  | .slice elems spare => uptoBulkAll elems + uptoBulkAll spare + 1
  | .agg parts => uptoBulkAll parts + 1
  | .iface _ d => uptoBulk d + 1
  | .map entries => uptoBulkEntries entries + 1
  | .held _ => 1
def uptoBulkAll {H : Type} : List (DataW H) → Nat
  | [] => 0
  | d :: r => uptoBulk d + uptoBulkAll r
def uptoBulkEntries {H : Type} : List (Lit × DataW H) → Nat
  | [] => 0
  | x :: r => uptoBulkEntry x + uptoBulkEntries r
def uptoBulkEntry {H : Type} : Lit × DataW H → Nat
  | (.string bytes, d) => bytes.length + uptoBulk d + 1
  | (_, d) => uptoBulk d + 1
 end
def uptoSmall : (H : Type) → List (DataW H) → Bool := fun _ ds => decide (uptoBulkAll ds ≤ 1048576)
def OpenSpec.upto (s : _root_.Go.ChangeSpec) : _root_.Go.OpenSpec := { _root_.Go.OpenSpec.ofChange s with cond := some uptoSmall }

/-- 'laws.FnExactLessonOk', WHERE WHAT IT READS IS OF BULK AT MOST 1048576: true; the input reads as it did. -/
def fnExactLessonOkUptoRow : OpenClaim := { program := "ytgoimoadaeijkaa", sum := "ac68af3f7a024c246eb8d63d961ac9132c9d7482deb1a8e74a1750d30e26782d", func := "loop.example/g03304/laws.FnExactLessonOk", spec := "fnExactLessonOk", apart := false, narrowed := true }
def FnExactLessonOkUptoSaid : Prop := fnExactLessonOkUptoRow.holds Try.pinned (OpenSpec.upto fnExactLessonOkSpec)

/-- 'laws.FnExactWaitPlace', WHERE WHAT IT READS IS OF BULK AT MOST 1048576: true; the input reads as it did. -/
def fnExactWaitPlaceUptoRow : OpenClaim := { program := "ytgoimoadaeijkaa", sum := "ac68af3f7a024c246eb8d63d961ac9132c9d7482deb1a8e74a1750d30e26782d", func := "loop.example/g03304/laws.FnExactWaitPlace", spec := "fnExactWaitPlace", apart := false, narrowed := true }
def FnExactWaitPlaceUptoSaid : Prop := fnExactWaitPlaceUptoRow.holds Try.pinned (OpenSpec.upto fnExactWaitPlaceSpec)

/-- 'laws.FnExactEnrol', WHERE WHAT IT READS IS OF BULK AT MOST 1048576: true; the input reads as it did. -/
def fnExactEnrolUptoRow : OpenClaim := { program := "ytgoimoadaeijkaa", sum := "ac68af3f7a024c246eb8d63d961ac9132c9d7482deb1a8e74a1750d30e26782d", func := "loop.example/g03304/laws.FnExactEnrol", spec := "fnExactEnrol", apart := false, narrowed := true }
def FnExactEnrolUptoSaid : Prop := fnExactEnrolUptoRow.holds Try.pinned (OpenSpec.upto fnExactEnrolSpec)

/-- 'laws.FnExactSetPlaces', WHERE WHAT IT READS IS OF BULK AT MOST 1048576: true; the input reads as it did. -/
def fnExactSetPlacesUptoRow : OpenClaim := { program := "ytgoimoadaeijkaa", sum := "ac68af3f7a024c246eb8d63d961ac9132c9d7482deb1a8e74a1750d30e26782d", func := "loop.example/g03304/laws.FnExactSetPlaces", spec := "fnExactSetPlaces", apart := false, narrowed := true }
def FnExactSetPlacesUptoSaid : Prop := fnExactSetPlacesUptoRow.holds Try.pinned (OpenSpec.upto fnExactSetPlacesSpec)

/-- 'laws.FnExactLeaveLesson', WHERE WHAT IT READS IS OF BULK AT MOST 1048576: true; the input reads as it did. -/
def fnExactLeaveLessonUptoRow : OpenClaim := { program := "ytgoimoadaeijkaa", sum := "ac68af3f7a024c246eb8d63d961ac9132c9d7482deb1a8e74a1750d30e26782d", func := "loop.example/g03304/laws.FnExactLeaveLesson", spec := "fnExactLeaveLesson", apart := false, narrowed := true }
def FnExactLeaveLessonUptoSaid : Prop := fnExactLeaveLessonUptoRow.holds Try.pinned (OpenSpec.upto fnExactLeaveLessonSpec)

/-- 'laws.FnLessons', WHERE WHAT IT READS IS OF BULK AT MOST 1048576: true; the input reads as it did. -/
def fnLessonsUptoRow : OpenClaim := { program := "ytgoimoadaeijkaa", sum := "ac68af3f7a024c246eb8d63d961ac9132c9d7482deb1a8e74a1750d30e26782d", func := "loop.example/g03304/laws.FnLessons", spec := "fnLessons", apart := false, narrowed := true }
def FnLessonsUptoSaid : Prop := fnLessonsUptoRow.holds Try.pinned (OpenSpec.upto fnLessonsSpec)

end Rows
end Go.Proofs.Ytgoimoadaeijkaa
