/-
  No cell of these rows narrows 'for every input' (looked for: loops, veiled, ifaces, maps, wideKeys, modest, calm, conditions, laid).
  DERIVED. THE GIVEN ROWS OF THIS SEAT. 9 by the template 'for every input the law returns true; each argument reads behind the call as it read before'; 0 by the template 'total and deterministic' (their statements: YtloeibdplgcgbaaTotals.lean).
  GIVEN WITH THE SEED: the statements are not yours to turn. If you find one false, say at which input.
  Laid BY PROGRAM, IN A SANDBOX (cutbox-rows.mjs): the forced cells as the released guide's own fill.sh prints them over the translation e427f95fcf1d0907… (all of the seat's roots in one cut). By AI agents, Wed Nov 11 2026. No macro, syntax, notation, axiom, sorry.
-/
import Derived.Test.YtloeibdplgcgbaaChecked
import GoSem.Claim
import GoSem.ClaimJoined
import GoSem.ClaimMapViews
import Derived.JoinedTies
import Derived.KernelRfl
namespace Go.Proofs.Ytloeibdplgcgbaa
/- THE CELL 'sum', in the pinned program and in every row, IS THE sha256 OF THE DUMP (.gsa) THAT YtloeibdplgcgbaaProg.lean LOADS. Nothing in Lean hashes anything: it is a label: what it is worth is what the hold of that sum in a sandbox is worth. -/
noncomputable def Try.pinned : Pinned := { name := "ytloeibdplgcgbaa", sum := "e427f95fcf1d0907f035eb1fd8262fcb2a3dcaa69e17b12947b72e621259b6fb", checked := Try.checked }
namespace Rows
def none {H : Type} : Left H := { results := [], args := [] }

/-- 'laws.FnExactOfferOk': WHATEVER THE INPUT: true; the input reads as it did. -/
def fnExactOfferOkSpec : ChangeSpec := { name := "fnExactOfferOk", fn := fun _ => fun
  | [d] => { results := [.lit (.bool true)], args := [d] }
  | _ => none }
def fnExactOfferOkRow : OpenClaim := { program := "ytloeibdplgcgbaa", sum := "e427f95fcf1d0907f035eb1fd8262fcb2a3dcaa69e17b12947b72e621259b6fb", func := "loop.example/g03304/laws.FnExactOfferOk", spec := "fnExactOfferOk", apart := false }
def FnExactOfferOkSaid : Prop := fnExactOfferOkRow.holds Try.pinned (OpenSpec.ofChange fnExactOfferOkSpec)

/-- ITS FALSE NEIGHBOUR: 'it returns false'. Refute it at one input. -/
def fnExactOfferOkWrong : ChangeSpec := { name := "fnExactOfferOk", fn := fun _ => fun
  | [d] => { results := [.lit (.bool false)], args := [d] }
  | _ => none }
def FnExactOfferOkWrongFalsely : Prop := fnExactOfferOkRow.holds Try.pinned (OpenSpec.ofChange fnExactOfferOkWrong)

/-- 'laws.FnExactStepsFor': WHATEVER THE INPUT: true; the input reads as it did. -/
def fnExactStepsForSpec : ChangeSpec := { name := "fnExactStepsFor", fn := fun _ => fun
  | [d1, d2] => { results := [.lit (.bool true)], args := [d1, d2] }
  | _ => none }
def fnExactStepsForRow : OpenClaim := { program := "ytloeibdplgcgbaa", sum := "e427f95fcf1d0907f035eb1fd8262fcb2a3dcaa69e17b12947b72e621259b6fb", func := "loop.example/g03304/laws.FnExactStepsFor", spec := "fnExactStepsFor", apart := false }
def FnExactStepsForSaid : Prop := fnExactStepsForRow.holds Try.pinned (OpenSpec.ofChange fnExactStepsForSpec)

/-- ITS FALSE NEIGHBOUR: 'it returns false'. Refute it at one input. -/
def fnExactStepsForWrong : ChangeSpec := { name := "fnExactStepsFor", fn := fun _ => fun
  | [d1, d2] => { results := [.lit (.bool false)], args := [d1, d2] }
  | _ => none }
def FnExactStepsForWrongFalsely : Prop := fnExactStepsForRow.holds Try.pinned (OpenSpec.ofChange fnExactStepsForWrong)

/-- 'laws.FnExactCheapestOffer': WHATEVER THE INPUT: true; the input reads as it did. -/
def fnExactCheapestOfferSpec : ChangeSpec := { name := "fnExactCheapestOffer", fn := fun _ => fun
  | [d1, d2, d3] => { results := [.lit (.bool true)], args := [d1, d2, d3] }
  | _ => none }
def fnExactCheapestOfferRow : OpenClaim := { program := "ytloeibdplgcgbaa", sum := "e427f95fcf1d0907f035eb1fd8262fcb2a3dcaa69e17b12947b72e621259b6fb", func := "loop.example/g03304/laws.FnExactCheapestOffer", spec := "fnExactCheapestOffer", apart := false }
def FnExactCheapestOfferSaid : Prop := fnExactCheapestOfferRow.holds Try.pinned (OpenSpec.ofChange fnExactCheapestOfferSpec)

/-- ITS FALSE NEIGHBOUR: 'it returns false'. Refute it at one input. -/
def fnExactCheapestOfferWrong : ChangeSpec := { name := "fnExactCheapestOffer", fn := fun _ => fun
  | [d1, d2, d3] => { results := [.lit (.bool false)], args := [d1, d2, d3] }
  | _ => none }
def FnExactCheapestOfferWrongFalsely : Prop := fnExactCheapestOfferRow.holds Try.pinned (OpenSpec.ofChange fnExactCheapestOfferWrong)

/-- 'laws.FnExactAddCloth': WHATEVER THE INPUT: true; the input reads as it did. -/
def fnExactAddClothSpec : ChangeSpec := { name := "fnExactAddCloth", fn := fun _ => fun
  | [d1, d2, d3] => { results := [.lit (.bool true)], args := [d1, d2, d3] }
  | _ => none }
def fnExactAddClothRow : OpenClaim := { program := "ytloeibdplgcgbaa", sum := "e427f95fcf1d0907f035eb1fd8262fcb2a3dcaa69e17b12947b72e621259b6fb", func := "loop.example/g03304/laws.FnExactAddCloth", spec := "fnExactAddCloth", apart := false }
def FnExactAddClothSaid : Prop := fnExactAddClothRow.holds Try.pinned (OpenSpec.ofChange fnExactAddClothSpec)

/-- ITS FALSE NEIGHBOUR: 'it returns false'. Refute it at one input. -/
def fnExactAddClothWrong : ChangeSpec := { name := "fnExactAddCloth", fn := fun _ => fun
  | [d1, d2, d3] => { results := [.lit (.bool false)], args := [d1, d2, d3] }
  | _ => none }
def FnExactAddClothWrongFalsely : Prop := fnExactAddClothRow.holds Try.pinned (OpenSpec.ofChange fnExactAddClothWrong)

/-- 'laws.FnExactTakeCloth': WHATEVER THE INPUT: true; the input reads as it did. -/
def fnExactTakeClothSpec : ChangeSpec := { name := "fnExactTakeCloth", fn := fun _ => fun
  | [d1, d2, d3] => { results := [.lit (.bool true)], args := [d1, d2, d3] }
  | _ => none }
def fnExactTakeClothRow : OpenClaim := { program := "ytloeibdplgcgbaa", sum := "e427f95fcf1d0907f035eb1fd8262fcb2a3dcaa69e17b12947b72e621259b6fb", func := "loop.example/g03304/laws.FnExactTakeCloth", spec := "fnExactTakeCloth", apart := false }
def FnExactTakeClothSaid : Prop := fnExactTakeClothRow.holds Try.pinned (OpenSpec.ofChange fnExactTakeClothSpec)

/-- ITS FALSE NEIGHBOUR: 'it returns false'. Refute it at one input. -/
def fnExactTakeClothWrong : ChangeSpec := { name := "fnExactTakeCloth", fn := fun _ => fun
  | [d1, d2, d3] => { results := [.lit (.bool false)], args := [d1, d2, d3] }
  | _ => none }
def FnExactTakeClothWrongFalsely : Prop := fnExactTakeClothRow.holds Try.pinned (OpenSpec.ofChange fnExactTakeClothWrong)

/-- 'laws.FnStocks': WHATEVER THE INPUT: true; the input reads as it did. -/
def fnStocksSpec : ChangeSpec := { name := "fnStocks", fn := fun _ => fun
  | [d] => { results := [.lit (.bool true)], args := [d] }
  | _ => none }
def fnStocksRow : OpenClaim := { program := "ytloeibdplgcgbaa", sum := "e427f95fcf1d0907f035eb1fd8262fcb2a3dcaa69e17b12947b72e621259b6fb", func := "loop.example/g03304/laws.FnStocks", spec := "fnStocks", apart := false }
def FnStocksSaid : Prop := fnStocksRow.holds Try.pinned (OpenSpec.ofChange fnStocksSpec)

/-- ITS FALSE NEIGHBOUR: 'it returns false'. Refute it at one input. -/
def fnStocksWrong : ChangeSpec := { name := "fnStocks", fn := fun _ => fun
  | [d] => { results := [.lit (.bool false)], args := [d] }
  | _ => none }
def FnStocksWrongFalsely : Prop := fnStocksRow.holds Try.pinned (OpenSpec.ofChange fnStocksWrong)

/-- 'laws.FnPurchases': WHATEVER THE INPUT: true; the input reads as it did. -/
def fnPurchasesSpec : ChangeSpec := { name := "fnPurchases", fn := fun _ => fun
  | [d] => { results := [.lit (.bool true)], args := [d] }
  | _ => none }
def fnPurchasesRow : OpenClaim := { program := "ytloeibdplgcgbaa", sum := "e427f95fcf1d0907f035eb1fd8262fcb2a3dcaa69e17b12947b72e621259b6fb", func := "loop.example/g03304/laws.FnPurchases", spec := "fnPurchases", apart := false }
def FnPurchasesSaid : Prop := fnPurchasesRow.holds Try.pinned (OpenSpec.ofChange fnPurchasesSpec)

/-- ITS FALSE NEIGHBOUR: 'it returns false'. Refute it at one input. -/
def fnPurchasesWrong : ChangeSpec := { name := "fnPurchases", fn := fun _ => fun
  | [d] => { results := [.lit (.bool false)], args := [d] }
  | _ => none }
def FnPurchasesWrongFalsely : Prop := fnPurchasesRow.holds Try.pinned (OpenSpec.ofChange fnPurchasesWrong)

/-- 'laws.FnExactCostOf': WHATEVER THE INPUT: true; the input reads as it did. -/
def fnExactCostOfSpec : ChangeSpec := { name := "fnExactCostOf", fn := fun _ => fun
  | [d1, d2] => { results := [.lit (.bool true)], args := [d1, d2] }
  | _ => none }
def fnExactCostOfRow : OpenClaim := { program := "ytloeibdplgcgbaa", sum := "e427f95fcf1d0907f035eb1fd8262fcb2a3dcaa69e17b12947b72e621259b6fb", func := "loop.example/g03304/laws.FnExactCostOf", spec := "fnExactCostOf", apart := false }
def FnExactCostOfSaid : Prop := fnExactCostOfRow.holds Try.pinned (OpenSpec.ofChange fnExactCostOfSpec)

/-- ITS FALSE NEIGHBOUR: 'it returns false'. Refute it at one input. -/
def fnExactCostOfWrong : ChangeSpec := { name := "fnExactCostOf", fn := fun _ => fun
  | [d1, d2] => { results := [.lit (.bool false)], args := [d1, d2] }
  | _ => none }
def FnExactCostOfWrongFalsely : Prop := fnExactCostOfRow.holds Try.pinned (OpenSpec.ofChange fnExactCostOfWrong)

/-- 'laws.FnExactLeftAfter': WHATEVER THE INPUT: true; the input reads as it did. -/
def fnExactLeftAfterSpec : ChangeSpec := { name := "fnExactLeftAfter", fn := fun _ => fun
  | [d1, d2] => { results := [.lit (.bool true)], args := [d1, d2] }
  | _ => none }
def fnExactLeftAfterRow : OpenClaim := { program := "ytloeibdplgcgbaa", sum := "e427f95fcf1d0907f035eb1fd8262fcb2a3dcaa69e17b12947b72e621259b6fb", func := "loop.example/g03304/laws.FnExactLeftAfter", spec := "fnExactLeftAfter", apart := false }
def FnExactLeftAfterSaid : Prop := fnExactLeftAfterRow.holds Try.pinned (OpenSpec.ofChange fnExactLeftAfterSpec)

/-- ITS FALSE NEIGHBOUR: 'it returns false'. Refute it at one input. -/
def fnExactLeftAfterWrong : ChangeSpec := { name := "fnExactLeftAfter", fn := fun _ => fun
  | [d1, d2] => { results := [.lit (.bool false)], args := [d1, d2] }
  | _ => none }
def FnExactLeftAfterWrongFalsely : Prop := fnExactLeftAfterRow.holds Try.pinned (OpenSpec.ofChange fnExactLeftAfterWrong)

/- THE SECOND FORM. 'bulk': how many values and letters a reading holds, each counted each time it is reached (what is shared counts as often as it is met; a slice's spare places count too). A statement '..UptoSaid' is the law's where the arguments, and the package variables that the reading takes, are together of bulk at most 1048576: NARROWER than '..Said'. Prove '..Said' where nothing that the law and all that it calls make is longer than what came in: it says more and counts as full. Else prove '..UptoSaid'. A law counts once. -/
mutual
def uptoBulk {H : Type} : DataW H → Nat
  | .lit (.string bytes) => bytes.length + 1
  | .lit _ => 1
  | .nil => 1
  | .ptr d => uptoBulk d + 1
  | .slice elems spare => uptoBulkAll elems + uptoBulkAll spare + 1
  | .agg parts => uptoBulkAll parts + 1
  | .iface _ d => uptoBulk d + 1
  | .map entries => uptoBulkEntries entries + 1
  | .held _ => 1
def uptoBulkAll {H : Type} : List (DataW H) → Nat
  | [] => 0
  | d :: r => uptoBulk d + uptoBulkAll r
def uptoBulkEntries {H : Type} : List (Lit × DataW H) → Nat
  | [] => 0
  | x :: r => uptoBulkEntry x + uptoBulkEntries r
def uptoBulkEntry {H : Type} : Lit × DataW H → Nat
  | (.string bytes, d) => bytes.length + uptoBulk d + 1
  | (_, d) => uptoBulk d + 1
 end
def uptoSmall : (H : Type) → List (DataW H) → Bool := fun _ ds => decide (uptoBulkAll ds ≤ 1048576)
def OpenSpec.upto (s : _root_.Go.ChangeSpec) : _root_.Go.OpenSpec := { _root_.Go.OpenSpec.ofChange s with cond := some uptoSmall }

/-- 'laws.FnExactOfferOk', WHERE WHAT IT READS IS OF BULK AT MOST 1048576: true; the input reads as it did. -/
def fnExactOfferOkUptoRow : OpenClaim := { program := "ytloeibdplgcgbaa", sum := "e427f95fcf1d0907f035eb1fd8262fcb2a3dcaa69e17b12947b72e621259b6fb", func := "loop.example/g03304/laws.FnExactOfferOk", spec := "fnExactOfferOk", apart := false, narrowed := true }
def FnExactOfferOkUptoSaid : Prop := fnExactOfferOkUptoRow.holds Try.pinned (OpenSpec.upto fnExactOfferOkSpec)

/-- 'laws.FnExactStepsFor', WHERE WHAT IT READS IS OF BULK AT MOST 1048576: true; the input reads as it did. -/
def fnExactStepsForUptoRow : OpenClaim := { program := "ytloeibdplgcgbaa", sum := "e427f95fcf1d0907f035eb1fd8262fcb2a3dcaa69e17b12947b72e621259b6fb", func := "loop.example/g03304/laws.FnExactStepsFor", spec := "fnExactStepsFor", apart := false, narrowed := true }
def FnExactStepsForUptoSaid : Prop := fnExactStepsForUptoRow.holds Try.pinned (OpenSpec.upto fnExactStepsForSpec)

/-- 'laws.FnExactCheapestOffer', WHERE WHAT IT READS IS OF BULK AT MOST 1048576: true; the input reads as it did. -/
def fnExactCheapestOfferUptoRow : OpenClaim := { program := "ytloeibdplgcgbaa", sum := "e427f95fcf1d0907f035eb1fd8262fcb2a3dcaa69e17b12947b72e621259b6fb", func := "loop.example/g03304/laws.FnExactCheapestOffer", spec := "fnExactCheapestOffer", apart := false, narrowed := true }
def FnExactCheapestOfferUptoSaid : Prop := fnExactCheapestOfferUptoRow.holds Try.pinned (OpenSpec.upto fnExactCheapestOfferSpec)

/-- 'laws.FnExactAddCloth', WHERE WHAT IT READS IS OF BULK AT MOST 1048576: true; the input reads as it did. -/
def fnExactAddClothUptoRow : OpenClaim := { program := "ytloeibdplgcgbaa", sum := "e427f95fcf1d0907f035eb1fd8262fcb2a3dcaa69e17b12947b72e621259b6fb", func := "loop.example/g03304/laws.FnExactAddCloth", spec := "fnExactAddCloth", apart := false, narrowed := true }
def FnExactAddClothUptoSaid : Prop := fnExactAddClothUptoRow.holds Try.pinned (OpenSpec.upto fnExactAddClothSpec)

/-- 'laws.FnExactTakeCloth', WHERE WHAT IT READS IS OF BULK AT MOST 1048576: true; the input reads as it did. -/
def fnExactTakeClothUptoRow : OpenClaim := { program := "ytloeibdplgcgbaa", sum := "e427f95fcf1d0907f035eb1fd8262fcb2a3dcaa69e17b12947b72e621259b6fb", func := "loop.example/g03304/laws.FnExactTakeCloth", spec := "fnExactTakeCloth", apart := false, narrowed := true }
def FnExactTakeClothUptoSaid : Prop := fnExactTakeClothUptoRow.holds Try.pinned (OpenSpec.upto fnExactTakeClothSpec)

/-- 'laws.FnStocks', WHERE WHAT IT READS IS OF BULK AT MOST 1048576: true; the input reads as it did. -/
def fnStocksUptoRow : OpenClaim := { program := "ytloeibdplgcgbaa", sum := "e427f95fcf1d0907f035eb1fd8262fcb2a3dcaa69e17b12947b72e621259b6fb", func := "loop.example/g03304/laws.FnStocks", spec := "fnStocks", apart := false, narrowed := true }
def FnStocksUptoSaid : Prop := fnStocksUptoRow.holds Try.pinned (OpenSpec.upto fnStocksSpec)

/-- 'laws.FnPurchases', WHERE WHAT IT READS IS OF BULK AT MOST 1048576: true; the input reads as it did. -/
def fnPurchasesUptoRow : OpenClaim := { program := "ytloeibdplgcgbaa", sum := "e427f95fcf1d0907f035eb1fd8262fcb2a3dcaa69e17b12947b72e621259b6fb", func := "loop.example/g03304/laws.FnPurchases", spec := "fnPurchases", apart := false, narrowed := true }
def FnPurchasesUptoSaid : Prop := fnPurchasesUptoRow.holds Try.pinned (OpenSpec.upto fnPurchasesSpec)

/-- 'laws.FnExactCostOf', WHERE WHAT IT READS IS OF BULK AT MOST 1048576: true; the input reads as it did. -/
def fnExactCostOfUptoRow : OpenClaim := { program := "ytloeibdplgcgbaa", sum := "e427f95fcf1d0907f035eb1fd8262fcb2a3dcaa69e17b12947b72e621259b6fb", func := "loop.example/g03304/laws.FnExactCostOf", spec := "fnExactCostOf", apart := false, narrowed := true }
def FnExactCostOfUptoSaid : Prop := fnExactCostOfUptoRow.holds Try.pinned (OpenSpec.upto fnExactCostOfSpec)

/-- 'laws.FnExactLeftAfter', WHERE WHAT IT READS IS OF BULK AT MOST 1048576: true; the input reads as it did. -/
def fnExactLeftAfterUptoRow : OpenClaim := { program := "ytloeibdplgcgbaa", sum := "e427f95fcf1d0907f035eb1fd8262fcb2a3dcaa69e17b12947b72e621259b6fb", func := "loop.example/g03304/laws.FnExactLeftAfter", spec := "fnExactLeftAfter", apart := false, narrowed := true }
def FnExactLeftAfterUptoSaid : Prop := fnExactLeftAfterUptoRow.holds Try.pinned (OpenSpec.upto fnExactLeftAfterSpec)

end Rows
end Go.Proofs.Ytloeibdplgcgbaa
