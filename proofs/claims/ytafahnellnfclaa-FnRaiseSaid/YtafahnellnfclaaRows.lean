/-
  No cell of these rows narrows 'for every input' (looked for: loops, veiled, ifaces, maps, wideKeys, modest, calm, conditions, laid).
  DERIVED. THE GIVEN ROWS OF THIS SEAT. 12 by the template 'for every input the law returns true; each argument reads behind the call as it read before'; 0 by the template 'total and deterministic' (their statements: YtafahnellnfclaaTotals.lean).
  GIVEN WITH THE SEED: the statements are not yours to turn. If you find one false, say at which input.
  Laid BY PROGRAM, IN A SANDBOX (cutbox-rows.mjs): the forced cells as the released guide's own fill.sh prints them over the translation 478c9b56683806c7… (all of the seat's roots in one cut). By AI agents, Wed Nov 11 2026. No macro, syntax, notation, axiom, sorry.
-/
import Derived.Test.YtafahnellnfclaaChecked
import GoSem.Claim
import GoSem.ClaimJoined
import GoSem.ClaimMapViews
import Derived.JoinedTies
import Derived.KernelRfl
namespace Go.Proofs.Ytafahnellnfclaa
/- THE CELL 'sum', in the pinned program and in every row, IS THE sha256 OF THE DUMP (.gsa) THAT YtafahnellnfclaaProg.lean LOADS. Nothing in Lean hashes anything: it is a label: what it is worth is what the hold of that sum in a sandbox is worth. -/
noncomputable def Try.pinned : Pinned := { name := "ytafahnellnfclaa", sum := "478c9b56683806c73e7f5e2454f340ed92844ef9a97a2315e7f3cb187c9bf005", checked := Try.checked }
namespace Rows
def none {H : Type} : Left H := { results := [], args := [] }

/-- 'laws.FnExactPoolAdd': WHATEVER THE INPUT: true; the input reads as it did. -/
def fnExactPoolAddSpec : ChangeSpec := { name := "fnExactPoolAdd", fn := fun _ => fun
  | [d1, d2] => { results := [.lit (.bool true)], args := [d1, d2] }
  | _ => none }
def fnExactPoolAddRow : OpenClaim := { program := "ytafahnellnfclaa", sum := "478c9b56683806c73e7f5e2454f340ed92844ef9a97a2315e7f3cb187c9bf005", func := "loop.example/g00122/laws.FnExactPoolAdd", spec := "fnExactPoolAdd", plainKeys := false, apart := false }
def FnExactPoolAddSaid : Prop := fnExactPoolAddRow.holds Try.pinned (OpenSpec.ofChange fnExactPoolAddSpec)

/-- ITS FALSE NEIGHBOUR: 'it returns false'. Refute it at one input. -/
def fnExactPoolAddWrong : ChangeSpec := { name := "fnExactPoolAdd", fn := fun _ => fun
  | [d1, d2] => { results := [.lit (.bool false)], args := [d1, d2] }
  | _ => none }
def FnExactPoolAddWrongFalsely : Prop := fnExactPoolAddRow.holds Try.pinned (OpenSpec.ofChange fnExactPoolAddWrong)

/-- 'laws.FnExactPartsOf': WHATEVER THE INPUT: true; the input reads as it did. -/
def fnExactPartsOfSpec : ChangeSpec := { name := "fnExactPartsOf", fn := fun _ => fun
  | [d1, d2] => { results := [.lit (.bool true)], args := [d1, d2] }
  | _ => none }
def fnExactPartsOfRow : OpenClaim := { program := "ytafahnellnfclaa", sum := "478c9b56683806c73e7f5e2454f340ed92844ef9a97a2315e7f3cb187c9bf005", func := "loop.example/g00122/laws.FnExactPartsOf", spec := "fnExactPartsOf", plainKeys := false, apart := false }
def FnExactPartsOfSaid : Prop := fnExactPartsOfRow.holds Try.pinned (OpenSpec.ofChange fnExactPartsOfSpec)

/-- ITS FALSE NEIGHBOUR: 'it returns false'. Refute it at one input. -/
def fnExactPartsOfWrong : ChangeSpec := { name := "fnExactPartsOf", fn := fun _ => fun
  | [d1, d2] => { results := [.lit (.bool false)], args := [d1, d2] }
  | _ => none }
def FnExactPartsOfWrongFalsely : Prop := fnExactPartsOfRow.holds Try.pinned (OpenSpec.ofChange fnExactPartsOfWrong)

/-- 'laws.FnExactTermSize': WHATEVER THE INPUT: true; the input reads as it did. -/
def fnExactTermSizeSpec : ChangeSpec := { name := "fnExactTermSize", fn := fun _ => fun
  | [d1, d2] => { results := [.lit (.bool true)], args := [d1, d2] }
  | _ => none }
def fnExactTermSizeRow : OpenClaim := { program := "ytafahnellnfclaa", sum := "478c9b56683806c73e7f5e2454f340ed92844ef9a97a2315e7f3cb187c9bf005", func := "loop.example/g00122/laws.FnExactTermSize", spec := "fnExactTermSize", plainKeys := false, apart := false }
def FnExactTermSizeSaid : Prop := fnExactTermSizeRow.holds Try.pinned (OpenSpec.ofChange fnExactTermSizeSpec)

/-- ITS FALSE NEIGHBOUR: 'it returns false'. Refute it at one input. -/
def fnExactTermSizeWrong : ChangeSpec := { name := "fnExactTermSize", fn := fun _ => fun
  | [d1, d2] => { results := [.lit (.bool false)], args := [d1, d2] }
  | _ => none }
def FnExactTermSizeWrongFalsely : Prop := fnExactTermSizeRow.holds Try.pinned (OpenSpec.ofChange fnExactTermSizeWrong)

/-- 'laws.FnExactTermHas': WHATEVER THE INPUT: true; the input reads as it did. -/
def fnExactTermHasSpec : ChangeSpec := { name := "fnExactTermHas", fn := fun _ => fun
  | [d1, d2, d3] => { results := [.lit (.bool true)], args := [d1, d2, d3] }
  | _ => none }
def fnExactTermHasRow : OpenClaim := { program := "ytafahnellnfclaa", sum := "478c9b56683806c73e7f5e2454f340ed92844ef9a97a2315e7f3cb187c9bf005", func := "loop.example/g00122/laws.FnExactTermHas", spec := "fnExactTermHas", plainKeys := false, apart := false }
def FnExactTermHasSaid : Prop := fnExactTermHasRow.holds Try.pinned (OpenSpec.ofChange fnExactTermHasSpec)

/-- ITS FALSE NEIGHBOUR: 'it returns false'. Refute it at one input. -/
def fnExactTermHasWrong : ChangeSpec := { name := "fnExactTermHas", fn := fun _ => fun
  | [d1, d2, d3] => { results := [.lit (.bool false)], args := [d1, d2, d3] }
  | _ => none }
def FnExactTermHasWrongFalsely : Prop := fnExactTermHasRow.holds Try.pinned (OpenSpec.ofChange fnExactTermHasWrong)

/-- 'laws.FnExactTermBelow': WHATEVER THE INPUT: true; the input reads as it did. -/
def fnExactTermBelowSpec : ChangeSpec := { name := "fnExactTermBelow", fn := fun _ => fun
  | [d1, d2] => { results := [.lit (.bool true)], args := [d1, d2] }
  | _ => none }
def fnExactTermBelowRow : OpenClaim := { program := "ytafahnellnfclaa", sum := "478c9b56683806c73e7f5e2454f340ed92844ef9a97a2315e7f3cb187c9bf005", func := "loop.example/g00122/laws.FnExactTermBelow", spec := "fnExactTermBelow", plainKeys := false, apart := false }
def FnExactTermBelowSaid : Prop := fnExactTermBelowRow.holds Try.pinned (OpenSpec.ofChange fnExactTermBelowSpec)

/-- ITS FALSE NEIGHBOUR: 'it returns false'. Refute it at one input. -/
def fnExactTermBelowWrong : ChangeSpec := { name := "fnExactTermBelow", fn := fun _ => fun
  | [d1, d2] => { results := [.lit (.bool false)], args := [d1, d2] }
  | _ => none }
def FnExactTermBelowWrongFalsely : Prop := fnExactTermBelowRow.holds Try.pinned (OpenSpec.ofChange fnExactTermBelowWrong)

/-- 'laws.FnPool': WHATEVER THE INPUT: true; the input reads as it did. -/
def fnPoolSpec : ChangeSpec := { name := "fnPool", fn := fun _ => fun
  | [d] => { results := [.lit (.bool true)], args := [d] }
  | _ => none }
def fnPoolRow : OpenClaim := { program := "ytafahnellnfclaa", sum := "478c9b56683806c73e7f5e2454f340ed92844ef9a97a2315e7f3cb187c9bf005", func := "loop.example/g00122/laws.FnPool", spec := "fnPool", plainKeys := false, apart := false }
def FnPoolSaid : Prop := fnPoolRow.holds Try.pinned (OpenSpec.ofChange fnPoolSpec)

/-- ITS FALSE NEIGHBOUR: 'it returns false'. Refute it at one input. -/
def fnPoolWrong : ChangeSpec := { name := "fnPool", fn := fun _ => fun
  | [d] => { results := [.lit (.bool false)], args := [d] }
  | _ => none }
def FnPoolWrongFalsely : Prop := fnPoolRow.holds Try.pinned (OpenSpec.ofChange fnPoolWrong)

/-- 'laws.FnSizes': WHATEVER THE INPUT: true; the input reads as it did. -/
def fnSizesSpec : ChangeSpec := { name := "fnSizes", fn := fun _ => fun
  | [d] => { results := [.lit (.bool true)], args := [d] }
  | _ => none }
def fnSizesRow : OpenClaim := { program := "ytafahnellnfclaa", sum := "478c9b56683806c73e7f5e2454f340ed92844ef9a97a2315e7f3cb187c9bf005", func := "loop.example/g00122/laws.FnSizes", spec := "fnSizes", plainKeys := false, apart := false }
def FnSizesSaid : Prop := fnSizesRow.holds Try.pinned (OpenSpec.ofChange fnSizesSpec)

/-- ITS FALSE NEIGHBOUR: 'it returns false'. Refute it at one input. -/
def fnSizesWrong : ChangeSpec := { name := "fnSizes", fn := fun _ => fun
  | [d] => { results := [.lit (.bool false)], args := [d] }
  | _ => none }
def FnSizesWrongFalsely : Prop := fnSizesRow.holds Try.pinned (OpenSpec.ofChange fnSizesWrong)

/-- 'laws.FnBelow': WHATEVER THE INPUT: true; the input reads as it did. -/
def fnBelowSpec : ChangeSpec := { name := "fnBelow", fn := fun _ => fun
  | [d] => { results := [.lit (.bool true)], args := [d] }
  | _ => none }
def fnBelowRow : OpenClaim := { program := "ytafahnellnfclaa", sum := "478c9b56683806c73e7f5e2454f340ed92844ef9a97a2315e7f3cb187c9bf005", func := "loop.example/g00122/laws.FnBelow", spec := "fnBelow", plainKeys := false, apart := false }
def FnBelowSaid : Prop := fnBelowRow.holds Try.pinned (OpenSpec.ofChange fnBelowSpec)

/-- ITS FALSE NEIGHBOUR: 'it returns false'. Refute it at one input. -/
def fnBelowWrong : ChangeSpec := { name := "fnBelow", fn := fun _ => fun
  | [d] => { results := [.lit (.bool false)], args := [d] }
  | _ => none }
def FnBelowWrongFalsely : Prop := fnBelowRow.holds Try.pinned (OpenSpec.ofChange fnBelowWrong)

/-- 'laws.FnExactNameOf': WHATEVER THE INPUT: true; the input reads as it did. -/
def fnExactNameOfSpec : ChangeSpec := { name := "fnExactNameOf", fn := fun _ => fun
  | [d1, d2] => { results := [.lit (.bool true)], args := [d1, d2] }
  | _ => none }
def fnExactNameOfRow : OpenClaim := { program := "ytafahnellnfclaa", sum := "478c9b56683806c73e7f5e2454f340ed92844ef9a97a2315e7f3cb187c9bf005", func := "loop.example/g00122/laws.FnExactNameOf", spec := "fnExactNameOf", plainKeys := false, apart := false }
def FnExactNameOfSaid : Prop := fnExactNameOfRow.holds Try.pinned (OpenSpec.ofChange fnExactNameOfSpec)

/-- ITS FALSE NEIGHBOUR: 'it returns false'. Refute it at one input. -/
def fnExactNameOfWrong : ChangeSpec := { name := "fnExactNameOf", fn := fun _ => fun
  | [d1, d2] => { results := [.lit (.bool false)], args := [d1, d2] }
  | _ => none }
def FnExactNameOfWrongFalsely : Prop := fnExactNameOfRow.holds Try.pinned (OpenSpec.ofChange fnExactNameOfWrong)

/-- 'laws.FnExactRaise': WHATEVER THE INPUT: true; the input reads as it did. -/
def fnExactRaiseSpec : ChangeSpec := { name := "fnExactRaise", fn := fun _ => fun
  | [d1, d2, d3] => { results := [.lit (.bool true)], args := [d1, d2, d3] }
  | _ => none }
def fnExactRaiseRow : OpenClaim := { program := "ytafahnellnfclaa", sum := "478c9b56683806c73e7f5e2454f340ed92844ef9a97a2315e7f3cb187c9bf005", func := "loop.example/g00122/laws.FnExactRaise", spec := "fnExactRaise", plainKeys := false, apart := false }
def FnExactRaiseSaid : Prop := fnExactRaiseRow.holds Try.pinned (OpenSpec.ofChange fnExactRaiseSpec)

/-- ITS FALSE NEIGHBOUR: 'it returns false'. Refute it at one input. -/
def fnExactRaiseWrong : ChangeSpec := { name := "fnExactRaise", fn := fun _ => fun
  | [d1, d2, d3] => { results := [.lit (.bool false)], args := [d1, d2, d3] }
  | _ => none }
def FnExactRaiseWrongFalsely : Prop := fnExactRaiseRow.holds Try.pinned (OpenSpec.ofChange fnExactRaiseWrong)

/-- 'laws.FnRaise': WHATEVER THE INPUT: true; the input reads as it did. -/
def fnRaiseSpec : ChangeSpec := { name := "fnRaise", fn := fun _ => fun
  | [d] => { results := [.lit (.bool true)], args := [d] }
  | _ => none }
def fnRaiseRow : OpenClaim := { program := "ytafahnellnfclaa", sum := "478c9b56683806c73e7f5e2454f340ed92844ef9a97a2315e7f3cb187c9bf005", func := "loop.example/g00122/laws.FnRaise", spec := "fnRaise", plainKeys := false, apart := false }
def FnRaiseSaid : Prop := fnRaiseRow.holds Try.pinned (OpenSpec.ofChange fnRaiseSpec)

/-- ITS FALSE NEIGHBOUR: 'it returns false'. Refute it at one input. -/
def fnRaiseWrong : ChangeSpec := { name := "fnRaise", fn := fun _ => fun
  | [d] => { results := [.lit (.bool false)], args := [d] }
  | _ => none }
def FnRaiseWrongFalsely : Prop := fnRaiseRow.holds Try.pinned (OpenSpec.ofChange fnRaiseWrong)

/-- 'laws.FnMade': WHATEVER THE INPUT: true; the input reads as it did. -/
def fnMadeSpec : ChangeSpec := { name := "fnMade", fn := fun _ => fun
  | [d] => { results := [.lit (.bool true)], args := [d] }
  | _ => none }
def fnMadeRow : OpenClaim := { program := "ytafahnellnfclaa", sum := "478c9b56683806c73e7f5e2454f340ed92844ef9a97a2315e7f3cb187c9bf005", func := "loop.example/g00122/laws.FnMade", spec := "fnMade", plainKeys := false, apart := false }
def FnMadeSaid : Prop := fnMadeRow.holds Try.pinned (OpenSpec.ofChange fnMadeSpec)

/-- ITS FALSE NEIGHBOUR: 'it returns false'. Refute it at one input. -/
def fnMadeWrong : ChangeSpec := { name := "fnMade", fn := fun _ => fun
  | [d] => { results := [.lit (.bool false)], args := [d] }
  | _ => none }
def FnMadeWrongFalsely : Prop := fnMadeRow.holds Try.pinned (OpenSpec.ofChange fnMadeWrong)

/- THE SECOND FORM. 'bulk': how many values and letters a reading holds, each counted each time it is reached (what is shared counts as often as it is met; a slice's spare places count too). A statement '..UptoSaid' is the law's where the arguments, and the package variables that the reading takes, are together of bulk at most 1048576: NARROWER than '..Said'. Prove '..Said' where nothing that the law and all that it calls make is longer than what came in: it says more and counts as full. Else prove '..UptoSaid'. A law counts once. -/
mutual
def uptoBulk {H : Type} : DataW H → Nat
  | .lit (.string bytes) => bytes.length + 1
  | .lit _ => 1
  | .nil => 1
  | .ptr d => uptoBulk d + 1
  | .slice elems spare => uptoBulkAll elems + uptoBulkAll spare + 1
  | .agg parts => uptoBulkAll parts + 1
  | .iface _ d => uptoBulk d + 1
  | .map entries => uptoBulkEntries entries + 1
  | .held _ => 1
def uptoBulkAll {H : Type} : List (DataW H) → Nat
  | [] => 0
  | d :: r => uptoBulk d + uptoBulkAll r
def uptoBulkEntries {H : Type} : List (Lit × DataW H) → Nat
  | [] => 0
  | x :: r => uptoBulkEntry x + uptoBulkEntries r
def uptoBulkEntry {H : Type} : Lit × DataW H → Nat
  | (.string bytes, d) => bytes.length + uptoBulk d + 1
  | (_, d) => uptoBulk d + 1
 end
def uptoSmall : (H : Type) → List (DataW H) → Bool := fun _ ds => decide (uptoBulkAll ds ≤ 1048576)
def OpenSpec.upto (s : _root_.Go.ChangeSpec) : _root_.Go.OpenSpec := { _root_.Go.OpenSpec.ofChange s with cond := some uptoSmall }

/-- 'laws.FnExactPoolAdd', WHERE WHAT IT READS IS OF BULK AT MOST 1048576: true; the input reads as it did. -/
def fnExactPoolAddUptoRow : OpenClaim := { program := "ytafahnellnfclaa", sum := "478c9b56683806c73e7f5e2454f340ed92844ef9a97a2315e7f3cb187c9bf005", func := "loop.example/g00122/laws.FnExactPoolAdd", spec := "fnExactPoolAdd", plainKeys := false, apart := false, narrowed := true }
def FnExactPoolAddUptoSaid : Prop := fnExactPoolAddUptoRow.holds Try.pinned (OpenSpec.upto fnExactPoolAddSpec)

/-- 'laws.FnExactPartsOf', WHERE WHAT IT READS IS OF BULK AT MOST 1048576: true; the input reads as it did. -/
def fnExactPartsOfUptoRow : OpenClaim := { program := "ytafahnellnfclaa", sum := "478c9b56683806c73e7f5e2454f340ed92844ef9a97a2315e7f3cb187c9bf005", func := "loop.example/g00122/laws.FnExactPartsOf", spec := "fnExactPartsOf", plainKeys := false, apart := false, narrowed := true }
def FnExactPartsOfUptoSaid : Prop := fnExactPartsOfUptoRow.holds Try.pinned (OpenSpec.upto fnExactPartsOfSpec)

/-- 'laws.FnExactTermSize', WHERE WHAT IT READS IS OF BULK AT MOST 1048576: true; the input reads as it did. -/
def fnExactTermSizeUptoRow : OpenClaim := { program := "ytafahnellnfclaa", sum := "478c9b56683806c73e7f5e2454f340ed92844ef9a97a2315e7f3cb187c9bf005", func := "loop.example/g00122/laws.FnExactTermSize", spec := "fnExactTermSize", plainKeys := false, apart := false, narrowed := true }
def FnExactTermSizeUptoSaid : Prop := fnExactTermSizeUptoRow.holds Try.pinned (OpenSpec.upto fnExactTermSizeSpec)

/-- 'laws.FnExactTermHas', WHERE WHAT IT READS IS OF BULK AT MOST 1048576: true; the input reads as it did. -/
def fnExactTermHasUptoRow : OpenClaim := { program := "ytafahnellnfclaa", sum := "478c9b56683806c73e7f5e2454f340ed92844ef9a97a2315e7f3cb187c9bf005", func := "loop.example/g00122/laws.FnExactTermHas", spec := "fnExactTermHas", plainKeys := false, apart := false, narrowed := true }
def FnExactTermHasUptoSaid : Prop := fnExactTermHasUptoRow.holds Try.pinned (OpenSpec.upto fnExactTermHasSpec)

/-- 'laws.FnExactTermBelow', WHERE WHAT IT READS IS OF BULK AT MOST 1048576: true; the input reads as it did. -/
def fnExactTermBelowUptoRow : OpenClaim := { program := "ytafahnellnfclaa", sum := "478c9b56683806c73e7f5e2454f340ed92844ef9a97a2315e7f3cb187c9bf005", func := "loop.example/g00122/laws.FnExactTermBelow", spec := "fnExactTermBelow", plainKeys := false, apart := false, narrowed := true }
def FnExactTermBelowUptoSaid : Prop := fnExactTermBelowUptoRow.holds Try.pinned (OpenSpec.upto fnExactTermBelowSpec)

/-- 'laws.FnPool', WHERE WHAT IT READS IS OF BULK AT MOST 1048576: true; the input reads as it did. -/
def fnPoolUptoRow : OpenClaim := { program := "ytafahnellnfclaa", sum := "478c9b56683806c73e7f5e2454f340ed92844ef9a97a2315e7f3cb187c9bf005", func := "loop.example/g00122/laws.FnPool", spec := "fnPool", plainKeys := false, apart := false, narrowed := true }
def FnPoolUptoSaid : Prop := fnPoolUptoRow.holds Try.pinned (OpenSpec.upto fnPoolSpec)

/-- 'laws.FnSizes', WHERE WHAT IT READS IS OF BULK AT MOST 1048576: true; the input reads as it did. -/
def fnSizesUptoRow : OpenClaim := { program := "ytafahnellnfclaa", sum := "478c9b56683806c73e7f5e2454f340ed92844ef9a97a2315e7f3cb187c9bf005", func := "loop.example/g00122/laws.FnSizes", spec := "fnSizes", plainKeys := false, apart := false, narrowed := true }
def FnSizesUptoSaid : Prop := fnSizesUptoRow.holds Try.pinned (OpenSpec.upto fnSizesSpec)

/-- 'laws.FnBelow', WHERE WHAT IT READS IS OF BULK AT MOST 1048576: true; the input reads as it did. -/
def fnBelowUptoRow : OpenClaim := { program := "ytafahnellnfclaa", sum := "478c9b56683806c73e7f5e2454f340ed92844ef9a97a2315e7f3cb187c9bf005", func := "loop.example/g00122/laws.FnBelow", spec := "fnBelow", plainKeys := false, apart := false, narrowed := true }
def FnBelowUptoSaid : Prop := fnBelowUptoRow.holds Try.pinned (OpenSpec.upto fnBelowSpec)

/-- 'laws.FnExactNameOf', WHERE WHAT IT READS IS OF BULK AT MOST 1048576: true; the input reads as it did. -/
def fnExactNameOfUptoRow : OpenClaim := { program := "ytafahnellnfclaa", sum := "478c9b56683806c73e7f5e2454f340ed92844ef9a97a2315e7f3cb187c9bf005", func := "loop.example/g00122/laws.FnExactNameOf", spec := "fnExactNameOf", plainKeys := false, apart := false, narrowed := true }
def FnExactNameOfUptoSaid : Prop := fnExactNameOfUptoRow.holds Try.pinned (OpenSpec.upto fnExactNameOfSpec)

/-- 'laws.FnExactRaise', WHERE WHAT IT READS IS OF BULK AT MOST 1048576: true; the input reads as it did. -/
def fnExactRaiseUptoRow : OpenClaim := { program := "ytafahnellnfclaa", sum := "478c9b56683806c73e7f5e2454f340ed92844ef9a97a2315e7f3cb187c9bf005", func := "loop.example/g00122/laws.FnExactRaise", spec := "fnExactRaise", plainKeys := false, apart := false, narrowed := true }
def FnExactRaiseUptoSaid : Prop := fnExactRaiseUptoRow.holds Try.pinned (OpenSpec.upto fnExactRaiseSpec)

/-- 'laws.FnRaise', WHERE WHAT IT READS IS OF BULK AT MOST 1048576: true; the input reads as it did. -/
def fnRaiseUptoRow : OpenClaim := { program := "ytafahnellnfclaa", sum := "478c9b56683806c73e7f5e2454f340ed92844ef9a97a2315e7f3cb187c9bf005", func := "loop.example/g00122/laws.FnRaise", spec := "fnRaise", plainKeys := false, apart := false, narrowed := true }
def FnRaiseUptoSaid : Prop := fnRaiseUptoRow.holds Try.pinned (OpenSpec.upto fnRaiseSpec)

/-- 'laws.FnMade', WHERE WHAT IT READS IS OF BULK AT MOST 1048576: true; the input reads as it did. -/
def fnMadeUptoRow : OpenClaim := { program := "ytafahnellnfclaa", sum := "478c9b56683806c73e7f5e2454f340ed92844ef9a97a2315e7f3cb187c9bf005", func := "loop.example/g00122/laws.FnMade", spec := "fnMade", plainKeys := false, apart := false, narrowed := true }
def FnMadeUptoSaid : Prop := fnMadeUptoRow.holds Try.pinned (OpenSpec.upto fnMadeSpec)

end Rows
end Go.Proofs.Ytafahnellnfclaa
