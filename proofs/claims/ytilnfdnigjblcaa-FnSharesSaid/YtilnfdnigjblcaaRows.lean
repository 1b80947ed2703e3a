/-
  No cell of these rows narrows 'for every input' (looked for: loops, veiled, ifaces, maps, wideKeys, modest, calm, conditions, laid).
  DERIVED. THE GIVEN ROWS OF THIS SEAT. 4 by the template 'for every input the law returns true; each argument reads behind the call as it read before'; 0 by the template 'total and deterministic' (their statements: YtilnfdnigjblcaaTotals.lean).
  GIVEN WITH THE SEED: the statements are not yours to turn. If you find one false, say at which input.
  Laid BY PROGRAM, IN A SANDBOX (cutbox-rows.mjs): the forced cells as the released guide's own fill.sh prints them over the translation f47d8d8470d5f72c… (all of the seat's roots in one cut). By AI agents, Wed Nov 11 2026. No macro, syntax, notation, axiom, sorry.
-/
import Derived.Test.YtilnfdnigjblcaaChecked
import GoSem.Claim
import GoSem.ClaimJoined
import GoSem.ClaimMapViews
import Derived.JoinedTies
import Derived.KernelRfl
namespace Go.Proofs.Ytilnfdnigjblcaa
/- THE CELL 'sum', in the pinned program and in every row, IS THE sha256 OF THE DUMP (.gsa) THAT YtilnfdnigjblcaaProg.lean LOADS. Nothing in Lean hashes anything: it is a label: what it is worth is what the hold of that sum in a sandbox is worth. -/
noncomputable def Try.pinned : Pinned := { name := "ytilnfdnigjblcaa", sum := "f47d8d8470d5f72cc557160554365c8f9e83c0724bb1c86328498a5a07b2f651", checked := Try.checked }
namespace Rows
def none {H : Type} : Left H := { results := [], args := [] }

/-- 'laws.FnExactKnowPut': WHATEVER THE INPUT: true; the input reads as it did. -/
def fnExactKnowPutSpec : ChangeSpec := { name := "fnExactKnowPut", fn := fun _ => fun
  | [d1, d2, d3] => { results := [.lit (.bool true)], args := [d1, d2, d3] }
  | _ => none }
def fnExactKnowPutRow : OpenClaim := { program := "ytilnfdnigjblcaa", sum := "f47d8d8470d5f72cc557160554365c8f9e83c0724bb1c86328498a5a07b2f651", func := "loop.example/g00122/laws.FnExactKnowPut", spec := "fnExactKnowPut", inPlace := ["slices.overlaps[int]"], plainKeys := false, apart := false }
def FnExactKnowPutSaid : Prop := fnExactKnowPutRow.holds Try.pinned (OpenSpec.ofChange fnExactKnowPutSpec)

/-- ITS FALSE NEIGHBOUR: 'it returns false'. Refute it at one input. -/
def fnExactKnowPutWrong : ChangeSpec := { name := "fnExactKnowPut", fn := fun _ => fun
  | [d1, d2, d3] => { results := [.lit (.bool false)], args := [d1, d2, d3] }
  | _ => none }
def FnExactKnowPutWrongFalsely : Prop := fnExactKnowPutRow.holds Try.pinned (OpenSpec.ofChange fnExactKnowPutWrong)

/-- 'laws.FnKnown': WHATEVER THE INPUT: true; the input reads as it did. -/
def fnKnownSpec : ChangeSpec := { name := "fnKnown", fn := fun _ => fun
  | [d] => { results := [.lit (.bool true)], args := [d] }
  | _ => none }
def fnKnownRow : OpenClaim := { program := "ytilnfdnigjblcaa", sum := "f47d8d8470d5f72cc557160554365c8f9e83c0724bb1c86328498a5a07b2f651", func := "loop.example/g00122/laws.FnKnown", spec := "fnKnown", inPlace := ["slices.overlaps[int]"], plainKeys := false, apart := false }
def FnKnownSaid : Prop := fnKnownRow.holds Try.pinned (OpenSpec.ofChange fnKnownSpec)

/-- ITS FALSE NEIGHBOUR: 'it returns false'. Refute it at one input. -/
def fnKnownWrong : ChangeSpec := { name := "fnKnown", fn := fun _ => fun
  | [d] => { results := [.lit (.bool false)], args := [d] }
  | _ => none }
def FnKnownWrongFalsely : Prop := fnKnownRow.holds Try.pinned (OpenSpec.ofChange fnKnownWrong)

/-- 'laws.FnShares': WHATEVER THE INPUT: true; the input reads as it did. -/
def fnSharesSpec : ChangeSpec := { name := "fnShares", fn := fun _ => fun
  | [d] => { results := [.lit (.bool true)], args := [d] }
  | _ => none }
def fnSharesRow : OpenClaim := { program := "ytilnfdnigjblcaa", sum := "f47d8d8470d5f72cc557160554365c8f9e83c0724bb1c86328498a5a07b2f651", func := "loop.example/g00122/laws.FnShares", spec := "fnShares", inPlace := ["slices.overlaps[int]"], plainKeys := false, apart := false }
def FnSharesSaid : Prop := fnSharesRow.holds Try.pinned (OpenSpec.ofChange fnSharesSpec)

/-- ITS FALSE NEIGHBOUR: 'it returns false'. Refute it at one input. -/
def fnSharesWrong : ChangeSpec := { name := "fnShares", fn := fun _ => fun
  | [d] => { results := [.lit (.bool false)], args := [d] }
  | _ => none }
def FnSharesWrongFalsely : Prop := fnSharesRow.holds Try.pinned (OpenSpec.ofChange fnSharesWrong)

/-- 'laws.FnMakesMore': WHATEVER THE INPUT: true; the input reads as it did. -/
def fnMakesMoreSpec : ChangeSpec := { name := "fnMakesMore", fn := fun _ => fun
  | [d] => { results := [.lit (.bool true)], args := [d] }
  | _ => none }
def fnMakesMoreRow : OpenClaim := { program := "ytilnfdnigjblcaa", sum := "f47d8d8470d5f72cc557160554365c8f9e83c0724bb1c86328498a5a07b2f651", func := "loop.example/g00122/laws.FnMakesMore", spec := "fnMakesMore", inPlace := ["slices.overlaps[int]"], plainKeys := false, apart := false }
def FnMakesMoreSaid : Prop := fnMakesMoreRow.holds Try.pinned (OpenSpec.ofChange fnMakesMoreSpec)

/-- ITS FALSE NEIGHBOUR: 'it returns false'. Refute it at one input. -/
def fnMakesMoreWrong : ChangeSpec := { name := "fnMakesMore", fn := fun _ => fun
  | [d] => { results := [.lit (.bool false)], args := [d] }
  | _ => none }
def FnMakesMoreWrongFalsely : Prop := fnMakesMoreRow.holds Try.pinned (OpenSpec.ofChange fnMakesMoreWrong)

/- THE SECOND FORM. 'bulk': how many values and letters a reading holds, each counted each time it is reached (what is shared counts as often as it is met; a slice's spare places count too). A statement '..UptoSaid' is the law's where the arguments, and the package variables that the reading takes, are together of bulk at most 1048576: NARROWER than '..Said'. Prove '..Said' where nothing that the law and all that it calls make is longer than what came in: it says more and counts as full. Else prove '..UptoSaid'. A law counts once. -/
mutual
def uptoBulk {H : Type} : DataW H → Nat
  | .lit (.string bytes) => bytes.length + 1
  | .lit _ => 1
  | .nil => 1
  | .ptr d => uptoBulk d + 1
  | .slice elems spare => uptoBulkAll elems + uptoBulkAll spare + 1
  | .agg parts => uptoBulkAll parts + 1
  | .iface _ d => uptoBulk d + 1
  | .map entries => uptoBulkEntries entries + 1
  | .held _ => 1
def uptoBulkAll {H : Type} : List (DataW H) → Nat
  | [] => 0
  | d :: r => uptoBulk d + uptoBulkAll r
def uptoBulkEntries {H : Type} : List (Lit × DataW H) → Nat
  | [] => 0
  | x :: r => uptoBulkEntry x + uptoBulkEntries r
def uptoBulkEntry {H : Type} : Lit × DataW H → Nat
  | (.string bytes, d) => bytes.length + uptoBulk d + 1
  | (_, d) => uptoBulk d + 1
 end
def uptoSmall : (H : Type) → List (DataW H) → Bool := fun _ ds => decide (uptoBulkAll ds ≤ 1048576)
def OpenSpec.upto (s : _root_.Go.ChangeSpec) : _root_.Go.OpenSpec := { _root_.Go.OpenSpec.ofChange s with cond := some uptoSmall }

/-- 'laws.FnExactKnowPut', WHERE WHAT IT READS IS OF BULK AT MOST 1048576: true; the input reads as it did. -/
def fnExactKnowPutUptoRow : OpenClaim := { program := "ytilnfdnigjblcaa", sum := "f47d8d8470d5f72cc557160554365c8f9e83c0724bb1c86328498a5a07b2f651", func := "loop.example/g00122/laws.FnExactKnowPut", spec := "fnExactKnowPut", inPlace := ["slices.overlaps[int]"], plainKeys := false, apart := false, narrowed := true }
def FnExactKnowPutUptoSaid : Prop := fnExactKnowPutUptoRow.holds Try.pinned (OpenSpec.upto fnExactKnowPutSpec)

/-- 'laws.FnKnown', WHERE WHAT IT READS IS OF BULK AT MOST 1048576: true; the input reads as it did. -/
def fnKnownUptoRow : OpenClaim := { program := "ytilnfdnigjblcaa", sum := "f47d8d8470d5f72cc557160554365c8f9e83c0724bb1c86328498a5a07b2f651", func := "loop.example/g00122/laws.FnKnown", spec := "fnKnown", inPlace := ["slices.overlaps[int]"], plainKeys := false, apart := false, narrowed := true }
def FnKnownUptoSaid : Prop := fnKnownUptoRow.holds Try.pinned (OpenSpec.upto fnKnownSpec)

/-- 'laws.FnShares', WHERE WHAT IT READS IS OF BULK AT MOST 1048576: true; the input reads as it did. -/
def fnSharesUptoRow : OpenClaim := { program := "ytilnfdnigjblcaa", sum := "f47d8d8470d5f72cc557160554365c8f9e83c0724bb1c86328498a5a07b2f651", func := "loop.example/g00122/laws.FnShares", spec := "fnShares", inPlace := ["slices.overlaps[int]"], plainKeys := false, apart := false, narrowed := true }
def FnSharesUptoSaid : Prop := fnSharesUptoRow.holds Try.pinned (OpenSpec.upto fnSharesSpec)

/-- 'laws.FnMakesMore', WHERE WHAT IT READS IS OF BULK AT MOST 1048576: true; the input reads as it did. -/
def fnMakesMoreUptoRow : OpenClaim := { program := "ytilnfdnigjblcaa", sum := "f47d8d8470d5f72cc557160554365c8f9e83c0724bb1c86328498a5a07b2f651", func := "loop.example/g00122/laws.FnMakesMore", spec := "fnMakesMore", inPlace := ["slices.overlaps[int]"], plainKeys := false, apart := false, narrowed := true }
def FnMakesMoreUptoSaid : Prop := fnMakesMoreUptoRow.holds Try.pinned (OpenSpec.upto fnMakesMoreSpec)

end Rows
end Go.Proofs.Ytilnfdnigjblcaa
