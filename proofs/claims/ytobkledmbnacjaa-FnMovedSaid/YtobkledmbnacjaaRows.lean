/-
  No cell of these rows narrows 'for every input' (looked for: loops, veiled, ifaces, maps, wideKeys, modest, calm, conditions, laid).
  DERIVED. THE GIVEN ROWS OF THIS SEAT. 4 by the template 'for every input the law returns true; each argument reads behind the call as it read before'; 0 by the template 'total and deterministic' (their statements: YtobkledmbnacjaaTotals.lean).
  GIVEN WITH THE SEED: the statements are not yours to turn. If you find one false, say at which input.
  Laid BY PROGRAM, IN A SANDBOX (cutbox-rows.mjs): the forced cells as the released guide's own fill.sh prints them over the translation aab23ffbdc0f9baf… (all of the seat's roots in one cut). By AI agents, Wed Nov 11 2026. No macro, syntax, notation, axiom, sorry.
-/
import Derived.Test.YtobkledmbnacjaaChecked
import GoSem.Claim
import GoSem.ClaimJoined
import GoSem.ClaimMapViews
import Derived.JoinedTies
import Derived.KernelRfl
namespace Go.Proofs.Ytobkledmbnacjaa
/- THE CELL 'sum', in the pinned program and in every row, IS THE sha256 OF THE DUMP (.gsa) THAT YtobkledmbnacjaaProg.lean LOADS. Nothing in Lean hashes anything: it is a label: what it is worth is what the hold of that sum in a sandbox is worth. -/
noncomputable def Try.pinned : Pinned := { name := "ytobkledmbnacjaa", sum := "aab23ffbdc0f9baf627bca6fe41a517cb168b7a1f1ddbcab6166f40513f71310", checked := Try.checked }
namespace Rows
def none {H : Type} : Left H := { results := [], args := [] }

/-- 'laws.FnExactTermSwap': WHATEVER THE INPUT: true; the input reads as it did. -/
def fnExactTermSwapSpec : ChangeSpec := { name := "fnExactTermSwap", fn := fun _ => fun
  | [d1, d2, d3, d4] => { results := [.lit (.bool true)], args := [d1, d2, d3, d4] }
  | _ => none }
def fnExactTermSwapRow : OpenClaim := { program := "ytobkledmbnacjaa", sum := "aab23ffbdc0f9baf627bca6fe41a517cb168b7a1f1ddbcab6166f40513f71310", func := "loop.example/g00122/laws.FnExactTermSwap", spec := "fnExactTermSwap", plainKeys := false, apart := false }
def FnExactTermSwapSaid : Prop := fnExactTermSwapRow.holds Try.pinned (OpenSpec.ofChange fnExactTermSwapSpec)

/-- ITS FALSE NEIGHBOUR: 'it returns false'. Refute it at one input. -/
def fnExactTermSwapWrong : ChangeSpec := { name := "fnExactTermSwap", fn := fun _ => fun
  | [d1, d2, d3, d4] => { results := [.lit (.bool false)], args := [d1, d2, d3, d4] }
  | _ => none }
def FnExactTermSwapWrongFalsely : Prop := fnExactTermSwapRow.holds Try.pinned (OpenSpec.ofChange fnExactTermSwapWrong)

/-- 'laws.FnExactTermMove': WHATEVER THE INPUT: true; the input reads as it did. -/
def fnExactTermMoveSpec : ChangeSpec := { name := "fnExactTermMove", fn := fun _ => fun
  | [d1, d2, d3] => { results := [.lit (.bool true)], args := [d1, d2, d3] }
  | _ => none }
def fnExactTermMoveRow : OpenClaim := { program := "ytobkledmbnacjaa", sum := "aab23ffbdc0f9baf627bca6fe41a517cb168b7a1f1ddbcab6166f40513f71310", func := "loop.example/g00122/laws.FnExactTermMove", spec := "fnExactTermMove", plainKeys := false, apart := false }
def FnExactTermMoveSaid : Prop := fnExactTermMoveRow.holds Try.pinned (OpenSpec.ofChange fnExactTermMoveSpec)

/-- ITS FALSE NEIGHBOUR: 'it returns false'. Refute it at one input. -/
def fnExactTermMoveWrong : ChangeSpec := { name := "fnExactTermMove", fn := fun _ => fun
  | [d1, d2, d3] => { results := [.lit (.bool false)], args := [d1, d2, d3] }
  | _ => none }
def FnExactTermMoveWrongFalsely : Prop := fnExactTermMoveRow.holds Try.pinned (OpenSpec.ofChange fnExactTermMoveWrong)

/-- 'laws.FnSwap': WHATEVER THE INPUT: true; the input reads as it did. -/
def fnSwapSpec : ChangeSpec := { name := "fnSwap", fn := fun _ => fun
  | [d] => { results := [.lit (.bool true)], args := [d] }
  | _ => none }
def fnSwapRow : OpenClaim := { program := "ytobkledmbnacjaa", sum := "aab23ffbdc0f9baf627bca6fe41a517cb168b7a1f1ddbcab6166f40513f71310", func := "loop.example/g00122/laws.FnSwap", spec := "fnSwap", plainKeys := false, apart := false }
def FnSwapSaid : Prop := fnSwapRow.holds Try.pinned (OpenSpec.ofChange fnSwapSpec)

/-- ITS FALSE NEIGHBOUR: 'it returns false'. Refute it at one input. -/
def fnSwapWrong : ChangeSpec := { name := "fnSwap", fn := fun _ => fun
  | [d] => { results := [.lit (.bool false)], args := [d] }
  | _ => none }
def FnSwapWrongFalsely : Prop := fnSwapRow.holds Try.pinned (OpenSpec.ofChange fnSwapWrong)

/-- 'laws.FnMoved': WHATEVER THE INPUT: true; the input reads as it did. -/
def fnMovedSpec : ChangeSpec := { name := "fnMoved", fn := fun _ => fun
  | [d] => { results := [.lit (.bool true)], args := [d] }
  | _ => none }
def fnMovedRow : OpenClaim := { program := "ytobkledmbnacjaa", sum := "aab23ffbdc0f9baf627bca6fe41a517cb168b7a1f1ddbcab6166f40513f71310", func := "loop.example/g00122/laws.FnMoved", spec := "fnMoved", recurses := true, plainKeys := false, apart := false }
def FnMovedSaid : Prop := fnMovedRow.holds Try.pinned (OpenSpec.ofChange fnMovedSpec)

/-- ITS FALSE NEIGHBOUR: 'it returns false'. Refute it at one input. -/
def fnMovedWrong : ChangeSpec := { name := "fnMoved", fn := fun _ => fun
  | [d] => { results := [.lit (.bool false)], args := [d] }
  | _ => none }
def FnMovedWrongFalsely : Prop := fnMovedRow.holds Try.pinned (OpenSpec.ofChange fnMovedWrong)

/- THE SECOND FORM. 'bulk': how many values and letters a reading holds, each counted each time it is reached (what is shared counts as often as it is met; a slice's spare places count too). A statement '..UptoSaid' is the law's where the arguments, and the package variables that the reading takes, are together of bulk at most 1048576: NARROWER than '..Said'. Prove '..Said' where nothing that the law and all that it calls make is longer than what came in: it says more and counts as full. Else prove '..UptoSaid'. A law counts once. -/
mutual
def uptoBulk {H : Type} : DataW H → Nat
  | .lit (.string bytes) => bytes.length + 1
  | .lit _ => 1
  | .nil => 1
  | .ptr d => uptoBulk d + 1
  | .slice elems spare => uptoBulkAll elems + uptoBulkAll spare + 1
  | .agg parts => uptoBulkAll parts + 1
  | .iface _ d => uptoBulk d + 1
  | .map entries => uptoBulkEntries entries + 1
  | .held _ => 1
def uptoBulkAll {H : Type} : List (DataW H) → Nat
  | [] => 0
  | d :: r => uptoBulk d + uptoBulkAll r
def uptoBulkEntries {H : Type} : List (Lit × DataW H) → Nat
  | [] => 0
  | x :: r => uptoBulkEntry x + uptoBulkEntries r
def uptoBulkEntry {H : Type} : Lit × DataW H → Nat
  | (.string bytes, d) => bytes.length + uptoBulk d + 1
  | (_, d) => uptoBulk d + 1
 end
def uptoSmall : (H : Type) → List (DataW H) → Bool := fun _ ds => decide (uptoBulkAll ds ≤ 1048576)
def OpenSpec.upto (s : _root_.Go.ChangeSpec) : _root_.Go.OpenSpec := { _root_.Go.OpenSpec.ofChange s with cond := some uptoSmall }

/-- 'laws.FnExactTermSwap', WHERE WHAT IT READS IS OF BULK AT MOST 1048576: true; the input reads as it did. -/
def fnExactTermSwapUptoRow : OpenClaim := { program := "ytobkledmbnacjaa", sum := "aab23ffbdc0f9baf627bca6fe41a517cb168b7a1f1ddbcab6166f40513f71310", func := "loop.example/g00122/laws.FnExactTermSwap", spec := "fnExactTermSwap", plainKeys := false, apart := false, narrowed := true }
def FnExactTermSwapUptoSaid : Prop := fnExactTermSwapUptoRow.holds Try.pinned (OpenSpec.upto fnExactTermSwapSpec)

/-- 'laws.FnExactTermMove', WHERE WHAT IT READS IS OF BULK AT MOST 1048576: true; the input reads as it did. -/
def fnExactTermMoveUptoRow : OpenClaim := { program := "ytobkledmbnacjaa", sum := "aab23ffbdc0f9baf627bca6fe41a517cb168b7a1f1ddbcab6166f40513f71310", func := "loop.example/g00122/laws.FnExactTermMove", spec := "fnExactTermMove", plainKeys := false, apart := false, narrowed := true }
def FnExactTermMoveUptoSaid : Prop := fnExactTermMoveUptoRow.holds Try.pinned (OpenSpec.upto fnExactTermMoveSpec)

/-- 'laws.FnSwap', WHERE WHAT IT READS IS OF BULK AT MOST 1048576: true; the input reads as it did. -/
def fnSwapUptoRow : OpenClaim := { program := "ytobkledmbnacjaa", sum := "aab23ffbdc0f9baf627bca6fe41a517cb168b7a1f1ddbcab6166f40513f71310", func := "loop.example/g00122/laws.FnSwap", spec := "fnSwap", plainKeys := false, apart := false, narrowed := true }
def FnSwapUptoSaid : Prop := fnSwapUptoRow.holds Try.pinned (OpenSpec.upto fnSwapSpec)

/-- 'laws.FnMoved', WHERE WHAT IT READS IS OF BULK AT MOST 1048576: true; the input reads as it did. -/
def fnMovedUptoRow : OpenClaim := { program := "ytobkledmbnacjaa", sum := "aab23ffbdc0f9baf627bca6fe41a517cb168b7a1f1ddbcab6166f40513f71310", func := "loop.example/g00122/laws.FnMoved", spec := "fnMoved", recurses := true, plainKeys := false, apart := false, narrowed := true }
def FnMovedUptoSaid : Prop := fnMovedUptoRow.holds Try.pinned (OpenSpec.upto fnMovedSpec)

end Rows
end Go.Proofs.Ytobkledmbnacjaa
