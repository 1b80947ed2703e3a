/-
  No cell of these rows narrows 'for every input' (looked for: loops, veiled, ifaces, maps, wideKeys, modest, calm, conditions, laid).
  DERIVED. THE GIVEN ROWS OF THIS SEAT. 12 by the template 'for every input the law returns true; each argument reads behind the call as it read before'; 0 by the template 'total and deterministic' (their statements: YtdeaikmcbcchgaaTotals.lean).
  GIVEN WITH THE SEED: the statements are not yours to turn. If you find one false, say at which input.
  Laid BY PROGRAM, IN A SANDBOX (cutbox-rows.mjs): the forced cells as the released guide's own fill.sh prints them over the translation 87f4a1dcb6d68d14… (all of the seat's roots in one cut). By AI agents, Wed Nov 11 2026. No macro, syntax, notation, axiom, sorry.
-/
import Derived.Test.YtdeaikmcbcchgaaChecked
import GoSem.Claim
import GoSem.ClaimJoined
import GoSem.ClaimMapViews
import Derived.JoinedTies
import Derived.KernelRfl
namespace Go.Proofs.Ytdeaikmcbcchgaa
/- THE CELL 'sum', in the pinned program and in every row, IS THE sha256 OF THE DUMP (.gsa) THAT YtdeaikmcbcchgaaProg.lean LOADS. Nothing in Lean hashes anything: it is a label: what it is worth is what the hold of that sum in a sandbox is worth. -/
noncomputable def Try.pinned : Pinned := { name := "ytdeaikmcbcchgaa", sum := "87f4a1dcb6d68d1432a6255e24fa26757e08620db7bd6ab497e45bca708079f4", checked := Try.checked }
namespace Rows
def none {H : Type} : Left H := { results := [], args := [] }

/-- 'laws.FnExactConstants': WHATEVER THE INPUT: true; the input reads as it did. -/
def fnExactConstantsSpec : ChangeSpec := { name := "fnExactConstants", fn := fun _ => fun
  | [] => { results := [.lit (.bool true)], args := [] }
  | _ => none }
def fnExactConstantsRow : OpenClaim := { program := "ytdeaikmcbcchgaa", sum := "87f4a1dcb6d68d1432a6255e24fa26757e08620db7bd6ab497e45bca708079f4", func := "loop.example/g00122/laws.FnExactConstants", spec := "fnExactConstants", plainKeys := false, apart := false }
def FnExactConstantsSaid : Prop := fnExactConstantsRow.holds Try.pinned (OpenSpec.ofChange fnExactConstantsSpec)

/-- ITS FALSE NEIGHBOUR: 'it returns false'. Refute it at one input. -/
def fnExactConstantsWrong : ChangeSpec := { name := "fnExactConstants", fn := fun _ => fun
  | [] => { results := [.lit (.bool false)], args := [] }
  | _ => none }
def FnExactConstantsWrongFalsely : Prop := fnExactConstantsRow.holds Try.pinned (OpenSpec.ofChange fnExactConstantsWrong)

/-- 'laws.FnExactIsPublic': WHATEVER THE INPUT: true; the input reads as it did. -/
def fnExactIsPublicSpec : ChangeSpec := { name := "fnExactIsPublic", fn := fun _ => fun
  | [d] => { results := [.lit (.bool true)], args := [d] }
  | _ => none }
def fnExactIsPublicRow : OpenClaim := { program := "ytdeaikmcbcchgaa", sum := "87f4a1dcb6d68d1432a6255e24fa26757e08620db7bd6ab497e45bca708079f4", func := "loop.example/g00122/laws.FnExactIsPublic", spec := "fnExactIsPublic", plainKeys := false, apart := false }
def FnExactIsPublicSaid : Prop := fnExactIsPublicRow.holds Try.pinned (OpenSpec.ofChange fnExactIsPublicSpec)

/-- ITS FALSE NEIGHBOUR: 'it returns false'. Refute it at one input. -/
def fnExactIsPublicWrong : ChangeSpec := { name := "fnExactIsPublic", fn := fun _ => fun
  | [d] => { results := [.lit (.bool false)], args := [d] }
  | _ => none }
def FnExactIsPublicWrongFalsely : Prop := fnExactIsPublicRow.holds Try.pinned (OpenSpec.ofChange fnExactIsPublicWrong)

/-- 'laws.FnExactFreshName': WHATEVER THE INPUT: true; the input reads as it did. -/
def fnExactFreshNameSpec : ChangeSpec := { name := "fnExactFreshName", fn := fun _ => fun
  | [d] => { results := [.lit (.bool true)], args := [d] }
  | _ => none }
def fnExactFreshNameRow : OpenClaim := { program := "ytdeaikmcbcchgaa", sum := "87f4a1dcb6d68d1432a6255e24fa26757e08620db7bd6ab497e45bca708079f4", func := "loop.example/g00122/laws.FnExactFreshName", spec := "fnExactFreshName", plainKeys := false, apart := false }
def FnExactFreshNameSaid : Prop := fnExactFreshNameRow.holds Try.pinned (OpenSpec.ofChange fnExactFreshNameSpec)

/-- ITS FALSE NEIGHBOUR: 'it returns false'. Refute it at one input. -/
def fnExactFreshNameWrong : ChangeSpec := { name := "fnExactFreshName", fn := fun _ => fun
  | [d] => { results := [.lit (.bool false)], args := [d] }
  | _ => none }
def FnExactFreshNameWrongFalsely : Prop := fnExactFreshNameRow.holds Try.pinned (OpenSpec.ofChange fnExactFreshNameWrong)

/-- 'laws.FnExactLongKey': WHATEVER THE INPUT: true; the input reads as it did. -/
def fnExactLongKeySpec : ChangeSpec := { name := "fnExactLongKey", fn := fun _ => fun
  | [d] => { results := [.lit (.bool true)], args := [d] }
  | _ => none }
def fnExactLongKeyRow : OpenClaim := { program := "ytdeaikmcbcchgaa", sum := "87f4a1dcb6d68d1432a6255e24fa26757e08620db7bd6ab497e45bca708079f4", func := "loop.example/g00122/laws.FnExactLongKey", spec := "fnExactLongKey", plainKeys := false, apart := false }
def FnExactLongKeySaid : Prop := fnExactLongKeyRow.holds Try.pinned (OpenSpec.ofChange fnExactLongKeySpec)

/-- ITS FALSE NEIGHBOUR: 'it returns false'. Refute it at one input. -/
def fnExactLongKeyWrong : ChangeSpec := { name := "fnExactLongKey", fn := fun _ => fun
  | [d] => { results := [.lit (.bool false)], args := [d] }
  | _ => none }
def FnExactLongKeyWrongFalsely : Prop := fnExactLongKeyRow.holds Try.pinned (OpenSpec.ofChange fnExactLongKeyWrong)

/-- 'laws.FnExactStaticKey': WHATEVER THE INPUT: true; the input reads as it did. -/
def fnExactStaticKeySpec : ChangeSpec := { name := "fnExactStaticKey", fn := fun _ => fun
  | [d] => { results := [.lit (.bool true)], args := [d] }
  | _ => none }
def fnExactStaticKeyRow : OpenClaim := { program := "ytdeaikmcbcchgaa", sum := "87f4a1dcb6d68d1432a6255e24fa26757e08620db7bd6ab497e45bca708079f4", func := "loop.example/g00122/laws.FnExactStaticKey", spec := "fnExactStaticKey", plainKeys := false, apart := false }
def FnExactStaticKeySaid : Prop := fnExactStaticKeyRow.holds Try.pinned (OpenSpec.ofChange fnExactStaticKeySpec)

/-- ITS FALSE NEIGHBOUR: 'it returns false'. Refute it at one input. -/
def fnExactStaticKeyWrong : ChangeSpec := { name := "fnExactStaticKey", fn := fun _ => fun
  | [d] => { results := [.lit (.bool false)], args := [d] }
  | _ => none }
def FnExactStaticKeyWrongFalsely : Prop := fnExactStaticKeyRow.holds Try.pinned (OpenSpec.ofChange fnExactStaticKeyWrong)

/-- 'laws.FnJoined': WHATEVER THE INPUT: true; the input reads as it did. -/
def fnJoinedSpec : ChangeSpec := { name := "fnJoined", fn := fun _ => fun
  | [d] => { results := [.lit (.bool true)], args := [d] }
  | _ => none }
def fnJoinedRow : OpenClaim := { program := "ytdeaikmcbcchgaa", sum := "87f4a1dcb6d68d1432a6255e24fa26757e08620db7bd6ab497e45bca708079f4", func := "loop.example/g00122/laws.FnJoined", spec := "fnJoined", recurses := true, plainKeys := false, apart := false }
def FnJoinedSaid : Prop := fnJoinedRow.holds Try.pinned (OpenSpec.ofChange fnJoinedSpec)

/-- ITS FALSE NEIGHBOUR: 'it returns false'. Refute it at one input. -/
def fnJoinedWrong : ChangeSpec := { name := "fnJoined", fn := fun _ => fun
  | [d] => { results := [.lit (.bool false)], args := [d] }
  | _ => none }
def FnJoinedWrongFalsely : Prop := fnJoinedRow.holds Try.pinned (OpenSpec.ofChange fnJoinedWrong)

/-- 'laws.FnExactSharedKey': WHATEVER THE INPUT: true; the input reads as it did. -/
def fnExactSharedKeySpec : ChangeSpec := { name := "fnExactSharedKey", fn := fun _ => fun
  | [d1, d2] => { results := [.lit (.bool true)], args := [d1, d2] }
  | _ => none }
def fnExactSharedKeyRow : OpenClaim := { program := "ytdeaikmcbcchgaa", sum := "87f4a1dcb6d68d1432a6255e24fa26757e08620db7bd6ab497e45bca708079f4", func := "loop.example/g00122/laws.FnExactSharedKey", spec := "fnExactSharedKey", plainKeys := false, apart := false }
def FnExactSharedKeySaid : Prop := fnExactSharedKeyRow.holds Try.pinned (OpenSpec.ofChange fnExactSharedKeySpec)

/-- ITS FALSE NEIGHBOUR: 'it returns false'. Refute it at one input. -/
def fnExactSharedKeyWrong : ChangeSpec := { name := "fnExactSharedKey", fn := fun _ => fun
  | [d1, d2] => { results := [.lit (.bool false)], args := [d1, d2] }
  | _ => none }
def FnExactSharedKeyWrongFalsely : Prop := fnExactSharedKeyRow.holds Try.pinned (OpenSpec.ofChange fnExactSharedKeyWrong)

/-- 'laws.FnExactKnowHas': WHATEVER THE INPUT: true; the input reads as it did. -/
def fnExactKnowHasSpec : ChangeSpec := { name := "fnExactKnowHas", fn := fun _ => fun
  | [d1, d2] => { results := [.lit (.bool true)], args := [d1, d2] }
  | _ => none }
def fnExactKnowHasRow : OpenClaim := { program := "ytdeaikmcbcchgaa", sum := "87f4a1dcb6d68d1432a6255e24fa26757e08620db7bd6ab497e45bca708079f4", func := "loop.example/g00122/laws.FnExactKnowHas", spec := "fnExactKnowHas", plainKeys := false, apart := false }
def FnExactKnowHasSaid : Prop := fnExactKnowHasRow.holds Try.pinned (OpenSpec.ofChange fnExactKnowHasSpec)

/-- ITS FALSE NEIGHBOUR: 'it returns false'. Refute it at one input. -/
def fnExactKnowHasWrong : ChangeSpec := { name := "fnExactKnowHas", fn := fun _ => fun
  | [d1, d2] => { results := [.lit (.bool false)], args := [d1, d2] }
  | _ => none }
def FnExactKnowHasWrongFalsely : Prop := fnExactKnowHasRow.holds Try.pinned (OpenSpec.ofChange fnExactKnowHasWrong)

/-- 'laws.FnNames': WHATEVER THE INPUT: true; the input reads as it did. -/
def fnNamesSpec : ChangeSpec := { name := "fnNames", fn := fun _ => fun
  | [d] => { results := [.lit (.bool true)], args := [d] }
  | _ => none }
def fnNamesRow : OpenClaim := { program := "ytdeaikmcbcchgaa", sum := "87f4a1dcb6d68d1432a6255e24fa26757e08620db7bd6ab497e45bca708079f4", func := "loop.example/g00122/laws.FnNames", spec := "fnNames", plainKeys := false, apart := false }
def FnNamesSaid : Prop := fnNamesRow.holds Try.pinned (OpenSpec.ofChange fnNamesSpec)

/-- ITS FALSE NEIGHBOUR: 'it returns false'. Refute it at one input. -/
def fnNamesWrong : ChangeSpec := { name := "fnNames", fn := fun _ => fun
  | [d] => { results := [.lit (.bool false)], args := [d] }
  | _ => none }
def FnNamesWrongFalsely : Prop := fnNamesRow.holds Try.pinned (OpenSpec.ofChange fnNamesWrong)

/-- 'laws.FnExactPoolOk': WHATEVER THE INPUT: true; the input reads as it did. -/
def fnExactPoolOkSpec : ChangeSpec := { name := "fnExactPoolOk", fn := fun _ => fun
  | [d] => { results := [.lit (.bool true)], args := [d] }
  | _ => none }
def fnExactPoolOkRow : OpenClaim := { program := "ytdeaikmcbcchgaa", sum := "87f4a1dcb6d68d1432a6255e24fa26757e08620db7bd6ab497e45bca708079f4", func := "loop.example/g00122/laws.FnExactPoolOk", spec := "fnExactPoolOk", plainKeys := false, apart := false }
def FnExactPoolOkSaid : Prop := fnExactPoolOkRow.holds Try.pinned (OpenSpec.ofChange fnExactPoolOkSpec)

/-- ITS FALSE NEIGHBOUR: 'it returns false'. Refute it at one input. -/
def fnExactPoolOkWrong : ChangeSpec := { name := "fnExactPoolOk", fn := fun _ => fun
  | [d] => { results := [.lit (.bool false)], args := [d] }
  | _ => none }
def FnExactPoolOkWrongFalsely : Prop := fnExactPoolOkRow.holds Try.pinned (OpenSpec.ofChange fnExactPoolOkWrong)

/-- 'laws.FnExactKnowOk': WHATEVER THE INPUT: true; the input reads as it did. -/
def fnExactKnowOkSpec : ChangeSpec := { name := "fnExactKnowOk", fn := fun _ => fun
  | [d1, d2] => { results := [.lit (.bool true)], args := [d1, d2] }
  | _ => none }
def fnExactKnowOkRow : OpenClaim := { program := "ytdeaikmcbcchgaa", sum := "87f4a1dcb6d68d1432a6255e24fa26757e08620db7bd6ab497e45bca708079f4", func := "loop.example/g00122/laws.FnExactKnowOk", spec := "fnExactKnowOk", plainKeys := false, apart := false }
def FnExactKnowOkSaid : Prop := fnExactKnowOkRow.holds Try.pinned (OpenSpec.ofChange fnExactKnowOkSpec)

/-- ITS FALSE NEIGHBOUR: 'it returns false'. Refute it at one input. -/
def fnExactKnowOkWrong : ChangeSpec := { name := "fnExactKnowOk", fn := fun _ => fun
  | [d1, d2] => { results := [.lit (.bool false)], args := [d1, d2] }
  | _ => none }
def FnExactKnowOkWrongFalsely : Prop := fnExactKnowOkRow.holds Try.pinned (OpenSpec.ofChange fnExactKnowOkWrong)

/-- 'laws.FnExactTermDeep': WHATEVER THE INPUT: true; the input reads as it did. -/
def fnExactTermDeepSpec : ChangeSpec := { name := "fnExactTermDeep", fn := fun _ => fun
  | [d1, d2] => { results := [.lit (.bool true)], args := [d1, d2] }
  | _ => none }
def fnExactTermDeepRow : OpenClaim := { program := "ytdeaikmcbcchgaa", sum := "87f4a1dcb6d68d1432a6255e24fa26757e08620db7bd6ab497e45bca708079f4", func := "loop.example/g00122/laws.FnExactTermDeep", spec := "fnExactTermDeep", plainKeys := false, apart := false }
def FnExactTermDeepSaid : Prop := fnExactTermDeepRow.holds Try.pinned (OpenSpec.ofChange fnExactTermDeepSpec)

/-- ITS FALSE NEIGHBOUR: 'it returns false'. Refute it at one input. -/
def fnExactTermDeepWrong : ChangeSpec := { name := "fnExactTermDeep", fn := fun _ => fun
  | [d1, d2] => { results := [.lit (.bool false)], args := [d1, d2] }
  | _ => none }
def FnExactTermDeepWrongFalsely : Prop := fnExactTermDeepRow.holds Try.pinned (OpenSpec.ofChange fnExactTermDeepWrong)

/- THE SECOND FORM. 'bulk': how many values and letters a reading holds, each counted each time it is reached (what is shared counts as often as it is met; a slice's spare places count too). A statement '..UptoSaid' is the law's where the arguments, and the package variables that the reading takes, are together of bulk at most 1048576: NARROWER than '..Said'. Prove '..Said' where nothing that the law and all that it calls make is longer than what came in: it says more and counts as full. Else prove '..UptoSaid'. A law counts once. -/
mutual
def uptoBulk {H : Type} : DataW H → Nat
  | .lit (.string bytes) => bytes.length + 1
  | .lit _ => 1
  | .nil => 1
  | .ptr d => uptoBulk d + 1
  | .slice elems spare => uptoBulkAll elems + uptoBulkAll spare + 1
  | .agg parts => uptoBulkAll parts + 1
  | .iface _ d => uptoBulk d + 1
  | .map entries => uptoBulkEntries entries + 1
  | .held _ => 1
def uptoBulkAll {H : Type} : List (DataW H) → Nat
  | [] => 0
  | d :: r => uptoBulk d + uptoBulkAll r
def uptoBulkEntries {H : Type} : List (Lit × DataW H) → Nat
  | [] => 0
  | x :: r => uptoBulkEntry x + uptoBulkEntries r
def uptoBulkEntry {H : Type} : Lit × DataW H → Nat
  | (.string bytes, d) => bytes.length + uptoBulk d + 1
  | (_, d) => uptoBulk d + 1
 end
def uptoSmall : (H : Type) → List (DataW H) → Bool := fun _ ds => decide (uptoBulkAll ds ≤ 1048576)
def OpenSpec.upto (s : _root_.Go.ChangeSpec) : _root_.Go.OpenSpec := { _root_.Go.OpenSpec.ofChange s with cond := some uptoSmall }

/-- 'laws.FnExactConstants', WHERE WHAT IT READS IS OF BULK AT MOST 1048576: true; the input reads as it did. -/
def fnExactConstantsUptoRow : OpenClaim := { program := "ytdeaikmcbcchgaa", sum := "87f4a1dcb6d68d1432a6255e24fa26757e08620db7bd6ab497e45bca708079f4", func := "loop.example/g00122/laws.FnExactConstants", spec := "fnExactConstants", plainKeys := false, apart := false, narrowed := true }
def FnExactConstantsUptoSaid : Prop := fnExactConstantsUptoRow.holds Try.pinned (OpenSpec.upto fnExactConstantsSpec)

/-- 'laws.FnExactIsPublic', WHERE WHAT IT READS IS OF BULK AT MOST 1048576: true; the input reads as it did. -/
def fnExactIsPublicUptoRow : OpenClaim := { program := "ytdeaikmcbcchgaa", sum := "87f4a1dcb6d68d1432a6255e24fa26757e08620db7bd6ab497e45bca708079f4", func := "loop.example/g00122/laws.FnExactIsPublic", spec := "fnExactIsPublic", plainKeys := false, apart := false, narrowed := true }
def FnExactIsPublicUptoSaid : Prop := fnExactIsPublicUptoRow.holds Try.pinned (OpenSpec.upto fnExactIsPublicSpec)

/-- 'laws.FnExactFreshName', WHERE WHAT IT READS IS OF BULK AT MOST 1048576: true; the input reads as it did. -/
def fnExactFreshNameUptoRow : OpenClaim := { program := "ytdeaikmcbcchgaa", sum := "87f4a1dcb6d68d1432a6255e24fa26757e08620db7bd6ab497e45bca708079f4", func := "loop.example/g00122/laws.FnExactFreshName", spec := "fnExactFreshName", plainKeys := false, apart := false, narrowed := true }
def FnExactFreshNameUptoSaid : Prop := fnExactFreshNameUptoRow.holds Try.pinned (OpenSpec.upto fnExactFreshNameSpec)

/-- 'laws.FnExactLongKey', WHERE WHAT IT READS IS OF BULK AT MOST 1048576: true; the input reads as it did. -/
def fnExactLongKeyUptoRow : OpenClaim := { program := "ytdeaikmcbcchgaa", sum := "87f4a1dcb6d68d1432a6255e24fa26757e08620db7bd6ab497e45bca708079f4", func := "loop.example/g00122/laws.FnExactLongKey", spec := "fnExactLongKey", plainKeys := false, apart := false, narrowed := true }
def FnExactLongKeyUptoSaid : Prop := fnExactLongKeyUptoRow.holds Try.pinned (OpenSpec.upto fnExactLongKeySpec)

/-- 'laws.FnExactStaticKey', WHERE WHAT IT READS IS OF BULK AT MOST 1048576: true; the input reads as it did. -/
def fnExactStaticKeyUptoRow : OpenClaim := { program := "ytdeaikmcbcchgaa", sum := "87f4a1dcb6d68d1432a6255e24fa26757e08620db7bd6ab497e45bca708079f4", func := "loop.example/g00122/laws.FnExactStaticKey", spec := "fnExactStaticKey", plainKeys := false, apart := false, narrowed := true }
def FnExactStaticKeyUptoSaid : Prop := fnExactStaticKeyUptoRow.holds Try.pinned (OpenSpec.upto fnExactStaticKeySpec)

/-- 'laws.FnJoined', WHERE WHAT IT READS IS OF BULK AT MOST 1048576: true; the input reads as it did. -/
def fnJoinedUptoRow : OpenClaim := { program := "ytdeaikmcbcchgaa", sum := "87f4a1dcb6d68d1432a6255e24fa26757e08620db7bd6ab497e45bca708079f4", func := "loop.example/g00122/laws.FnJoined", spec := "fnJoined", recurses := true, plainKeys := false, apart := false, narrowed := true }
def FnJoinedUptoSaid : Prop := fnJoinedUptoRow.holds Try.pinned (OpenSpec.upto fnJoinedSpec)

/-- 'laws.FnExactSharedKey', WHERE WHAT IT READS IS OF BULK AT MOST 1048576: true; the input reads as it did. -/
def fnExactSharedKeyUptoRow : OpenClaim := { program := "ytdeaikmcbcchgaa", sum := "87f4a1dcb6d68d1432a6255e24fa26757e08620db7bd6ab497e45bca708079f4", func := "loop.example/g00122/laws.FnExactSharedKey", spec := "fnExactSharedKey", plainKeys := false, apart := false, narrowed := true }
def FnExactSharedKeyUptoSaid : Prop := fnExactSharedKeyUptoRow.holds Try.pinned (OpenSpec.upto fnExactSharedKeySpec)

/-- 'laws.FnExactKnowHas', WHERE WHAT IT READS IS OF BULK AT MOST 1048576: true; the input reads as it did. -/
def fnExactKnowHasUptoRow : OpenClaim := { program := "ytdeaikmcbcchgaa", sum := "87f4a1dcb6d68d1432a6255e24fa26757e08620db7bd6ab497e45bca708079f4", func := "loop.example/g00122/laws.FnExactKnowHas", spec := "fnExactKnowHas", plainKeys := false, apart := false, narrowed := true }
def FnExactKnowHasUptoSaid : Prop := fnExactKnowHasUptoRow.holds Try.pinned (OpenSpec.upto fnExactKnowHasSpec)

/-- 'laws.FnNames', WHERE WHAT IT READS IS OF BULK AT MOST 1048576: true; the input reads as it did. -/
def fnNamesUptoRow : OpenClaim := { program := "ytdeaikmcbcchgaa", sum := "87f4a1dcb6d68d1432a6255e24fa26757e08620db7bd6ab497e45bca708079f4", func := "loop.example/g00122/laws.FnNames", spec := "fnNames", plainKeys := false, apart := false, narrowed := true }
def FnNamesUptoSaid : Prop := fnNamesUptoRow.holds Try.pinned (OpenSpec.upto fnNamesSpec)

/-- 'laws.FnExactPoolOk', WHERE WHAT IT READS IS OF BULK AT MOST 1048576: true; the input reads as it did. -/
def fnExactPoolOkUptoRow : OpenClaim := { program := "ytdeaikmcbcchgaa", sum := "87f4a1dcb6d68d1432a6255e24fa26757e08620db7bd6ab497e45bca708079f4", func := "loop.example/g00122/laws.FnExactPoolOk", spec := "fnExactPoolOk", plainKeys := false, apart := false, narrowed := true }
def FnExactPoolOkUptoSaid : Prop := fnExactPoolOkUptoRow.holds Try.pinned (OpenSpec.upto fnExactPoolOkSpec)

/-- 'laws.FnExactKnowOk', WHERE WHAT IT READS IS OF BULK AT MOST 1048576: true; the input reads as it did. -/
def fnExactKnowOkUptoRow : OpenClaim := { program := "ytdeaikmcbcchgaa", sum := "87f4a1dcb6d68d1432a6255e24fa26757e08620db7bd6ab497e45bca708079f4", func := "loop.example/g00122/laws.FnExactKnowOk", spec := "fnExactKnowOk", plainKeys := false, apart := false, narrowed := true }
def FnExactKnowOkUptoSaid : Prop := fnExactKnowOkUptoRow.holds Try.pinned (OpenSpec.upto fnExactKnowOkSpec)

/-- 'laws.FnExactTermDeep', WHERE WHAT IT READS IS OF BULK AT MOST 1048576: true; the input reads as it did. -/
def fnExactTermDeepUptoRow : OpenClaim := { program := "ytdeaikmcbcchgaa", sum := "87f4a1dcb6d68d1432a6255e24fa26757e08620db7bd6ab497e45bca708079f4", func := "loop.example/g00122/laws.FnExactTermDeep", spec := "fnExactTermDeep", plainKeys := false, apart := false, narrowed := true }
def FnExactTermDeepUptoSaid : Prop := fnExactTermDeepUptoRow.holds Try.pinned (OpenSpec.upto fnExactTermDeepSpec)

end Rows
end Go.Proofs.Ytdeaikmcbcchgaa
