/-
  No cell of these rows narrows 'for every input' (looked for: loops, veiled, ifaces, maps, wideKeys, modest, calm, conditions, laid).
  DERIVED. THE GIVEN ROWS OF THIS SEAT. 10 by the template 'for every input the law returns true; each argument reads behind the call as it read before'; 0 by the template 'total and deterministic' (their statements: YtpgaifjneedjoaaTotals.lean).
  GIVEN WITH THE SEED: the statements are not yours to turn. If you find one false, say at which input.
  Laid BY PROGRAM, IN A SANDBOX (cutbox-rows.mjs): the forced cells as the released guide's own fill.sh prints them over the translation 709c17375a638876… (all of the seat's roots in one cut). By AI agents, Wed Nov 11 2026. No macro, syntax, notation, axiom, sorry.
-/
import Derived.Test.YtpgaifjneedjoaaChecked
import GoSem.Claim
import GoSem.ClaimJoined
import GoSem.ClaimMapViews
import Derived.JoinedTies
import Derived.KernelRfl
namespace Go.Proofs.Ytpgaifjneedjoaa
/- THE CELL 'sum', in the pinned program and in every row, IS THE sha256 OF THE DUMP (.gsa) THAT YtpgaifjneedjoaaProg.lean LOADS. Nothing in Lean hashes anything: it is a label: what it is worth is what the hold of that sum in a sandbox is worth. -/
noncomputable def Try.pinned : Pinned := { name := "ytpgaifjneedjoaa", sum := "709c17375a6388769043935b5f4c1e829e8788612d7a21294dd1d1443c97988c", checked := Try.checked }
namespace Rows
def none {H : Type} : Left H := { results := [], args := [] }

/-- 'laws.FnExactMakeDerive': WHATEVER THE INPUT: true; the input reads as it did. -/
def fnExactMakeDeriveSpec : ChangeSpec := { name := "fnExactMakeDerive", fn := fun _ => fun
  | [d1, d2, d3] => { results := [.lit (.bool true)], args := [d1, d2, d3] }
  | _ => none }
def fnExactMakeDeriveRow : OpenClaim := { program := "ytpgaifjneedjoaa", sum := "709c17375a6388769043935b5f4c1e829e8788612d7a21294dd1d1443c97988c", func := "loop.example/g00122/laws.FnExactMakeDerive", spec := "fnExactMakeDerive", plainKeys := false, apart := false }
def FnExactMakeDeriveSaid : Prop := fnExactMakeDeriveRow.holds Try.pinned (OpenSpec.ofChange fnExactMakeDeriveSpec)

/-- ITS FALSE NEIGHBOUR: 'it returns false'. Refute it at one input. -/
def fnExactMakeDeriveWrong : ChangeSpec := { name := "fnExactMakeDerive", fn := fun _ => fun
  | [d1, d2, d3] => { results := [.lit (.bool false)], args := [d1, d2, d3] }
  | _ => none }
def FnExactMakeDeriveWrongFalsely : Prop := fnExactMakeDeriveRow.holds Try.pinned (OpenSpec.ofChange fnExactMakeDeriveWrong)

/-- 'laws.FnExactMakeDigest': WHATEVER THE INPUT: true; the input reads as it did. -/
def fnExactMakeDigestSpec : ChangeSpec := { name := "fnExactMakeDigest", fn := fun _ => fun
  | [d1, d2] => { results := [.lit (.bool true)], args := [d1, d2] }
  | _ => none }
def fnExactMakeDigestRow : OpenClaim := { program := "ytpgaifjneedjoaa", sum := "709c17375a6388769043935b5f4c1e829e8788612d7a21294dd1d1443c97988c", func := "loop.example/g00122/laws.FnExactMakeDigest", spec := "fnExactMakeDigest", plainKeys := false, apart := false }
def FnExactMakeDigestSaid : Prop := fnExactMakeDigestRow.holds Try.pinned (OpenSpec.ofChange fnExactMakeDigestSpec)

/-- ITS FALSE NEIGHBOUR: 'it returns false'. Refute it at one input. -/
def fnExactMakeDigestWrong : ChangeSpec := { name := "fnExactMakeDigest", fn := fun _ => fun
  | [d1, d2] => { results := [.lit (.bool false)], args := [d1, d2] }
  | _ => none }
def FnExactMakeDigestWrongFalsely : Prop := fnExactMakeDigestRow.holds Try.pinned (OpenSpec.ofChange fnExactMakeDigestWrong)

/-- 'laws.FnExactMakePair': WHATEVER THE INPUT: true; the input reads as it did. -/
def fnExactMakePairSpec : ChangeSpec := { name := "fnExactMakePair", fn := fun _ => fun
  | [d1, d2, d3] => { results := [.lit (.bool true)], args := [d1, d2, d3] }
  | _ => none }
def fnExactMakePairRow : OpenClaim := { program := "ytpgaifjneedjoaa", sum := "709c17375a6388769043935b5f4c1e829e8788612d7a21294dd1d1443c97988c", func := "loop.example/g00122/laws.FnExactMakePair", spec := "fnExactMakePair", plainKeys := false, apart := false }
def FnExactMakePairSaid : Prop := fnExactMakePairRow.holds Try.pinned (OpenSpec.ofChange fnExactMakePairSpec)

/-- ITS FALSE NEIGHBOUR: 'it returns false'. Refute it at one input. -/
def fnExactMakePairWrong : ChangeSpec := { name := "fnExactMakePair", fn := fun _ => fun
  | [d1, d2, d3] => { results := [.lit (.bool false)], args := [d1, d2, d3] }
  | _ => none }
def FnExactMakePairWrongFalsely : Prop := fnExactMakePairRow.holds Try.pinned (OpenSpec.ofChange fnExactMakePairWrong)

/-- 'laws.FnExactMakePower': WHATEVER THE INPUT: true; the input reads as it did. -/
def fnExactMakePowerSpec : ChangeSpec := { name := "fnExactMakePower", fn := fun _ => fun
  | [d1, d2] => { results := [.lit (.bool true)], args := [d1, d2] }
  | _ => none }
def fnExactMakePowerRow : OpenClaim := { program := "ytpgaifjneedjoaa", sum := "709c17375a6388769043935b5f4c1e829e8788612d7a21294dd1d1443c97988c", func := "loop.example/g00122/laws.FnExactMakePower", spec := "fnExactMakePower", plainKeys := false, apart := false }
def FnExactMakePowerSaid : Prop := fnExactMakePowerRow.holds Try.pinned (OpenSpec.ofChange fnExactMakePowerSpec)

/-- ITS FALSE NEIGHBOUR: 'it returns false'. Refute it at one input. -/
def fnExactMakePowerWrong : ChangeSpec := { name := "fnExactMakePower", fn := fun _ => fun
  | [d1, d2] => { results := [.lit (.bool false)], args := [d1, d2] }
  | _ => none }
def FnExactMakePowerWrongFalsely : Prop := fnExactMakePowerRow.holds Try.pinned (OpenSpec.ofChange fnExactMakePowerWrong)

/-- 'laws.FnExactMakeSeal': WHATEVER THE INPUT: true; the input reads as it did. -/
def fnExactMakeSealSpec : ChangeSpec := { name := "fnExactMakeSeal", fn := fun _ => fun
  | [d1, d2, d3] => { results := [.lit (.bool true)], args := [d1, d2, d3] }
  | _ => none }
def fnExactMakeSealRow : OpenClaim := { program := "ytpgaifjneedjoaa", sum := "709c17375a6388769043935b5f4c1e829e8788612d7a21294dd1d1443c97988c", func := "loop.example/g00122/laws.FnExactMakeSeal", spec := "fnExactMakeSeal", plainKeys := false, apart := false }
def FnExactMakeSealSaid : Prop := fnExactMakeSealRow.holds Try.pinned (OpenSpec.ofChange fnExactMakeSealSpec)

/-- ITS FALSE NEIGHBOUR: 'it returns false'. Refute it at one input. -/
def fnExactMakeSealWrong : ChangeSpec := { name := "fnExactMakeSeal", fn := fun _ => fun
  | [d1, d2, d3] => { results := [.lit (.bool false)], args := [d1, d2, d3] }
  | _ => none }
def FnExactMakeSealWrongFalsely : Prop := fnExactMakeSealRow.holds Try.pinned (OpenSpec.ofChange fnExactMakeSealWrong)

/-- 'laws.FnExactMakeShared': WHATEVER THE INPUT: true; the input reads as it did. -/
def fnExactMakeSharedSpec : ChangeSpec := { name := "fnExactMakeShared", fn := fun _ => fun
  | [d1, d2, d3] => { results := [.lit (.bool true)], args := [d1, d2, d3] }
  | _ => none }
def fnExactMakeSharedRow : OpenClaim := { program := "ytpgaifjneedjoaa", sum := "709c17375a6388769043935b5f4c1e829e8788612d7a21294dd1d1443c97988c", func := "loop.example/g00122/laws.FnExactMakeShared", spec := "fnExactMakeShared", plainKeys := false, apart := false }
def FnExactMakeSharedSaid : Prop := fnExactMakeSharedRow.holds Try.pinned (OpenSpec.ofChange fnExactMakeSharedSpec)

/-- ITS FALSE NEIGHBOUR: 'it returns false'. Refute it at one input. -/
def fnExactMakeSharedWrong : ChangeSpec := { name := "fnExactMakeShared", fn := fun _ => fun
  | [d1, d2, d3] => { results := [.lit (.bool false)], args := [d1, d2, d3] }
  | _ => none }
def FnExactMakeSharedWrongFalsely : Prop := fnExactMakeSharedRow.holds Try.pinned (OpenSpec.ofChange fnExactMakeSharedWrong)

/-- 'laws.FnExactMakeSign': WHATEVER THE INPUT: true; the input reads as it did. -/
def fnExactMakeSignSpec : ChangeSpec := { name := "fnExactMakeSign", fn := fun _ => fun
  | [d1, d2, d3] => { results := [.lit (.bool true)], args := [d1, d2, d3] }
  | _ => none }
def fnExactMakeSignRow : OpenClaim := { program := "ytpgaifjneedjoaa", sum := "709c17375a6388769043935b5f4c1e829e8788612d7a21294dd1d1443c97988c", func := "loop.example/g00122/laws.FnExactMakeSign", spec := "fnExactMakeSign", plainKeys := false, apart := false }
def FnExactMakeSignSaid : Prop := fnExactMakeSignRow.holds Try.pinned (OpenSpec.ofChange fnExactMakeSignSpec)

/-- ITS FALSE NEIGHBOUR: 'it returns false'. Refute it at one input. -/
def fnExactMakeSignWrong : ChangeSpec := { name := "fnExactMakeSign", fn := fun _ => fun
  | [d1, d2, d3] => { results := [.lit (.bool false)], args := [d1, d2, d3] }
  | _ => none }
def FnExactMakeSignWrongFalsely : Prop := fnExactMakeSignRow.holds Try.pinned (OpenSpec.ofChange fnExactMakeSignWrong)

/-- 'laws.FnExactTermSwap': WHATEVER THE INPUT: true; the input reads as it did. -/
def fnExactTermSwapSpec : ChangeSpec := { name := "fnExactTermSwap", fn := fun _ => fun
  | [d1, d2, d3, d4] => { results := [.lit (.bool true)], args := [d1, d2, d3, d4] }
  | _ => none }
def fnExactTermSwapRow : OpenClaim := { program := "ytpgaifjneedjoaa", sum := "709c17375a6388769043935b5f4c1e829e8788612d7a21294dd1d1443c97988c", func := "loop.example/g00122/laws.FnExactTermSwap", spec := "fnExactTermSwap", plainKeys := false, apart := false }
def FnExactTermSwapSaid : Prop := fnExactTermSwapRow.holds Try.pinned (OpenSpec.ofChange fnExactTermSwapSpec)

/-- ITS FALSE NEIGHBOUR: 'it returns false'. Refute it at one input. -/
def fnExactTermSwapWrong : ChangeSpec := { name := "fnExactTermSwap", fn := fun _ => fun
  | [d1, d2, d3, d4] => { results := [.lit (.bool false)], args := [d1, d2, d3, d4] }
  | _ => none }
def FnExactTermSwapWrongFalsely : Prop := fnExactTermSwapRow.holds Try.pinned (OpenSpec.ofChange fnExactTermSwapWrong)

/-- 'laws.FnExactTermMove': WHATEVER THE INPUT: true; the input reads as it did. -/
def fnExactTermMoveSpec : ChangeSpec := { name := "fnExactTermMove", fn := fun _ => fun
  | [d1, d2, d3] => { results := [.lit (.bool true)], args := [d1, d2, d3] }
  | _ => none }
def fnExactTermMoveRow : OpenClaim := { program := "ytpgaifjneedjoaa", sum := "709c17375a6388769043935b5f4c1e829e8788612d7a21294dd1d1443c97988c", func := "loop.example/g00122/laws.FnExactTermMove", spec := "fnExactTermMove", plainKeys := false, apart := false }
def FnExactTermMoveSaid : Prop := fnExactTermMoveRow.holds Try.pinned (OpenSpec.ofChange fnExactTermMoveSpec)

/-- ITS FALSE NEIGHBOUR: 'it returns false'. Refute it at one input. -/
def fnExactTermMoveWrong : ChangeSpec := { name := "fnExactTermMove", fn := fun _ => fun
  | [d1, d2, d3] => { results := [.lit (.bool false)], args := [d1, d2, d3] }
  | _ => none }
def FnExactTermMoveWrongFalsely : Prop := fnExactTermMoveRow.holds Try.pinned (OpenSpec.ofChange fnExactTermMoveWrong)

/-- 'laws.FnSwap': WHATEVER THE INPUT: true; the input reads as it did. -/
def fnSwapSpec : ChangeSpec := { name := "fnSwap", fn := fun _ => fun
  | [d] => { results := [.lit (.bool true)], args := [d] }
  | _ => none }
def fnSwapRow : OpenClaim := { program := "ytpgaifjneedjoaa", sum := "709c17375a6388769043935b5f4c1e829e8788612d7a21294dd1d1443c97988c", func := "loop.example/g00122/laws.FnSwap", spec := "fnSwap", plainKeys := false, apart := false }
def FnSwapSaid : Prop := fnSwapRow.holds Try.pinned (OpenSpec.ofChange fnSwapSpec)

/-- ITS FALSE NEIGHBOUR: 'it returns false'. Refute it at one input. -/
def fnSwapWrong : ChangeSpec := { name := "fnSwap", fn := fun _ => fun
  | [d] => { results := [.lit (.bool false)], args := [d] }
  | _ => none }
def FnSwapWrongFalsely : Prop := fnSwapRow.holds Try.pinned (OpenSpec.ofChange fnSwapWrong)

/- THE SECOND FORM. 'bulk': how many values and letters a reading holds, each counted each time it is reached (what is shared counts as often as it is met; a slice's spare places count too). A statement '..UptoSaid' is the law's where the arguments, and the package variables that the reading takes, are together of bulk at most 1048576: NARROWER than '..Said'. Prove '..Said' where nothing that the law and all that it calls make is longer than what came in: it says more and counts as full. Else prove '..UptoSaid'. A law counts once. -/
mutual
def uptoBulk {H : Type} : DataW H → Nat
  | .lit (.string bytes) => bytes.length + 1
  | .lit _ => 1
  | .nil => 1
  | .ptr d => uptoBulk d + 1
  | .slice elems spare => uptoBulkAll elems + uptoBulkAll spare + 1
  | .agg parts => uptoBulkAll parts + 1
  | .iface _ d => uptoBulk d + 1
  | .map entries => uptoBulkEntries entries + 1
  | .held _ => 1
def uptoBulkAll {H : Type} : List (DataW H) → Nat
  | [] => 0
  | d :: r => uptoBulk d + uptoBulkAll r
def uptoBulkEntries {H : Type} : List (Lit × DataW H) → Nat
  | [] => 0
  | x :: r => uptoBulkEntry x + uptoBulkEntries r
def uptoBulkEntry {H : Type} : Lit × DataW H → Nat
  | (.string bytes, d) => bytes.length + uptoBulk d + 1
  | (_, d) => uptoBulk d + 1
 end
def uptoSmall : (H : Type) → List (DataW H) → Bool := fun _ ds => decide (uptoBulkAll ds ≤ 1048576)
def OpenSpec.upto (s : _root_.Go.ChangeSpec) : _root_.Go.OpenSpec := { _root_.Go.OpenSpec.ofChange s with cond := some uptoSmall }

/-- 'laws.FnExactMakeDerive', WHERE WHAT IT READS IS OF BULK AT MOST 1048576: true; the input reads as it did. -/
def fnExactMakeDeriveUptoRow : OpenClaim := { program := "ytpgaifjneedjoaa", sum := "709c17375a6388769043935b5f4c1e829e8788612d7a21294dd1d1443c97988c", func := "loop.example/g00122/laws.FnExactMakeDerive", spec := "fnExactMakeDerive", plainKeys := false, apart := false, narrowed := true }
def FnExactMakeDeriveUptoSaid : Prop := fnExactMakeDeriveUptoRow.holds Try.pinned (OpenSpec.upto fnExactMakeDeriveSpec)

/-- 'laws.FnExactMakeDigest', WHERE WHAT IT READS IS OF BULK AT MOST 1048576: true; the input reads as it did. -/
def fnExactMakeDigestUptoRow : OpenClaim := { program := "ytpgaifjneedjoaa", sum := "709c17375a6388769043935b5f4c1e829e8788612d7a21294dd1d1443c97988c", func := "loop.example/g00122/laws.FnExactMakeDigest", spec := "fnExactMakeDigest", plainKeys := false, apart := false, narrowed := true }
def FnExactMakeDigestUptoSaid : Prop := fnExactMakeDigestUptoRow.holds Try.pinned (OpenSpec.upto fnExactMakeDigestSpec)

/-- 'laws.FnExactMakePair', WHERE WHAT IT READS IS OF BULK AT MOST 1048576: true; the input reads as it did. -/
def fnExactMakePairUptoRow : OpenClaim := { program := "ytpgaifjneedjoaa", sum := "709c17375a6388769043935b5f4c1e829e8788612d7a21294dd1d1443c97988c", func := "loop.example/g00122/laws.FnExactMakePair", spec := "fnExactMakePair", plainKeys := false, apart := false, narrowed := true }
def FnExactMakePairUptoSaid : Prop := fnExactMakePairUptoRow.holds Try.pinned (OpenSpec.upto fnExactMakePairSpec)

/-- 'laws.FnExactMakePower', WHERE WHAT IT READS IS OF BULK AT MOST 1048576: true; the input reads as it did. -/
def fnExactMakePowerUptoRow : OpenClaim := { program := "ytpgaifjneedjoaa", sum := "709c17375a6388769043935b5f4c1e829e8788612d7a21294dd1d1443c97988c", func := "loop.example/g00122/laws.FnExactMakePower", spec := "fnExactMakePower", plainKeys := false, apart := false, narrowed := true }
def FnExactMakePowerUptoSaid : Prop := fnExactMakePowerUptoRow.holds Try.pinned (OpenSpec.upto fnExactMakePowerSpec)

/-- 'laws.FnExactMakeSeal', WHERE WHAT IT READS IS OF BULK AT MOST 1048576: true; the input reads as it did. -/
def fnExactMakeSealUptoRow : OpenClaim := { program := "ytpgaifjneedjoaa", sum := "709c17375a6388769043935b5f4c1e829e8788612d7a21294dd1d1443c97988c", func := "loop.example/g00122/laws.FnExactMakeSeal", spec := "fnExactMakeSeal", plainKeys := false, apart := false, narrowed := true }
def FnExactMakeSealUptoSaid : Prop := fnExactMakeSealUptoRow.holds Try.pinned (OpenSpec.upto fnExactMakeSealSpec)

/-- 'laws.FnExactMakeShared', WHERE WHAT IT READS IS OF BULK AT MOST 1048576: true; the input reads as it did. -/
def fnExactMakeSharedUptoRow : OpenClaim := { program := "ytpgaifjneedjoaa", sum := "709c17375a6388769043935b5f4c1e829e8788612d7a21294dd1d1443c97988c", func := "loop.example/g00122/laws.FnExactMakeShared", spec := "fnExactMakeShared", plainKeys := false, apart := false, narrowed := true }
def FnExactMakeSharedUptoSaid : Prop := fnExactMakeSharedUptoRow.holds Try.pinned (OpenSpec.upto fnExactMakeSharedSpec)

/-- 'laws.FnExactMakeSign', WHERE WHAT IT READS IS OF BULK AT MOST 1048576: true; the input reads as it did. -/
def fnExactMakeSignUptoRow : OpenClaim := { program := "ytpgaifjneedjoaa", sum := "709c17375a6388769043935b5f4c1e829e8788612d7a21294dd1d1443c97988c", func := "loop.example/g00122/laws.FnExactMakeSign", spec := "fnExactMakeSign", plainKeys := false, apart := false, narrowed := true }
def FnExactMakeSignUptoSaid : Prop := fnExactMakeSignUptoRow.holds Try.pinned (OpenSpec.upto fnExactMakeSignSpec)

/-- 'laws.FnExactTermSwap', WHERE WHAT IT READS IS OF BULK AT MOST 1048576: true; the input reads as it did. -/
def fnExactTermSwapUptoRow : OpenClaim := { program := "ytpgaifjneedjoaa", sum := "709c17375a6388769043935b5f4c1e829e8788612d7a21294dd1d1443c97988c", func := "loop.example/g00122/laws.FnExactTermSwap", spec := "fnExactTermSwap", plainKeys := false, apart := false, narrowed := true }
def FnExactTermSwapUptoSaid : Prop := fnExactTermSwapUptoRow.holds Try.pinned (OpenSpec.upto fnExactTermSwapSpec)

/-- 'laws.FnExactTermMove', WHERE WHAT IT READS IS OF BULK AT MOST 1048576: true; the input reads as it did. -/
def fnExactTermMoveUptoRow : OpenClaim := { program := "ytpgaifjneedjoaa", sum := "709c17375a6388769043935b5f4c1e829e8788612d7a21294dd1d1443c97988c", func := "loop.example/g00122/laws.FnExactTermMove", spec := "fnExactTermMove", plainKeys := false, apart := false, narrowed := true }
def FnExactTermMoveUptoSaid : Prop := fnExactTermMoveUptoRow.holds Try.pinned (OpenSpec.upto fnExactTermMoveSpec)

/-- 'laws.FnSwap', WHERE WHAT IT READS IS OF BULK AT MOST 1048576: true; the input reads as it did. -/
def fnSwapUptoRow : OpenClaim := { program := "ytpgaifjneedjoaa", sum := "709c17375a6388769043935b5f4c1e829e8788612d7a21294dd1d1443c97988c", func := "loop.example/g00122/laws.FnSwap", spec := "fnSwap", plainKeys := false, apart := false, narrowed := true }
def FnSwapUptoSaid : Prop := fnSwapUptoRow.holds Try.pinned (OpenSpec.upto fnSwapSpec)

end Rows
end Go.Proofs.Ytpgaifjneedjoaa
