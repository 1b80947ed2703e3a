/-
  No cell of these rows narrows 'for every input' (looked for: loops, veiled, ifaces, maps, wideKeys, modest, calm, conditions, laid).
  DERIVED. THE GIVEN ROWS OF THIS SEAT. 6 by the template 'for every input the law returns true; each argument reads behind the call as it read before'; 0 by the template 'total and deterministic' (their statements: YtdgahpigcaejbaaTotals.lean).
  GIVEN WITH THE SEED: the statements are not yours to turn. If you find one false, say at which input.
  Laid BY PROGRAM, IN A SANDBOX (cutbox-rows.mjs): the forced cells as the released guide's own fill.sh prints them over the translation 36adfa1ad40482c2… (all of the seat's roots in one cut). By AI agents, Wed Nov 11 2026. No macro, syntax, notation, axiom, sorry.
-/
import Derived.Test.YtdgahpigcaejbaaChecked
import GoSem.Claim
import GoSem.ClaimJoined
import GoSem.ClaimMapViews
import Derived.JoinedTies
import Derived.KernelRfl
namespace Go.Proofs.Ytdgahpigcaejbaa
/- THE CELL 'sum', in the pinned program and in every row, IS THE sha256 OF THE DUMP (.gsa) THAT YtdgahpigcaejbaaProg.lean LOADS. Nothing in Lean hashes anything: it is a label: what it is worth is what the hold of that sum in a sandbox is worth. -/
noncomputable def Try.pinned : Pinned := { name := "ytdgahpigcaejbaa", sum := "36adfa1ad40482c206f2240554d9ac8cb96d46d05a515e5f4676cd35c4393f8b", checked := Try.checked }
namespace Rows
def none {H : Type} : Left H := { results := [], args := [] }

/-- 'laws.FnExactTermNames': WHATEVER THE INPUT: true; the input reads as it did. -/
def fnExactTermNamesSpec : ChangeSpec := { name := "fnExactTermNames", fn := fun _ => fun
  | [d1, d2] => { results := [.lit (.bool true)], args := [d1, d2] }
  | _ => none }
def fnExactTermNamesRow : OpenClaim := { program := "ytdgahpigcaejbaa", sum := "36adfa1ad40482c206f2240554d9ac8cb96d46d05a515e5f4676cd35c4393f8b", func := "loop.example/g00122/laws.FnExactTermNames", spec := "fnExactTermNames", recurses := true, plainKeys := false, apart := false }
def FnExactTermNamesSaid : Prop := fnExactTermNamesRow.holds Try.pinned (OpenSpec.ofChange fnExactTermNamesSpec)

/-- ITS FALSE NEIGHBOUR: 'it returns false'. Refute it at one input. -/
def fnExactTermNamesWrong : ChangeSpec := { name := "fnExactTermNames", fn := fun _ => fun
  | [d1, d2] => { results := [.lit (.bool false)], args := [d1, d2] }
  | _ => none }
def FnExactTermNamesWrongFalsely : Prop := fnExactTermNamesRow.holds Try.pinned (OpenSpec.ofChange fnExactTermNamesWrong)

/-- 'laws.FnNameOf': WHATEVER THE INPUT: true; the input reads as it did. -/
def fnNameOfSpec : ChangeSpec := { name := "fnNameOf", fn := fun _ => fun
  | [d] => { results := [.lit (.bool true)], args := [d] }
  | _ => none }
def fnNameOfRow : OpenClaim := { program := "ytdgahpigcaejbaa", sum := "36adfa1ad40482c206f2240554d9ac8cb96d46d05a515e5f4676cd35c4393f8b", func := "loop.example/g00122/laws.FnNameOf", spec := "fnNameOf", recurses := true, plainKeys := false, apart := false }
def FnNameOfSaid : Prop := fnNameOfRow.holds Try.pinned (OpenSpec.ofChange fnNameOfSpec)

/-- ITS FALSE NEIGHBOUR: 'it returns false'. Refute it at one input. -/
def fnNameOfWrong : ChangeSpec := { name := "fnNameOf", fn := fun _ => fun
  | [d] => { results := [.lit (.bool false)], args := [d] }
  | _ => none }
def FnNameOfWrongFalsely : Prop := fnNameOfRow.holds Try.pinned (OpenSpec.ofChange fnNameOfWrong)

/-- 'laws.FnNamesOf': WHATEVER THE INPUT: true; the input reads as it did. -/
def fnNamesOfSpec : ChangeSpec := { name := "fnNamesOf", fn := fun _ => fun
  | [d] => { results := [.lit (.bool true)], args := [d] }
  | _ => none }
def fnNamesOfRow : OpenClaim := { program := "ytdgahpigcaejbaa", sum := "36adfa1ad40482c206f2240554d9ac8cb96d46d05a515e5f4676cd35c4393f8b", func := "loop.example/g00122/laws.FnNamesOf", spec := "fnNamesOf", recurses := true, plainKeys := false, apart := false }
def FnNamesOfSaid : Prop := fnNamesOfRow.holds Try.pinned (OpenSpec.ofChange fnNamesOfSpec)

/-- ITS FALSE NEIGHBOUR: 'it returns false'. Refute it at one input. -/
def fnNamesOfWrong : ChangeSpec := { name := "fnNamesOf", fn := fun _ => fun
  | [d] => { results := [.lit (.bool false)], args := [d] }
  | _ => none }
def FnNamesOfWrongFalsely : Prop := fnNamesOfRow.holds Try.pinned (OpenSpec.ofChange fnNamesOfWrong)

/-- 'laws.FnExactKnowJoin': WHATEVER THE INPUT: true; the input reads as it did. -/
def fnExactKnowJoinSpec : ChangeSpec := { name := "fnExactKnowJoin", fn := fun _ => fun
  | [d1, d2, d3] => { results := [.lit (.bool true)], args := [d1, d2, d3] }
  | _ => none }
def fnExactKnowJoinRow : OpenClaim := { program := "ytdgahpigcaejbaa", sum := "36adfa1ad40482c206f2240554d9ac8cb96d46d05a515e5f4676cd35c4393f8b", func := "loop.example/g00122/laws.FnExactKnowJoin", spec := "fnExactKnowJoin", recurses := true, plainKeys := false, apart := false }
def FnExactKnowJoinSaid : Prop := fnExactKnowJoinRow.holds Try.pinned (OpenSpec.ofChange fnExactKnowJoinSpec)

/-- ITS FALSE NEIGHBOUR: 'it returns false'. Refute it at one input. -/
def fnExactKnowJoinWrong : ChangeSpec := { name := "fnExactKnowJoin", fn := fun _ => fun
  | [d1, d2, d3] => { results := [.lit (.bool false)], args := [d1, d2, d3] }
  | _ => none }
def FnExactKnowJoinWrongFalsely : Prop := fnExactKnowJoinRow.holds Try.pinned (OpenSpec.ofChange fnExactKnowJoinWrong)

/-- 'laws.FnJoined': WHATEVER THE INPUT: true; the input reads as it did. -/
def fnJoinedSpec : ChangeSpec := { name := "fnJoined", fn := fun _ => fun
  | [d] => { results := [.lit (.bool true)], args := [d] }
  | _ => none }
def fnJoinedRow : OpenClaim := { program := "ytdgahpigcaejbaa", sum := "36adfa1ad40482c206f2240554d9ac8cb96d46d05a515e5f4676cd35c4393f8b", func := "loop.example/g00122/laws.FnJoined", spec := "fnJoined", recurses := true, plainKeys := false, apart := false }
def FnJoinedSaid : Prop := fnJoinedRow.holds Try.pinned (OpenSpec.ofChange fnJoinedSpec)

/-- ITS FALSE NEIGHBOUR: 'it returns false'. Refute it at one input. -/
def fnJoinedWrong : ChangeSpec := { name := "fnJoined", fn := fun _ => fun
  | [d] => { results := [.lit (.bool false)], args := [d] }
  | _ => none }
def FnJoinedWrongFalsely : Prop := fnJoinedRow.holds Try.pinned (OpenSpec.ofChange fnJoinedWrong)

/-- 'laws.FnExactDerives': WHATEVER THE INPUT: true; the input reads as it did. -/
def fnExactDerivesSpec : ChangeSpec := { name := "fnExactDerives", fn := fun _ => fun
  | [d1, d2, d3] => { results := [.lit (.bool true)], args := [d1, d2, d3] }
  | _ => none }
def fnExactDerivesRow : OpenClaim := { program := "ytdgahpigcaejbaa", sum := "36adfa1ad40482c206f2240554d9ac8cb96d46d05a515e5f4676cd35c4393f8b", func := "loop.example/g00122/laws.FnExactDerives", spec := "fnExactDerives", recurses := true, plainKeys := false, apart := false }
def FnExactDerivesSaid : Prop := fnExactDerivesRow.holds Try.pinned (OpenSpec.ofChange fnExactDerivesSpec)

/-- ITS FALSE NEIGHBOUR: 'it returns false'. Refute it at one input. -/
def fnExactDerivesWrong : ChangeSpec := { name := "fnExactDerives", fn := fun _ => fun
  | [d1, d2, d3] => { results := [.lit (.bool false)], args := [d1, d2, d3] }
  | _ => none }
def FnExactDerivesWrongFalsely : Prop := fnExactDerivesRow.holds Try.pinned (OpenSpec.ofChange fnExactDerivesWrong)

/- THE SECOND FORM. 'bulk': how many values and letters a reading holds, each counted each time it is reached (what is shared counts as often as it is met; a slice's spare places count too). A statement '..UptoSaid' is the law's where the arguments, and the package variables that the reading takes, are together of bulk at most 1048576: NARROWER than '..Said'. Prove '..Said' where nothing that the law and all that it calls make is longer than what came in: it says more and counts as full. Else prove '..UptoSaid'. A law counts once. -/
mutual
def uptoBulk {H : Type} : DataW H → Nat
  | .lit (.string bytes) => bytes.length + 1
  | .lit _ => 1
  | .nil => 1
  | .ptr d => uptoBulk d + 1
  | .slice elems spare => uptoBulkAll elems + uptoBulkAll spare + 1
  | .agg parts => uptoBulkAll parts + 1
  | .iface _ d => uptoBulk d + 1
  | .map entries => uptoBulkEntries entries + 1
  | .held _ => 1
def uptoBulkAll {H : Type} : List (DataW H) → Nat
  | [] => 0
  | d :: r => uptoBulk d + uptoBulkAll r
def uptoBulkEntries {H : Type} : List (Lit × DataW H) → Nat
  | [] => 0
  | x :: r => uptoBulkEntry x + uptoBulkEntries r
def uptoBulkEntry {H : Type} : Lit × DataW H → Nat
  | (.string bytes, d) => bytes.length + uptoBulk d + 1
  | (_, d) => uptoBulk d + 1
 end
def uptoSmall : (H : Type) → List (DataW H) → Bool := fun _ ds => decide (uptoBulkAll ds ≤ 1048576)
def OpenSpec.upto (s : _root_.Go.ChangeSpec) : _root_.Go.OpenSpec := { _root_.Go.OpenSpec.ofChange s with cond := some uptoSmall }

/-- 'laws.FnExactTermNames', WHERE WHAT IT READS IS OF BULK AT MOST 1048576: true; the input reads as it did. -/
def fnExactTermNamesUptoRow : OpenClaim := { program := "ytdgahpigcaejbaa", sum := "36adfa1ad40482c206f2240554d9ac8cb96d46d05a515e5f4676cd35c4393f8b", func := "loop.example/g00122/laws.FnExactTermNames", spec := "fnExactTermNames", recurses := true, plainKeys := false, apart := false, narrowed := true }
def FnExactTermNamesUptoSaid : Prop := fnExactTermNamesUptoRow.holds Try.pinned (OpenSpec.upto fnExactTermNamesSpec)

/-- 'laws.FnNameOf', WHERE WHAT IT READS IS OF BULK AT MOST 1048576: true; the input reads as it did. -/
def fnNameOfUptoRow : OpenClaim := { program := "ytdgahpigcaejbaa", sum := "36adfa1ad40482c206f2240554d9ac8cb96d46d05a515e5f4676cd35c4393f8b", func := "loop.example/g00122/laws.FnNameOf", spec := "fnNameOf", recurses := true, plainKeys := false, apart := false, narrowed := true }
def FnNameOfUptoSaid : Prop := fnNameOfUptoRow.holds Try.pinned (OpenSpec.upto fnNameOfSpec)

/-- 'laws.FnNamesOf', WHERE WHAT IT READS IS OF BULK AT MOST 1048576: true; the input reads as it did. -/
def fnNamesOfUptoRow : OpenClaim := { program := "ytdgahpigcaejbaa", sum := "36adfa1ad40482c206f2240554d9ac8cb96d46d05a515e5f4676cd35c4393f8b", func := "loop.example/g00122/laws.FnNamesOf", spec := "fnNamesOf", recurses := true, plainKeys := false, apart := false, narrowed := true }
def FnNamesOfUptoSaid : Prop := fnNamesOfUptoRow.holds Try.pinned (OpenSpec.upto fnNamesOfSpec)

/-- 'laws.FnExactKnowJoin', WHERE WHAT IT READS IS OF BULK AT MOST 1048576: true; the input reads as it did. -/
def fnExactKnowJoinUptoRow : OpenClaim := { program := "ytdgahpigcaejbaa", sum := "36adfa1ad40482c206f2240554d9ac8cb96d46d05a515e5f4676cd35c4393f8b", func := "loop.example/g00122/laws.FnExactKnowJoin", spec := "fnExactKnowJoin", recurses := true, plainKeys := false, apart := false, narrowed := true }
def FnExactKnowJoinUptoSaid : Prop := fnExactKnowJoinUptoRow.holds Try.pinned (OpenSpec.upto fnExactKnowJoinSpec)

/-- 'laws.FnJoined', WHERE WHAT IT READS IS OF BULK AT MOST 1048576: true; the input reads as it did. -/
def fnJoinedUptoRow : OpenClaim := { program := "ytdgahpigcaejbaa", sum := "36adfa1ad40482c206f2240554d9ac8cb96d46d05a515e5f4676cd35c4393f8b", func := "loop.example/g00122/laws.FnJoined", spec := "fnJoined", recurses := true, plainKeys := false, apart := false, narrowed := true }
def FnJoinedUptoSaid : Prop := fnJoinedUptoRow.holds Try.pinned (OpenSpec.upto fnJoinedSpec)

/-- 'laws.FnExactDerives', WHERE WHAT IT READS IS OF BULK AT MOST 1048576: true; the input reads as it did. -/
def fnExactDerivesUptoRow : OpenClaim := { program := "ytdgahpigcaejbaa", sum := "36adfa1ad40482c206f2240554d9ac8cb96d46d05a515e5f4676cd35c4393f8b", func := "loop.example/g00122/laws.FnExactDerives", spec := "fnExactDerives", recurses := true, plainKeys := false, apart := false, narrowed := true }
def FnExactDerivesUptoSaid : Prop := fnExactDerivesUptoRow.holds Try.pinned (OpenSpec.upto fnExactDerivesSpec)

end Rows
end Go.Proofs.Ytdgahpigcaejbaa
