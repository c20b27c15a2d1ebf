/-
  No cell of these rows narrows 'for every input' (looked for: loops, veiled, ifaces, maps, wideKeys, modest, calm, conditions, laid).
  DERIVED. THE GIVEN ROWS OF THIS SEAT. 8 by the template 'for every input the law returns true; each argument reads behind the call as it read before'; 0 by the template 'total and deterministic' (their statements: YtcjmpjiclnfjmaaTotals.lean).
  GIVEN WITH THE SEED: the statements are not yours to turn. If you find one false, say at which input.
  Laid BY PROGRAM, IN A SANDBOX (cutbox-rows.mjs): the forced cells as the released guide's own fill.sh prints them over the translation a8dafbdf75ef6205… (all of the seat's roots in one cut). By AI agents, Wed Nov 11 2026. No macro, syntax, notation, axiom, sorry.
-/
import Derived.Test.YtcjmpjiclnfjmaaChecked
import GoSem.Claim
import GoSem.ClaimJoined
import GoSem.ClaimMapViews
import Derived.JoinedTies
import Derived.KernelRfl
namespace Go.Proofs.Ytcjmpjiclnfjmaa
/- THE CELL 'sum', in the pinned program and in every row, IS THE sha256 OF THE DUMP (.gsa) THAT YtcjmpjiclnfjmaaProg.lean LOADS. Nothing in Lean hashes anything: it is a label: what it is worth is what the hold of that sum in a sandbox is worth. -/
noncomputable def Try.pinned : Pinned := { name := "ytcjmpjiclnfjmaa", sum := "a8dafbdf75ef62055ddf2eeba10a67d41769c38b9ad18d81f2a34fd2f6ba3807", checked := Try.checked }
namespace Rows
def none {H : Type} : Left H := { results := [], args := [] }

/-- 'laws.FnClears': WHATEVER THE INPUT: true; the input reads as it did. -/
def fnClearsSpec : ChangeSpec := { name := "fnClears", fn := fun _ => fun
  | [d] => { results := [.lit (.bool true)], args := [d] }
  | _ => none }
def fnClearsRow : OpenClaim := { program := "ytcjmpjiclnfjmaa", sum := "a8dafbdf75ef62055ddf2eeba10a67d41769c38b9ad18d81f2a34fd2f6ba3807", func := "loop.example/debtclearing/laws.FnClears", spec := "fnClears", apart := false }
def FnClearsSaid : Prop := fnClearsRow.holds Try.pinned (OpenSpec.ofChange fnClearsSpec)

/-- ITS FALSE NEIGHBOUR: 'it returns false'. Refute it at one input. -/
def fnClearsWrong : ChangeSpec := { name := "fnClears", fn := fun _ => fun
  | [d] => { results := [.lit (.bool false)], args := [d] }
  | _ => none }
def FnClearsWrongFalsely : Prop := fnClearsRow.holds Try.pinned (OpenSpec.ofChange fnClearsWrong)

/-- 'laws.FnExactKeepsOf': WHATEVER THE INPUT: true; the input reads as it did. -/
def fnExactKeepsOfSpec : ChangeSpec := { name := "fnExactKeepsOf", fn := fun _ => fun
  | [d1, d2] => { results := [.lit (.bool true)], args := [d1, d2] }
  | _ => none }
def fnExactKeepsOfRow : OpenClaim := { program := "ytcjmpjiclnfjmaa", sum := "a8dafbdf75ef62055ddf2eeba10a67d41769c38b9ad18d81f2a34fd2f6ba3807", func := "loop.example/debtclearing/laws.FnExactKeepsOf", spec := "fnExactKeepsOf", apart := false }
def FnExactKeepsOfSaid : Prop := fnExactKeepsOfRow.holds Try.pinned (OpenSpec.ofChange fnExactKeepsOfSpec)

/-- ITS FALSE NEIGHBOUR: 'it returns false'. Refute it at one input. -/
def fnExactKeepsOfWrong : ChangeSpec := { name := "fnExactKeepsOf", fn := fun _ => fun
  | [d1, d2] => { results := [.lit (.bool false)], args := [d1, d2] }
  | _ => none }
def FnExactKeepsOfWrongFalsely : Prop := fnExactKeepsOfRow.holds Try.pinned (OpenSpec.ofChange fnExactKeepsOfWrong)

/-- 'laws.FnGapOf': WHATEVER THE INPUT: true; the input reads as it did. -/
def fnGapOfSpec : ChangeSpec := { name := "fnGapOf", fn := fun _ => fun
  | [d] => { results := [.lit (.bool true)], args := [d] }
  | _ => none }
def fnGapOfRow : OpenClaim := { program := "ytcjmpjiclnfjmaa", sum := "a8dafbdf75ef62055ddf2eeba10a67d41769c38b9ad18d81f2a34fd2f6ba3807", func := "loop.example/debtclearing/laws.FnGapOf", spec := "fnGapOf", apart := false }
def FnGapOfSaid : Prop := fnGapOfRow.holds Try.pinned (OpenSpec.ofChange fnGapOfSpec)

/-- ITS FALSE NEIGHBOUR: 'it returns false'. Refute it at one input. -/
def fnGapOfWrong : ChangeSpec := { name := "fnGapOf", fn := fun _ => fun
  | [d] => { results := [.lit (.bool false)], args := [d] }
  | _ => none }
def FnGapOfWrongFalsely : Prop := fnGapOfRow.holds Try.pinned (OpenSpec.ofChange fnGapOfWrong)

/-- 'laws.FnExactFallsWith': WHATEVER THE INPUT: true; the input reads as it did. -/
def fnExactFallsWithSpec : ChangeSpec := { name := "fnExactFallsWith", fn := fun _ => fun
  | [d1, d2] => { results := [.lit (.bool true)], args := [d1, d2] }
  | _ => none }
def fnExactFallsWithRow : OpenClaim := { program := "ytcjmpjiclnfjmaa", sum := "a8dafbdf75ef62055ddf2eeba10a67d41769c38b9ad18d81f2a34fd2f6ba3807", func := "loop.example/debtclearing/laws.FnExactFallsWith", spec := "fnExactFallsWith", apart := false }
def FnExactFallsWithSaid : Prop := fnExactFallsWithRow.holds Try.pinned (OpenSpec.ofChange fnExactFallsWithSpec)

/-- ITS FALSE NEIGHBOUR: 'it returns false'. Refute it at one input. -/
def fnExactFallsWithWrong : ChangeSpec := { name := "fnExactFallsWith", fn := fun _ => fun
  | [d1, d2] => { results := [.lit (.bool false)], args := [d1, d2] }
  | _ => none }
def FnExactFallsWithWrongFalsely : Prop := fnExactFallsWithRow.holds Try.pinned (OpenSpec.ofChange fnExactFallsWithWrong)

/-- 'laws.FnExactLeadsTo': WHATEVER THE INPUT: true; the input reads as it did. -/
def fnExactLeadsToSpec : ChangeSpec := { name := "fnExactLeadsTo", fn := fun _ => fun
  | [d1, d2] => { results := [.lit (.bool true)], args := [d1, d2] }
  | _ => none }
def fnExactLeadsToRow : OpenClaim := { program := "ytcjmpjiclnfjmaa", sum := "a8dafbdf75ef62055ddf2eeba10a67d41769c38b9ad18d81f2a34fd2f6ba3807", func := "loop.example/debtclearing/laws.FnExactLeadsTo", spec := "fnExactLeadsTo", apart := false }
def FnExactLeadsToSaid : Prop := fnExactLeadsToRow.holds Try.pinned (OpenSpec.ofChange fnExactLeadsToSpec)

/-- ITS FALSE NEIGHBOUR: 'it returns false'. Refute it at one input. -/
def fnExactLeadsToWrong : ChangeSpec := { name := "fnExactLeadsTo", fn := fun _ => fun
  | [d1, d2] => { results := [.lit (.bool false)], args := [d1, d2] }
  | _ => none }
def FnExactLeadsToWrongFalsely : Prop := fnExactLeadsToRow.holds Try.pinned (OpenSpec.ofChange fnExactLeadsToWrong)

/-- 'laws.FnExactFromAbove': WHATEVER THE INPUT: true; the input reads as it did. -/
def fnExactFromAboveSpec : ChangeSpec := { name := "fnExactFromAbove", fn := fun _ => fun
  | [d1, d2] => { results := [.lit (.bool true)], args := [d1, d2] }
  | _ => none }
def fnExactFromAboveRow : OpenClaim := { program := "ytcjmpjiclnfjmaa", sum := "a8dafbdf75ef62055ddf2eeba10a67d41769c38b9ad18d81f2a34fd2f6ba3807", func := "loop.example/debtclearing/laws.FnExactFromAbove", spec := "fnExactFromAbove", apart := false }
def FnExactFromAboveSaid : Prop := fnExactFromAboveRow.holds Try.pinned (OpenSpec.ofChange fnExactFromAboveSpec)

/-- ITS FALSE NEIGHBOUR: 'it returns false'. Refute it at one input. -/
def fnExactFromAboveWrong : ChangeSpec := { name := "fnExactFromAbove", fn := fun _ => fun
  | [d1, d2] => { results := [.lit (.bool false)], args := [d1, d2] }
  | _ => none }
def FnExactFromAboveWrongFalsely : Prop := fnExactFromAboveRow.holds Try.pinned (OpenSpec.ofChange fnExactFromAboveWrong)

/-- 'laws.FnExactGapOf': WHATEVER THE INPUT: true; the input reads as it did. -/
def fnExactGapOfSpec : ChangeSpec := { name := "fnExactGapOf", fn := fun _ => fun
  | [d1, d2] => { results := [.lit (.bool true)], args := [d1, d2] }
  | _ => none }
def fnExactGapOfRow : OpenClaim := { program := "ytcjmpjiclnfjmaa", sum := "a8dafbdf75ef62055ddf2eeba10a67d41769c38b9ad18d81f2a34fd2f6ba3807", func := "loop.example/debtclearing/laws.FnExactGapOf", spec := "fnExactGapOf", apart := false }
def FnExactGapOfSaid : Prop := fnExactGapOfRow.holds Try.pinned (OpenSpec.ofChange fnExactGapOfSpec)

/-- ITS FALSE NEIGHBOUR: 'it returns false'. Refute it at one input. -/
def fnExactGapOfWrong : ChangeSpec := { name := "fnExactGapOf", fn := fun _ => fun
  | [d1, d2] => { results := [.lit (.bool false)], args := [d1, d2] }
  | _ => none }
def FnExactGapOfWrongFalsely : Prop := fnExactGapOfRow.holds Try.pinned (OpenSpec.ofChange fnExactGapOfWrong)

/-- 'laws.FnExactFromBelow': WHATEVER THE INPUT: true; the input reads as it did. -/
def fnExactFromBelowSpec : ChangeSpec := { name := "fnExactFromBelow", fn := fun _ => fun
  | [d1, d2] => { results := [.lit (.bool true)], args := [d1, d2] }
  | _ => none }
def fnExactFromBelowRow : OpenClaim := { program := "ytcjmpjiclnfjmaa", sum := "a8dafbdf75ef62055ddf2eeba10a67d41769c38b9ad18d81f2a34fd2f6ba3807", func := "loop.example/debtclearing/laws.FnExactFromBelow", spec := "fnExactFromBelow", apart := false }
def FnExactFromBelowSaid : Prop := fnExactFromBelowRow.holds Try.pinned (OpenSpec.ofChange fnExactFromBelowSpec)

/-- ITS FALSE NEIGHBOUR: 'it returns false'. Refute it at one input. -/
def fnExactFromBelowWrong : ChangeSpec := { name := "fnExactFromBelow", fn := fun _ => fun
  | [d1, d2] => { results := [.lit (.bool false)], args := [d1, d2] }
  | _ => none }
def FnExactFromBelowWrongFalsely : Prop := fnExactFromBelowRow.holds Try.pinned (OpenSpec.ofChange fnExactFromBelowWrong)

/- THE SECOND FORM. 'bulk': how many values and letters a reading holds, each counted each time it is reached (what is shared counts as often as it is met; a slice's spare places count too). A statement '..UptoSaid' is the law's where the arguments, and the package variables that the reading takes, are together of bulk at most 1048576: NARROWER than '..Said'. Prove '..Said' where nothing that the law and all that it calls make is longer than what came in: it says more and counts as full. Else prove '..UptoSaid'. A law counts once. -/
mutual
def uptoBulk {H : Type} : DataW H → Nat
  | .lit (.string bytes) => bytes.length + 1
  | .lit _ => 1
  | .nil => 1
  | .ptr d => uptoBulk d + 1
  | .slice elems spare => uptoBulkAll elems + uptoBulkAll spare + 1
  | .agg parts => uptoBulkAll parts + 1
  | .iface _ d => uptoBulk d + 1
  | .map entries => uptoBulkEntries entries + 1
  | .held _ => 1
def uptoBulkAll {H : Type} : List (DataW H) → Nat
  | [] => 0
  | d :: r => uptoBulk d + uptoBulkAll r
def uptoBulkEntries {H : Type} : List (Lit × DataW H) → Nat
  | [] => 0
  | x :: r => uptoBulkEntry x + uptoBulkEntries r
def uptoBulkEntry {H : Type} : Lit × DataW H → Nat
  | (.string bytes, d) => bytes.length + uptoBulk d + 1
  | (_, d) => uptoBulk d + 1
 end
def uptoSmall : (H : Type) → List (DataW H) → Bool := fun _ ds => decide (uptoBulkAll ds ≤ 1048576)
def OpenSpec.upto (s : _root_.Go.ChangeSpec) : _root_.Go.OpenSpec := { _root_.Go.OpenSpec.ofChange s with cond := some uptoSmall }

/-- 'laws.FnClears', WHERE WHAT IT READS IS OF BULK AT MOST 1048576: true; the input reads as it did. -/
def fnClearsUptoRow : OpenClaim := { program := "ytcjmpjiclnfjmaa", sum := "a8dafbdf75ef62055ddf2eeba10a67d41769c38b9ad18d81f2a34fd2f6ba3807", func := "loop.example/debtclearing/laws.FnClears", spec := "fnClears", apart := false, narrowed := true }
def FnClearsUptoSaid : Prop := fnClearsUptoRow.holds Try.pinned (OpenSpec.upto fnClearsSpec)

/-- 'laws.FnExactKeepsOf', WHERE WHAT IT READS IS OF BULK AT MOST 1048576: true; the input reads as it did. -/
def fnExactKeepsOfUptoRow : OpenClaim := { program := "ytcjmpjiclnfjmaa", sum := "a8dafbdf75ef62055ddf2eeba10a67d41769c38b9ad18d81f2a34fd2f6ba3807", func := "loop.example/debtclearing/laws.FnExactKeepsOf", spec := "fnExactKeepsOf", apart := false, narrowed := true }
def FnExactKeepsOfUptoSaid : Prop := fnExactKeepsOfUptoRow.holds Try.pinned (OpenSpec.upto fnExactKeepsOfSpec)

/-- 'laws.FnGapOf', WHERE WHAT IT READS IS OF BULK AT MOST 1048576: true; the input reads as it did. -/
def fnGapOfUptoRow : OpenClaim := { program := "ytcjmpjiclnfjmaa", sum := "a8dafbdf75ef62055ddf2eeba10a67d41769c38b9ad18d81f2a34fd2f6ba3807", func := "loop.example/debtclearing/laws.FnGapOf", spec := "fnGapOf", apart := false, narrowed := true }
def FnGapOfUptoSaid : Prop := fnGapOfUptoRow.holds Try.pinned (OpenSpec.upto fnGapOfSpec)

/-- 'laws.FnExactFallsWith', WHERE WHAT IT READS IS OF BULK AT MOST 1048576: true; the input reads as it did. -/
def fnExactFallsWithUptoRow : OpenClaim := { program := "ytcjmpjiclnfjmaa", sum := "a8dafbdf75ef62055ddf2eeba10a67d41769c38b9ad18d81f2a34fd2f6ba3807", func := "loop.example/debtclearing/laws.FnExactFallsWith", spec := "fnExactFallsWith", apart := false, narrowed := true }
def FnExactFallsWithUptoSaid : Prop := fnExactFallsWithUptoRow.holds Try.pinned (OpenSpec.upto fnExactFallsWithSpec)

/-- 'laws.FnExactLeadsTo', WHERE WHAT IT READS IS OF BULK AT MOST 1048576: true; the input reads as it did. -/
def fnExactLeadsToUptoRow : OpenClaim := { program := "ytcjmpjiclnfjmaa", sum := "a8dafbdf75ef62055ddf2eeba10a67d41769c38b9ad18d81f2a34fd2f6ba3807", func := "loop.example/debtclearing/laws.FnExactLeadsTo", spec := "fnExactLeadsTo", apart := false, narrowed := true }
def FnExactLeadsToUptoSaid : Prop := fnExactLeadsToUptoRow.holds Try.pinned (OpenSpec.upto fnExactLeadsToSpec)

/-- 'laws.FnExactFromAbove', WHERE WHAT IT READS IS OF BULK AT MOST 1048576: true; the input reads as it did. -/
def fnExactFromAboveUptoRow : OpenClaim := { program := "ytcjmpjiclnfjmaa", sum := "a8dafbdf75ef62055ddf2eeba10a67d41769c38b9ad18d81f2a34fd2f6ba3807", func := "loop.example/debtclearing/laws.FnExactFromAbove", spec := "fnExactFromAbove", apart := false, narrowed := true }
def FnExactFromAboveUptoSaid : Prop := fnExactFromAboveUptoRow.holds Try.pinned (OpenSpec.upto fnExactFromAboveSpec)

/-- 'laws.FnExactGapOf', WHERE WHAT IT READS IS OF BULK AT MOST 1048576: true; the input reads as it did. -/
def fnExactGapOfUptoRow : OpenClaim := { program := "ytcjmpjiclnfjmaa", sum := "a8dafbdf75ef62055ddf2eeba10a67d41769c38b9ad18d81f2a34fd2f6ba3807", func := "loop.example/debtclearing/laws.FnExactGapOf", spec := "fnExactGapOf", apart := false, narrowed := true }
def FnExactGapOfUptoSaid : Prop := fnExactGapOfUptoRow.holds Try.pinned (OpenSpec.upto fnExactGapOfSpec)

/-- 'laws.FnExactFromBelow', WHERE WHAT IT READS IS OF BULK AT MOST 1048576: true; the input reads as it did. -/
def fnExactFromBelowUptoRow : OpenClaim := { program := "ytcjmpjiclnfjmaa", sum := "a8dafbdf75ef62055ddf2eeba10a67d41769c38b9ad18d81f2a34fd2f6ba3807", func := "loop.example/debtclearing/laws.FnExactFromBelow", spec := "fnExactFromBelow", apart := false, narrowed := true }
def FnExactFromBelowUptoSaid : Prop := fnExactFromBelowUptoRow.holds Try.pinned (OpenSpec.upto fnExactFromBelowSpec)

end Rows
end Go.Proofs.Ytcjmpjiclnfjmaa
