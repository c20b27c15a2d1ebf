/-
  No cell of these rows narrows 'for every input' (looked for: loops, veiled, ifaces, maps, wideKeys, modest, calm, conditions, laid).
  DERIVED. THE GIVEN ROWS OF THIS SEAT. 9 by the template 'for every input the law returns true; each argument reads behind the call as it read before'; 0 by the template 'total and deterministic' (their statements: YtigpmfoagkhaeaaTotals.lean).
  GIVEN WITH THE SEED: the statements are not yours to turn. If you find one false, say at which input.
  Laid BY PROGRAM, IN A SANDBOX (cutbox-rows.mjs): the forced cells as the released guide's own fill.sh prints them over the translation a423dd37afe802dc… (all of the seat's roots in one cut). By AI agents, Wed Nov 11 2026. No macro, syntax, notation, axiom, sorry.
-/
import Derived.Test.YtigpmfoagkhaeaaChecked
import GoSem.Claim
import GoSem.ClaimJoined
import GoSem.ClaimMapViews
import Derived.JoinedTies
import Derived.KernelRfl
namespace Go.Proofs.Ytigpmfoagkhaeaa
/- THE CELL 'sum', in the pinned program and in every row, IS THE sha256 OF THE DUMP (.gsa) THAT YtigpmfoagkhaeaaProg.lean LOADS. Nothing in Lean hashes anything: it is a label: what it is worth is what the hold of that sum in a sandbox is worth. -/
noncomputable def Try.pinned : Pinned := { name := "ytigpmfoagkhaeaa", sum := "a423dd37afe802dcc82a50bac0c948b57deef3a25c0c553ee97f62142778f517", checked := Try.checked }
namespace Rows
def none {H : Type} : Left H := { results := [], args := [] }

/-- 'laws.FnNonePaid': WHATEVER THE INPUT: true; the input reads as it did. -/
def fnNonePaidSpec : ChangeSpec := { name := "fnNonePaid", fn := fun _ => fun
  | [d] => { results := [.lit (.bool true)], args := [d] }
  | _ => none }
def fnNonePaidRow : OpenClaim := { program := "ytigpmfoagkhaeaa", sum := "a423dd37afe802dcc82a50bac0c948b57deef3a25c0c553ee97f62142778f517", func := "loop.example/debtclearing/laws.FnNonePaid", spec := "fnNonePaid", apart := false }
def FnNonePaidSaid : Prop := fnNonePaidRow.holds Try.pinned (OpenSpec.ofChange fnNonePaidSpec)

/-- ITS FALSE NEIGHBOUR: 'it returns false'. Refute it at one input. -/
def fnNonePaidWrong : ChangeSpec := { name := "fnNonePaid", fn := fun _ => fun
  | [d] => { results := [.lit (.bool false)], args := [d] }
  | _ => none }
def FnNonePaidWrongFalsely : Prop := fnNonePaidRow.holds Try.pinned (OpenSpec.ofChange fnNonePaidWrong)

/-- 'laws.FnExactPaysOk': WHATEVER THE INPUT: true; the input reads as it did. -/
def fnExactPaysOkSpec : ChangeSpec := { name := "fnExactPaysOk", fn := fun _ => fun
  | [d1, d2] => { results := [.lit (.bool true)], args := [d1, d2] }
  | _ => none }
def fnExactPaysOkRow : OpenClaim := { program := "ytigpmfoagkhaeaa", sum := "a423dd37afe802dcc82a50bac0c948b57deef3a25c0c553ee97f62142778f517", func := "loop.example/debtclearing/laws.FnExactPaysOk", spec := "fnExactPaysOk", apart := false }
def FnExactPaysOkSaid : Prop := fnExactPaysOkRow.holds Try.pinned (OpenSpec.ofChange fnExactPaysOkSpec)

/-- ITS FALSE NEIGHBOUR: 'it returns false'. Refute it at one input. -/
def fnExactPaysOkWrong : ChangeSpec := { name := "fnExactPaysOk", fn := fun _ => fun
  | [d1, d2] => { results := [.lit (.bool false)], args := [d1, d2] }
  | _ => none }
def FnExactPaysOkWrongFalsely : Prop := fnExactPaysOkRow.holds Try.pinned (OpenSpec.ofChange fnExactPaysOkWrong)

/-- 'laws.FnPaysOk': WHATEVER THE INPUT: true; the input reads as it did. -/
def fnPaysOkSpec : ChangeSpec := { name := "fnPaysOk", fn := fun _ => fun
  | [d] => { results := [.lit (.bool true)], args := [d] }
  | _ => none }
def fnPaysOkRow : OpenClaim := { program := "ytigpmfoagkhaeaa", sum := "a423dd37afe802dcc82a50bac0c948b57deef3a25c0c553ee97f62142778f517", func := "loop.example/debtclearing/laws.FnPaysOk", spec := "fnPaysOk", apart := false }
def FnPaysOkSaid : Prop := fnPaysOkRow.holds Try.pinned (OpenSpec.ofChange fnPaysOkSpec)

/-- ITS FALSE NEIGHBOUR: 'it returns false'. Refute it at one input. -/
def fnPaysOkWrong : ChangeSpec := { name := "fnPaysOk", fn := fun _ => fun
  | [d] => { results := [.lit (.bool false)], args := [d] }
  | _ => none }
def FnPaysOkWrongFalsely : Prop := fnPaysOkRow.holds Try.pinned (OpenSpec.ofChange fnPaysOkWrong)

/-- 'laws.FnGetsOf': WHATEVER THE INPUT: true; the input reads as it did. -/
def fnGetsOfSpec : ChangeSpec := { name := "fnGetsOf", fn := fun _ => fun
  | [d] => { results := [.lit (.bool true)], args := [d] }
  | _ => none }
def fnGetsOfRow : OpenClaim := { program := "ytigpmfoagkhaeaa", sum := "a423dd37afe802dcc82a50bac0c948b57deef3a25c0c553ee97f62142778f517", func := "loop.example/debtclearing/laws.FnGetsOf", spec := "fnGetsOf", apart := false }
def FnGetsOfSaid : Prop := fnGetsOfRow.holds Try.pinned (OpenSpec.ofChange fnGetsOfSpec)

/-- ITS FALSE NEIGHBOUR: 'it returns false'. Refute it at one input. -/
def fnGetsOfWrong : ChangeSpec := { name := "fnGetsOf", fn := fun _ => fun
  | [d] => { results := [.lit (.bool false)], args := [d] }
  | _ => none }
def FnGetsOfWrongFalsely : Prop := fnGetsOfRow.holds Try.pinned (OpenSpec.ofChange fnGetsOfWrong)

/-- 'laws.FnKeepsOf': WHATEVER THE INPUT: true; the input reads as it did. -/
def fnKeepsOfSpec : ChangeSpec := { name := "fnKeepsOf", fn := fun _ => fun
  | [d] => { results := [.lit (.bool true)], args := [d] }
  | _ => none }
def fnKeepsOfRow : OpenClaim := { program := "ytigpmfoagkhaeaa", sum := "a423dd37afe802dcc82a50bac0c948b57deef3a25c0c553ee97f62142778f517", func := "loop.example/debtclearing/laws.FnKeepsOf", spec := "fnKeepsOf", apart := false }
def FnKeepsOfSaid : Prop := fnKeepsOfRow.holds Try.pinned (OpenSpec.ofChange fnKeepsOfSpec)

/-- ITS FALSE NEIGHBOUR: 'it returns false'. Refute it at one input. -/
def fnKeepsOfWrong : ChangeSpec := { name := "fnKeepsOf", fn := fun _ => fun
  | [d] => { results := [.lit (.bool false)], args := [d] }
  | _ => none }
def FnKeepsOfWrongFalsely : Prop := fnKeepsOfRow.holds Try.pinned (OpenSpec.ofChange fnKeepsOfWrong)

/-- 'laws.FnFallsWith': WHATEVER THE INPUT: true; the input reads as it did. -/
def fnFallsWithSpec : ChangeSpec := { name := "fnFallsWith", fn := fun _ => fun
  | [d] => { results := [.lit (.bool true)], args := [d] }
  | _ => none }
def fnFallsWithRow : OpenClaim := { program := "ytigpmfoagkhaeaa", sum := "a423dd37afe802dcc82a50bac0c948b57deef3a25c0c553ee97f62142778f517", func := "loop.example/debtclearing/laws.FnFallsWith", spec := "fnFallsWith", apart := false }
def FnFallsWithSaid : Prop := fnFallsWithRow.holds Try.pinned (OpenSpec.ofChange fnFallsWithSpec)

/-- ITS FALSE NEIGHBOUR: 'it returns false'. Refute it at one input. -/
def fnFallsWithWrong : ChangeSpec := { name := "fnFallsWith", fn := fun _ => fun
  | [d] => { results := [.lit (.bool false)], args := [d] }
  | _ => none }
def FnFallsWithWrongFalsely : Prop := fnFallsWithRow.holds Try.pinned (OpenSpec.ofChange fnFallsWithWrong)

/-- 'laws.FnExactGetsOf': WHATEVER THE INPUT: true; the input reads as it did. -/
def fnExactGetsOfSpec : ChangeSpec := { name := "fnExactGetsOf", fn := fun _ => fun
  | [d1, d2] => { results := [.lit (.bool true)], args := [d1, d2] }
  | _ => none }
def fnExactGetsOfRow : OpenClaim := { program := "ytigpmfoagkhaeaa", sum := "a423dd37afe802dcc82a50bac0c948b57deef3a25c0c553ee97f62142778f517", func := "loop.example/debtclearing/laws.FnExactGetsOf", spec := "fnExactGetsOf", apart := false }
def FnExactGetsOfSaid : Prop := fnExactGetsOfRow.holds Try.pinned (OpenSpec.ofChange fnExactGetsOfSpec)

/-- ITS FALSE NEIGHBOUR: 'it returns false'. Refute it at one input. -/
def fnExactGetsOfWrong : ChangeSpec := { name := "fnExactGetsOf", fn := fun _ => fun
  | [d1, d2] => { results := [.lit (.bool false)], args := [d1, d2] }
  | _ => none }
def FnExactGetsOfWrongFalsely : Prop := fnExactGetsOfRow.holds Try.pinned (OpenSpec.ofChange fnExactGetsOfWrong)

/-- 'laws.FnLeadsTo': WHATEVER THE INPUT: true; the input reads as it did. -/
def fnLeadsToSpec : ChangeSpec := { name := "fnLeadsTo", fn := fun _ => fun
  | [d1, d2] => { results := [.lit (.bool true)], args := [d1, d2] }
  | _ => none }
def fnLeadsToRow : OpenClaim := { program := "ytigpmfoagkhaeaa", sum := "a423dd37afe802dcc82a50bac0c948b57deef3a25c0c553ee97f62142778f517", func := "loop.example/debtclearing/laws.FnLeadsTo", spec := "fnLeadsTo", apart := false }
def FnLeadsToSaid : Prop := fnLeadsToRow.holds Try.pinned (OpenSpec.ofChange fnLeadsToSpec)

/-- ITS FALSE NEIGHBOUR: 'it returns false'. Refute it at one input. -/
def fnLeadsToWrong : ChangeSpec := { name := "fnLeadsTo", fn := fun _ => fun
  | [d1, d2] => { results := [.lit (.bool false)], args := [d1, d2] }
  | _ => none }
def FnLeadsToWrongFalsely : Prop := fnLeadsToRow.holds Try.pinned (OpenSpec.ofChange fnLeadsToWrong)

/-- 'laws.FnExactClears': WHATEVER THE INPUT: true; the input reads as it did. -/
def fnExactClearsSpec : ChangeSpec := { name := "fnExactClears", fn := fun _ => fun
  | [d1, d2] => { results := [.lit (.bool true)], args := [d1, d2] }
  | _ => none }
def fnExactClearsRow : OpenClaim := { program := "ytigpmfoagkhaeaa", sum := "a423dd37afe802dcc82a50bac0c948b57deef3a25c0c553ee97f62142778f517", func := "loop.example/debtclearing/laws.FnExactClears", spec := "fnExactClears", apart := false }
def FnExactClearsSaid : Prop := fnExactClearsRow.holds Try.pinned (OpenSpec.ofChange fnExactClearsSpec)

/-- ITS FALSE NEIGHBOUR: 'it returns false'. Refute it at one input. -/
def fnExactClearsWrong : ChangeSpec := { name := "fnExactClears", fn := fun _ => fun
  | [d1, d2] => { results := [.lit (.bool false)], args := [d1, d2] }
  | _ => none }
def FnExactClearsWrongFalsely : Prop := fnExactClearsRow.holds Try.pinned (OpenSpec.ofChange fnExactClearsWrong)

/- THE SECOND FORM. 'bulk': how many values and letters a reading holds, each counted each time it is reached (what is shared counts as often as it is met; a slice's spare places count too). A statement '..UptoSaid' is the law's where the arguments, and the package variables that the reading takes, are together of bulk at most 1048576: NARROWER than '..Said'. Prove '..Said' where nothing that the law and all that it calls make is longer than what came in: it says more and counts as full. Else prove '..UptoSaid'. A law counts once. -/
mutual
def uptoBulk {H : Type} : DataW H → Nat
  | .lit (.string bytes) => bytes.length + 1
  | .lit _ => 1
  | .nil => 1
  | .ptr d => uptoBulk d + 1
  | .slice elems spare => uptoBulkAll elems + uptoBulkAll spare + 1
  | .agg parts => uptoBulkAll parts + 1
  | .iface _ d => uptoBulk d + 1
  | .map entries => uptoBulkEntries entries + 1
  | .held _ => 1
def uptoBulkAll {H : Type} : List (DataW H) → Nat
  | [] => 0
  | d :: r => uptoBulk d + uptoBulkAll r
def uptoBulkEntries {H : Type} : List (Lit × DataW H) → Nat
  | [] => 0
  | x :: r => uptoBulkEntry x + uptoBulkEntries r
def uptoBulkEntry {H : Type} : Lit × DataW H → Nat
  | (.string bytes, d) => bytes.length + uptoBulk d + 1
  | (_, d) => uptoBulk d + 1
 end
def uptoSmall : (H : Type) → List (DataW H) → Bool := fun _ ds => decide (uptoBulkAll ds ≤ 1048576)
def OpenSpec.upto (s : _root_.Go.ChangeSpec) : _root_.Go.OpenSpec := { _root_.Go.OpenSpec.ofChange s with cond := some uptoSmall }

/-- 'laws.FnNonePaid', WHERE WHAT IT READS IS OF BULK AT MOST 1048576: true; the input reads as it did. -/
def fnNonePaidUptoRow : OpenClaim := { program := "ytigpmfoagkhaeaa", sum := "a423dd37afe802dcc82a50bac0c948b57deef3a25c0c553ee97f62142778f517", func := "loop.example/debtclearing/laws.FnNonePaid", spec := "fnNonePaid", apart := false, narrowed := true }
def FnNonePaidUptoSaid : Prop := fnNonePaidUptoRow.holds Try.pinned (OpenSpec.upto fnNonePaidSpec)

/-- 'laws.FnExactPaysOk', WHERE WHAT IT READS IS OF BULK AT MOST 1048576: true; the input reads as it did. -/
def fnExactPaysOkUptoRow : OpenClaim := { program := "ytigpmfoagkhaeaa", sum := "a423dd37afe802dcc82a50bac0c948b57deef3a25c0c553ee97f62142778f517", func := "loop.example/debtclearing/laws.FnExactPaysOk", spec := "fnExactPaysOk", apart := false, narrowed := true }
def FnExactPaysOkUptoSaid : Prop := fnExactPaysOkUptoRow.holds Try.pinned (OpenSpec.upto fnExactPaysOkSpec)

/-- 'laws.FnPaysOk', WHERE WHAT IT READS IS OF BULK AT MOST 1048576: true; the input reads as it did. -/
def fnPaysOkUptoRow : OpenClaim := { program := "ytigpmfoagkhaeaa", sum := "a423dd37afe802dcc82a50bac0c948b57deef3a25c0c553ee97f62142778f517", func := "loop.example/debtclearing/laws.FnPaysOk", spec := "fnPaysOk", apart := false, narrowed := true }
def FnPaysOkUptoSaid : Prop := fnPaysOkUptoRow.holds Try.pinned (OpenSpec.upto fnPaysOkSpec)

/-- 'laws.FnGetsOf', WHERE WHAT IT READS IS OF BULK AT MOST 1048576: true; the input reads as it did. -/
def fnGetsOfUptoRow : OpenClaim := { program := "ytigpmfoagkhaeaa", sum := "a423dd37afe802dcc82a50bac0c948b57deef3a25c0c553ee97f62142778f517", func := "loop.example/debtclearing/laws.FnGetsOf", spec := "fnGetsOf", apart := false, narrowed := true }
def FnGetsOfUptoSaid : Prop := fnGetsOfUptoRow.holds Try.pinned (OpenSpec.upto fnGetsOfSpec)

/-- 'laws.FnKeepsOf', WHERE WHAT IT READS IS OF BULK AT MOST 1048576: true; the input reads as it did. -/
def fnKeepsOfUptoRow : OpenClaim := { program := "ytigpmfoagkhaeaa", sum := "a423dd37afe802dcc82a50bac0c948b57deef3a25c0c553ee97f62142778f517", func := "loop.example/debtclearing/laws.FnKeepsOf", spec := "fnKeepsOf", apart := false, narrowed := true }
def FnKeepsOfUptoSaid : Prop := fnKeepsOfUptoRow.holds Try.pinned (OpenSpec.upto fnKeepsOfSpec)

/-- 'laws.FnFallsWith', WHERE WHAT IT READS IS OF BULK AT MOST 1048576: true; the input reads as it did. -/
def fnFallsWithUptoRow : OpenClaim := { program := "ytigpmfoagkhaeaa", sum := "a423dd37afe802dcc82a50bac0c948b57deef3a25c0c553ee97f62142778f517", func := "loop.example/debtclearing/laws.FnFallsWith", spec := "fnFallsWith", apart := false, narrowed := true }
def FnFallsWithUptoSaid : Prop := fnFallsWithUptoRow.holds Try.pinned (OpenSpec.upto fnFallsWithSpec)

/-- 'laws.FnExactGetsOf', WHERE WHAT IT READS IS OF BULK AT MOST 1048576: true; the input reads as it did. -/
def fnExactGetsOfUptoRow : OpenClaim := { program := "ytigpmfoagkhaeaa", sum := "a423dd37afe802dcc82a50bac0c948b57deef3a25c0c553ee97f62142778f517", func := "loop.example/debtclearing/laws.FnExactGetsOf", spec := "fnExactGetsOf", apart := false, narrowed := true }
def FnExactGetsOfUptoSaid : Prop := fnExactGetsOfUptoRow.holds Try.pinned (OpenSpec.upto fnExactGetsOfSpec)

/-- 'laws.FnLeadsTo', WHERE WHAT IT READS IS OF BULK AT MOST 1048576: true; the input reads as it did. -/
def fnLeadsToUptoRow : OpenClaim := { program := "ytigpmfoagkhaeaa", sum := "a423dd37afe802dcc82a50bac0c948b57deef3a25c0c553ee97f62142778f517", func := "loop.example/debtclearing/laws.FnLeadsTo", spec := "fnLeadsTo", apart := false, narrowed := true }
def FnLeadsToUptoSaid : Prop := fnLeadsToUptoRow.holds Try.pinned (OpenSpec.upto fnLeadsToSpec)

/-- 'laws.FnExactClears', WHERE WHAT IT READS IS OF BULK AT MOST 1048576: true; the input reads as it did. -/
def fnExactClearsUptoRow : OpenClaim := { program := "ytigpmfoagkhaeaa", sum := "a423dd37afe802dcc82a50bac0c948b57deef3a25c0c553ee97f62142778f517", func := "loop.example/debtclearing/laws.FnExactClears", spec := "fnExactClears", apart := false, narrowed := true }
def FnExactClearsUptoSaid : Prop := fnExactClearsUptoRow.holds Try.pinned (OpenSpec.upto fnExactClearsSpec)

end Rows
end Go.Proofs.Ytigpmfoagkhaeaa
