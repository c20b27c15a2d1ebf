/-
  No cell of these rows narrows 'for every input' (looked for: loops, veiled, ifaces, maps, wideKeys, modest, calm, conditions, laid).
  DERIVED. THE GIVEN ROWS OF THIS SEAT. 12 by the template 'for every input the law returns true; each argument reads behind the call as it read before'; 0 by the template 'total and deterministic' (their statements: YtbnkiikpolcpkaaTotals.lean).
  GIVEN WITH THE SEED: the statements are not yours to turn. If you find one false, say at which input.
  Laid BY PROGRAM, IN A SANDBOX (cutbox-rows.mjs): the forced cells as the released guide's own fill.sh prints them over the translation 822981515ef1ff6a… (all of the seat's roots in one cut). By AI agents, Wed Nov 11 2026. No macro, syntax, notation, axiom, sorry.
-/
import Derived.Test.YtbnkiikpolcpkaaChecked
import GoSem.Claim
import GoSem.ClaimJoined
import GoSem.ClaimMapViews
import Derived.JoinedTies
import Derived.KernelRfl
namespace Go.Proofs.Ytbnkiikpolcpkaa
/- THE CELL 'sum', in the pinned program and in every row, IS THE sha256 OF THE DUMP (.gsa) THAT YtbnkiikpolcpkaaProg.lean LOADS. Nothing in Lean hashes anything: it is a label: what it is worth is what the hold of that sum in a sandbox is worth. -/
noncomputable def Try.pinned : Pinned := { name := "ytbnkiikpolcpkaa", sum := "822981515ef1ff6aa984821ad444767658ffaa85bca66936841baf9581c5cc83", checked := Try.checked }
namespace Rows
def none {H : Type} : Left H := { results := [], args := [] }

/-- 'laws.FnExactWaitsOk': WHATEVER THE INPUT: true; the input reads as it did. -/
def fnExactWaitsOkSpec : ChangeSpec := { name := "fnExactWaitsOk", fn := fun _ => fun
  | [d1, d2] => { results := [.lit (.bool true)], args := [d1, d2] }
  | _ => none }
def fnExactWaitsOkRow : OpenClaim := { program := "ytbnkiikpolcpkaa", sum := "822981515ef1ff6aa984821ad444767658ffaa85bca66936841baf9581c5cc83", func := "loop.example/debtclearing/laws.FnExactWaitsOk", spec := "fnExactWaitsOk", apart := false }
def FnExactWaitsOkSaid : Prop := fnExactWaitsOkRow.holds Try.pinned (OpenSpec.ofChange fnExactWaitsOkSpec)

/-- ITS FALSE NEIGHBOUR: 'it returns false'. Refute it at one input. -/
def fnExactWaitsOkWrong : ChangeSpec := { name := "fnExactWaitsOk", fn := fun _ => fun
  | [d1, d2] => { results := [.lit (.bool false)], args := [d1, d2] }
  | _ => none }
def FnExactWaitsOkWrongFalsely : Prop := fnExactWaitsOkRow.holds Try.pinned (OpenSpec.ofChange fnExactWaitsOkWrong)

/-- 'laws.FnWaitsOk': WHATEVER THE INPUT: true; the input reads as it did. -/
def fnWaitsOkSpec : ChangeSpec := { name := "fnWaitsOk", fn := fun _ => fun
  | [d] => { results := [.lit (.bool true)], args := [d] }
  | _ => none }
def fnWaitsOkRow : OpenClaim := { program := "ytbnkiikpolcpkaa", sum := "822981515ef1ff6aa984821ad444767658ffaa85bca66936841baf9581c5cc83", func := "loop.example/debtclearing/laws.FnWaitsOk", spec := "fnWaitsOk", apart := false }
def FnWaitsOkSaid : Prop := fnWaitsOkRow.holds Try.pinned (OpenSpec.ofChange fnWaitsOkSpec)

/-- ITS FALSE NEIGHBOUR: 'it returns false'. Refute it at one input. -/
def fnWaitsOkWrong : ChangeSpec := { name := "fnWaitsOk", fn := fun _ => fun
  | [d] => { results := [.lit (.bool false)], args := [d] }
  | _ => none }
def FnWaitsOkWrongFalsely : Prop := fnWaitsOkRow.holds Try.pinned (OpenSpec.ofChange fnWaitsOkWrong)

/-- 'laws.FnExactAfterLot': WHATEVER THE INPUT: true; the input reads as it did. -/
def fnExactAfterLotSpec : ChangeSpec := { name := "fnExactAfterLot", fn := fun _ => fun
  | [d1, d2, d3] => { results := [.lit (.bool true)], args := [d1, d2, d3] }
  | _ => none }
def fnExactAfterLotRow : OpenClaim := { program := "ytbnkiikpolcpkaa", sum := "822981515ef1ff6aa984821ad444767658ffaa85bca66936841baf9581c5cc83", func := "loop.example/debtclearing/laws.FnExactAfterLot", spec := "fnExactAfterLot", unfollowed := true, recurses := true, apart := false }
def FnExactAfterLotSaid : Prop := fnExactAfterLotRow.holds Try.pinned (OpenSpec.ofChange fnExactAfterLotSpec)

/-- ITS FALSE NEIGHBOUR: 'it returns false'. Refute it at one input. -/
def fnExactAfterLotWrong : ChangeSpec := { name := "fnExactAfterLot", fn := fun _ => fun
  | [d1, d2, d3] => { results := [.lit (.bool false)], args := [d1, d2, d3] }
  | _ => none }
def FnExactAfterLotWrongFalsely : Prop := fnExactAfterLotRow.holds Try.pinned (OpenSpec.ofChange fnExactAfterLotWrong)

/-- 'laws.FnAfterLot': WHATEVER THE INPUT: true; the input reads as it did. -/
def fnAfterLotSpec : ChangeSpec := { name := "fnAfterLot", fn := fun _ => fun
  | [d] => { results := [.lit (.bool true)], args := [d] }
  | _ => none }
def fnAfterLotRow : OpenClaim := { program := "ytbnkiikpolcpkaa", sum := "822981515ef1ff6aa984821ad444767658ffaa85bca66936841baf9581c5cc83", func := "loop.example/debtclearing/laws.FnAfterLot", spec := "fnAfterLot", unfollowed := true, recurses := true, apart := false }
def FnAfterLotSaid : Prop := fnAfterLotRow.holds Try.pinned (OpenSpec.ofChange fnAfterLotSpec)

/-- ITS FALSE NEIGHBOUR: 'it returns false'. Refute it at one input. -/
def fnAfterLotWrong : ChangeSpec := { name := "fnAfterLot", fn := fun _ => fun
  | [d] => { results := [.lit (.bool false)], args := [d] }
  | _ => none }
def FnAfterLotWrongFalsely : Prop := fnAfterLotRow.holds Try.pinned (OpenSpec.ofChange fnAfterLotWrong)

/-- 'laws.FnExactLotOk': WHATEVER THE INPUT: true; the input reads as it did. -/
def fnExactLotOkSpec : ChangeSpec := { name := "fnExactLotOk", fn := fun _ => fun
  | [d1, d2, d3] => { results := [.lit (.bool true)], args := [d1, d2, d3] }
  | _ => none }
def fnExactLotOkRow : OpenClaim := { program := "ytbnkiikpolcpkaa", sum := "822981515ef1ff6aa984821ad444767658ffaa85bca66936841baf9581c5cc83", func := "loop.example/debtclearing/laws.FnExactLotOk", spec := "fnExactLotOk", unfollowed := true, recurses := true, apart := false }
def FnExactLotOkSaid : Prop := fnExactLotOkRow.holds Try.pinned (OpenSpec.ofChange fnExactLotOkSpec)

/-- ITS FALSE NEIGHBOUR: 'it returns false'. Refute it at one input. -/
def fnExactLotOkWrong : ChangeSpec := { name := "fnExactLotOk", fn := fun _ => fun
  | [d1, d2, d3] => { results := [.lit (.bool false)], args := [d1, d2, d3] }
  | _ => none }
def FnExactLotOkWrongFalsely : Prop := fnExactLotOkRow.holds Try.pinned (OpenSpec.ofChange fnExactLotOkWrong)

/-- 'laws.FnLotOk': WHATEVER THE INPUT: true; the input reads as it did. -/
def fnLotOkSpec : ChangeSpec := { name := "fnLotOk", fn := fun _ => fun
  | [d] => { results := [.lit (.bool true)], args := [d] }
  | _ => none }
def fnLotOkRow : OpenClaim := { program := "ytbnkiikpolcpkaa", sum := "822981515ef1ff6aa984821ad444767658ffaa85bca66936841baf9581c5cc83", func := "loop.example/debtclearing/laws.FnLotOk", spec := "fnLotOk", unfollowed := true, recurses := true, apart := false }
def FnLotOkSaid : Prop := fnLotOkRow.holds Try.pinned (OpenSpec.ofChange fnLotOkSpec)

/-- ITS FALSE NEIGHBOUR: 'it returns false'. Refute it at one input. -/
def fnLotOkWrong : ChangeSpec := { name := "fnLotOk", fn := fun _ => fun
  | [d] => { results := [.lit (.bool false)], args := [d] }
  | _ => none }
def FnLotOkWrongFalsely : Prop := fnLotOkRow.holds Try.pinned (OpenSpec.ofChange fnLotOkWrong)

/-- 'laws.FnExactGreatestLot': WHATEVER THE INPUT: true; the input reads as it did. -/
def fnExactGreatestLotSpec : ChangeSpec := { name := "fnExactGreatestLot", fn := fun _ => fun
  | [d1, d2] => { results := [.lit (.bool true)], args := [d1, d2] }
  | _ => none }
def fnExactGreatestLotRow : OpenClaim := { program := "ytbnkiikpolcpkaa", sum := "822981515ef1ff6aa984821ad444767658ffaa85bca66936841baf9581c5cc83", func := "loop.example/debtclearing/laws.FnExactGreatestLot", spec := "fnExactGreatestLot", unfollowed := true, recurses := true, apart := false }
def FnExactGreatestLotSaid : Prop := fnExactGreatestLotRow.holds Try.pinned (OpenSpec.ofChange fnExactGreatestLotSpec)

/-- ITS FALSE NEIGHBOUR: 'it returns false'. Refute it at one input. -/
def fnExactGreatestLotWrong : ChangeSpec := { name := "fnExactGreatestLot", fn := fun _ => fun
  | [d1, d2] => { results := [.lit (.bool false)], args := [d1, d2] }
  | _ => none }
def FnExactGreatestLotWrongFalsely : Prop := fnExactGreatestLotRow.holds Try.pinned (OpenSpec.ofChange fnExactGreatestLotWrong)

/-- 'laws.FnGreatestLot': WHATEVER THE INPUT: true; the input reads as it did. -/
def fnGreatestLotSpec : ChangeSpec := { name := "fnGreatestLot", fn := fun _ => fun
  | [d] => { results := [.lit (.bool true)], args := [d] }
  | _ => none }
def fnGreatestLotRow : OpenClaim := { program := "ytbnkiikpolcpkaa", sum := "822981515ef1ff6aa984821ad444767658ffaa85bca66936841baf9581c5cc83", func := "loop.example/debtclearing/laws.FnGreatestLot", spec := "fnGreatestLot", unfollowed := true, recurses := true, apart := false }
def FnGreatestLotSaid : Prop := fnGreatestLotRow.holds Try.pinned (OpenSpec.ofChange fnGreatestLotSpec)

/-- ITS FALSE NEIGHBOUR: 'it returns false'. Refute it at one input. -/
def fnGreatestLotWrong : ChangeSpec := { name := "fnGreatestLot", fn := fun _ => fun
  | [d] => { results := [.lit (.bool false)], args := [d] }
  | _ => none }
def FnGreatestLotWrongFalsely : Prop := fnGreatestLotRow.holds Try.pinned (OpenSpec.ofChange fnGreatestLotWrong)

/-- 'laws.FnExactOneByOne': WHATEVER THE INPUT: true; the input reads as it did. -/
def fnExactOneByOneSpec : ChangeSpec := { name := "fnExactOneByOne", fn := fun _ => fun
  | [d1, d2] => { results := [.lit (.bool true)], args := [d1, d2] }
  | _ => none }
def fnExactOneByOneRow : OpenClaim := { program := "ytbnkiikpolcpkaa", sum := "822981515ef1ff6aa984821ad444767658ffaa85bca66936841baf9581c5cc83", func := "loop.example/debtclearing/laws.FnExactOneByOne", spec := "fnExactOneByOne", apart := false }
def FnExactOneByOneSaid : Prop := fnExactOneByOneRow.holds Try.pinned (OpenSpec.ofChange fnExactOneByOneSpec)

/-- ITS FALSE NEIGHBOUR: 'it returns false'. Refute it at one input. -/
def fnExactOneByOneWrong : ChangeSpec := { name := "fnExactOneByOne", fn := fun _ => fun
  | [d1, d2] => { results := [.lit (.bool false)], args := [d1, d2] }
  | _ => none }
def FnExactOneByOneWrongFalsely : Prop := fnExactOneByOneRow.holds Try.pinned (OpenSpec.ofChange fnExactOneByOneWrong)

/-- 'laws.FnOneByOne': WHATEVER THE INPUT: true; the input reads as it did. -/
def fnOneByOneSpec : ChangeSpec := { name := "fnOneByOne", fn := fun _ => fun
  | [d] => { results := [.lit (.bool true)], args := [d] }
  | _ => none }
def fnOneByOneRow : OpenClaim := { program := "ytbnkiikpolcpkaa", sum := "822981515ef1ff6aa984821ad444767658ffaa85bca66936841baf9581c5cc83", func := "loop.example/debtclearing/laws.FnOneByOne", spec := "fnOneByOne", unfollowed := true, recurses := true, apart := false }
def FnOneByOneSaid : Prop := fnOneByOneRow.holds Try.pinned (OpenSpec.ofChange fnOneByOneSpec)

/-- ITS FALSE NEIGHBOUR: 'it returns false'. Refute it at one input. -/
def fnOneByOneWrong : ChangeSpec := { name := "fnOneByOne", fn := fun _ => fun
  | [d] => { results := [.lit (.bool false)], args := [d] }
  | _ => none }
def FnOneByOneWrongFalsely : Prop := fnOneByOneRow.holds Try.pinned (OpenSpec.ofChange fnOneByOneWrong)

/-- 'laws.FnExactStuckOf': WHATEVER THE INPUT: true; the input reads as it did. -/
def fnExactStuckOfSpec : ChangeSpec := { name := "fnExactStuckOf", fn := fun _ => fun
  | [d1, d2] => { results := [.lit (.bool true)], args := [d1, d2] }
  | _ => none }
def fnExactStuckOfRow : OpenClaim := { program := "ytbnkiikpolcpkaa", sum := "822981515ef1ff6aa984821ad444767658ffaa85bca66936841baf9581c5cc83", func := "loop.example/debtclearing/laws.FnExactStuckOf", spec := "fnExactStuckOf", unfollowed := true, recurses := true, apart := false }
def FnExactStuckOfSaid : Prop := fnExactStuckOfRow.holds Try.pinned (OpenSpec.ofChange fnExactStuckOfSpec)

/-- ITS FALSE NEIGHBOUR: 'it returns false'. Refute it at one input. -/
def fnExactStuckOfWrong : ChangeSpec := { name := "fnExactStuckOf", fn := fun _ => fun
  | [d1, d2] => { results := [.lit (.bool false)], args := [d1, d2] }
  | _ => none }
def FnExactStuckOfWrongFalsely : Prop := fnExactStuckOfRow.holds Try.pinned (OpenSpec.ofChange fnExactStuckOfWrong)

/-- 'laws.FnStuckOf': WHATEVER THE INPUT: true; the input reads as it did. -/
def fnStuckOfSpec : ChangeSpec := { name := "fnStuckOf", fn := fun _ => fun
  | [d] => { results := [.lit (.bool true)], args := [d] }
  | _ => none }
def fnStuckOfRow : OpenClaim := { program := "ytbnkiikpolcpkaa", sum := "822981515ef1ff6aa984821ad444767658ffaa85bca66936841baf9581c5cc83", func := "loop.example/debtclearing/laws.FnStuckOf", spec := "fnStuckOf", unfollowed := true, recurses := true, apart := false }
def FnStuckOfSaid : Prop := fnStuckOfRow.holds Try.pinned (OpenSpec.ofChange fnStuckOfSpec)

/-- ITS FALSE NEIGHBOUR: 'it returns false'. Refute it at one input. -/
def fnStuckOfWrong : ChangeSpec := { name := "fnStuckOf", fn := fun _ => fun
  | [d] => { results := [.lit (.bool false)], args := [d] }
  | _ => none }
def FnStuckOfWrongFalsely : Prop := fnStuckOfRow.holds Try.pinned (OpenSpec.ofChange fnStuckOfWrong)

/- THE SECOND FORM. 'bulk': how many values and letters a reading holds, each counted each time it is reached (what is shared counts as often as it is met; a slice's spare places count too). A statement '..UptoSaid' is the law's where the arguments, and the package variables that the reading takes, are together of bulk at most 1048576: NARROWER than '..Said'. Prove '..Said' where nothing that the law and all that it calls make is longer than what came in: it says more and counts as full. Else prove '..UptoSaid'. A law counts once. -/
mutual
def uptoBulk {H : Type} : DataW H → Nat
  | .lit (.string bytes) => bytes.length + 1
  | .lit _ => 1
  | .nil => 1
  | .ptr d => uptoBulk d + 1
  | .slice elems spare => uptoBulkAll elems + uptoBulkAll spare + 1
  | .agg parts => uptoBulkAll parts + 1
  | .iface _ d => uptoBulk d + 1
  | .map entries => uptoBulkEntries entries + 1
  | .held _ => 1
def uptoBulkAll {H : Type} : List (DataW H) → Nat
  | [] => 0
  | d :: r => uptoBulk d + uptoBulkAll r
def uptoBulkEntries {H : Type} : List (Lit × DataW H) → Nat
  | [] => 0
  | x :: r => uptoBulkEntry x + uptoBulkEntries r
def uptoBulkEntry {H : Type} : Lit × DataW H → Nat
  | (.string bytes, d) => bytes.length + uptoBulk d + 1
  | (_, d) => uptoBulk d + 1
 end
def uptoSmall : (H : Type) → List (DataW H) → Bool := fun _ ds => decide (uptoBulkAll ds ≤ 1048576)
def OpenSpec.upto (s : _root_.Go.ChangeSpec) : _root_.Go.OpenSpec := { _root_.Go.OpenSpec.ofChange s with cond := some uptoSmall }

/-- 'laws.FnExactWaitsOk', WHERE WHAT IT READS IS OF BULK AT MOST 1048576: true; the input reads as it did. -/
def fnExactWaitsOkUptoRow : OpenClaim := { program := "ytbnkiikpolcpkaa", sum := "822981515ef1ff6aa984821ad444767658ffaa85bca66936841baf9581c5cc83", func := "loop.example/debtclearing/laws.FnExactWaitsOk", spec := "fnExactWaitsOk", apart := false, narrowed := true }
def FnExactWaitsOkUptoSaid : Prop := fnExactWaitsOkUptoRow.holds Try.pinned (OpenSpec.upto fnExactWaitsOkSpec)

/-- 'laws.FnWaitsOk', WHERE WHAT IT READS IS OF BULK AT MOST 1048576: true; the input reads as it did. -/
def fnWaitsOkUptoRow : OpenClaim := { program := "ytbnkiikpolcpkaa", sum := "822981515ef1ff6aa984821ad444767658ffaa85bca66936841baf9581c5cc83", func := "loop.example/debtclearing/laws.FnWaitsOk", spec := "fnWaitsOk", apart := false, narrowed := true }
def FnWaitsOkUptoSaid : Prop := fnWaitsOkUptoRow.holds Try.pinned (OpenSpec.upto fnWaitsOkSpec)

/-- 'laws.FnExactAfterLot', WHERE WHAT IT READS IS OF BULK AT MOST 1048576: true; the input reads as it did. -/
def fnExactAfterLotUptoRow : OpenClaim := { program := "ytbnkiikpolcpkaa", sum := "822981515ef1ff6aa984821ad444767658ffaa85bca66936841baf9581c5cc83", func := "loop.example/debtclearing/laws.FnExactAfterLot", spec := "fnExactAfterLot", unfollowed := true, recurses := true, apart := false, narrowed := true }
def FnExactAfterLotUptoSaid : Prop := fnExactAfterLotUptoRow.holds Try.pinned (OpenSpec.upto fnExactAfterLotSpec)

/-- 'laws.FnAfterLot', WHERE WHAT IT READS IS OF BULK AT MOST 1048576: true; the input reads as it did. -/
def fnAfterLotUptoRow : OpenClaim := { program := "ytbnkiikpolcpkaa", sum := "822981515ef1ff6aa984821ad444767658ffaa85bca66936841baf9581c5cc83", func := "loop.example/debtclearing/laws.FnAfterLot", spec := "fnAfterLot", unfollowed := true, recurses := true, apart := false, narrowed := true }
def FnAfterLotUptoSaid : Prop := fnAfterLotUptoRow.holds Try.pinned (OpenSpec.upto fnAfterLotSpec)

/-- 'laws.FnExactLotOk', WHERE WHAT IT READS IS OF BULK AT MOST 1048576: true; the input reads as it did. -/
def fnExactLotOkUptoRow : OpenClaim := { program := "ytbnkiikpolcpkaa", sum := "822981515ef1ff6aa984821ad444767658ffaa85bca66936841baf9581c5cc83", func := "loop.example/debtclearing/laws.FnExactLotOk", spec := "fnExactLotOk", unfollowed := true, recurses := true, apart := false, narrowed := true }
def FnExactLotOkUptoSaid : Prop := fnExactLotOkUptoRow.holds Try.pinned (OpenSpec.upto fnExactLotOkSpec)

/-- 'laws.FnLotOk', WHERE WHAT IT READS IS OF BULK AT MOST 1048576: true; the input reads as it did. -/
def fnLotOkUptoRow : OpenClaim := { program := "ytbnkiikpolcpkaa", sum := "822981515ef1ff6aa984821ad444767658ffaa85bca66936841baf9581c5cc83", func := "loop.example/debtclearing/laws.FnLotOk", spec := "fnLotOk", unfollowed := true, recurses := true, apart := false, narrowed := true }
def FnLotOkUptoSaid : Prop := fnLotOkUptoRow.holds Try.pinned (OpenSpec.upto fnLotOkSpec)

/-- 'laws.FnExactGreatestLot', WHERE WHAT IT READS IS OF BULK AT MOST 1048576: true; the input reads as it did. -/
def fnExactGreatestLotUptoRow : OpenClaim := { program := "ytbnkiikpolcpkaa", sum := "822981515ef1ff6aa984821ad444767658ffaa85bca66936841baf9581c5cc83", func := "loop.example/debtclearing/laws.FnExactGreatestLot", spec := "fnExactGreatestLot", unfollowed := true, recurses := true, apart := false, narrowed := true }
def FnExactGreatestLotUptoSaid : Prop := fnExactGreatestLotUptoRow.holds Try.pinned (OpenSpec.upto fnExactGreatestLotSpec)

/-- 'laws.FnGreatestLot', WHERE WHAT IT READS IS OF BULK AT MOST 1048576: true; the input reads as it did. -/
def fnGreatestLotUptoRow : OpenClaim := { program := "ytbnkiikpolcpkaa", sum := "822981515ef1ff6aa984821ad444767658ffaa85bca66936841baf9581c5cc83", func := "loop.example/debtclearing/laws.FnGreatestLot", spec := "fnGreatestLot", unfollowed := true, recurses := true, apart := false, narrowed := true }
def FnGreatestLotUptoSaid : Prop := fnGreatestLotUptoRow.holds Try.pinned (OpenSpec.upto fnGreatestLotSpec)

/-- 'laws.FnExactOneByOne', WHERE WHAT IT READS IS OF BULK AT MOST 1048576: true; the input reads as it did. -/
def fnExactOneByOneUptoRow : OpenClaim := { program := "ytbnkiikpolcpkaa", sum := "822981515ef1ff6aa984821ad444767658ffaa85bca66936841baf9581c5cc83", func := "loop.example/debtclearing/laws.FnExactOneByOne", spec := "fnExactOneByOne", apart := false, narrowed := true }
def FnExactOneByOneUptoSaid : Prop := fnExactOneByOneUptoRow.holds Try.pinned (OpenSpec.upto fnExactOneByOneSpec)

/-- 'laws.FnOneByOne', WHERE WHAT IT READS IS OF BULK AT MOST 1048576: true; the input reads as it did. -/
def fnOneByOneUptoRow : OpenClaim := { program := "ytbnkiikpolcpkaa", sum := "822981515ef1ff6aa984821ad444767658ffaa85bca66936841baf9581c5cc83", func := "loop.example/debtclearing/laws.FnOneByOne", spec := "fnOneByOne", unfollowed := true, recurses := true, apart := false, narrowed := true }
def FnOneByOneUptoSaid : Prop := fnOneByOneUptoRow.holds Try.pinned (OpenSpec.upto fnOneByOneSpec)

/-- 'laws.FnExactStuckOf', WHERE WHAT IT READS IS OF BULK AT MOST 1048576: true; the input reads as it did. -/
def fnExactStuckOfUptoRow : OpenClaim := { program := "ytbnkiikpolcpkaa", sum := "822981515ef1ff6aa984821ad444767658ffaa85bca66936841baf9581c5cc83", func := "loop.example/debtclearing/laws.FnExactStuckOf", spec := "fnExactStuckOf", unfollowed := true, recurses := true, apart := false, narrowed := true }
def FnExactStuckOfUptoSaid : Prop := fnExactStuckOfUptoRow.holds Try.pinned (OpenSpec.upto fnExactStuckOfSpec)

/-- 'laws.FnStuckOf', WHERE WHAT IT READS IS OF BULK AT MOST 1048576: true; the input reads as it did. -/
def fnStuckOfUptoRow : OpenClaim := { program := "ytbnkiikpolcpkaa", sum := "822981515ef1ff6aa984821ad444767658ffaa85bca66936841baf9581c5cc83", func := "loop.example/debtclearing/laws.FnStuckOf", spec := "fnStuckOf", unfollowed := true, recurses := true, apart := false, narrowed := true }
def FnStuckOfUptoSaid : Prop := fnStuckOfUptoRow.holds Try.pinned (OpenSpec.upto fnStuckOfSpec)

end Rows
end Go.Proofs.Ytbnkiikpolcpkaa
