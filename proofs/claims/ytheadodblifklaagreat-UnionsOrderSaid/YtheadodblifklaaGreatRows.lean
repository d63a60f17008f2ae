/-
  No cell of these rows narrows 'for every input' (looked for: loops, veiled, ifaces, maps, wideKeys, modest, calm, conditions, laid).
  DERIVED. THE GIVEN ROWS OF THIS SEAT. 7 by the template 'for every input the law returns true; each argument reads behind the call as it read before'; 0 by the template 'total and deterministic' (their statements: YtheadodblifklaaGreatTotals.lean).
  GIVEN WITH THE SEED: the statements are not yours to turn. If you find one false, say at which input.
  Laid BY PROGRAM, IN A SANDBOX (cutbox-rows.mjs): the forced cells as the released guide's own fill.sh prints them over the translation c735d4c9de760599… (all of the seat's roots in one cut). By AI agents, Wed Nov 11 2026. No macro, syntax, notation, axiom, sorry.
-/
import Derived.Test.YtheadodblifklaaGreatChecked
import GoSem.Claim
import GoSem.ClaimJoined
import GoSem.ClaimMapViews
import Derived.JoinedTies
import Derived.KernelRfl
namespace Go.Proofs.YtheadodblifklaaGreat
/- THE CELL 'sum', in the pinned program and in every row, IS THE sha256 OF THE DUMP (.gsa) THAT YtheadodblifklaaGreatProg.lean LOADS. Nothing in Lean hashes anything: it is a label: what it is worth is what the hold of that sum in a sandbox is worth. -/
noncomputable def Tryz.pinned : Pinned := { name := "ytheadodblifklaagreat", sum := "c735d4c9de7605990781c7db120ec680c960eff2e3c6c2db072fe28e0afc2182", checked := Tryz.checked }
namespace Rows
def none {H : Type} : Left H := { results := [], args := [] }

/-- 'environlaw11.UnionsParts': WHATEVER THE INPUT: true; the input reads as it did. -/
def unionsPartsSpec : ChangeSpec := { name := "unionsParts", fn := fun _ => fun
  | [d1, d2, d3] => { results := [.lit (.bool true)], args := [d1, d2, d3] }
  | _ => none }
def unionsPartsRow : OpenClaim := { program := "ytheadodblifklaagreat", sum := "c735d4c9de7605990781c7db120ec680c960eff2e3c6c2db072fe28e0afc2182", func := "environ/environlaw11.UnionsParts", spec := "unionsParts", unfollowed := true, recurses := true, apart := false }
def UnionsPartsSaid : Prop := unionsPartsRow.holds Tryz.pinned (OpenSpec.ofChange unionsPartsSpec)

/-- ITS FALSE NEIGHBOUR: 'it returns false'. Refute it at one input. -/
def unionsPartsWrong : ChangeSpec := { name := "unionsParts", fn := fun _ => fun
  | [d1, d2, d3] => { results := [.lit (.bool false)], args := [d1, d2, d3] }
  | _ => none }
def UnionsPartsWrongFalsely : Prop := unionsPartsRow.holds Tryz.pinned (OpenSpec.ofChange unionsPartsWrong)

/-- 'environlaw11.UnionsUnites': WHATEVER THE INPUT: true; the input reads as it did. -/
def unionsUnitesSpec : ChangeSpec := { name := "unionsUnites", fn := fun _ => fun
  | [d1, d2] => { results := [.lit (.bool true)], args := [d1, d2] }
  | _ => none }
def unionsUnitesRow : OpenClaim := { program := "ytheadodblifklaagreat", sum := "c735d4c9de7605990781c7db120ec680c960eff2e3c6c2db072fe28e0afc2182", func := "environ/environlaw11.UnionsUnites", spec := "unionsUnites", unfollowed := true, recurses := true, apart := false }
def UnionsUnitesSaid : Prop := unionsUnitesRow.holds Tryz.pinned (OpenSpec.ofChange unionsUnitesSpec)

/-- ITS FALSE NEIGHBOUR: 'it returns false'. Refute it at one input. -/
def unionsUnitesWrong : ChangeSpec := { name := "unionsUnites", fn := fun _ => fun
  | [d1, d2] => { results := [.lit (.bool false)], args := [d1, d2] }
  | _ => none }
def UnionsUnitesWrongFalsely : Prop := unionsUnitesRow.holds Tryz.pinned (OpenSpec.ofChange unionsUnitesWrong)

/-- 'environlaw11.UnionsCommon': WHATEVER THE INPUT: true; the input reads as it did. -/
def unionsCommonSpec : ChangeSpec := { name := "unionsCommon", fn := fun _ => fun
  | [d1, d2, d3] => { results := [.lit (.bool true)], args := [d1, d2, d3] }
  | _ => none }
def unionsCommonRow : OpenClaim := { program := "ytheadodblifklaagreat", sum := "c735d4c9de7605990781c7db120ec680c960eff2e3c6c2db072fe28e0afc2182", func := "environ/environlaw11.UnionsCommon", spec := "unionsCommon", unfollowed := true, recurses := true, apart := false }
def UnionsCommonSaid : Prop := unionsCommonRow.holds Tryz.pinned (OpenSpec.ofChange unionsCommonSpec)

/-- ITS FALSE NEIGHBOUR: 'it returns false'. Refute it at one input. -/
def unionsCommonWrong : ChangeSpec := { name := "unionsCommon", fn := fun _ => fun
  | [d1, d2, d3] => { results := [.lit (.bool false)], args := [d1, d2, d3] }
  | _ => none }
def UnionsCommonWrongFalsely : Prop := unionsCommonRow.holds Tryz.pinned (OpenSpec.ofChange unionsCommonWrong)

/-- 'environlaw11.UnionsWithout': WHATEVER THE INPUT: true; the input reads as it did. -/
def unionsWithoutSpec : ChangeSpec := { name := "unionsWithout", fn := fun _ => fun
  | [d1, d2, d3] => { results := [.lit (.bool true)], args := [d1, d2, d3] }
  | _ => none }
def unionsWithoutRow : OpenClaim := { program := "ytheadodblifklaagreat", sum := "c735d4c9de7605990781c7db120ec680c960eff2e3c6c2db072fe28e0afc2182", func := "environ/environlaw11.UnionsWithout", spec := "unionsWithout", unfollowed := true, recurses := true, apart := false }
def UnionsWithoutSaid : Prop := unionsWithoutRow.holds Tryz.pinned (OpenSpec.ofChange unionsWithoutSpec)

/-- ITS FALSE NEIGHBOUR: 'it returns false'. Refute it at one input. -/
def unionsWithoutWrong : ChangeSpec := { name := "unionsWithout", fn := fun _ => fun
  | [d1, d2, d3] => { results := [.lit (.bool false)], args := [d1, d2, d3] }
  | _ => none }
def UnionsWithoutWrongFalsely : Prop := unionsWithoutRow.holds Tryz.pinned (OpenSpec.ofChange unionsWithoutWrong)

/-- 'environlaw11.UnionsTaken': WHATEVER THE INPUT: true; the input reads as it did. -/
def unionsTakenSpec : ChangeSpec := { name := "unionsTaken", fn := fun _ => fun
  | [d1, d2, d3] => { results := [.lit (.bool true)], args := [d1, d2, d3] }
  | _ => none }
def unionsTakenRow : OpenClaim := { program := "ytheadodblifklaagreat", sum := "c735d4c9de7605990781c7db120ec680c960eff2e3c6c2db072fe28e0afc2182", func := "environ/environlaw11.UnionsTaken", spec := "unionsTaken", unfollowed := true, recurses := true, apart := false }
def UnionsTakenSaid : Prop := unionsTakenRow.holds Tryz.pinned (OpenSpec.ofChange unionsTakenSpec)

/-- ITS FALSE NEIGHBOUR: 'it returns false'. Refute it at one input. -/
def unionsTakenWrong : ChangeSpec := { name := "unionsTaken", fn := fun _ => fun
  | [d1, d2, d3] => { results := [.lit (.bool false)], args := [d1, d2, d3] }
  | _ => none }
def UnionsTakenWrongFalsely : Prop := unionsTakenRow.holds Tryz.pinned (OpenSpec.ofChange unionsTakenWrong)

/-- 'environlaw11.UnionsJoins': WHATEVER THE INPUT: true; the input reads as it did. -/
def unionsJoinsSpec : ChangeSpec := { name := "unionsJoins", fn := fun _ => fun
  | [d1, d2] => { results := [.lit (.bool true)], args := [d1, d2] }
  | _ => none }
def unionsJoinsRow : OpenClaim := { program := "ytheadodblifklaagreat", sum := "c735d4c9de7605990781c7db120ec680c960eff2e3c6c2db072fe28e0afc2182", func := "environ/environlaw11.UnionsJoins", spec := "unionsJoins", unfollowed := true, recurses := true, apart := false }
def UnionsJoinsSaid : Prop := unionsJoinsRow.holds Tryz.pinned (OpenSpec.ofChange unionsJoinsSpec)

/-- ITS FALSE NEIGHBOUR: 'it returns false'. Refute it at one input. -/
def unionsJoinsWrong : ChangeSpec := { name := "unionsJoins", fn := fun _ => fun
  | [d1, d2] => { results := [.lit (.bool false)], args := [d1, d2] }
  | _ => none }
def UnionsJoinsWrongFalsely : Prop := unionsJoinsRow.holds Tryz.pinned (OpenSpec.ofChange unionsJoinsWrong)

/-- 'environlaw11.UnionsOrder': WHATEVER THE INPUT: true; the input reads as it did. -/
def unionsOrderSpec : ChangeSpec := { name := "unionsOrder", fn := fun _ => fun
  | [d1, d2] => { results := [.lit (.bool true)], args := [d1, d2] }
  | _ => none }
def unionsOrderRow : OpenClaim := { program := "ytheadodblifklaagreat", sum := "c735d4c9de7605990781c7db120ec680c960eff2e3c6c2db072fe28e0afc2182", func := "environ/environlaw11.UnionsOrder", spec := "unionsOrder", unfollowed := true, recurses := true, apart := false }
def UnionsOrderSaid : Prop := unionsOrderRow.holds Tryz.pinned (OpenSpec.ofChange unionsOrderSpec)

/-- ITS FALSE NEIGHBOUR: 'it returns false'. Refute it at one input. -/
def unionsOrderWrong : ChangeSpec := { name := "unionsOrder", fn := fun _ => fun
  | [d1, d2] => { results := [.lit (.bool false)], args := [d1, d2] }
  | _ => none }
def UnionsOrderWrongFalsely : Prop := unionsOrderRow.holds Tryz.pinned (OpenSpec.ofChange unionsOrderWrong)

/- THE SECOND FORM. 'bulk': how many values and letters a reading holds, each counted each time it is reached (what is shared counts as often as it is met; a slice's spare places count too). A statement '..UptoSaid' is the law's where the arguments, and the package variables that the reading takes, are together of bulk at most 1048576: NARROWER than '..Said'. Prove '..Said' where nothing that the law and all that it calls make is longer than what came in: it says more and counts as full. Else prove '..UptoSaid'. A law counts once. -/
mutual
def uptoBulk {H : Type} : DataW H → Nat
  | .lit (.string bytes) => bytes.length + 1
  | .lit _ => 1
  | .nil => 1
  | .ptr d => uptoBulk d + 1
  | .slice elems spare => uptoBulkAll elems + uptoBulkAll spare + 1
  | .agg parts => uptoBulkAll parts + 1
  | .iface _ d => uptoBulk d + 1
  | .map entries => uptoBulkEntries entries + 1
  | .held _ => 1
def uptoBulkAll {H : Type} : List (DataW H) → Nat
  | [] => 0
  | d :: r => uptoBulk d + uptoBulkAll r
def uptoBulkEntries {H : Type} : List (Lit × DataW H) → Nat
  | [] => 0
  | x :: r => uptoBulkEntry x + uptoBulkEntries r
def uptoBulkEntry {H : Type} : Lit × DataW H → Nat
  | (.string bytes, d) => bytes.length + uptoBulk d + 1
  | (_, d) => uptoBulk d + 1
 end
def uptoSmall : (H : Type) → List (DataW H) → Bool := fun _ ds => decide (uptoBulkAll ds ≤ 1048576)
def OpenSpec.upto (s : _root_.Go.ChangeSpec) : _root_.Go.OpenSpec := { _root_.Go.OpenSpec.ofChange s with cond := some uptoSmall }

/-- 'environlaw11.UnionsParts', WHERE WHAT IT READS IS OF BULK AT MOST 1048576: true; the input reads as it did. -/
def unionsPartsUptoRow : OpenClaim := { program := "ytheadodblifklaagreat", sum := "c735d4c9de7605990781c7db120ec680c960eff2e3c6c2db072fe28e0afc2182", func := "environ/environlaw11.UnionsParts", spec := "unionsParts", unfollowed := true, recurses := true, apart := false, narrowed := true }
def UnionsPartsUptoSaid : Prop := unionsPartsUptoRow.holds Tryz.pinned (OpenSpec.upto unionsPartsSpec)

/-- 'environlaw11.UnionsUnites', WHERE WHAT IT READS IS OF BULK AT MOST 1048576: true; the input reads as it did. -/
def unionsUnitesUptoRow : OpenClaim := { program := "ytheadodblifklaagreat", sum := "c735d4c9de7605990781c7db120ec680c960eff2e3c6c2db072fe28e0afc2182", func := "environ/environlaw11.UnionsUnites", spec := "unionsUnites", unfollowed := true, recurses := true, apart := false, narrowed := true }
def UnionsUnitesUptoSaid : Prop := unionsUnitesUptoRow.holds Tryz.pinned (OpenSpec.upto unionsUnitesSpec)

/-- 'environlaw11.UnionsCommon', WHERE WHAT IT READS IS OF BULK AT MOST 1048576: true; the input reads as it did. -/
def unionsCommonUptoRow : OpenClaim := { program := "ytheadodblifklaagreat", sum := "c735d4c9de7605990781c7db120ec680c960eff2e3c6c2db072fe28e0afc2182", func := "environ/environlaw11.UnionsCommon", spec := "unionsCommon", unfollowed := true, recurses := true, apart := false, narrowed := true }
def UnionsCommonUptoSaid : Prop := unionsCommonUptoRow.holds Tryz.pinned (OpenSpec.upto unionsCommonSpec)

/-- 'environlaw11.UnionsWithout', WHERE WHAT IT READS IS OF BULK AT MOST 1048576: true; the input reads as it did. -/
def unionsWithoutUptoRow : OpenClaim := { program := "ytheadodblifklaagreat", sum := "c735d4c9de7605990781c7db120ec680c960eff2e3c6c2db072fe28e0afc2182", func := "environ/environlaw11.UnionsWithout", spec := "unionsWithout", unfollowed := true, recurses := true, apart := false, narrowed := true }
def UnionsWithoutUptoSaid : Prop := unionsWithoutUptoRow.holds Tryz.pinned (OpenSpec.upto unionsWithoutSpec)

/-- 'environlaw11.UnionsTaken', WHERE WHAT IT READS IS OF BULK AT MOST 1048576: true; the input reads as it did. -/
def unionsTakenUptoRow : OpenClaim := { program := "ytheadodblifklaagreat", sum := "c735d4c9de7605990781c7db120ec680c960eff2e3c6c2db072fe28e0afc2182", func := "environ/environlaw11.UnionsTaken", spec := "unionsTaken", unfollowed := true, recurses := true, apart := false, narrowed := true }
def UnionsTakenUptoSaid : Prop := unionsTakenUptoRow.holds Tryz.pinned (OpenSpec.upto unionsTakenSpec)

/-- 'environlaw11.UnionsJoins', WHERE WHAT IT READS IS OF BULK AT MOST 1048576: true; the input reads as it did. -/
def unionsJoinsUptoRow : OpenClaim := { program := "ytheadodblifklaagreat", sum := "c735d4c9de7605990781c7db120ec680c960eff2e3c6c2db072fe28e0afc2182", func := "environ/environlaw11.UnionsJoins", spec := "unionsJoins", unfollowed := true, recurses := true, apart := false, narrowed := true }
def UnionsJoinsUptoSaid : Prop := unionsJoinsUptoRow.holds Tryz.pinned (OpenSpec.upto unionsJoinsSpec)

/-- 'environlaw11.UnionsOrder', WHERE WHAT IT READS IS OF BULK AT MOST 1048576: true; the input reads as it did. -/
def unionsOrderUptoRow : OpenClaim := { program := "ytheadodblifklaagreat", sum := "c735d4c9de7605990781c7db120ec680c960eff2e3c6c2db072fe28e0afc2182", func := "environ/environlaw11.UnionsOrder", spec := "unionsOrder", unfollowed := true, recurses := true, apart := false, narrowed := true }
def UnionsOrderUptoSaid : Prop := unionsOrderUptoRow.holds Tryz.pinned (OpenSpec.upto unionsOrderSpec)

end Rows
end Go.Proofs.YtheadodblifklaaGreat
