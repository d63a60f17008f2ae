/-
  NARROWER THAN 'FOR EVERY INPUT', by the rows' own cells (each row's printed sentence says how): AlikeTexts: laid · AlikeEqual: laid · AlikeOrders: laid · AlikeMoved: laid · AlikeParts: laid · AlikeReduces: laid · AlikeAcross: laid · AlikeUnfolds: laid · AlikeLeast: laid · AlikePuts: laid.
  DERIVED. THE GIVEN ROWS OF THIS SEAT. 10 by the template 'for every input the law returns true; each argument reads behind the call as it read before'; 0 by the template 'total and deterministic' (their statements: YtlniliigcnedmaaGreatDoorTotals.lean).
  GIVEN WITH THE SEED: the statements are not yours to turn. If you find one false, say at which input.
  Laid BY PROGRAM, IN A SANDBOX (cutbox-rows.mjs): the forced cells as the released guide's own fill.sh prints them over the translation 95d39afb1be4950a… (all of the seat's roots in one cut). By AI agents, Wed Nov 11 2026. No macro, syntax, notation, axiom, sorry.
-/
import Derived.Test.YtlniliigcnedmaaGreatDoorChecked
import GoSem.Claim
import GoSem.ClaimJoined
import GoSem.ClaimMapViews
import Derived.JoinedTies
import Derived.KernelRfl
namespace Go.Proofs.YtlniliigcnedmaaGreatDoor
/- THE CELL 'sum', in the pinned program and in every row, IS THE sha256 OF THE DUMP (.gsa) THAT YtlniliigcnedmaaGreatDoorProg.lean LOADS. Nothing in Lean hashes anything: it is a label: what it is worth is what the hold of that sum in a sandbox is worth. -/
noncomputable def Tryz.pinned : Pinned := { name := "ytlniliigcnedmaagreatdoor", sum := "95d39afb1be4950af8371f25eb8817352c8e2c90a98bedcabd29bfd700296cbf", checked := Tryz.checked }
namespace Rows
def none {H : Type} : Left H := { results := [], args := [] }

/- WHAT THE LISTED PACKAGE-LEVEL VARIABLES READ AS WHEN THE CALL BEGINS. Each datum BY PROGRAM (the guide's laid-datum.mjs) off the statement by which the dump's own 'gosem.cut.vars' lays the variable. In a bare row this is a premise. The card (YtlniliigcnedmaaGreatDoorCards.lean) ties it to the program's text. -/
def laid_math_bits_deBruijn32tab {H : Type} : DataW H := .agg [.lit (.int .u8 0), .lit (.int .u8 1), .lit (.int .u8 28), .lit (.int .u8 2), .lit (.int .u8 29), .lit (.int .u8 14), .lit (.int .u8 24), .lit (.int .u8 3), .lit (.int .u8 30), .lit (.int .u8 22), .lit (.int .u8 20), .lit (.int .u8 15), .lit (.int .u8 25), .lit (.int .u8 17), .lit (.int .u8 4), .lit (.int .u8 8), .lit (.int .u8 31), .lit (.int .u8 27), .lit (.int .u8 13), .lit (.int .u8 23), .lit (.int .u8 21), .lit (.int .u8 19), .lit (.int .u8 16), .lit (.int .u8 7), .lit (.int .u8 26), .lit (.int .u8 12), .lit (.int .u8 18), .lit (.int .u8 6), .lit (.int .u8 11), .lit (.int .u8 5), .lit (.int .u8 10), .lit (.int .u8 9)]
def laid_math_bits_deBruijn64tab {H : Type} : DataW H := .agg [.lit (.int .u8 0), .lit (.int .u8 1), .lit (.int .u8 56), .lit (.int .u8 2), .lit (.int .u8 57), .lit (.int .u8 49), .lit (.int .u8 28), .lit (.int .u8 3), .lit (.int .u8 61), .lit (.int .u8 58), .lit (.int .u8 42), .lit (.int .u8 50), .lit (.int .u8 38), .lit (.int .u8 29), .lit (.int .u8 17), .lit (.int .u8 4), .lit (.int .u8 62), .lit (.int .u8 47), .lit (.int .u8 59), .lit (.int .u8 36), .lit (.int .u8 45), .lit (.int .u8 43), .lit (.int .u8 51), .lit (.int .u8 22), .lit (.int .u8 53), .lit (.int .u8 39), .lit (.int .u8 33), .lit (.int .u8 30), .lit (.int .u8 24), .lit (.int .u8 18), .lit (.int .u8 12), .lit (.int .u8 5), .lit (.int .u8 63), .lit (.int .u8 55), .lit (.int .u8 48), .lit (.int .u8 27), .lit (.int .u8 60), .lit (.int .u8 41), .lit (.int .u8 37), .lit (.int .u8 16), .lit (.int .u8 46), .lit (.int .u8 35), .lit (.int .u8 44), .lit (.int .u8 21), .lit (.int .u8 52), .lit (.int .u8 32), .lit (.int .u8 23), .lit (.int .u8 11), .lit (.int .u8 54), .lit (.int .u8 26), .lit (.int .u8 40), .lit (.int .u8 15), .lit (.int .u8 34), .lit (.int .u8 20), .lit (.int .u8 31), .lit (.int .u8 10), .lit (.int .u8 25), .lit (.int .u8 14), .lit (.int .u8 19), .lit (.int .u8 9), .lit (.int .u8 13), .lit (.int .u8 8), .lit (.int .u8 7), .lit (.int .u8 6)]
def laid_internal_strconv_uint64pow10 {H : Type} : DataW H := .agg [.lit (.int .u64 1), .lit (.int .u64 10), .lit (.int .u64 100), .lit (.int .u64 1000), .lit (.int .u64 10000), .lit (.int .u64 100000), .lit (.int .u64 1000000), .lit (.int .u64 10000000), .lit (.int .u64 100000000), .lit (.int .u64 1000000000), .lit (.int .u64 10000000000), .lit (.int .u64 100000000000), .lit (.int .u64 1000000000000), .lit (.int .u64 10000000000000), .lit (.int .u64 100000000000000), .lit (.int .u64 1000000000000000), .lit (.int .u64 10000000000000000), .lit (.int .u64 100000000000000000), .lit (.int .u64 1000000000000000000), .lit (.int .u64 10000000000000000000)]
def laid_environ_alike_words {H : Type} : DataW H := .agg [.lit (.string [86, 79, 73, 68]), .lit (.string [66, 79, 79, 76]), .lit (.string [67, 72, 65, 82]), .lit (.string [73, 78, 84]), .lit (.string [82, 69, 65, 76]), .lit (.string [66, 73, 84, 83]), .lit (.string [70, 73, 76, 69]), .lit (.string [83, 69, 77, 65]), .lit (.string [70, 79, 82, 77, 65, 84])]

/-- 'environlaw10.AlikeTexts': WHATEVER THE INPUT: true; the input reads as it did. -/
def alikeTextsSpec : ChangeSpec := { name := "alikeTexts", fn := fun _ => fun
  | [d1, d2] => { results := [.lit (.bool true)], args := [d1, d2] }
  | _ => none }
def alikeTextsRow : OpenClaim := { program := "ytlniliigcnedmaagreatdoor", sum := "95d39afb1be4950af8371f25eb8817352c8e2c90a98bedcabd29bfd700296cbf", func := "environ/environlaw10.AlikeTexts", spec := "alikeTexts", inPlace := ["internal/abi.NoEscape", "internal/bytealg.MakeNoZero"], unfollowed := true, recurses := true, named := ["environ/alike.words", "internal/strconv.uint64pow10", "math/bits.deBruijn32tab", "math/bits.deBruijn64tab"], apart := false, laid := [("math/bits.deBruijn32tab", laid_math_bits_deBruijn32tab), ("math/bits.deBruijn64tab", laid_math_bits_deBruijn64tab), ("internal/strconv.uint64pow10", laid_internal_strconv_uint64pow10), ("environ/alike.words", laid_environ_alike_words)] }
def AlikeTextsSaid : Prop := alikeTextsRow.holds Tryz.pinned (OpenSpec.ofChange alikeTextsSpec)

/-- ITS FALSE NEIGHBOUR: 'it returns false'. Refute it at one input. -/
def alikeTextsWrong : ChangeSpec := { name := "alikeTexts", fn := fun _ => fun
  | [d1, d2] => { results := [.lit (.bool false)], args := [d1, d2] }
  | _ => none }
def AlikeTextsWrongFalsely : Prop := alikeTextsRow.holds Tryz.pinned (OpenSpec.ofChange alikeTextsWrong)

/-- 'environlaw10.AlikeEqual': WHATEVER THE INPUT: true; the input reads as it did. -/
def alikeEqualSpec : ChangeSpec := { name := "alikeEqual", fn := fun _ => fun
  | [d1, d2, d3] => { results := [.lit (.bool true)], args := [d1, d2, d3] }
  | _ => none }
def alikeEqualRow : OpenClaim := { program := "ytlniliigcnedmaagreatdoor", sum := "95d39afb1be4950af8371f25eb8817352c8e2c90a98bedcabd29bfd700296cbf", func := "environ/environlaw10.AlikeEqual", spec := "alikeEqual", inPlace := ["internal/abi.NoEscape", "internal/bytealg.MakeNoZero"], unfollowed := true, recurses := true, named := ["environ/alike.words", "internal/strconv.uint64pow10", "math/bits.deBruijn32tab", "math/bits.deBruijn64tab"], apart := false, laid := [("math/bits.deBruijn32tab", laid_math_bits_deBruijn32tab), ("math/bits.deBruijn64tab", laid_math_bits_deBruijn64tab), ("internal/strconv.uint64pow10", laid_internal_strconv_uint64pow10), ("environ/alike.words", laid_environ_alike_words)] }
def AlikeEqualSaid : Prop := alikeEqualRow.holds Tryz.pinned (OpenSpec.ofChange alikeEqualSpec)

/-- ITS FALSE NEIGHBOUR: 'it returns false'. Refute it at one input. -/
def alikeEqualWrong : ChangeSpec := { name := "alikeEqual", fn := fun _ => fun
  | [d1, d2, d3] => { results := [.lit (.bool false)], args := [d1, d2, d3] }
  | _ => none }
def AlikeEqualWrongFalsely : Prop := alikeEqualRow.holds Tryz.pinned (OpenSpec.ofChange alikeEqualWrong)

/-- 'environlaw10.AlikeOrders': WHATEVER THE INPUT: true; the input reads as it did. -/
def alikeOrdersSpec : ChangeSpec := { name := "alikeOrders", fn := fun _ => fun
  | [d1, d2] => { results := [.lit (.bool true)], args := [d1, d2] }
  | _ => none }
def alikeOrdersRow : OpenClaim := { program := "ytlniliigcnedmaagreatdoor", sum := "95d39afb1be4950af8371f25eb8817352c8e2c90a98bedcabd29bfd700296cbf", func := "environ/environlaw10.AlikeOrders", spec := "alikeOrders", inPlace := ["internal/abi.NoEscape", "internal/bytealg.MakeNoZero"], unfollowed := true, recurses := true, named := ["environ/alike.words", "internal/strconv.uint64pow10", "math/bits.deBruijn32tab", "math/bits.deBruijn64tab"], apart := false, laid := [("math/bits.deBruijn32tab", laid_math_bits_deBruijn32tab), ("math/bits.deBruijn64tab", laid_math_bits_deBruijn64tab), ("internal/strconv.uint64pow10", laid_internal_strconv_uint64pow10), ("environ/alike.words", laid_environ_alike_words)] }
def AlikeOrdersSaid : Prop := alikeOrdersRow.holds Tryz.pinned (OpenSpec.ofChange alikeOrdersSpec)

/-- ITS FALSE NEIGHBOUR: 'it returns false'. Refute it at one input. -/
def alikeOrdersWrong : ChangeSpec := { name := "alikeOrders", fn := fun _ => fun
  | [d1, d2] => { results := [.lit (.bool false)], args := [d1, d2] }
  | _ => none }
def AlikeOrdersWrongFalsely : Prop := alikeOrdersRow.holds Tryz.pinned (OpenSpec.ofChange alikeOrdersWrong)

/-- 'environlaw10.AlikeMoved': WHATEVER THE INPUT: true; the input reads as it did. -/
def alikeMovedSpec : ChangeSpec := { name := "alikeMoved", fn := fun _ => fun
  | [d1, d2, d3] => { results := [.lit (.bool true)], args := [d1, d2, d3] }
  | _ => none }
def alikeMovedRow : OpenClaim := { program := "ytlniliigcnedmaagreatdoor", sum := "95d39afb1be4950af8371f25eb8817352c8e2c90a98bedcabd29bfd700296cbf", func := "environ/environlaw10.AlikeMoved", spec := "alikeMoved", inPlace := ["internal/abi.NoEscape", "internal/bytealg.MakeNoZero"], unfollowed := true, recurses := true, named := ["environ/alike.words", "internal/strconv.uint64pow10", "math/bits.deBruijn32tab", "math/bits.deBruijn64tab"], apart := false, laid := [("math/bits.deBruijn32tab", laid_math_bits_deBruijn32tab), ("math/bits.deBruijn64tab", laid_math_bits_deBruijn64tab), ("internal/strconv.uint64pow10", laid_internal_strconv_uint64pow10), ("environ/alike.words", laid_environ_alike_words)] }
def AlikeMovedSaid : Prop := alikeMovedRow.holds Tryz.pinned (OpenSpec.ofChange alikeMovedSpec)

/-- ITS FALSE NEIGHBOUR: 'it returns false'. Refute it at one input. -/
def alikeMovedWrong : ChangeSpec := { name := "alikeMoved", fn := fun _ => fun
  | [d1, d2, d3] => { results := [.lit (.bool false)], args := [d1, d2, d3] }
  | _ => none }
def AlikeMovedWrongFalsely : Prop := alikeMovedRow.holds Tryz.pinned (OpenSpec.ofChange alikeMovedWrong)

/-- 'environlaw10.AlikeParts': WHATEVER THE INPUT: true; the input reads as it did. -/
def alikePartsSpec : ChangeSpec := { name := "alikeParts", fn := fun _ => fun
  | [d1, d2] => { results := [.lit (.bool true)], args := [d1, d2] }
  | _ => none }
def alikePartsRow : OpenClaim := { program := "ytlniliigcnedmaagreatdoor", sum := "95d39afb1be4950af8371f25eb8817352c8e2c90a98bedcabd29bfd700296cbf", func := "environ/environlaw10.AlikeParts", spec := "alikeParts", inPlace := ["internal/abi.NoEscape", "internal/bytealg.MakeNoZero"], unfollowed := true, recurses := true, named := ["environ/alike.words", "internal/strconv.uint64pow10", "math/bits.deBruijn32tab", "math/bits.deBruijn64tab"], apart := false, laid := [("math/bits.deBruijn32tab", laid_math_bits_deBruijn32tab), ("math/bits.deBruijn64tab", laid_math_bits_deBruijn64tab), ("internal/strconv.uint64pow10", laid_internal_strconv_uint64pow10), ("environ/alike.words", laid_environ_alike_words)] }
def AlikePartsSaid : Prop := alikePartsRow.holds Tryz.pinned (OpenSpec.ofChange alikePartsSpec)

/-- ITS FALSE NEIGHBOUR: 'it returns false'. Refute it at one input. -/
def alikePartsWrong : ChangeSpec := { name := "alikeParts", fn := fun _ => fun
  | [d1, d2] => { results := [.lit (.bool false)], args := [d1, d2] }
  | _ => none }
def AlikePartsWrongFalsely : Prop := alikePartsRow.holds Tryz.pinned (OpenSpec.ofChange alikePartsWrong)

/-- 'environlaw10.AlikeReduces': WHATEVER THE INPUT: true; the input reads as it did. -/
def alikeReducesSpec : ChangeSpec := { name := "alikeReduces", fn := fun _ => fun
  | [d] => { results := [.lit (.bool true)], args := [d] }
  | _ => none }
def alikeReducesRow : OpenClaim := { program := "ytlniliigcnedmaagreatdoor", sum := "95d39afb1be4950af8371f25eb8817352c8e2c90a98bedcabd29bfd700296cbf", func := "environ/environlaw10.AlikeReduces", spec := "alikeReduces", inPlace := ["internal/abi.NoEscape", "internal/bytealg.MakeNoZero"], unfollowed := true, recurses := true, named := ["environ/alike.words", "internal/strconv.uint64pow10", "math/bits.deBruijn32tab", "math/bits.deBruijn64tab"], apart := false, laid := [("math/bits.deBruijn32tab", laid_math_bits_deBruijn32tab), ("math/bits.deBruijn64tab", laid_math_bits_deBruijn64tab), ("internal/strconv.uint64pow10", laid_internal_strconv_uint64pow10), ("environ/alike.words", laid_environ_alike_words)] }
def AlikeReducesSaid : Prop := alikeReducesRow.holds Tryz.pinned (OpenSpec.ofChange alikeReducesSpec)

/-- ITS FALSE NEIGHBOUR: 'it returns false'. Refute it at one input. -/
def alikeReducesWrong : ChangeSpec := { name := "alikeReduces", fn := fun _ => fun
  | [d] => { results := [.lit (.bool false)], args := [d] }
  | _ => none }
def AlikeReducesWrongFalsely : Prop := alikeReducesRow.holds Tryz.pinned (OpenSpec.ofChange alikeReducesWrong)

/-- 'environlaw10.AlikeAcross': WHATEVER THE INPUT: true; the input reads as it did. -/
def alikeAcrossSpec : ChangeSpec := { name := "alikeAcross", fn := fun _ => fun
  | [d1, d2, d3] => { results := [.lit (.bool true)], args := [d1, d2, d3] }
  | _ => none }
def alikeAcrossRow : OpenClaim := { program := "ytlniliigcnedmaagreatdoor", sum := "95d39afb1be4950af8371f25eb8817352c8e2c90a98bedcabd29bfd700296cbf", func := "environ/environlaw10.AlikeAcross", spec := "alikeAcross", inPlace := ["internal/abi.NoEscape", "internal/bytealg.MakeNoZero"], unfollowed := true, recurses := true, named := ["environ/alike.words", "internal/strconv.uint64pow10", "math/bits.deBruijn32tab", "math/bits.deBruijn64tab"], apart := false, laid := [("math/bits.deBruijn32tab", laid_math_bits_deBruijn32tab), ("math/bits.deBruijn64tab", laid_math_bits_deBruijn64tab), ("internal/strconv.uint64pow10", laid_internal_strconv_uint64pow10), ("environ/alike.words", laid_environ_alike_words)] }
def AlikeAcrossSaid : Prop := alikeAcrossRow.holds Tryz.pinned (OpenSpec.ofChange alikeAcrossSpec)

/-- ITS FALSE NEIGHBOUR: 'it returns false'. Refute it at one input. -/
def alikeAcrossWrong : ChangeSpec := { name := "alikeAcross", fn := fun _ => fun
  | [d1, d2, d3] => { results := [.lit (.bool false)], args := [d1, d2, d3] }
  | _ => none }
def AlikeAcrossWrongFalsely : Prop := alikeAcrossRow.holds Tryz.pinned (OpenSpec.ofChange alikeAcrossWrong)

/-- 'environlaw10.AlikeUnfolds': WHATEVER THE INPUT: true; the input reads as it did. -/
def alikeUnfoldsSpec : ChangeSpec := { name := "alikeUnfolds", fn := fun _ => fun
  | [d1, d2, d3] => { results := [.lit (.bool true)], args := [d1, d2, d3] }
  | _ => none }
def alikeUnfoldsRow : OpenClaim := { program := "ytlniliigcnedmaagreatdoor", sum := "95d39afb1be4950af8371f25eb8817352c8e2c90a98bedcabd29bfd700296cbf", func := "environ/environlaw10.AlikeUnfolds", spec := "alikeUnfolds", inPlace := ["internal/abi.NoEscape", "internal/bytealg.MakeNoZero"], unfollowed := true, recurses := true, named := ["environ/alike.words", "internal/strconv.uint64pow10", "math/bits.deBruijn32tab", "math/bits.deBruijn64tab"], apart := false, laid := [("math/bits.deBruijn32tab", laid_math_bits_deBruijn32tab), ("math/bits.deBruijn64tab", laid_math_bits_deBruijn64tab), ("internal/strconv.uint64pow10", laid_internal_strconv_uint64pow10), ("environ/alike.words", laid_environ_alike_words)] }
def AlikeUnfoldsSaid : Prop := alikeUnfoldsRow.holds Tryz.pinned (OpenSpec.ofChange alikeUnfoldsSpec)

/-- ITS FALSE NEIGHBOUR: 'it returns false'. Refute it at one input. -/
def alikeUnfoldsWrong : ChangeSpec := { name := "alikeUnfolds", fn := fun _ => fun
  | [d1, d2, d3] => { results := [.lit (.bool false)], args := [d1, d2, d3] }
  | _ => none }
def AlikeUnfoldsWrongFalsely : Prop := alikeUnfoldsRow.holds Tryz.pinned (OpenSpec.ofChange alikeUnfoldsWrong)

/-- 'environlaw10.AlikeLeast': WHATEVER THE INPUT: true; the input reads as it did. -/
def alikeLeastSpec : ChangeSpec := { name := "alikeLeast", fn := fun _ => fun
  | [d] => { results := [.lit (.bool true)], args := [d] }
  | _ => none }
def alikeLeastRow : OpenClaim := { program := "ytlniliigcnedmaagreatdoor", sum := "95d39afb1be4950af8371f25eb8817352c8e2c90a98bedcabd29bfd700296cbf", func := "environ/environlaw10.AlikeLeast", spec := "alikeLeast", inPlace := ["internal/abi.NoEscape", "internal/bytealg.MakeNoZero"], unfollowed := true, recurses := true, named := ["environ/alike.words", "internal/strconv.uint64pow10", "math/bits.deBruijn32tab", "math/bits.deBruijn64tab"], apart := false, laid := [("math/bits.deBruijn32tab", laid_math_bits_deBruijn32tab), ("math/bits.deBruijn64tab", laid_math_bits_deBruijn64tab), ("internal/strconv.uint64pow10", laid_internal_strconv_uint64pow10), ("environ/alike.words", laid_environ_alike_words)] }
def AlikeLeastSaid : Prop := alikeLeastRow.holds Tryz.pinned (OpenSpec.ofChange alikeLeastSpec)

/-- ITS FALSE NEIGHBOUR: 'it returns false'. Refute it at one input. -/
def alikeLeastWrong : ChangeSpec := { name := "alikeLeast", fn := fun _ => fun
  | [d] => { results := [.lit (.bool false)], args := [d] }
  | _ => none }
def AlikeLeastWrongFalsely : Prop := alikeLeastRow.holds Tryz.pinned (OpenSpec.ofChange alikeLeastWrong)

/-- 'environlaw10.AlikePuts': WHATEVER THE INPUT: true; the input reads as it did. -/
def alikePutsSpec : ChangeSpec := { name := "alikePuts", fn := fun _ => fun
  | [d1, d2] => { results := [.lit (.bool true)], args := [d1, d2] }
  | _ => none }
def alikePutsRow : OpenClaim := { program := "ytlniliigcnedmaagreatdoor", sum := "95d39afb1be4950af8371f25eb8817352c8e2c90a98bedcabd29bfd700296cbf", func := "environ/environlaw10.AlikePuts", spec := "alikePuts", inPlace := ["internal/abi.NoEscape", "internal/bytealg.MakeNoZero"], unfollowed := true, recurses := true, named := ["environ/alike.words", "internal/strconv.uint64pow10", "math/bits.deBruijn32tab", "math/bits.deBruijn64tab"], apart := false, laid := [("math/bits.deBruijn32tab", laid_math_bits_deBruijn32tab), ("math/bits.deBruijn64tab", laid_math_bits_deBruijn64tab), ("internal/strconv.uint64pow10", laid_internal_strconv_uint64pow10), ("environ/alike.words", laid_environ_alike_words)] }
def AlikePutsSaid : Prop := alikePutsRow.holds Tryz.pinned (OpenSpec.ofChange alikePutsSpec)

/-- ITS FALSE NEIGHBOUR: 'it returns false'. Refute it at one input. -/
def alikePutsWrong : ChangeSpec := { name := "alikePuts", fn := fun _ => fun
  | [d1, d2] => { results := [.lit (.bool false)], args := [d1, d2] }
  | _ => none }
def AlikePutsWrongFalsely : Prop := alikePutsRow.holds Tryz.pinned (OpenSpec.ofChange alikePutsWrong)

/- THE SECOND FORM. 'bulk': how many values and letters a reading holds, each counted each time it is reached (what is shared counts as often as it is met; a slice's spare places count too). A statement '..UptoSaid' is the law's where the arguments, and the package variables that the reading takes, are together of bulk at most 1048576: NARROWER than '..Said'. Prove '..Said' where nothing that the law and all that it calls make is longer than what came in: it says more and counts as full. Else prove '..UptoSaid'. A law counts once. -/
mutual
def uptoBulk {H : Type} : DataW H → Nat
  | .lit (.string bytes) => bytes.length + 1
  | .lit _ => 1
  | .nil => 1
  | .ptr d => uptoBulk d + 1
  | .slice elems spare => uptoBulkAll elems + uptoBulkAll spare + 1
  | .agg parts => uptoBulkAll parts + 1
  | .iface _ d => uptoBulk d + 1
  | .map entries => uptoBulkEntries entries + 1
  | .held _ => 1
def uptoBulkAll {H : Type} : List (DataW H) → Nat
  | [] => 0
  | d :: r => uptoBulk d + uptoBulkAll r
def uptoBulkEntries {H : Type} : List (Lit × DataW H) → Nat
  | [] => 0
  | x :: r => uptoBulkEntry x + uptoBulkEntries r
def uptoBulkEntry {H : Type} : Lit × DataW H → Nat
  | (.string bytes, d) => bytes.length + uptoBulk d + 1
  | (_, d) => uptoBulk d + 1
 end
def uptoSmall : (H : Type) → List (DataW H) → Bool := fun _ ds => decide (uptoBulkAll ds ≤ 1048576)
def OpenSpec.upto (s : _root_.Go.ChangeSpec) : _root_.Go.OpenSpec := { _root_.Go.OpenSpec.ofChange s with cond := some uptoSmall }

/-- 'environlaw10.AlikeTexts', WHERE WHAT IT READS IS OF BULK AT MOST 1048576: true; the input reads as it did. -/
def alikeTextsUptoRow : OpenClaim := { program := "ytlniliigcnedmaagreatdoor", sum := "95d39afb1be4950af8371f25eb8817352c8e2c90a98bedcabd29bfd700296cbf", func := "environ/environlaw10.AlikeTexts", spec := "alikeTexts", inPlace := ["internal/abi.NoEscape", "internal/bytealg.MakeNoZero"], unfollowed := true, recurses := true, named := ["environ/alike.words", "internal/strconv.uint64pow10", "math/bits.deBruijn32tab", "math/bits.deBruijn64tab"], apart := false, laid := [("math/bits.deBruijn32tab", laid_math_bits_deBruijn32tab), ("math/bits.deBruijn64tab", laid_math_bits_deBruijn64tab), ("internal/strconv.uint64pow10", laid_internal_strconv_uint64pow10), ("environ/alike.words", laid_environ_alike_words)], narrowed := true }
def AlikeTextsUptoSaid : Prop := alikeTextsUptoRow.holds Tryz.pinned (OpenSpec.upto alikeTextsSpec)

/-- 'environlaw10.AlikeEqual', WHERE WHAT IT READS IS OF BULK AT MOST 1048576: true; the input reads as it did. -/
def alikeEqualUptoRow : OpenClaim := { program := "ytlniliigcnedmaagreatdoor", sum := "95d39afb1be4950af8371f25eb8817352c8e2c90a98bedcabd29bfd700296cbf", func := "environ/environlaw10.AlikeEqual", spec := "alikeEqual", inPlace := ["internal/abi.NoEscape", "internal/bytealg.MakeNoZero"], unfollowed := true, recurses := true, named := ["environ/alike.words", "internal/strconv.uint64pow10", "math/bits.deBruijn32tab", "math/bits.deBruijn64tab"], apart := false, laid := [("math/bits.deBruijn32tab", laid_math_bits_deBruijn32tab), ("math/bits.deBruijn64tab", laid_math_bits_deBruijn64tab), ("internal/strconv.uint64pow10", laid_internal_strconv_uint64pow10), ("environ/alike.words", laid_environ_alike_words)], narrowed := true }
def AlikeEqualUptoSaid : Prop := alikeEqualUptoRow.holds Tryz.pinned (OpenSpec.upto alikeEqualSpec)

/-- 'environlaw10.AlikeOrders', WHERE WHAT IT READS IS OF BULK AT MOST 1048576: true; the input reads as it did. -/
def alikeOrdersUptoRow : OpenClaim := { program := "ytlniliigcnedmaagreatdoor", sum := "95d39afb1be4950af8371f25eb8817352c8e2c90a98bedcabd29bfd700296cbf", func := "environ/environlaw10.AlikeOrders", spec := "alikeOrders", inPlace := ["internal/abi.NoEscape", "internal/bytealg.MakeNoZero"], unfollowed := true, recurses := true, named := ["environ/alike.words", "internal/strconv.uint64pow10", "math/bits.deBruijn32tab", "math/bits.deBruijn64tab"], apart := false, laid := [("math/bits.deBruijn32tab", laid_math_bits_deBruijn32tab), ("math/bits.deBruijn64tab", laid_math_bits_deBruijn64tab), ("internal/strconv.uint64pow10", laid_internal_strconv_uint64pow10), ("environ/alike.words", laid_environ_alike_words)], narrowed := true }
def AlikeOrdersUptoSaid : Prop := alikeOrdersUptoRow.holds Tryz.pinned (OpenSpec.upto alikeOrdersSpec)

/-- 'environlaw10.AlikeMoved', WHERE WHAT IT READS IS OF BULK AT MOST 1048576: true; the input reads as it did. -/
def alikeMovedUptoRow : OpenClaim := { program := "ytlniliigcnedmaagreatdoor", sum := "95d39afb1be4950af8371f25eb8817352c8e2c90a98bedcabd29bfd700296cbf", func := "environ/environlaw10.AlikeMoved", spec := "alikeMoved", inPlace := ["internal/abi.NoEscape", "internal/bytealg.MakeNoZero"], unfollowed := true, recurses := true, named := ["environ/alike.words", "internal/strconv.uint64pow10", "math/bits.deBruijn32tab", "math/bits.deBruijn64tab"], apart := false, laid := [("math/bits.deBruijn32tab", laid_math_bits_deBruijn32tab), ("math/bits.deBruijn64tab", laid_math_bits_deBruijn64tab), ("internal/strconv.uint64pow10", laid_internal_strconv_uint64pow10), ("environ/alike.words", laid_environ_alike_words)], narrowed := true }
def AlikeMovedUptoSaid : Prop := alikeMovedUptoRow.holds Tryz.pinned (OpenSpec.upto alikeMovedSpec)

/-- 'environlaw10.AlikeParts', WHERE WHAT IT READS IS OF BULK AT MOST 1048576: true; the input reads as it did. -/
def alikePartsUptoRow : OpenClaim := { program := "ytlniliigcnedmaagreatdoor", sum := "95d39afb1be4950af8371f25eb8817352c8e2c90a98bedcabd29bfd700296cbf", func := "environ/environlaw10.AlikeParts", spec := "alikeParts", inPlace := ["internal/abi.NoEscape", "internal/bytealg.MakeNoZero"], unfollowed := true, recurses := true, named := ["environ/alike.words", "internal/strconv.uint64pow10", "math/bits.deBruijn32tab", "math/bits.deBruijn64tab"], apart := false, laid := [("math/bits.deBruijn32tab", laid_math_bits_deBruijn32tab), ("math/bits.deBruijn64tab", laid_math_bits_deBruijn64tab), ("internal/strconv.uint64pow10", laid_internal_strconv_uint64pow10), ("environ/alike.words", laid_environ_alike_words)], narrowed := true }
def AlikePartsUptoSaid : Prop := alikePartsUptoRow.holds Tryz.pinned (OpenSpec.upto alikePartsSpec)

/-- 'environlaw10.AlikeReduces', WHERE WHAT IT READS IS OF BULK AT MOST 1048576: true; the input reads as it did. -/
def alikeReducesUptoRow : OpenClaim := { program := "ytlniliigcnedmaagreatdoor", sum := "95d39afb1be4950af8371f25eb8817352c8e2c90a98bedcabd29bfd700296cbf", func := "environ/environlaw10.AlikeReduces", spec := "alikeReduces", inPlace := ["internal/abi.NoEscape", "internal/bytealg.MakeNoZero"], unfollowed := true, recurses := true, named := ["environ/alike.words", "internal/strconv.uint64pow10", "math/bits.deBruijn32tab", "math/bits.deBruijn64tab"], apart := false, laid := [("math/bits.deBruijn32tab", laid_math_bits_deBruijn32tab), ("math/bits.deBruijn64tab", laid_math_bits_deBruijn64tab), ("internal/strconv.uint64pow10", laid_internal_strconv_uint64pow10), ("environ/alike.words", laid_environ_alike_words)], narrowed := true }
def AlikeReducesUptoSaid : Prop := alikeReducesUptoRow.holds Tryz.pinned (OpenSpec.upto alikeReducesSpec)

/-- 'environlaw10.AlikeAcross', WHERE WHAT IT READS IS OF BULK AT MOST 1048576: true; the input reads as it did. -/
def alikeAcrossUptoRow : OpenClaim := { program := "ytlniliigcnedmaagreatdoor", sum := "95d39afb1be4950af8371f25eb8817352c8e2c90a98bedcabd29bfd700296cbf", func := "environ/environlaw10.AlikeAcross", spec := "alikeAcross", inPlace := ["internal/abi.NoEscape", "internal/bytealg.MakeNoZero"], unfollowed := true, recurses := true, named := ["environ/alike.words", "internal/strconv.uint64pow10", "math/bits.deBruijn32tab", "math/bits.deBruijn64tab"], apart := false, laid := [("math/bits.deBruijn32tab", laid_math_bits_deBruijn32tab), ("math/bits.deBruijn64tab", laid_math_bits_deBruijn64tab), ("internal/strconv.uint64pow10", laid_internal_strconv_uint64pow10), ("environ/alike.words", laid_environ_alike_words)], narrowed := true }
def AlikeAcrossUptoSaid : Prop := alikeAcrossUptoRow.holds Tryz.pinned (OpenSpec.upto alikeAcrossSpec)

/-- 'environlaw10.AlikeUnfolds', WHERE WHAT IT READS IS OF BULK AT MOST 1048576: true; the input reads as it did. -/
def alikeUnfoldsUptoRow : OpenClaim := { program := "ytlniliigcnedmaagreatdoor", sum := "95d39afb1be4950af8371f25eb8817352c8e2c90a98bedcabd29bfd700296cbf", func := "environ/environlaw10.AlikeUnfolds", spec := "alikeUnfolds", inPlace := ["internal/abi.NoEscape", "internal/bytealg.MakeNoZero"], unfollowed := true, recurses := true, named := ["environ/alike.words", "internal/strconv.uint64pow10", "math/bits.deBruijn32tab", "math/bits.deBruijn64tab"], apart := false, laid := [("math/bits.deBruijn32tab", laid_math_bits_deBruijn32tab), ("math/bits.deBruijn64tab", laid_math_bits_deBruijn64tab), ("internal/strconv.uint64pow10", laid_internal_strconv_uint64pow10), ("environ/alike.words", laid_environ_alike_words)], narrowed := true }
def AlikeUnfoldsUptoSaid : Prop := alikeUnfoldsUptoRow.holds Tryz.pinned (OpenSpec.upto alikeUnfoldsSpec)

/-- 'environlaw10.AlikeLeast', WHERE WHAT IT READS IS OF BULK AT MOST 1048576: true; the input reads as it did. -/
def alikeLeastUptoRow : OpenClaim := { program := "ytlniliigcnedmaagreatdoor", sum := "95d39afb1be4950af8371f25eb8817352c8e2c90a98bedcabd29bfd700296cbf", func := "environ/environlaw10.AlikeLeast", spec := "alikeLeast", inPlace := ["internal/abi.NoEscape", "internal/bytealg.MakeNoZero"], unfollowed := true, recurses := true, named := ["environ/alike.words", "internal/strconv.uint64pow10", "math/bits.deBruijn32tab", "math/bits.deBruijn64tab"], apart := false, laid := [("math/bits.deBruijn32tab", laid_math_bits_deBruijn32tab), ("math/bits.deBruijn64tab", laid_math_bits_deBruijn64tab), ("internal/strconv.uint64pow10", laid_internal_strconv_uint64pow10), ("environ/alike.words", laid_environ_alike_words)], narrowed := true }
def AlikeLeastUptoSaid : Prop := alikeLeastUptoRow.holds Tryz.pinned (OpenSpec.upto alikeLeastSpec)

/-- 'environlaw10.AlikePuts', WHERE WHAT IT READS IS OF BULK AT MOST 1048576: true; the input reads as it did. -/
def alikePutsUptoRow : OpenClaim := { program := "ytlniliigcnedmaagreatdoor", sum := "95d39afb1be4950af8371f25eb8817352c8e2c90a98bedcabd29bfd700296cbf", func := "environ/environlaw10.AlikePuts", spec := "alikePuts", inPlace := ["internal/abi.NoEscape", "internal/bytealg.MakeNoZero"], unfollowed := true, recurses := true, named := ["environ/alike.words", "internal/strconv.uint64pow10", "math/bits.deBruijn32tab", "math/bits.deBruijn64tab"], apart := false, laid := [("math/bits.deBruijn32tab", laid_math_bits_deBruijn32tab), ("math/bits.deBruijn64tab", laid_math_bits_deBruijn64tab), ("internal/strconv.uint64pow10", laid_internal_strconv_uint64pow10), ("environ/alike.words", laid_environ_alike_words)], narrowed := true }
def AlikePutsUptoSaid : Prop := alikePutsUptoRow.holds Tryz.pinned (OpenSpec.upto alikePutsSpec)

end Rows
end Go.Proofs.YtlniliigcnedmaaGreatDoor
