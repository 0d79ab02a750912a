/-
  NARROWER THAN 'FOR EVERY INPUT', by the rows' own cells (each row's printed sentence says how): ConvFormats: laid · ConvRemainders: laid · ConvScales: laid · ConvInts: laid · ConvTaken: laid · ConvWholes: laid.
  DERIVED. THE GIVEN ROWS OF THIS SEAT. 6 by the template 'for every input the law returns true; each argument reads behind the call as it read before'; 0 by the template 'total and deterministic' (their statements: YtclegbgmhimenaaGreatDoorTotals.lean).
  GIVEN WITH THE SEED: the statements are not yours to turn. If you find one false, say at which input.
  Laid BY PROGRAM, IN A SANDBOX (cutbox-rows.mjs): the forced cells as the released guide's own fill.sh prints them over the translation 29230baf804d6c19… (all of the seat's roots in one cut). By AI agents, Wed Nov 11 2026. No macro, syntax, notation, axiom, sorry.
-/
import Derived.Test.YtclegbgmhimenaaGreatDoorChecked
import GoSem.Claim
import GoSem.ClaimJoined
import GoSem.ClaimMapViews
import Derived.JoinedTies
import Derived.KernelRfl
namespace Go.Proofs.YtclegbgmhimenaaGreatDoor
/- THE CELL 'sum', in the pinned program and in every row, IS THE sha256 OF THE DUMP (.gsa) THAT YtclegbgmhimenaaGreatDoorProg.lean LOADS. Nothing in Lean hashes anything: it is a label: what it is worth is what the hold of that sum in a sandbox is worth. -/
noncomputable def Tryz.pinned : Pinned := { name := "ytclegbgmhimenaagreatdoor", sum := "29230baf804d6c1986b09fb08c60b5b284161ac04f9494ff50cd739618cbca10", checked := Tryz.checked }
namespace Rows
def none {H : Type} : Left H := { results := [], args := [] }

/- WHAT THE LISTED PACKAGE-LEVEL VARIABLES READ AS WHEN THE CALL BEGINS. Each datum BY PROGRAM (the guide's laid-datum.mjs) off the statement by which the dump's own 'gosem.cut.vars' lays the variable. In a bare row this is a premise. The card (YtclegbgmhimenaaGreatDoorCards.lean) ties it to the program's text. -/
def laid_math_bits_deBruijn32tab {H : Type} : DataW H := .agg [.lit (.int .u8 0), .lit (.int .u8 1), .lit (.int .u8 28), .lit (.int .u8 2), .lit (.int .u8 29), .lit (.int .u8 14), .lit (.int .u8 24), .lit (.int .u8 3), .lit (.int .u8 30), .lit (.int .u8 22), .lit (.int .u8 20), .lit (.int .u8 15), .lit (.int .u8 25), .lit (.int .u8 17), .lit (.int .u8 4), .lit (.int .u8 8), .lit (.int .u8 31), .lit (.int .u8 27), .lit (.int .u8 13), .lit (.int .u8 23), .lit (.int .u8 21), .lit (.int .u8 19), .lit (.int .u8 16), .lit (.int .u8 7), .lit (.int .u8 26), .lit (.int .u8 12), .lit (.int .u8 18), .lit (.int .u8 6), .lit (.int .u8 11), .lit (.int .u8 5), .lit (.int .u8 10), .lit (.int .u8 9)]

/-- 'cutplanelaw06.ConvFormats': WHATEVER THE INPUT: true; the input reads as it did. -/
def convFormatsSpec : ChangeSpec := { name := "convFormats", fn := fun _ => fun
  | [d1, d2, d3, d4] => { results := [.lit (.bool true)], args := [d1, d2, d3, d4] }
  | _ => none }
def convFormatsRow : OpenClaim := { program := "ytclegbgmhimenaagreatdoor", sum := "29230baf804d6c1986b09fb08c60b5b284161ac04f9494ff50cd739618cbca10", func := "cutplane/cutplanelaw06.ConvFormats", spec := "convFormats", unfollowed := true, recurses := true, named := ["math/bits.deBruijn32tab", "math/bits.overflowError"], apart := false, laid := [("math/bits.deBruijn32tab", laid_math_bits_deBruijn32tab)] }
def ConvFormatsSaid : Prop := convFormatsRow.holds Tryz.pinned (OpenSpec.ofChange convFormatsSpec)

/-- ITS FALSE NEIGHBOUR: 'it returns false'. Refute it at one input. -/
def convFormatsWrong : ChangeSpec := { name := "convFormats", fn := fun _ => fun
  | [d1, d2, d3, d4] => { results := [.lit (.bool false)], args := [d1, d2, d3, d4] }
  | _ => none }
def ConvFormatsWrongFalsely : Prop := convFormatsRow.holds Tryz.pinned (OpenSpec.ofChange convFormatsWrong)

/-- 'cutplanelaw06.ConvRemainders': WHATEVER THE INPUT: true; the input reads as it did. -/
def convRemaindersSpec : ChangeSpec := { name := "convRemainders", fn := fun _ => fun
  | [d1, d2, d3] => { results := [.lit (.bool true)], args := [d1, d2, d3] }
  | _ => none }
def convRemaindersRow : OpenClaim := { program := "ytclegbgmhimenaagreatdoor", sum := "29230baf804d6c1986b09fb08c60b5b284161ac04f9494ff50cd739618cbca10", func := "cutplane/cutplanelaw06.ConvRemainders", spec := "convRemainders", unfollowed := true, recurses := true, named := ["math/bits.deBruijn32tab", "math/bits.overflowError"], apart := false, laid := [("math/bits.deBruijn32tab", laid_math_bits_deBruijn32tab)] }
def ConvRemaindersSaid : Prop := convRemaindersRow.holds Tryz.pinned (OpenSpec.ofChange convRemaindersSpec)

/-- ITS FALSE NEIGHBOUR: 'it returns false'. Refute it at one input. -/
def convRemaindersWrong : ChangeSpec := { name := "convRemainders", fn := fun _ => fun
  | [d1, d2, d3] => { results := [.lit (.bool false)], args := [d1, d2, d3] }
  | _ => none }
def ConvRemaindersWrongFalsely : Prop := convRemaindersRow.holds Tryz.pinned (OpenSpec.ofChange convRemaindersWrong)

/-- 'cutplanelaw06.ConvScales': WHATEVER THE INPUT: true; the input reads as it did. -/
def convScalesSpec : ChangeSpec := { name := "convScales", fn := fun _ => fun
  | [d1, d2, d3, d4] => { results := [.lit (.bool true)], args := [d1, d2, d3, d4] }
  | _ => none }
def convScalesRow : OpenClaim := { program := "ytclegbgmhimenaagreatdoor", sum := "29230baf804d6c1986b09fb08c60b5b284161ac04f9494ff50cd739618cbca10", func := "cutplane/cutplanelaw06.ConvScales", spec := "convScales", unfollowed := true, recurses := true, named := ["math/bits.deBruijn32tab", "math/bits.overflowError"], apart := false, laid := [("math/bits.deBruijn32tab", laid_math_bits_deBruijn32tab)] }
def ConvScalesSaid : Prop := convScalesRow.holds Tryz.pinned (OpenSpec.ofChange convScalesSpec)

/-- ITS FALSE NEIGHBOUR: 'it returns false'. Refute it at one input. -/
def convScalesWrong : ChangeSpec := { name := "convScales", fn := fun _ => fun
  | [d1, d2, d3, d4] => { results := [.lit (.bool false)], args := [d1, d2, d3, d4] }
  | _ => none }
def ConvScalesWrongFalsely : Prop := convScalesRow.holds Tryz.pinned (OpenSpec.ofChange convScalesWrong)

/-- 'cutplanelaw06.ConvInts': WHATEVER THE INPUT: true; the input reads as it did. -/
def convIntsSpec : ChangeSpec := { name := "convInts", fn := fun _ => fun
  | [d1, d2, d3, d4] => { results := [.lit (.bool true)], args := [d1, d2, d3, d4] }
  | _ => none }
def convIntsRow : OpenClaim := { program := "ytclegbgmhimenaagreatdoor", sum := "29230baf804d6c1986b09fb08c60b5b284161ac04f9494ff50cd739618cbca10", func := "cutplane/cutplanelaw06.ConvInts", spec := "convInts", unfollowed := true, recurses := true, named := ["math/bits.deBruijn32tab", "math/bits.overflowError"], apart := false, laid := [("math/bits.deBruijn32tab", laid_math_bits_deBruijn32tab)] }
def ConvIntsSaid : Prop := convIntsRow.holds Tryz.pinned (OpenSpec.ofChange convIntsSpec)

/-- ITS FALSE NEIGHBOUR: 'it returns false'. Refute it at one input. -/
def convIntsWrong : ChangeSpec := { name := "convInts", fn := fun _ => fun
  | [d1, d2, d3, d4] => { results := [.lit (.bool false)], args := [d1, d2, d3, d4] }
  | _ => none }
def ConvIntsWrongFalsely : Prop := convIntsRow.holds Tryz.pinned (OpenSpec.ofChange convIntsWrong)

/-- 'cutplanelaw06.ConvTaken': WHATEVER THE INPUT: true; the input reads as it did. -/
def convTakenSpec : ChangeSpec := { name := "convTaken", fn := fun _ => fun
  | [d1, d2, d3, d4] => { results := [.lit (.bool true)], args := [d1, d2, d3, d4] }
  | _ => none }
def convTakenRow : OpenClaim := { program := "ytclegbgmhimenaagreatdoor", sum := "29230baf804d6c1986b09fb08c60b5b284161ac04f9494ff50cd739618cbca10", func := "cutplane/cutplanelaw06.ConvTaken", spec := "convTaken", unfollowed := true, recurses := true, named := ["math/bits.deBruijn32tab", "math/bits.overflowError"], apart := false, laid := [("math/bits.deBruijn32tab", laid_math_bits_deBruijn32tab)] }
def ConvTakenSaid : Prop := convTakenRow.holds Tryz.pinned (OpenSpec.ofChange convTakenSpec)

/-- ITS FALSE NEIGHBOUR: 'it returns false'. Refute it at one input. -/
def convTakenWrong : ChangeSpec := { name := "convTaken", fn := fun _ => fun
  | [d1, d2, d3, d4] => { results := [.lit (.bool false)], args := [d1, d2, d3, d4] }
  | _ => none }
def ConvTakenWrongFalsely : Prop := convTakenRow.holds Tryz.pinned (OpenSpec.ofChange convTakenWrong)

/-- 'cutplanelaw06.ConvWholes': WHATEVER THE INPUT: true; the input reads as it did. -/
def convWholesSpec : ChangeSpec := { name := "convWholes", fn := fun _ => fun
  | [d1, d2, d3, d4] => { results := [.lit (.bool true)], args := [d1, d2, d3, d4] }
  | _ => none }
def convWholesRow : OpenClaim := { program := "ytclegbgmhimenaagreatdoor", sum := "29230baf804d6c1986b09fb08c60b5b284161ac04f9494ff50cd739618cbca10", func := "cutplane/cutplanelaw06.ConvWholes", spec := "convWholes", unfollowed := true, recurses := true, named := ["math/bits.deBruijn32tab", "math/bits.overflowError"], apart := false, laid := [("math/bits.deBruijn32tab", laid_math_bits_deBruijn32tab)] }
def ConvWholesSaid : Prop := convWholesRow.holds Tryz.pinned (OpenSpec.ofChange convWholesSpec)

/-- ITS FALSE NEIGHBOUR: 'it returns false'. Refute it at one input. -/
def convWholesWrong : ChangeSpec := { name := "convWholes", fn := fun _ => fun
  | [d1, d2, d3, d4] => { results := [.lit (.bool false)], args := [d1, d2, d3, d4] }
  | _ => none }
def ConvWholesWrongFalsely : Prop := convWholesRow.holds Tryz.pinned (OpenSpec.ofChange convWholesWrong)

/- THE SECOND FORM. 'bulk': how many values and letters a reading holds, each counted each time it is reached (what is shared counts as often as it is met; a slice's spare places count too). A statement '..UptoSaid' is the law's where the arguments, and the package variables that the reading takes, are together of bulk at most 1048576: NARROWER than '..Said'. Prove '..Said' where nothing that the law and all that it calls make is longer than what came in: it says more and counts as full. Else prove '..UptoSaid'. A law counts once. -/
mutual
def uptoBulk {H : Type} : DataW H → Nat
  | .lit (.string bytes) => bytes.length + 1
  | .lit _ => 1
  | .nil => 1
  | .ptr d => uptoBulk d + 1
  | .slice elems spare => uptoBulkAll elems + uptoBulkAll spare + 1
  | .agg parts => uptoBulkAll parts + 1
  | .iface _ d => uptoBulk d + 1
  | .map entries => uptoBulkEntries entries + 1
  | .held _ => 1
def uptoBulkAll {H : Type} : List (DataW H) → Nat
  | [] => 0
  | d :: r => uptoBulk d + uptoBulkAll r
def uptoBulkEntries {H : Type} : List (Lit × DataW H) → Nat
  | [] => 0
  | x :: r => uptoBulkEntry x + uptoBulkEntries r
def uptoBulkEntry {H : Type} : Lit × DataW H → Nat
  | (.string bytes, d) => bytes.length + uptoBulk d + 1
  | (_, d) => uptoBulk d + 1
 end
def uptoSmall : (H : Type) → List (DataW H) → Bool := fun _ ds => decide (uptoBulkAll ds ≤ 1048576)
def OpenSpec.upto (s : _root_.Go.ChangeSpec) : _root_.Go.OpenSpec := { _root_.Go.OpenSpec.ofChange s with cond := some uptoSmall }

/-- 'cutplanelaw06.ConvFormats', WHERE WHAT IT READS IS OF BULK AT MOST 1048576: true; the input reads as it did. -/
def convFormatsUptoRow : OpenClaim := { program := "ytclegbgmhimenaagreatdoor", sum := "29230baf804d6c1986b09fb08c60b5b284161ac04f9494ff50cd739618cbca10", func := "cutplane/cutplanelaw06.ConvFormats", spec := "convFormats", unfollowed := true, recurses := true, named := ["math/bits.deBruijn32tab", "math/bits.overflowError"], apart := false, laid := [("math/bits.deBruijn32tab", laid_math_bits_deBruijn32tab)], narrowed := true }
def ConvFormatsUptoSaid : Prop := convFormatsUptoRow.holds Tryz.pinned (OpenSpec.upto convFormatsSpec)

/-- 'cutplanelaw06.ConvRemainders', WHERE WHAT IT READS IS OF BULK AT MOST 1048576: true; the input reads as it did. -/
def convRemaindersUptoRow : OpenClaim := { program := "ytclegbgmhimenaagreatdoor", sum := "29230baf804d6c1986b09fb08c60b5b284161ac04f9494ff50cd739618cbca10", func := "cutplane/cutplanelaw06.ConvRemainders", spec := "convRemainders", unfollowed := true, recurses := true, named := ["math/bits.deBruijn32tab", "math/bits.overflowError"], apart := false, laid := [("math/bits.deBruijn32tab", laid_math_bits_deBruijn32tab)], narrowed := true }
def ConvRemaindersUptoSaid : Prop := convRemaindersUptoRow.holds Tryz.pinned (OpenSpec.upto convRemaindersSpec)

/-- 'cutplanelaw06.ConvScales', WHERE WHAT IT READS IS OF BULK AT MOST 1048576: true; the input reads as it did. -/
def convScalesUptoRow : OpenClaim := { program := "ytclegbgmhimenaagreatdoor", sum := "29230baf804d6c1986b09fb08c60b5b284161ac04f9494ff50cd739618cbca10", func := "cutplane/cutplanelaw06.ConvScales", spec := "convScales", unfollowed := true, recurses := true, named := ["math/bits.deBruijn32tab", "math/bits.overflowError"], apart := false, laid := [("math/bits.deBruijn32tab", laid_math_bits_deBruijn32tab)], narrowed := true }
def ConvScalesUptoSaid : Prop := convScalesUptoRow.holds Tryz.pinned (OpenSpec.upto convScalesSpec)

/-- 'cutplanelaw06.ConvInts', WHERE WHAT IT READS IS OF BULK AT MOST 1048576: true; the input reads as it did. -/
def convIntsUptoRow : OpenClaim := { program := "ytclegbgmhimenaagreatdoor", sum := "29230baf804d6c1986b09fb08c60b5b284161ac04f9494ff50cd739618cbca10", func := "cutplane/cutplanelaw06.ConvInts", spec := "convInts", unfollowed := true, recurses := true, named := ["math/bits.deBruijn32tab", "math/bits.overflowError"], apart := false, laid := [("math/bits.deBruijn32tab", laid_math_bits_deBruijn32tab)], narrowed := true }
def ConvIntsUptoSaid : Prop := convIntsUptoRow.holds Tryz.pinned (OpenSpec.upto convIntsSpec)

/-- 'cutplanelaw06.ConvTaken', WHERE WHAT IT READS IS OF BULK AT MOST 1048576: true; the input reads as it did. -/
def convTakenUptoRow : OpenClaim := { program := "ytclegbgmhimenaagreatdoor", sum := "29230baf804d6c1986b09fb08c60b5b284161ac04f9494ff50cd739618cbca10", func := "cutplane/cutplanelaw06.ConvTaken", spec := "convTaken", unfollowed := true, recurses := true, named := ["math/bits.deBruijn32tab", "math/bits.overflowError"], apart := false, laid := [("math/bits.deBruijn32tab", laid_math_bits_deBruijn32tab)], narrowed := true }
def ConvTakenUptoSaid : Prop := convTakenUptoRow.holds Tryz.pinned (OpenSpec.upto convTakenSpec)

/-- 'cutplanelaw06.ConvWholes', WHERE WHAT IT READS IS OF BULK AT MOST 1048576: true; the input reads as it did. -/
def convWholesUptoRow : OpenClaim := { program := "ytclegbgmhimenaagreatdoor", sum := "29230baf804d6c1986b09fb08c60b5b284161ac04f9494ff50cd739618cbca10", func := "cutplane/cutplanelaw06.ConvWholes", spec := "convWholes", unfollowed := true, recurses := true, named := ["math/bits.deBruijn32tab", "math/bits.overflowError"], apart := false, laid := [("math/bits.deBruijn32tab", laid_math_bits_deBruijn32tab)], narrowed := true }
def ConvWholesUptoSaid : Prop := convWholesUptoRow.holds Tryz.pinned (OpenSpec.upto convWholesSpec)

end Rows
end Go.Proofs.YtclegbgmhimenaaGreatDoor
