/-
  NARROWER THAN 'FOR EVERY INPUT', by the rows' own cells (each row's printed sentence says how): GaugeMeasures: laid · GaugeSafe: laid · GaugeParts: laid · GaugeExact: laid.
  DERIVED. THE GIVEN ROWS OF THIS SEAT. 4 by the template 'for every input the law returns true; each argument reads behind the call as it read before'; 0 by the template 'total and deterministic' (their statements: YtioialhbjmnndaaGreatDoorTotals.lean).
  GIVEN WITH THE SEED: the statements are not yours to turn. If you find one false, say at which input.
  Laid BY PROGRAM, IN A SANDBOX (cutbox-rows.mjs): the forced cells as the released guide's own fill.sh prints them over the translation a7fdf16645c03dc7… (all of the seat's roots in one cut). By AI agents, Wed Nov 11 2026. No macro, syntax, notation, axiom, sorry.
-/
import Derived.Test.YtioialhbjmnndaaGreatDoorChecked
import GoSem.Claim
import GoSem.ClaimJoined
import GoSem.ClaimMapViews
import Derived.JoinedTies
import Derived.KernelRfl
namespace Go.Proofs.YtioialhbjmnndaaGreatDoor
/- THE CELL 'sum', in the pinned program and in every row, IS THE sha256 OF THE DUMP (.gsa) THAT YtioialhbjmnndaaGreatDoorProg.lean LOADS. Nothing in Lean hashes anything: it is a label: what it is worth is what the hold of that sum in a sandbox is worth. -/
noncomputable def Tryz.pinned : Pinned := { name := "ytioialhbjmnndaagreatdoor", sum := "a7fdf16645c03dc72462bf6129445e85c8302ee8ce3fdaaec8439a4b5715cafe", checked := Tryz.checked }
namespace Rows
def none {H : Type} : Left H := { results := [], args := [] }

/- WHAT THE LISTED PACKAGE-LEVEL VARIABLES READ AS WHEN THE CALL BEGINS. Each datum BY PROGRAM (the guide's laid-datum.mjs) off the statement by which the dump's own 'gosem.cut.vars' lays the variable. In a bare row this is a premise. The card (YtioialhbjmnndaaGreatDoorCards.lean) ties it to the program's text. -/
def laid_math_bits_deBruijn32tab {H : Type} : DataW H := .agg [.lit (.int .u8 0), .lit (.int .u8 1), .lit (.int .u8 28), .lit (.int .u8 2), .lit (.int .u8 29), .lit (.int .u8 14), .lit (.int .u8 24), .lit (.int .u8 3), .lit (.int .u8 30), .lit (.int .u8 22), .lit (.int .u8 20), .lit (.int .u8 15), .lit (.int .u8 25), .lit (.int .u8 17), .lit (.int .u8 4), .lit (.int .u8 8), .lit (.int .u8 31), .lit (.int .u8 27), .lit (.int .u8 13), .lit (.int .u8 23), .lit (.int .u8 21), .lit (.int .u8 19), .lit (.int .u8 16), .lit (.int .u8 7), .lit (.int .u8 26), .lit (.int .u8 12), .lit (.int .u8 18), .lit (.int .u8 6), .lit (.int .u8 11), .lit (.int .u8 5), .lit (.int .u8 10), .lit (.int .u8 9)]

/-- 'cutplanelaw14.GaugeMeasures': WHATEVER THE INPUT: true; the input reads as it did. -/
def gaugeMeasuresSpec : ChangeSpec := { name := "gaugeMeasures", fn := fun _ => fun
  | [d1, d2, d3, d4] => { results := [.lit (.bool true)], args := [d1, d2, d3, d4] }
  | _ => none }
def gaugeMeasuresRow : OpenClaim := { program := "ytioialhbjmnndaagreatdoor", sum := "a7fdf16645c03dc72462bf6129445e85c8302ee8ce3fdaaec8439a4b5715cafe", func := "cutplane/cutplanelaw14.GaugeMeasures", spec := "gaugeMeasures", named := ["math/bits.deBruijn32tab"], apart := false, laid := [("math/bits.deBruijn32tab", laid_math_bits_deBruijn32tab)] }
def GaugeMeasuresSaid : Prop := gaugeMeasuresRow.holds Tryz.pinned (OpenSpec.ofChange gaugeMeasuresSpec)

/-- ITS FALSE NEIGHBOUR: 'it returns false'. Refute it at one input. -/
def gaugeMeasuresWrong : ChangeSpec := { name := "gaugeMeasures", fn := fun _ => fun
  | [d1, d2, d3, d4] => { results := [.lit (.bool false)], args := [d1, d2, d3, d4] }
  | _ => none }
def GaugeMeasuresWrongFalsely : Prop := gaugeMeasuresRow.holds Tryz.pinned (OpenSpec.ofChange gaugeMeasuresWrong)

/-- 'cutplanelaw14.GaugeSafe': WHATEVER THE INPUT: true; the input reads as it did. -/
def gaugeSafeSpec : ChangeSpec := { name := "gaugeSafe", fn := fun _ => fun
  | [d1, d2] => { results := [.lit (.bool true)], args := [d1, d2] }
  | _ => none }
def gaugeSafeRow : OpenClaim := { program := "ytioialhbjmnndaagreatdoor", sum := "a7fdf16645c03dc72462bf6129445e85c8302ee8ce3fdaaec8439a4b5715cafe", func := "cutplane/cutplanelaw14.GaugeSafe", spec := "gaugeSafe", named := ["math/bits.deBruijn32tab"], apart := false, laid := [("math/bits.deBruijn32tab", laid_math_bits_deBruijn32tab)] }
def GaugeSafeSaid : Prop := gaugeSafeRow.holds Tryz.pinned (OpenSpec.ofChange gaugeSafeSpec)

/-- ITS FALSE NEIGHBOUR: 'it returns false'. Refute it at one input. -/
def gaugeSafeWrong : ChangeSpec := { name := "gaugeSafe", fn := fun _ => fun
  | [d1, d2] => { results := [.lit (.bool false)], args := [d1, d2] }
  | _ => none }
def GaugeSafeWrongFalsely : Prop := gaugeSafeRow.holds Tryz.pinned (OpenSpec.ofChange gaugeSafeWrong)

/-- 'cutplanelaw14.GaugeParts': WHATEVER THE INPUT: true; the input reads as it did. -/
def gaugePartsSpec : ChangeSpec := { name := "gaugeParts", fn := fun _ => fun
  | [d1, d2, d3] => { results := [.lit (.bool true)], args := [d1, d2, d3] }
  | _ => none }
def gaugePartsRow : OpenClaim := { program := "ytioialhbjmnndaagreatdoor", sum := "a7fdf16645c03dc72462bf6129445e85c8302ee8ce3fdaaec8439a4b5715cafe", func := "cutplane/cutplanelaw14.GaugeParts", spec := "gaugeParts", named := ["math/bits.deBruijn32tab"], apart := false, laid := [("math/bits.deBruijn32tab", laid_math_bits_deBruijn32tab)] }
def GaugePartsSaid : Prop := gaugePartsRow.holds Tryz.pinned (OpenSpec.ofChange gaugePartsSpec)

/-- ITS FALSE NEIGHBOUR: 'it returns false'. Refute it at one input. -/
def gaugePartsWrong : ChangeSpec := { name := "gaugeParts", fn := fun _ => fun
  | [d1, d2, d3] => { results := [.lit (.bool false)], args := [d1, d2, d3] }
  | _ => none }
def GaugePartsWrongFalsely : Prop := gaugePartsRow.holds Tryz.pinned (OpenSpec.ofChange gaugePartsWrong)

/-- 'cutplanelaw14.GaugeExact': WHATEVER THE INPUT: true; the input reads as it did. -/
def gaugeExactSpec : ChangeSpec := { name := "gaugeExact", fn := fun _ => fun
  | [d1, d2, d3, d4] => { results := [.lit (.bool true)], args := [d1, d2, d3, d4] }
  | _ => none }
def gaugeExactRow : OpenClaim := { program := "ytioialhbjmnndaagreatdoor", sum := "a7fdf16645c03dc72462bf6129445e85c8302ee8ce3fdaaec8439a4b5715cafe", func := "cutplane/cutplanelaw14.GaugeExact", spec := "gaugeExact", named := ["math/bits.deBruijn32tab"], apart := false, laid := [("math/bits.deBruijn32tab", laid_math_bits_deBruijn32tab)] }
def GaugeExactSaid : Prop := gaugeExactRow.holds Tryz.pinned (OpenSpec.ofChange gaugeExactSpec)

/-- ITS FALSE NEIGHBOUR: 'it returns false'. Refute it at one input. -/
def gaugeExactWrong : ChangeSpec := { name := "gaugeExact", fn := fun _ => fun
  | [d1, d2, d3, d4] => { results := [.lit (.bool false)], args := [d1, d2, d3, d4] }
  | _ => none }
def GaugeExactWrongFalsely : Prop := gaugeExactRow.holds Tryz.pinned (OpenSpec.ofChange gaugeExactWrong)

/- THE SECOND FORM. 'bulk': how many values and letters a reading holds, each counted each time it is reached (what is shared counts as often as it is met; a slice's spare places count too). A statement '..UptoSaid' is the law's where the arguments, and the package variables that the reading takes, are together of bulk at most 1048576: NARROWER than '..Said'. Prove '..Said' where nothing that the law and all that it calls make is longer than what came in: it says more and counts as full. Else prove '..UptoSaid'. A law counts once. -/
mutual
def uptoBulk {H : Type} : DataW H → Nat
  | .lit (.string bytes) => bytes.length + 1
  | .lit _ => 1
  | .nil => 1
  | .ptr d => uptoBulk d + 1
  | .slice elems spare => uptoBulkAll elems + uptoBulkAll spare + 1
  | .agg parts => uptoBulkAll parts + 1
  | .iface _ d => uptoBulk d + 1
  | .map entries => uptoBulkEntries entries + 1
  | .held _ => 1
def uptoBulkAll {H : Type} : List (DataW H) → Nat
  | [] => 0
  | d :: r => uptoBulk d + uptoBulkAll r
def uptoBulkEntries {H : Type} : List (Lit × DataW H) → Nat
  | [] => 0
  | x :: r => uptoBulkEntry x + uptoBulkEntries r
def uptoBulkEntry {H : Type} : Lit × DataW H → Nat
  | (.string bytes, d) => bytes.length + uptoBulk d + 1
  | (_, d) => uptoBulk d + 1
 end
def uptoSmall : (H : Type) → List (DataW H) → Bool := fun _ ds => decide (uptoBulkAll ds ≤ 1048576)
def OpenSpec.upto (s : _root_.Go.ChangeSpec) : _root_.Go.OpenSpec := { _root_.Go.OpenSpec.ofChange s with cond := some uptoSmall }

/-- 'cutplanelaw14.GaugeMeasures', WHERE WHAT IT READS IS OF BULK AT MOST 1048576: true; the input reads as it did. -/
def gaugeMeasuresUptoRow : OpenClaim := { program := "ytioialhbjmnndaagreatdoor", sum := "a7fdf16645c03dc72462bf6129445e85c8302ee8ce3fdaaec8439a4b5715cafe", func := "cutplane/cutplanelaw14.GaugeMeasures", spec := "gaugeMeasures", named := ["math/bits.deBruijn32tab"], apart := false, laid := [("math/bits.deBruijn32tab", laid_math_bits_deBruijn32tab)], narrowed := true }
def GaugeMeasuresUptoSaid : Prop := gaugeMeasuresUptoRow.holds Tryz.pinned (OpenSpec.upto gaugeMeasuresSpec)

/-- 'cutplanelaw14.GaugeSafe', WHERE WHAT IT READS IS OF BULK AT MOST 1048576: true; the input reads as it did. -/
def gaugeSafeUptoRow : OpenClaim := { program := "ytioialhbjmnndaagreatdoor", sum := "a7fdf16645c03dc72462bf6129445e85c8302ee8ce3fdaaec8439a4b5715cafe", func := "cutplane/cutplanelaw14.GaugeSafe", spec := "gaugeSafe", named := ["math/bits.deBruijn32tab"], apart := false, laid := [("math/bits.deBruijn32tab", laid_math_bits_deBruijn32tab)], narrowed := true }
def GaugeSafeUptoSaid : Prop := gaugeSafeUptoRow.holds Tryz.pinned (OpenSpec.upto gaugeSafeSpec)

/-- 'cutplanelaw14.GaugeParts', WHERE WHAT IT READS IS OF BULK AT MOST 1048576: true; the input reads as it did. -/
def gaugePartsUptoRow : OpenClaim := { program := "ytioialhbjmnndaagreatdoor", sum := "a7fdf16645c03dc72462bf6129445e85c8302ee8ce3fdaaec8439a4b5715cafe", func := "cutplane/cutplanelaw14.GaugeParts", spec := "gaugeParts", named := ["math/bits.deBruijn32tab"], apart := false, laid := [("math/bits.deBruijn32tab", laid_math_bits_deBruijn32tab)], narrowed := true }
def GaugePartsUptoSaid : Prop := gaugePartsUptoRow.holds Tryz.pinned (OpenSpec.upto gaugePartsSpec)

/-- 'cutplanelaw14.GaugeExact', WHERE WHAT IT READS IS OF BULK AT MOST 1048576: true; the input reads as it did. -/
def gaugeExactUptoRow : OpenClaim := { program := "ytioialhbjmnndaagreatdoor", sum := "a7fdf16645c03dc72462bf6129445e85c8302ee8ce3fdaaec8439a4b5715cafe", func := "cutplane/cutplanelaw14.GaugeExact", spec := "gaugeExact", named := ["math/bits.deBruijn32tab"], apart := false, laid := [("math/bits.deBruijn32tab", laid_math_bits_deBruijn32tab)], narrowed := true }
def GaugeExactUptoSaid : Prop := gaugeExactUptoRow.holds Tryz.pinned (OpenSpec.upto gaugeExactSpec)

end Rows
end Go.Proofs.YtioialhbjmnndaaGreatDoor
