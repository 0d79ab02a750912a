/- The first layer's plain functions: what a decimal text says. -/
import Derived.Test.YtldcelgbinenbaaQNatSquaresKN7
set_option linter.unusedVariables false
set_option linter.unusedSimpArgs false
namespace Go.Proofs.Ytldcelgbinenbaa.K
open Go Go.RowKit Go.Proofs.Ytldcelgbinenbaa.Px Go.Proofs.YtldcelgbinenbaaW.PrintWords Go.Proofs.YtldcelgbinenbaaW.PrintLast Go.Proofs.YtldcelgbinenbaaW.PrintMore

/-- what digits say, behind a -/
def pvA : Nat → List Int → Nat
  | a, [] => a
  | a, c :: l => pvA (10 * a + (c - 48).toNat) l
def pv (l : List Int) : Nat := pvA 0 l
def digs (l : List Int) : Prop := ∀ x ∈ l, 48 ≤ x ∧ x ≤ 57
instance (l : List Int) : Decidable (digs l) := inferInstanceAs (Decidable (∀ x ∈ l, 48 ≤ x ∧ x ≤ 57))
/-! ### times a factor, and a digit -/
/-! ### the program's way: nine digits at a time -/
section
variable (s : ByteArray)
end
end Go.Proofs.Ytldcelgbinenbaa.K
