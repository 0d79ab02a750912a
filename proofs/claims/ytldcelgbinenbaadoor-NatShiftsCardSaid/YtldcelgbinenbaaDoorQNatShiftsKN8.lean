/- The first layer's plain functions: what a decimal text says. -/
import Derived.Test.YtldcelgbinenbaaDoorQNatShiftsKN7
set_option linter.unusedVariables false
set_option linter.unusedSimpArgs false
namespace Go.Proofs.YtldcelgbinenbaaDoor.K
open Go Go.RowKit Go.Proofs.YtldcelgbinenbaaDoor.Px Go.Proofs.YtldcelgbinenbaaDoorW.PrintWords Go.Proofs.YtldcelgbinenbaaDoorW.PrintLast Go.Proofs.YtldcelgbinenbaaDoorW.PrintMore

def digs (l : List Int) : Prop := ∀ x ∈ l, 48 ≤ x ∧ x ≤ 57
instance (l : List Int) : Decidable (digs l) := inferInstanceAs (Decidable (∀ x ∈ l, 48 ≤ x ∧ x ≤ 57))
/-! ### times a factor, and a digit -/
/-! ### the program's way: nine digits at a time -/
section
variable (s : ByteArray)
end
end Go.Proofs.YtldcelgbinenbaaDoor.K
