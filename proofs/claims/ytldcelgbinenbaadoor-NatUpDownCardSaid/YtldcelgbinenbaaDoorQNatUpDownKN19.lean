/- The first layer's QuoRem. -/
import Derived.Test.YtldcelgbinenbaaDoorQNatUpDownKN13
set_option linter.unusedVariables false
set_option linter.unusedSimpArgs false
namespace Go.Proofs.YtldcelgbinenbaaDoor.K
open Go Go.RowKit Go.Proofs.YtldcelgbinenbaaDoor.Px Go.Proofs.YtldcelgbinenbaaDoorW.PrintWords Go.Proofs.YtldcelgbinenbaaDoorW.PrintLast Go.Proofs.YtldcelgbinenbaaDoorW.PrintMore

theorem cmpN_lt {m n : Nat} : (cmpN m n < 0) ↔ m < n := by
  have := cmpN_ge (m := m) (n := n)
  constructor <;> intro h <;> omega
end Go.Proofs.YtldcelgbinenbaaDoor.K
