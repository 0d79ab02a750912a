/- The first layer's reference: the quotient bit by bit. -/
import Derived.Test.YtldcelgbinenbaaDoorQNatUpDownKN12
set_option linter.unusedVariables false
set_option linter.unusedSimpArgs false
namespace Go.Proofs.YtldcelgbinenbaaDoor.K
open Go Go.RowKit Go.Proofs.YtldcelgbinenbaaDoor.Px Go.Proofs.YtldcelgbinenbaaDoorW.PrintWords Go.Proofs.YtldcelgbinenbaaDoorW.PrintLast Go.Proofs.YtldcelgbinenbaaDoorW.PrintMore

theorem cmpN_ge {m n : Nat} : (cmpN m n ≥ 0) ↔ n ≤ m := by
  unfold cmpN; split
  · constructor <;> intro h <;> omega
  · split <;> constructor <;> intro h <;> omega
end Go.Proofs.YtldcelgbinenbaaDoor.K
