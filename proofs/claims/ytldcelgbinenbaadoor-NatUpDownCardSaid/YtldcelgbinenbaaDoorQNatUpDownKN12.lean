/- The first layer's reference: quotients bit by bit. -/
import Derived.Test.YtldcelgbinenbaaDoorQNatUpDownKN11
set_option linter.unusedVariables false
set_option linter.unusedSimpArgs false
namespace Go.Proofs.YtldcelgbinenbaaDoor.K
open Go Go.RowKit Go.Proofs.YtldcelgbinenbaaDoor.Px Go.Proofs.YtldcelgbinenbaaDoorW.PrintWords Go.Proofs.YtldcelgbinenbaaDoorW.PrintLast Go.Proofs.YtldcelgbinenbaaDoorW.PrintMore

theorem D_lt {n k : Nat} (h : n < 4294967296 ^ k) : (D n).length ≤ k := by
  rcases Nat.lt_or_ge k (D n).length with h1 | h1
  · have h2 := D_len_pos (Nm_D n) (by intro e; rw [e] at h1; simp at h1)
    rw [V_D] at h2
    have h3 : 4294967296 ^ k ≤ 4294967296 ^ ((D n).length - 1) := Nat.pow_le_pow_right (by omega) (by omega)
    omega
  · exact h1
/-! ### quotients -/
end Go.Proofs.YtldcelgbinenbaaDoor.K
