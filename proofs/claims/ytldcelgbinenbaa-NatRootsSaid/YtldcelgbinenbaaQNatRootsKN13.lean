/- The first layer's reference: the quotient bit by bit. -/
import Derived.Test.YtldcelgbinenbaaQNatRootsKN12
set_option linter.unusedVariables false
set_option linter.unusedSimpArgs false
namespace Go.Proofs.Ytldcelgbinenbaa.K
open Go Go.RowKit Go.Proofs.Ytldcelgbinenbaa.Px Go.Proofs.YtldcelgbinenbaaW.PrintWords Go.Proofs.YtldcelgbinenbaaW.PrintLast Go.Proofs.YtldcelgbinenbaaW.PrintMore

theorem cmpN_ge {m n : Nat} : (cmpN m n ≥ 0) ↔ n ≤ m := by
  unfold cmpN; split
  · constructor <;> intro h <;> omega
  · split <;> constructor <;> intro h <;> omega
theorem div_bit (n i : Nat) : n / 2 ^ i = 2 * (n / 2 ^ (i + 1)) + n / 2 ^ i % 2 := by
  rw [Nat.pow_succ, ← Nat.div_div_eq_div_mul]; omega
end Go.Proofs.Ytldcelgbinenbaa.K
