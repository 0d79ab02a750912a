/- The whole root: what it is, and the first layer's reference: two bits a round. -/
import Derived.Test.YtldcelgbinenbaaQNatSquaresKN19
set_option linter.unusedVariables false
set_option linter.unusedSimpArgs false
namespace Go.Proofs.Ytldcelgbinenbaa.K
open Go Go.RowKit Go.Proofs.Ytldcelgbinenbaa.Px Go.Proofs.YtldcelgbinenbaaW.PrintWords Go.Proofs.YtldcelgbinenbaaW.PrintLast Go.Proofs.YtldcelgbinenbaaW.PrintMore

def rt : Nat → Nat
  | 0 => 0
  | n + 1 => if (rt n + 1) * (rt n + 1) ≤ n + 1 then rt n + 1 else rt n
theorem sq1 (r : Nat) : (r + 1) * (r + 1) = r * r + 2 * r + 1 := by rw [Nat.add_mul, Nat.mul_add]; omega
theorem rt_spec : ∀ n, rt n * rt n ≤ n ∧ n < (rt n + 1) * (rt n + 1)
  | 0 => by simp [rt]
  | n + 1 => by
    have ih := rt_spec n
    have h1 := sq1 (rt n)
    have h2 := sq1 (rt n + 1)
    simp only [rt]
    split
    · refine ⟨by assumption, ?_⟩; omega
    · exact ⟨by omega, by omega⟩
def rootR (n : Nat) : List Int × Bool := (D (rt n), decide (rt n * rt n = n))
end Go.Proofs.Ytldcelgbinenbaa.K
