/- The first layer's plain functions: products. -/
import Derived.Test.YtldcelgbinenbaaQNatTextsKN2
set_option linter.unusedVariables false
set_option linter.unusedSimpArgs false
namespace Go.Proofs.Ytldcelgbinenbaa.K
open Go.RowKit Go.Proofs.Ytldcelgbinenbaa.Px Go.Proofs.YtldcelgbinenbaaW.PrintWords Go.Proofs.YtldcelgbinenbaaW.PrintLast Go.Proofs.YtldcelgbinenbaaW.PrintMore

theorem mul_bd {x y : Int} (hx : 0 ≤ x ∧ x < 4294967296) (hy : 0 ≤ y ∧ y < 4294967296) : 0 ≤ x * y ∧ x * y ≤ 18446744065119617025 := by
  constructor
  · exact Int.mul_nonneg hx.1 hy.1
  · have h1 : x * y ≤ 4294967295 * y := Int.mul_le_mul_of_nonneg_right (by omega) hy.1
    have h2 : 4294967295 * y ≤ 4294967295 * 4294967295 := Int.mul_le_mul_of_nonneg_left (by omega) (by omega)
    omega
/-! ### the reference's products, column by column -/
def conv : List Int → List Int → Nat → Nat
  | [], _, _ => 0
  | x :: _, b, 0 => x.toNat * (b.getD 0 0).toNat
  | x :: a, b, k + 1 => x.toNat * (b.getD (k + 1) 0).toNat + conv a b k
end Go.Proofs.Ytldcelgbinenbaa.K
