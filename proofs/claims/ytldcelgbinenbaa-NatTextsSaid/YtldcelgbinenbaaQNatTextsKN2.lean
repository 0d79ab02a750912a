/- The first layer's plain functions: comparisons and differences; a number's value. -/
import Derived.Test.YtldcelgbinenbaaQNatTextsKN1
set_option linter.unusedVariables false
set_option linter.unusedSimpArgs false
namespace Go.Proofs.Ytldcelgbinenbaa.K
open Go.RowKit Go.Proofs.Ytldcelgbinenbaa.Px Go.Proofs.YtldcelgbinenbaaW.PrintWords Go.Proofs.YtldcelgbinenbaaW.PrintLast Go.Proofs.YtldcelgbinenbaaW.PrintMore

/-! ### which is above which -/
theorem V_take_succ {l : List Int} {n : Nat} (h : n < l.length) : V (l.take (n + 1)) = V (l.take n) + 4294967296 ^ n * (l.getD n 0).toNat := by
  rw [List.take_succ_eq_append_getElem h, V_append]
  simp [Nat.min_eq_left (Nat.le_of_lt h), h]
theorem V_take_lt {l : List Int} (h : Dg l) {n : Nat} (hn : n ≤ l.length) : V (l.take n) < 4294967296 ^ n := by
  have := V_lt (h.take n); rwa [List.length_take, Nat.min_eq_left hn] at this
theorem w64m {n : Nat} (h : n < 4611686018427387904) : wrap64 ((n : Int) - 1) = (n : Int) - 1 := by unfold wrap64; omega
/-! ### differences -/
/-! ### the references' sums and differences: appended digit by digit -/
end Go.Proofs.Ytldcelgbinenbaa.K
