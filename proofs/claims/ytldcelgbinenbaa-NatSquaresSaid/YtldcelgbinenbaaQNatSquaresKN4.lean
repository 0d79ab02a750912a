/- The first layer's statements: what they share. -/
import Derived.Test.YtldcelgbinenbaaQNatSquaresKN3
set_option linter.unusedVariables false
set_option linter.unusedSimpArgs false
namespace Go.Proofs.Ytldcelgbinenbaa.K
open Go.RowKit Go.Proofs.Ytldcelgbinenbaa.Px Go.Proofs.YtldcelgbinenbaaW.PrintWords Go.Proofs.YtldcelgbinenbaaW.PrintLast Go.Proofs.YtldcelgbinenbaaW.PrintMore

theorem known_some : Ev (fun k => (cutplanelaw01_known.f k).bind fun t => some t) true := Ev.bind known_ev (Ev.now _)
theorem long_eq (l : List Int) (n : Nat) : cutplanelaw01_long.f l n = some (decide (l.length > n)) := by
  unfold cutplanelaw01_long.f
  congr 1
  exact decide_eq_decide.2 (by omega)
theorem V_bd {l : List Int} (h : Dg l) {n : Nat} (hn : l.length ≤ n) : V l < 4294967296 ^ n := Nat.lt_of_lt_of_le (V_lt h) (Nat.pow_le_pow_right (by omega) hn)
theorem lent_eq {l : List Int} (h : l.length < 35184372088832) : cutplanelaw01_lent.f l = some l := by
  unfold cutplanelaw01_lent.f
  simp [h]
/-! ### a number's value as a word -/
end Go.Proofs.Ytldcelgbinenbaa.K
