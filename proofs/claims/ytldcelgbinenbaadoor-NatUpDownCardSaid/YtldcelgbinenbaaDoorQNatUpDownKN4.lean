/- The first layer's statements: what they share. -/
import Derived.Test.YtldcelgbinenbaaDoorQNatUpDownKN3
set_option linter.unusedVariables false
set_option linter.unusedSimpArgs false
namespace Go.Proofs.YtldcelgbinenbaaDoor.K
open Go.RowKit Go.Proofs.YtldcelgbinenbaaDoor.Px Go.Proofs.YtldcelgbinenbaaDoorW.PrintWords Go.Proofs.YtldcelgbinenbaaDoorW.PrintLast Go.Proofs.YtldcelgbinenbaaDoorW.PrintMore

theorem known_some : Ev (fun k => (cutplanelaw01_known.f k).bind fun t => some t) true := Ev.bind known_ev (Ev.now _)
theorem long_eq (l : List Int) (n : Nat) : cutplanelaw01_long.f l n = some (decide (l.length > n)) := by
  unfold cutplanelaw01_long.f
  congr 1
  exact decide_eq_decide.2 (by omega)
theorem same_true {x y : List Int} (h : x = y) (hb : x.length < 4611686018427387904) : Ev (fun k => cutplaneref01_Same.f k x y) true := by
  have := ref_Same_ev x y hb
  rwa [decide_eq_true h] at this
theorem lent_eq {l : List Int} (h : l.length < 35184372088832) : cutplanelaw01_lent.f l = some l := by
  unfold cutplanelaw01_lent.f
  simp [h]
/-! ### a number's value as a word -/
end Go.Proofs.YtldcelgbinenbaaDoor.K
