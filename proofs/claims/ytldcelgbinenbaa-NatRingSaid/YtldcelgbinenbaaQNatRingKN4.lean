/- The first layer's statements: what they share. -/
import Derived.Test.YtldcelgbinenbaaQNatRingKN3
set_option linter.unusedVariables false
set_option linter.unusedSimpArgs false
namespace Go.Proofs.Ytldcelgbinenbaa.K
open Go.RowKit Go.Proofs.Ytldcelgbinenbaa.Px Go.Proofs.YtldcelgbinenbaaW.PrintWords Go.Proofs.YtldcelgbinenbaaW.PrintLast Go.Proofs.YtldcelgbinenbaaW.PrintMore

theorem bound_ok {n k : Nat} (h : n < 4294967296 ^ k) (hk : k ≤ 4096) : bound n = (D n, 0) := by
  have := D_len_lt h
  unfold bound; rw [if_neg (by omega)]
theorem known_some : Ev (fun k => (cutplanelaw01_known.f k).bind fun t => some t) true := Ev.bind known_ev (Ev.now _)
theorem long_eq (l : List Int) (n : Nat) : cutplanelaw01_long.f l n = some (decide (l.length > n)) := by
  unfold cutplanelaw01_long.f
  congr 1
  exact decide_eq_decide.2 (by omega)
theorem V_bd {l : List Int} (h : Dg l) {n : Nat} (hn : l.length ≤ n) : V l < 4294967296 ^ n := Nat.lt_of_lt_of_le (V_lt h) (Nat.pow_le_pow_right (by omega) hn)
theorem pow_add_lt {a b n : Nat} (ha : a < 4294967296 ^ n) (hb : b < 4294967296 ^ n) : a + b < 4294967296 ^ (n + 1) := by
  rw [Nat.pow_succ]; omega
theorem pow_mul_lt {a b n m : Nat} (ha : a < 4294967296 ^ n) (hb : b < 4294967296 ^ m) : a * b < 4294967296 ^ (n + m) := by
  rw [Nat.pow_add]; exact Nat.mul_lt_mul'' ha hb

theorem same_true {x y : List Int} (h : x = y) (hb : x.length < 4611686018427387904) : Ev (fun k => cutplaneref01_Same.f k x y) true := by
  have := ref_Same_ev x y hb
  rwa [decide_eq_true h] at this
theorem D_short {n k : Nat} (h : n < 4294967296 ^ k) (hk : k ≤ 4096) : (D n).length < 4611686018427387904 := by
  have := D_len_lt h; omega
/-! ### a number's value as a word -/
end Go.Proofs.Ytldcelgbinenbaa.K
