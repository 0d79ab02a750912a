/- The first layer's long division: one digit of the quotient. -/
import Derived.Test.YtldcelgbinenbaaQNatSquaresKN13
set_option linter.unusedVariables false
set_option linter.unusedSimpArgs false
namespace Go.Proofs.Ytldcelgbinenbaa.K
open Go Go.RowKit Go.Proofs.Ytldcelgbinenbaa.Px Go.Proofs.YtldcelgbinenbaaW.PrintWords Go.Proofs.YtldcelgbinenbaaW.PrintLast Go.Proofs.YtldcelgbinenbaaW.PrintMore

/-! ### the guess -/
theorem guess_up {U3 V2 P ul vl Q : Nat} (hP : 0 < P) (hul : ul < P) (hQ : Q * (V2 * P + vl) ≤ U3 * P + ul) : Q * V2 ≤ U3 := by
  have h1 : Q * V2 * P ≤ Q * (V2 * P + vl) := by rw [Nat.mul_add, Nat.mul_assoc]; omega
  have h2 : Q * V2 * P < (U3 + 1) * P := by rw [Nat.add_mul, Nat.one_mul]; omega
  have := Nat.lt_of_mul_lt_mul_right h2
  omega
theorem guess_low {U3 V2 P ul vl g B : Nat} (hP : 0 < P) (hg : g * V2 ≤ U3) (hB : g < B) (hvl : vl < P) (hv : B * P ≤ V2 * P + vl) : g * (V2 * P + vl) < (U3 * P + ul) + (V2 * P + vl) := by
  have h1 : g * V2 * P ≤ U3 * P := Nat.mul_le_mul_right _ hg
  have h2 : g * vl ≤ g * P := Nat.mul_le_mul_left _ (by omega)
  have h3 : g * P < B * P := Nat.mul_lt_mul_of_pos_right hB hP
  rw [Nat.mul_add, ← Nat.mul_assoc]
  omega
theorem guess_test {g left v1 v2 top u2 B : Nat} (h : left + g * v1 = top) : g * (v1 * B + v2) ≤ top * B + u2 ↔ g * v2 ≤ left * B + u2 := by
  rw [← h, Nat.mul_add, Nat.add_mul, ← Nat.mul_assoc]; omega
theorem guess_break {g left v1 v2 top u2 B : Nat} (h : left + g * v1 = top) (ht : top < v1 * B + B) (hl : B ≤ left) (hv : v2 < B) : g < B ∧ g * (v1 * B + v2) ≤ top * B + u2 := by
  have hg : g < B := by
    rcases Nat.lt_or_ge g B with h1 | h1
    · exact h1
    · have := Nat.mul_le_mul_right v1 h1
      rw [Nat.mul_comm B] at this
      omega
  refine ⟨hg, (guess_test h).2 ?_⟩
  have h1 : g * v2 ≤ B * B := Nat.mul_le_mul (by omega) (by omega)
  have h2 : B * B ≤ left * B := Nat.mul_le_mul_right _ hl
  omega
theorem u64_n {n : Nat} (h : n < 18446744073709551616) : IntKind.u64.wrap (n : Int) = (n : Int) := u64 (by omega) (by omega)
theorem mul_lt64 {a b : Nat} (ha : a < 4294967296) (hb : b < 4294967296) : a * b ≤ 18446744065119617025 := by
  have := Nat.mul_le_mul (show a ≤ 4294967295 by omega) (show b ≤ 4294967295 by omega)
  omega
theorem or_dign (a b : Nat) (ha : a < 4294967296) (hb : b < 4294967296) : Go.bits .or .u64 (IntKind.u64.wrap ((a : Int) * 4294967296)) (b : Int) = ((a * 4294967296 + b : Nat) : Int) := by
  have e : (a : Int) * 4294967296 = ((a * 4294967296 : Nat) : Int) := by omega
  rw [e, u64_n (by omega), ← e, or_digit (by omega) (by omega)]; omega
theorem step_l0 {u v : List Int} {n v1 v2 u2 top Q : Nat} (hn : 2 ≤ n) (hnb : n < 1000000000) (hv : v.length = n) (hu : u.length = n + 1)
    (h1 : rd v ((n - 1 : Nat) : Int) = (v1 : Int)) (h2 : rd v ((n - 2 : Nat) : Int) = (v2 : Int)) (h3 : rd u ((n - 2 : Nat) : Int) = (u2 : Int))
    (b1 : v1 < 4294967296) (b2 : v2 < 4294967296) (b3 : u2 < 4294967296) (ht : top < v1 * 4294967296 + 4294967296)
    (hQ : Q * (v1 * 4294967296 + v2) ≤ top * 4294967296 + u2) (hQB : Q < 4294967296) {res : Int × List Int}
    (H : ∀ G : Nat, G < 4294967296 → Q ≤ G → G * (v1 * 4294967296 + v2) ≤ top * 4294967296 + u2 → Ev (fun k => nat_step.j2 k u v n G) res) :
    ∀ (g left : Nat), Q ≤ g → left + g * v1 = top → left < 4294967296 → g < 18446744073709551616 → Ev (fun k => nat_step.l0 k u v n g left) res
  | g, left, hg, hl, hlb, hgb => by
    have e1 : wrap64 ((n : Int) - 1) = ((n - 1 : Nat) : Int) := by unfold wrap64; omega
    have e2 : wrap64 ((n : Int) - 2) = ((n - 2 : Nat) : Int) := by unfold wrap64; omega
    -- what follows when the guess is above
    have tru : Q < g → Ev (fun k => nat_step.j1 k u v n g left true) res := by
      intro hlt
      obtain ⟨g', rfl⟩ : ∃ g', g = g' + 1 := ⟨g - 1, by omega⟩
      have e3 : IntKind.u64.wrap (((g' + 1 : Nat) : Int) - 1) = (g' : Int) := by
        rw [show ((g' + 1 : Nat) : Int) - 1 = (g' : Int) by omega]; exact u64_n (by omega)
      have e4 : IntKind.u64.wrap ((left : Int) + (v1 : Int)) = ((left + v1 : Nat) : Int) := by
        rw [← Int.natCast_add]; exact u64_n (by omega)
      have hl2 : (left + v1) + g' * v1 = top := by rw [← hl, Nat.add_mul, Nat.one_mul]; omega
      refine ev_step ?_
      simp only [nat_step.j1, e1, h1, u64_n (n := v1) (by omega), e3, e4]
      refine ev_pos trivial (ev_pos nn (ev_pos (by omega) ?_))
      by_cases hb : 4294967296 ≤ left + v1
      · obtain ⟨k1, k2⟩ := guess_break (u2 := u2) hl2 ht hb b2
        exact ev_pos (by omega) (H g' k1 (by omega) k2)
      · exact ev_neg (by omega) (step_l0 hn hnb hv hu h1 h2 h3 b1 b2 b3 ht hQ hQB H g' (left + v1) (by omega) hl2 (by omega) (by omega))
    refine ev_step ?_
    simp only [nat_step.l0]
    by_cases hB : 4294967296 ≤ g
    · exact ev_pos (by omega) (tru (by omega))
    · have hm := mul_lt64 (a := g) (b := v2) (by omega) b2
      have e5 : IntKind.u64.wrap ((g : Int) * (v2 : Int)) = ((g * v2 : Nat) : Int) := by
        rw [← Int.natCast_mul]; exact u64_n (by omega)
      refine ev_neg (by omega) ?_
      simp only [e2, h2, h3, u64_n (n := v2) (by omega), u64_n (n := u2) (by omega), e5, or_dign left u2 hlb b3]
      refine ev_pos nn (ev_pos (by omega) (ev_pos (by omega) ?_))
      by_cases hc : g * v2 ≤ left * 4294967296 + u2
      · have hd : decide (((g * v2 : Nat) : Int) > ((left * 4294967296 + u2 : Nat) : Int)) = false := decide_eq_false (by have := Int.ofNat_le.2 hc; omega)
        rw [hd]
        refine ev_step ?_
        simp only [nat_step.j1]
        exact ev_neg (by simp) (H g (by omega) hg ((guess_test hl).2 hc))
      · have hd : decide (((g * v2 : Nat) : Int) > ((left * 4294967296 + u2 : Nat) : Int)) = true := decide_eq_true (by have := Int.ofNat_lt.2 (Nat.lt_of_not_le hc); omega)
        rw [hd]
        refine tru ?_
        rcases Nat.lt_or_ge Q g with h | h
        · exact h
        · have : g = Q := by omega
          subst this
          exact absurd ((guess_test hl).1 hQ) hc
termination_by g => g
end Go.Proofs.Ytldcelgbinenbaa.K
