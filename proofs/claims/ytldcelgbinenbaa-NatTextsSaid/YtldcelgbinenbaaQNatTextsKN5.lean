/- The first layer's plain functions: the length of a number in bits. -/
import Derived.Test.YtldcelgbinenbaaQNatTextsKN4
set_option linter.unusedVariables false
set_option linter.unusedSimpArgs false
namespace Go.Proofs.Ytldcelgbinenbaa.K
open Go.RowKit Go.Proofs.Ytldcelgbinenbaa.Px Go.Proofs.YtldcelgbinenbaaW.PrintWords Go.Proofs.YtldcelgbinenbaaW.PrintLast Go.Proofs.YtldcelgbinenbaaW.PrintMore

theorem bound_long {m n : Nat} (h : (D m).length > 4096) (k : m ≤ n) : bound n = ([], 3) := by
  have := D_len_mono k
  unfold bound; rw [if_pos (by omega)]
/-- a number of more digits than there may be -/
theorem long_pow {m e : Nat} (he : 4096 = e) (h : 4294967296 ^ e ≤ m) : (D m).length > 4096 := by
  apply Nat.lt_of_not_le
  rw [he]
  intro k
  exact absurd (Nat.lt_of_lt_of_le (lt_D_len m) (Nat.le_trans (Nat.pow_le_pow_right (by decide) k) h)) (Nat.lt_irrefl _)
theorem two_pow_le' {m e k : Nat} (he : 32 * k ≤ e) (h : 2 ^ e ≤ m) : 4294967296 ^ k ≤ m := by
  have e1 : (4294967296 : Nat) ^ k = 2 ^ (32 * k) := by rw [Nat.pow_mul]
  rw [e1]
  exact Nat.le_trans (Nat.pow_le_pow_right (by decide) he) h
theorem two_pow_le {m e : Nat} (he : 131072 ≤ e) (h : 2 ^ e ≤ m) : bound m = ([], 3) :=
  have key : ∀ k, 4096 = k → bound m = ([], 3) := fun k hk => bound_long (long_pow hk (two_pow_le' (by omega) h)) (Nat.le_refl _)
  key 4096 rfl
/-- how many bits -/
def bl (n : Nat) : Nat := if n = 0 then 0 else n.log2 + 1
theorem bl_zero : bl 0 = 0 := rfl
theorem bl_le {n : Nat} (h : n ≠ 0) : 2 ^ (bl n - 1) ≤ n := by
  unfold bl; rw [if_neg h]; exact Nat.log2_self_le h
theorem lt_bl (n : Nat) : n < 2 ^ bl n := by
  unfold bl
  split
  · subst n; simp
  · exact Nat.lt_log2_self
theorem bl_pos {n : Nat} (h : n ≠ 0) : 0 < bl n := by unfold bl; rw [if_neg h]; omega
theorem bl_le_of_lt {n k : Nat} (h : n < 2 ^ k) : bl n ≤ k := by
  by_cases e : n = 0
  · subst e; simp [bl_zero]
  · have h1 := bl_le e
    have h2 := bl_pos e
    have : bl n - 1 < k := (Nat.pow_lt_pow_iff_right (a := 2) (by omega)).1 (Nat.lt_of_le_of_lt h1 h)
    omega
theorem bl_unique {n k : Nat} (h1 : 2 ^ k ≤ n) (h2 : n < 2 ^ (k + 1)) : bl n = k + 1 := by
  have := bl_le_of_lt h2
  have h3 : 2 ^ k < 2 ^ bl n := Nat.lt_of_le_of_lt h1 (lt_bl n)
  have := (Nat.pow_lt_pow_iff_right (a := 2) (by omega)).1 h3
  omega
theorem bl_shift {n k : Nat} (h : 2 ^ k ≤ n) : bl n = k + bl (n / 2 ^ k) := by
  have hp : 0 < 2 ^ k := Nat.pow_pos (by omega)
  have h0 : n / 2 ^ k ≠ 0 := by
    have := (Nat.le_div_iff_mul_le hp (x := 1) (y := n)).2 (by omega)
    omega
  have h1 := bl_le h0
  have h2 := lt_bl (n / 2 ^ k)
  have h3 := bl_pos h0
  have e : k + bl (n / 2 ^ k) = (k + (bl (n / 2 ^ k) - 1)) + 1 := by omega
  rw [e]
  apply bl_unique
  · rw [Nat.pow_add]
    have := (Nat.le_div_iff_mul_le hp).1 h1
    rw [Nat.mul_comm]; exact this
  · have := (Nat.div_lt_iff_lt_mul hp).1 h2
    rw [show k + (bl (n / 2 ^ k) - 1) + 1 = bl (n / 2 ^ k) + k by omega, Nat.pow_add]
    exact this
theorem bl_step {n : Nat} (h : n ≠ 0) : bl n = bl (n / 2) + 1 := by
  by_cases h1 : n = 1
  · subst h1; rfl
  · have := bl_shift (n := n) (k := 1) (by omega)
    simp at this; omega
theorem bl_mono {a b : Nat} (h : a ≤ b) : bl a ≤ bl b := bl_le_of_lt (Nat.lt_of_le_of_lt h (lt_bl b))

/-! ### the references' length -/
end Go.Proofs.Ytldcelgbinenbaa.K
