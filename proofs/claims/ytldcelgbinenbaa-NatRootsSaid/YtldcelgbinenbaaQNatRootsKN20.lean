/- The whole root: what it is, and the first layer's reference: two bits a round. -/
import Derived.Test.YtldcelgbinenbaaQNatRootsKN19
set_option linter.unusedVariables false
set_option linter.unusedSimpArgs false
namespace Go.Proofs.Ytldcelgbinenbaa.K
open Go Go.RowKit Go.Proofs.Ytldcelgbinenbaa.Px Go.Proofs.YtldcelgbinenbaaW.PrintWords Go.Proofs.YtldcelgbinenbaaW.PrintLast Go.Proofs.YtldcelgbinenbaaW.PrintMore

def rt : Nat → Nat
  | 0 => 0
  | n + 1 => if (rt n + 1) * (rt n + 1) ≤ n + 1 then rt n + 1 else rt n
theorem sq1 (r : Nat) : (r + 1) * (r + 1) = r * r + 2 * r + 1 := by rw [Nat.add_mul, Nat.mul_add]; omega
theorem rt_spec : ∀ n, rt n * rt n ≤ n ∧ n < (rt n + 1) * (rt n + 1)
  | 0 => by simp [rt]
  | n + 1 => by
    have ih := rt_spec n
    have h1 := sq1 (rt n)
    have h2 := sq1 (rt n + 1)
    simp only [rt]
    split
    · refine ⟨by assumption, ?_⟩; omega
    · exact ⟨by omega, by omega⟩
theorem rt_unique {n r : Nat} (h1 : r * r ≤ n) (h2 : n < (r + 1) * (r + 1)) : rt n = r := by
  have h := rt_spec n
  have a : rt n < r + 1 := by
    rcases Nat.lt_or_ge (rt n) (r + 1) with h3 | h3
    · exact h3
    · have := Nat.mul_le_mul h3 h3; omega
  have b : r < rt n + 1 := by
    rcases Nat.lt_or_ge r (rt n + 1) with h3 | h3
    · exact h3
    · have := Nat.mul_le_mul h3 h3; omega
  omega
def rootR (n : Nat) : List Int × Bool := (D (rt n), decide (rt n * rt n = n))
theorem sq_rest (R S A b1 b0 : Nat) (h : A = R * R + S) : 4 * A + (2 * b1 + b0) = 2 * R * (2 * R) + (S * 4 + (2 * b1 + b0)) := by
  have : 2 * R * (2 * R) = 4 * (R * R) := by rw [Nat.mul_mul_mul_comm]
  omega
theorem len_D {n L : Nat} {M : Nat} (hM : M = 4294967296 ^ L) (h : n < M * 4294967296) : (D n).length ≤ L + 1 := D_lt (by rw [Nat.pow_succ, ← hM]; exact h)
theorem root_end {R S A : Nat} (h : A = R * R + S) (h2 : S ≤ 2 * R) : rt A = R ∧ (S = 0 ↔ R * R = A) := by
  have h1 := sq1 R
  exact ⟨rt_unique (by omega) (by omega), by omega⟩
theorem d_len0 (n : Nat) : (((D n).length : Int) == 0) = decide (n = 0) := by
  by_cases h : n = 0
  · subst h; simp [D_zero]
  · have h2 : D n ≠ [] := by rw [D_pos h]; simp
    have h3 : (D n).length ≠ 0 := fun e => h2 (List.eq_nil_of_length_eq_zero e)
    rw [decide_eq_false h]
    exact beq_eq_false_iff_ne.2 (by omega)
theorem wj {j : Nat} (h : j < 100000000) : wrap64 (((2 * j : Nat) : Int) - 2) = ((2 * j : Nat) : Int) - 2 ∧ wrap64 (((2 * j : Nat) : Int) + 1) = ((2 * j + 1 : Nat) : Int) := by unfold wrap64; omega
theorem rroot_l0 {a : List Int} (ha : Nm a) (la : a.length < 1000000) : ∀ (j R S : Nat), j < 100000000 → V a / 2 ^ (2 * j) = R * R + S → S ≤ 2 * R → R ≤ V a → S ≤ V a →
    Ev (fun k => cutplaneref01_Root.l0 k a (D R) (D S) (((2 * j : Nat) : Int) - 2)) (rootR (V a))
  | 0, R, S, hj, h, h2, h3, h4 => by
    refine ev_step ?_
    simp only [cutplaneref01_Root.l0]
    refine ev_neg (by omega) (ev_eq (Ev.now _) ?_)
    rw [Nat.mul_zero, Nat.pow_zero, Nat.div_one] at h
    have e := root_end h h2
    unfold rootR
    rw [e.1, d_len0]
    simp only [e.2]
  | j + 1, R, S, hj, h, h2, h3, h4 => by
    have ej : ((2 * (j + 1) : Nat) : Int) - 2 = ((2 * j : Nat) : Int) := by omega
    rw [ej]
    have hw := wj (j := j) (by omega)
    have hb1 := ref_Bit_eq ha.dg (by omega) (2 * j + 1) (by omega)
    have hb0 := ref_Bit_eq ha.dg (by omega) (2 * j) (by omega)
    have hd0 := div_bit (V a) (2 * j)
    have hd1 := div_bit (V a) (2 * j + 1)
    have e2 : 2 * j + 1 + 1 = 2 * (j + 1) := by omega
    rw [e2] at hd1
    rw [h] at hd1
    generalize hB1 : V a / 2 ^ (2 * j + 1) % 2 = b1 at hb1 hd1
    generalize hB0 : V a / 2 ^ (2 * j) % 2 = b0 at hb0 hd0
    have h1 : b1 < 2 := by omega
    have h0 : b0 < 2 := by omega
    have hA : V a / 2 ^ (2 * j) = 2 * R * (2 * R) + (S * 4 + (2 * b1 + b0)) := by
      rw [← sq_rest R S _ b1 b0 rfl, hd0, hd1]; omega
    have hAl : V a / 2 ^ (2 * j) ≤ V a := Nat.div_le_self _ _
    have hle : S * 4 + (2 * b1 + b0) ≤ V a := by omega
    have hRR : 2 * R ≤ V a := by
      rcases Nat.eq_zero_or_pos R with hz | hz
      · subst hz; omega
      · have : 2 * R * 1 ≤ 2 * R * (2 * R) := Nat.mul_le_mul_left _ (by omega)
        omega
    have hVl := V_lt ha.dg
    generalize hM : 4294967296 ^ a.length = M at hVl
    have hlen : ∀ n, n ≤ 4 * V a + 4 → (D n).length ≤ a.length + 1 := fun n hn => len_D hM.symm (by omega)
    have lS := hlen S (by omega)
    have lR := hlen R (by omega)
    have l1 := hlen (S * 4) (by omega)
    have l2 := hlen (S * 4 + (2 * b1 + b0)) (by omega)
    have l3 := hlen (2 * R) (by omega)
    refine ev_step ?_
    simp only [cutplaneref01_Root.l0, hw.2, hw.1]
    refine ev_pos nn ?_
    have u1 := ref_Up_ev (Dg_D S) (by omega) 2 (by omega)
    rw [V_D] at u1
    refine Ev.bind u1 (ev_bind hb1 (ev_bind hb0 ?_))
    have eo : (2 * (b1 : Int) + (b0 : Int)) % 4294967296 = ((2 * b1 + b0 : Nat) : Int) := by omega
    rw [eo]
    have o1 := ref_Of_ev (n := ((2 * b1 + b0 : Nat) : Int)) (by omega) (by omega)
    rw [Int.toNat_natCast] at o1
    refine Ev.bind o1 ?_
    have lo := hlen (2 * b1 + b0) (by omega)
    have a1 := ref_Add_ev (Dg_D (S * 2 ^ 2)) (Dg_D (2 * b1 + b0)) (by simpa using by omega) (by omega)
    rw [V_D, V_D] at a1
    refine Ev.bind a1 ?_
    have u2 := ref_Up_ev (Dg_D R) (by omega) 2 (by omega)
    rw [V_D] at u2
    refine Ev.bind u2 ?_
    have d1 : Dg [1] := Dg.cons (by omega) (by omega) Dg.nil
    have l4 := hlen (R * 2 ^ 2) (by omega)
    have a2 := ref_Add_ev (Dg_D (R * 2 ^ 2)) d1 (by omega) (by simp)
    rw [V_D] at a2
    refine Ev.bind a2 ?_
    have u3 := ref_Up_ev (Dg_D R) (by omega) 1 (by omega)
    rw [V_D] at u3
    refine Ev.bind u3 ?_
    have v1 : V [1] = 1 := by simp
    rw [v1]
    have e4 : S * 2 ^ 2 = S * 4 := rfl
    have e5 : R * 2 ^ 2 + 1 = 4 * R + 1 := by omega
    have e6 : R * 2 ^ 1 = 2 * R := by omega
    rw [e4, e5, e6]
    refine Ev.bind (ref_Cmp_ev (Nm_D _) (Nm_D _) (by omega)) ?_
    rw [V_D, V_D]
    by_cases hc : 4 * R + 1 ≤ S * 4 + (2 * b1 + b0)
    · refine ev_pos (cmpN_ge.2 hc) ?_
      have s1 := ref_Sub_ev (Nm_D (S * 4 + (2 * b1 + b0))) (Nm_D (4 * R + 1)) (by omega) (by rw [V_D, V_D]; exact hc)
      rw [V_D, V_D] at s1
      refine Ev.bind s1 ?_
      have a3 := ref_Add_ev (Dg_D (2 * R)) d1 (by omega) (by simp)
      rw [V_D, v1] at a3
      refine Ev.bind a3 ?_
      have hq := sq1 (2 * R)
      exact rroot_l0 ha la j (2 * R + 1) _ (by omega) (by rw [hA]; omega) (by omega) (by omega) (by omega)
    · refine ev_neg (fun h => hc (cmpN_ge.1 h)) ?_
      exact rroot_l0 ha la j (2 * R) _ (by omega) hA (by omega) hRR (by omega)
theorem ref_Root_ev {a : List Int} (ha : Nm a) (la : a.length < 1000000) : Ev (fun k => cutplaneref01_Root.f k a) (rootR (V a)) := by
  unfold cutplaneref01_Root.f
  refine Ev.bind (ref_Len_ev ha (by omega)) ?_
  have hb : bl (V a) ≤ 32 * a.length := bl_list ha.dg
  have hlt := lt_bl (V a)
  generalize bl (V a) = n at hb hlt
  have fin : ∀ j, j < 100000000 → n ≤ 2 * j → Ev (fun k => cutplaneref01_Root.j0 k a [] [] ((2 * j : Nat) : Int)) (rootR (V a)) := by
    intro j hj hn
    refine ev_step ?_
    simp only [cutplaneref01_Root.j0, (wj hj).1]
    have h0 : V a / 2 ^ (2 * j) = 0 * 0 + 0 := by
      rw [Nat.div_eq_of_lt (Nat.lt_of_lt_of_le hlt (Nat.pow_le_pow_right (by omega) hn))]
    have := rroot_l0 ha la j 0 0 hj h0 (by omega) (by omega) (by omega)
    rwa [D_zero] at this
  have em : Int.tmod (n : Int) 2 = ((n % 2 : Nat) : Int) := rfl
  rw [em]
  have ew : wrap64 ((n : Int) + 1) = ((n + 1 : Nat) : Int) := w64s (by omega)
  rw [ew]
  clear ew
  by_cases c : n % 2 = 1
  · refine ev_pos (by omega) ?_
    have e : n + 1 = 2 * ((n + 1) / 2) := by omega
    rw [e]
    exact fin _ (by omega) (by omega)
  · refine ev_neg (by omega) ?_
    have e : n = 2 * (n / 2) := by omega
    rw [e]
    exact fin _ (by omega) (by omega)
end Go.Proofs.Ytldcelgbinenbaa.K
