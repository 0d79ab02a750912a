/- The first layer's reference: the quotient bit by bit. -/
import Derived.Test.YtldcelgbinenbaaQNatProductsKN12
set_option linter.unusedVariables false
set_option linter.unusedSimpArgs false
namespace Go.Proofs.Ytldcelgbinenbaa.K
open Go Go.RowKit Go.Proofs.Ytldcelgbinenbaa.Px Go.Proofs.YtldcelgbinenbaaW.PrintWords Go.Proofs.YtldcelgbinenbaaW.PrintLast Go.Proofs.YtldcelgbinenbaaW.PrintMore

theorem cmpN_ge {m n : Nat} : (cmpN m n ≥ 0) ↔ n ≤ m := by
  unfold cmpN; split
  · constructor <;> intro h <;> omega
  · split <;> constructor <;> intro h <;> omega
theorem div_bit (n i : Nat) : n / 2 ^ i = 2 * (n / 2 ^ (i + 1)) + n / 2 ^ i % 2 := by
  rw [Nat.pow_succ, ← Nat.div_div_eq_div_mul]; omega
theorem rquo_l0 {a b : List Int} (ha : Nm a) (hb : Nm b) (la : a.length < 100000000) (lb : b.length < 100000000) : ∀ (i R Qv : Nat) (q : List Int), Dg q → q.length = a.length → i ≤ 32 * a.length → R < V b → V q = Qv * 2 ^ i → V a / 2 ^ i = Qv * V b + R →
    Ev (fun k => cutplaneref01_QuoRem.l0 k a b q (D R) ((i : Int) - 1)) (D (V a / V b), D (V a % V b))
  | 0, R, Qv, q, hg, hq, hi, hR, hv, hs => by
    refine ev_step ?_
    simp only [cutplaneref01_QuoRem.l0]
    refine ev_neg (by omega) (Ev.bind (ref_Trim_ev hg (by omega)) (ev_eq (Ev.now _) ?_))
    simp only [Nat.pow_zero, Nat.mul_one, Nat.div_one] at hv hs
    have h1 : V a / V b = Qv := by
      rw [hs, Nat.mul_comm, Nat.mul_add_div (by omega), Nat.div_eq_of_lt hR, Nat.add_zero]
    have h2 : V a % V b = R := by
      rw [hs, Nat.mul_comm, Nat.mul_add_mod, Nat.mod_eq_of_lt hR]
    rw [h1, h2, hv]
  | i + 1, R, Qv, q, hg, hq, hi, hR, hv, hs => by
    have e0 : ((i + 1 : Nat) : Int) - 1 = (i : Int) := by omega
    have e1 : wrap64 ((i : Int) - 1) = (i : Int) - 1 := w64m (by omega)
    have hbv := V_lt hb.dg
    have hRl : (D R).length ≤ b.length := D_lt (Nat.lt_trans hR hbv)
    have hpow : 4294967296 ^ (b.length + 1) = 4294967296 ^ b.length * 4294967296 := Nat.pow_succ ..
    have hdb := div_bit (V a) i
    rw [hs] at hdb
    have hbit : V a / 2 ^ i % 2 = 0 ∨ V a / 2 ^ i % 2 = 1 := by omega
    have hup := ref_Up_ev (Dg_D R) (by omega) 1 (by omega)
    rw [V_D, Nat.pow_one] at hup
    have hr2 : (D (R * 2)).length ≤ b.length + 1 := D_lt (by rw [hpow]; generalize 4294967296 ^ b.length = p at *; omega)
    -- behind the bit
    have rest : ∀ r : Nat, r = R * 2 + V a / 2 ^ i % 2 → Ev (fun k => cutplaneref01_QuoRem.j1 k a b q (D r) (i : Int)) (D (V a / V b), D (V a % V b)) := by
      intro r hr
      have hrl : (D r).length ≤ b.length + 1 := D_lt (by rw [hpow]; generalize 4294967296 ^ b.length = p at *; omega)
      have hs2 : V a / 2 ^ i = 2 * Qv * V b + r := by rw [hdb, hr, Nat.mul_add, Nat.mul_assoc]; omega
      refine ev_step ?_
      simp only [cutplaneref01_QuoRem.j1, t32 (n := i) (by omega), m32, e1]
      refine Ev.bind (ref_Cmp_ev (Nm_D r) hb (by omega)) ?_
      rw [V_D]
      by_cases hc : V b ≤ r
      · refine ev_pos (cmpN_ge.2 hc) ?_
        have hsub := ref_Sub_ev (Nm_D r) hb (by omega) (by rw [V_D]; exact hc)
        rw [V_D] at hsub
        refine Ev.bind hsub (ev_pos nn (ev_pos (by omega) (ev_pos nn ?_)))
        have hset := bit_set hg (i := i) (Qv := Qv) (by omega) hv
        rw [Int.toNat_natCast]
        refine rquo_l0 ha hb la lb i (r - V b) (2 * Qv + 1) _ hset.2 (by simp [hq]) (by omega) (by omega) ?_ ?_
        · rw [hset.1, hv, Nat.pow_succ, Nat.add_mul, Nat.one_mul]
          congr 1
          rw [Nat.mul_comm (2 ^ i), Nat.mul_comm 2 Qv, Nat.mul_assoc]
        · rw [hs2, Nat.add_mul, Nat.one_mul]; omega
      · refine ev_neg (fun h => hc (cmpN_ge.1 h)) ?_
        refine rquo_l0 ha hb la lb i r (2 * Qv) _ hg hq (by omega) (by omega) ?_ hs2
        rw [hv, Nat.pow_succ, Nat.mul_comm (2 ^ i), Nat.mul_comm 2 Qv, Nat.mul_assoc]
    rw [e0]
    refine ev_step ?_
    simp only [cutplaneref01_QuoRem.l0]
    refine ev_pos (by omega) (Ev.bind hup (ev_bind (ref_Bit_eq ha.dg (by omega) i (by omega)) ?_))
    rcases hbit with h | h
    · rw [h]
      exact ev_neg (by simp) (rest _ (by omega))
    · rw [h]
      refine ev_pos (by simp) ?_
      have hadd := ref_Add_ev (a := D (R * 2)) (b := [1]) (Dg_D _) (Dg.cons (by omega) (by omega) Dg.nil) (by omega) (by simp)
      rw [V_D] at hadd
      exact Ev.bind hadd (rest _ (by simp; omega))
theorem ref_QuoRem_ev {a b : List Int} (ha : Nm a) (hb : Nm b) (la : a.length < 10000000) (lb : b.length < 10000000) (h0 : b ≠ []) : Ev (fun k => cutplaneref01_QuoRem.f k a b) (D (V a / V b), D (V a % V b)) := by
  unfold cutplaneref01_QuoRem.f
  by_cases h1 : b.length = 1
  · obtain ⟨d, rfl⟩ := List.length_eq_one_iff.1 h1
    have hd := hb.dg.head
    have hdne : d ≠ 0 := by
      have h2 := V_pos hb (by simp)
      simp at h2; omega
    refine ev_pos (by omega) (ev_pos (by omega) ?_)
    have h3 := ref_byDigit_ev ha.dg (by omega) (d := d) (by omega)
    have h4 : rd [d] 0 = d := by simp [rd]
    rw [h4]
    refine Ev.bind h3 (ev_eq (Ev.now _) ?_)
    simp
  · have hla := bl_list ha.dg
    have hlb := bl_list hb.dg
    have hb0 := V_pos hb h0
    have hbp := bl_pos hb0
    refine ev_neg (by omega) (ev_pos nn (ev_pos (by simp; omega) (Ev.bind (ref_Len_ev ha (by omega)) (Ev.bind (ref_Len_ev hb (by omega)) ?_))))
    generalize hL : (bl (V a) + 1 - bl (V b)) = left
    have e1 : mx 0 (wrap64 (wrap64 (((bl (V a) : Nat) : Int) - ((bl (V b) : Nat) : Int)) + 1)) = (left : Int) := by
      unfold mx wrap64; split <;> omega
    have e2 : wrap64 ((left : Int) - 1) = (left : Int) - 1 := by unfold wrap64; omega
    simp only [e1, e2, Int.toNat_natCast]
    obtain ⟨x, hx⟩ := ref_Down_ev ha (by omega) left (by omega)
    refine Ev.bind hx ?_
    have hq : V a / 2 ^ left < V b := by
      have h2 := bl_le hb0
      refine Nat.lt_of_lt_of_le ?_ h2
      rw [Nat.div_lt_iff_lt_mul (pw_pos _), ← Nat.pow_add]
      exact Nat.lt_of_lt_of_le (lt_bl _) (Nat.pow_le_pow_right (by omega) (by omega))
    exact rquo_l0 ha hb (by omega) (by omega) left (V a / 2 ^ left) 0 (List.replicate a.length 0) (Dg.zeros _) (by simp) (by omega) hq (by rw [V_zeros]; omega) (by omega)
end Go.Proofs.Ytldcelgbinenbaa.K
