/- The first layer's quotients. -/
import Derived.Test.YtldcelgbinenbaaQNatRootsKN17
set_option linter.unusedVariables false
set_option linter.unusedSimpArgs false
namespace Go.Proofs.Ytldcelgbinenbaa.K
open Go Go.RowKit Go.Proofs.Ytldcelgbinenbaa.Px Go.Proofs.YtldcelgbinenbaaW.PrintWords Go.Proofs.YtldcelgbinenbaaW.PrintLast Go.Proofs.YtldcelgbinenbaaW.PrintMore

theorem up_len {b : List Int} {m d : Nat} (hb : Nm b) (lb : b.length = m + 2) (hd : (b.getD (m + 1) 0).toNat = d) : 0 < d ∧ d < 4294967296 ∧ 4294967296 ^ (m + 1) * d ≤ V b ∧ V b < 4294967296 ^ (m + 1) * (d + 1) := by
  obtain ⟨bl0, x2, x1, rfl, hl⟩ := split2 lb
  have e : bl0 ++ [x2, x1] = (bl0 ++ [x2]) ++ [x1] := by simp
  rw [e] at hb hd ⊢
  have hlen : (bl0 ++ [x2]).length = m + 1 := by simp [hl]
  have h1 := Nm_last hb
  have h2 := hb.dg x1 (by simp)
  have hv := V_lt hb.dg.left
  rw [hlen] at hv
  have hx : ((bl0 ++ [x2]) ++ [x1]).getD (m + 1) 0 = x1 := by rw [← hlen]; simp
  rw [hx] at hd
  rw [V_append, hlen]
  simp only [V_cons, V_nil, Nat.mul_zero, Nat.add_zero, hd]
  rw [Nat.mul_add, Nat.mul_one]
  generalize 4294967296 ^ (m + 1) = p at *
  refine ⟨by omega, by omega, by omega, by omega⟩
theorem norm_nat {Va Vb p d s B pi Ba : Nat} (hs : (d + 1) * 2 ^ s ≤ B) (h1 : p * d ≤ Vb) (h2 : Vb < p * (d + 1)) (hd : 0 < d) (hp : 0 < p) (ha : Va < Ba) (hB : Ba = p * pi) (hpi : 0 < pi) : Vb * 2 ^ s < p * B ∧ p ≤ Vb * 2 ^ s ∧ Va * 2 ^ s < Ba * B ∧ Va * 2 ^ s < Vb * 2 ^ s * pi := by
  have hz : 0 < 2 ^ s := pw_pos s
  have e1 : p ≤ Vb := Nat.le_trans (by have := Nat.mul_le_mul_left p hd; omega) h1
  have hsB : 2 ^ s ≤ B := Nat.le_trans (by have := Nat.mul_le_mul_right (2 ^ s) (show 1 ≤ d + 1 by omega); omega) hs
  generalize 2 ^ s = z at *
  refine ⟨?_, ?_, ?_, ?_⟩
  · refine Nat.lt_of_lt_of_le (Nat.mul_lt_mul_of_pos_right h2 hz) ?_
    rw [Nat.mul_assoc]; exact Nat.mul_le_mul_left _ hs
  · exact Nat.le_trans e1 (Nat.le_mul_of_pos_right _ hz)
  · exact Nat.lt_of_lt_of_le (Nat.mul_lt_mul_of_pos_right ha hz) (Nat.mul_le_mul_left _ hsB)
  · refine Nat.lt_of_lt_of_le (Nat.mul_lt_mul_of_pos_right ha hz) ?_
    rw [hB, Nat.mul_right_comm]
    exact Nat.mul_le_mul_right _ (Nat.mul_le_mul_right _ e1)
theorem nat_long_ev {a b : List Int} (ha : Nm a) (hb : Nm b) (la : a.length ≤ 4096) (lb : b.length ≤ a.length) (h2 : 2 ≤ b.length) : Ev (fun k => nat_long.f k a b) (D (V a / V b), D (V a % V b)) := by
  obtain ⟨m, lm⟩ : ∃ m, b.length = m + 2 := ⟨b.length - 2, by omega⟩
  obtain ⟨hd0, hdB, hlo, hhi⟩ := up_len hb lm rfl
  have hrd : rd b ((m + 1 : Nat) : Int) = b.getD (m + 1) 0 := rdn _ _
  have hdig := hb.dg.getD (m + 1)
  have hlz := lz_eq hdig
  generalize (b.getD (m + 1) 0).toNat = d at *
  have hbl : bl d ≤ 32 := bl_le_of_lt (by omega)
  have hblp : 0 < bl d := bl_pos (by omega)
  obtain ⟨s, hs⟩ : ∃ s, s = 32 - bl d := ⟨_, rfl⟩
  have hs32 : (d + 1) * 2 ^ s ≤ 4294967296 := by
    have h1 := Nat.mul_le_mul_right (2 ^ s) (Nat.succ_le_of_lt (lt_bl d))
    rw [hs, pw hbl] at h1
    rw [hs]; exact h1
  have hi : m + 1 + (a.length - (m + 1)) = a.length := by omega
  have hnn := norm_nat (Va := V a) (Vb := V b) (s := s) (B := 4294967296) (pi := 4294967296 ^ (a.length - (m + 1))) (Ba := 4294967296 ^ a.length) hs32 hlo hhi hd0 (Nat.pow_pos (Nat.zero_lt_succ _)) (V_lt ha.dg) (by rw [← Nat.pow_add, hi]) (Nat.pow_pos (Nat.zero_lt_succ _))
  obtain ⟨n1, n2, n3, n4⟩ := hnn
  rw [← pow_s] at n1 n3
  have hup1 := nat_up_ev hb.dg (by omega) s (by omega)
  have hup2 := nat_up_ev ha.dg (by omega) s (by omega)
  have lY : (D (V b * 2 ^ s)).length = m + 2 := by
    have h3 := D_lt n1
    rcases Nat.lt_or_ge (D (V b * 2 ^ s)).length (m + 2) with h4 | h4
    · exfalso
      have h5 := V_bd (Dg_D (V b * 2 ^ s)) (n := m + 1) (by omega)
      rw [V_D] at h5
      exact Nat.not_lt.2 n2 h5
    · omega
  have lW : (D (V a * 2 ^ s)).length ≤ a.length + 1 := D_lt n3
  have hT : Top (D (V b * 2 ^ s)) m := by unfold Top; rw [V_D]; exact n2
  have e1 : V a * 2 ^ s / (V b * 2 ^ s) = V a / V b := Nat.mul_div_mul_right _ _ (pw_pos s)
  have e2 : V a * 2 ^ s % (V b * 2 ^ s) / 2 ^ s = V a % V b := by rw [Nat.mul_mod_mul_right, Nat.mul_div_cancel _ (pw_pos s)]
  have hu : V (D (V a * 2 ^ s) ++ List.replicate (a.length + 1 - (D (V a * 2 ^ s)).length) 0) = V a * 2 ^ s := Dk_V (a.length + 1) (V a * 2 ^ s)
  have main := long_l1 (v := D (V b * 2 ^ s)) (m := m) (N := a.length + 1) (s := s) (W := V a * 2 ^ s) (Dg_D _) lY (by omega) (by omega) (by omega) hT (M := 4294967296 ^ (m + 2)) rfl (by rw [V_D]; exact n1) (a.length - (m + 1)) 0 (D (V a * 2 ^ s) ++ List.replicate (a.length + 1 - (D (V a * 2 ^ s)).length) 0) [] (by omega) (by rw [List.length_append, List.length_replicate]; omega) ((Dg_D _).app (Dg.zeros _)) Dg.nil (by rw [List.length_nil]; omega) rfl ⟨by rw [hu]; omega, by rw [hu, V_D]; exact n4⟩
  rw [V_D, e1, e2, List.append_nil] at main
  clear n1 n2 n3 n4 hlo hhi hT e1 e2 hu hs32
  unfold nat_long.f
  have e3 : wrap64 ((b.length : Int) - 1) = ((m + 1 : Nat) : Int) := by unfold wrap64; omega
  simp only [e3, hrd]
  clear e3
  refine ev_pos nn (ev_pos (by omega) (ev_bind hlz ?_))
  rw [← hs]
  refine Ev.bind hup1 (Ev.bind hup2 ?_)
  refine long_l0 (s : Int) (by omega) (a.length + 1 - (D (V a * 2 ^ s)).length) _ (by omega) (by omega) ?_
  have e4 : a.length + 1 - (m + 2) = a.length - (m + 1) := by omega
  rw [lY, e4]
  exact main
end Go.Proofs.Ytldcelgbinenbaa.K
