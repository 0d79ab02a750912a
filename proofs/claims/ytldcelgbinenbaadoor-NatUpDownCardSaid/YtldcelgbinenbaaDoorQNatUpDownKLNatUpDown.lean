/- NatUpDown, of plain functions: what is shifted up comes back when it is shifted down, with nothing lost; what is shifted down and up again is the number just if nothing was lost, and not above it. -/
import Derived.Test.YtldcelgbinenbaaDoorQNatUpDownKN22
set_option linter.unusedVariables false
set_option linter.unusedSimpArgs false
namespace Go.Proofs.YtldcelgbinenbaaDoor.K
open Go.RowKit Go.Proofs.YtldcelgbinenbaaDoor.Px Go.Proofs.YtldcelgbinenbaaDoorW.PrintWords Go.Proofs.YtldcelgbinenbaaDoorW.PrintLast Go.Proofs.YtldcelgbinenbaaDoorW.PrintMore

theorem shiftR_up {v m : Nat} (h : bl v + m ≤ 131072) : shiftR v (m : Int) = (D (v * 2 ^ m), false, 0) := by
  unfold shiftR
  by_cases hv : v = 0
  · rw [if_pos hv, hv, Nat.zero_mul, D_zero]
  · rw [if_neg hv, if_neg (by omega), if_neg (by omega), if_neg (by omega), Int.toNat_natCast]
theorem shiftR_down {v m : Nat} (h : bl v ≤ 131072) (hm : m ≤ 131072) : shiftR v (-(m : Int)) = (D (v / 2 ^ m), decide (v % 2 ^ m ≠ 0), 0) := by
  by_cases hv : v = 0
  · unfold shiftR
    rw [if_pos hv, hv, Nat.zero_div, Nat.zero_mod, D_zero]; rfl
  rcases Nat.eq_zero_or_pos m with h0 | h0
  · subst h0
    have e := shiftR_up (v := v) (m := 0) (by omega)
    rw [Nat.pow_zero, Nat.mul_one] at e
    rw [Nat.pow_zero, Nat.div_one, Nat.mod_one]
    exact e
  · unfold shiftR
    have e : (-(-(m : Int))).toNat = m := by omega
    rw [if_neg hv, if_neg (by omega), if_pos (by omega), e]
section
variable {a : List Int}
theorem ud_j2 (ha : Nm a) (la : a.length ≤ 1000) (m : Nat) : Ev (fun k => cutplanelaw01_NatUpDown.j2 k a m (decide (V a % 2 ^ m ≠ 0)) (cmpN (V a / 2 ^ m * 2 ^ m) (V a)) false) true := by
  have hle : V a / 2 ^ m * 2 ^ m ≤ V a := Nat.div_mul_le_self _ _
  have hdm := Nat.div_add_mod' (V a) (2 ^ m)
  have hc : cmpN (V a / 2 ^ m * 2 ^ m) (V a) < 0 ↔ V a % 2 ^ m ≠ 0 := by rw [cmpN_lt]; omega
  have hc2 : cmpN (V a / 2 ^ m * 2 ^ m) (V a) ≤ 0 := by unfold cmpN; split; omega; rw [if_neg (by omega)]; omega
  have hl : a.length = 0 ↔ a = [] := List.length_eq_zero_iff
  refine ev_step ?_
  simp only [cutplanelaw01_NatUpDown.j2]
  refine ev_neg (by simp) (ev_pos hc2 (ev_pos ?_ (Ev.bind (nat_Low_ev ha (by omega)) ?_)))
  · rw [beq_iff_eq]; exact decide_eq_decide.2 hc.symm
  by_cases h0 : V a = 0
  · have hn : a = [] := (V_eq_zero ha).1 h0
    have h1 : decide (V a % 2 ^ m ≠ 0) = false := by rw [h0, Nat.zero_mod]; rfl
    rw [h1]
    by_cases h2 : ((lw (V a) : Nat) : Int) < (m : Int)
    · refine ev_pos h2 (ev_pos ?_ known_some)
      rw [hn]; rfl
    · exact ev_neg h2 (ev_pos rfl known_some)
  · have h3 := lw_mod (n := V a) (k := m) h0
    have h4 : a.length ≠ 0 := fun h => h0 ((V_eq_zero ha).2 (hl.1 h))
    by_cases h2 : ((lw (V a) : Nat) : Int) < (m : Int)
    · have h5 : V a % 2 ^ m ≠ 0 := h3.1 (by omega)
      refine ev_pos h2 (ev_pos ?_ known_some)
      rw [decide_eq_true h5, decide_eq_true (show (a.length : Int) > 0 by omega)]; rfl
    · have h5 : ¬ (V a % 2 ^ m ≠ 0) := fun h => h2 (by have := h3.2 h; omega)
      refine ev_neg h2 (ev_pos ?_ known_some)
      rw [decide_eq_false h5]; rfl
theorem wsum {x m : Nat} (hx : x ≤ 1000000) (hm : m ≤ 1000000) : wrap64 ((x : Int) + (m : Int)) = ((x + m : Nat) : Int) ∧ mx 0 (wrap64 ((x : Int) - (m : Int))) = ((x - m : Nat) : Int) := by
  have e : wrap64 ((x : Int) - (m : Int)) = (x : Int) - (m : Int) := by unfold wrap64; omega
  refine ⟨by unfold wrap64; omega, ?_⟩
  rw [e]
  clear e
  unfold mx
  split <;> omega
theorem ud_j1 (ha : Nm a) (la : a.length ≤ 1000) (m : Nat) (hm : m ≤ 40000) : Ev (fun k => cutplanelaw01_NatUpDown.j1 k a m (D (V a * 2 ^ m)) (D (V a / 2 ^ m)) (decide (V a % 2 ^ m ≠ 0)) (cmpN (V a / 2 ^ m * 2 ^ m) (V a)) false) true := by
  have hbl := bl_list ha.dg
  have hw := wsum (x := bl (V a)) (m := m) (by omega) (by omega)
  have lu : (D (V a * 2 ^ m)).length ≤ 4096 := len_bl (Nat.le_trans (bl_up_le _ _) (by omega))
  have ld : (D (V a / 2 ^ m)).length ≤ 4096 := len_bl (by rw [bl_down]; omega)
  have n1 := nat_Len_ev (Nm_D (V a * 2 ^ m)) lu
  have n2 := nat_Len_ev (Nm_D (V a / 2 ^ m)) ld
  have n3 := nat_Len_ev ha (by omega)
  rw [V_D] at n1 n2
  rw [bl_down] at n2
  have hl : a.length = 0 ↔ a = [] := List.length_eq_zero_iff
  have fin := ud_j2 ha la m
  refine ev_step ?_
  simp only [cutplanelaw01_NatUpDown.j1]
  refine ev_neg (by simp) ?_
  have last : Ev (fun k => (nat_Len.f (D (V a / 2 ^ m))).bind fun t320 => ((nat_Len.f a).bind fun t321 => (cutplanelaw01_NatUpDown.j2 k a m (decide (V a % 2 ^ m ≠ 0)) (cmpN (V a / 2 ^ m * 2 ^ m) (V a)) (t320 != (mx 0 (wrap64 (t321 - m))))))) true := by
    refine ev_bind n2 (ev_bind n3 ?_)
    rw [hw.2, bne_self_eq_false]
    exact fin
  by_cases h0 : a.length = 0
  · exact ev_neg (by omega) last
  · have hv : V a ≠ 0 := fun h => h0 (hl.2 ((V_eq_zero ha).1 h))
    rw [bl_up hv] at n1
    exact ev_pos (by omega) (ev_bind n1 (ev_bind n3 (ev_pos hw.1.symm last)))
theorem ud_j0 (ha : Nm a) (la : a.length ≤ 1000) (m : Nat) (hm : m ≤ 40000) : Ev (fun k => cutplanelaw01_NatUpDown.j0 k a m false) true := by
  have hbl := bl_list ha.dg
  have lu : (D (V a * 2 ^ m)).length ≤ 4096 := len_bl (Nat.le_trans (bl_up_le _ _) (by omega))
  have hbu := bl_up_le (V a) m
  have hbd := bl_down (V a) m
  have ld : (D (V a / 2 ^ m)).length ≤ 4096 := len_bl (by omega)
  have hba := bl_up_le (V a / 2 ^ m) m
  have hle : V a / 2 ^ m * 2 ^ m ≤ V a := Nat.div_mul_le_self _ _
  have lg : (D (V a / 2 ^ m * 2 ^ m)).length ≤ 1000 := Nat.le_trans (D_len_mono hle) (by rw [ha.len]; exact la)
  have ew : wrap64 (-(m : Int)) = -(m : Int) := by unfold wrap64; omega
  have s1 := nat_Shift_ev ha (by omega) (m : Int)
  have s2 := nat_Shift_ev (Nm_D (V a * 2 ^ m)) lu (-(m : Int))
  have s3 := nat_Shift_ev ha (by omega) (-(m : Int))
  have s4 := nat_Shift_ev (Nm_D (V a / 2 ^ m)) ld (m : Int)
  rw [V_D] at s2 s4
  rw [shiftR_up (by omega)] at s1 s4
  rw [shiftR_down (by omega) (by omega)] at s2 s3
  have e1 : V a * 2 ^ m / 2 ^ m = V a := Nat.mul_div_cancel _ (pw_pos m)
  have e2 : V a * 2 ^ m % 2 ^ m = 0 := Nat.mul_mod_left _ _
  rw [e1, e2, ha] at s2
  have c := nat_Cmp_ev (Nm_D (V a / 2 ^ m * 2 ^ m)) ha (by omega) (by omega)
  rw [V_D] at c
  refine ev_step ?_
  simp only [cutplanelaw01_NatUpDown.j0, ew]
  refine ev_neg (by simp) (ev_bind (lent_eq (by omega)) (Ev.bind s1 (Ev.bind s2 (ev_bind (lent_eq (by omega)) (Ev.bind s3 (Ev.bind s4 (Ev.bind c ?_)))))))
  refine ev_pos rfl (ev_pos rfl (ev_pos rfl (ev_pos rfl (ev_pos rfl (ev_neg (by simp) (ev_neg (by simp) (ev_neg (by simp) ?_)))))))
  exact Ev.bind (same_true rfl (by show a.length < _; omega)) (ud_j1 ha la m hm)
end
theorem NatUpDown : cutplanelaw01_NatUpDown.Pure := by
  intro a n _ la wa _
  have da := Dg.wf wa
  have known : Ev (fun k => cutplanelaw01_NatUpDown.j0 k a n true) true := by
    refine ev_step ?_
    simp only [cutplanelaw01_NatUpDown.j0]
    exact ev_pos trivial known_some
  have main : Ev (fun k => cutplanelaw01_NatUpDown.f k a n) true := by
    unfold cutplanelaw01_NatUpDown.f
    refine ev_bind (long_eq a 1000) ?_
    by_cases c : decide (a.length > 1000) = true
    · exact ev_pos c known
    have l1 : a.length ≤ 1000 := by simpa using c
    refine ev_neg c (ev_bind (nat_May_eq da (by omega)) ?_)
    by_cases h1 : may a = true
    · refine ev_pos h1 ?_
      by_cases h2 : n < 0
      · exact ev_pos h2 known
      refine ev_neg h2 ?_
      by_cases h3 : n > 40000
      · rw [decide_eq_true h3]; exact known
      · rw [decide_eq_false h3]
        obtain ⟨m, rfl⟩ := Int.eq_ofNat_of_zero_le (show 0 ≤ n by omega)
        exact ud_j0 (may_iff.1 h1).2 l1 m (by omega)
    · exact ev_neg h1 known
  obtain ⟨k, hk⟩ := main
  exact ⟨k, hk k (Nat.le_refl _)⟩
end Go.Proofs.YtldcelgbinenbaaDoor.K
