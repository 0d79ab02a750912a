/- NatDivides, of plain functions: a quotient times the divisor and what is left are the number. -/
import Derived.Test.YtldcelgbinenbaaQNatDividesKN19
set_option linter.unusedVariables false
set_option linter.unusedSimpArgs false
namespace Go.Proofs.Ytldcelgbinenbaa.K
open Go.RowKit Go.Proofs.Ytldcelgbinenbaa.Px Go.Proofs.YtldcelgbinenbaaW.PrintWords Go.Proofs.YtldcelgbinenbaaW.PrintLast Go.Proofs.YtldcelgbinenbaaW.PrintMore

section
variable {a b : List Int}
theorem divs_j0 (ha : Nm a) (hb : Nm b) (la : a.length ≤ 400) (lb : b.length ≤ 400) : Ev (fun k => cutplanelaw01_NatDivides.j0 k a b false) true := by
  refine ev_step ?_
  simp only [cutplanelaw01_NatDivides.j0]
  refine ev_neg (by simp) (ev_bind (lent_eq (by omega)) (ev_bind (lent_eq (by omega)) (Ev.bind (nat_QuoRem_ev ha hb (by omega) (by omega)) ?_)))
  unfold quoR
  by_cases h0 : b = []
  · subst h0
    rw [if_pos V_nil]
    exact ev_pos rfl (ev_pos rfl known_some)
  have hb0 := V_pos hb h0
  have hlp : 0 < b.length := List.length_pos_iff.2 h0
  rw [if_neg hb0]
  have hmod : V a % V b < V b := Nat.mod_lt _ (by omega)
  have hdm : V a / V b * V b + V a % V b = V a := Nat.div_add_mod' _ _
  have l1 : (D (V a / V b)).length ≤ a.length := D_lt (Nat.lt_of_le_of_lt (Nat.div_le_self _ _) (V_lt ha.dg))
  have l2 : (D (V a % V b)).length ≤ a.length := D_lt (Nat.lt_of_le_of_lt (Nat.mod_le _ _) (V_lt ha.dg))
  have l3 : (D (V a / V b * V b)).length ≤ a.length := D_lt (Nat.lt_of_le_of_lt (Nat.div_mul_le_self _ _) (V_lt ha.dg))
  have m := nat_Mul_ev (Nm_D (V a / V b)) hb (by omega) (by omega)
  rw [V_D, show bound (V a / V b * V b) = (D (V a / V b * V b), 0) by unfold bound; rw [if_neg (by omega)]] at m
  have s := nat_Add_ev (Nm_D (V a / V b * V b)) (Nm_D (V a % V b)) (by omega) (by omega)
  rw [V_D, V_D, hdm, show bound (V a) = (a, 0) by unfold bound; rw [ha, if_neg (by omega)]] at s
  have c := nat_Cmp_ev (Nm_D (V a % V b)) hb (by omega) (by omega)
  rw [V_D] at c
  refine ev_neg (by omega) (Ev.bind m (Ev.bind s (Ev.bind c ?_)))
  refine ev_pos rfl (ev_pos rfl (ev_pos rfl (ev_pos rfl (ev_pos (cmpN_lt.2 hmod) ?_))))
  exact Ev.bind (same_true rfl (by show a.length < _; omega)) (ev_pos rfl known_some)
end
theorem NatDivides : cutplanelaw01_NatDivides.Pure := by
  intro a b _ la wa _ lb wb
  have da := Dg.wf wa
  have db := Dg.wf wb
  have known : Ev (fun k => cutplanelaw01_NatDivides.j0 k a b true) true := by
    refine ev_step ?_
    simp only [cutplanelaw01_NatDivides.j0]
    exact ev_pos trivial known_some
  have main : Ev (fun k => cutplanelaw01_NatDivides.f k a b) true := by
    unfold cutplanelaw01_NatDivides.f
    refine ev_bind (long_eq a 400) ?_
    by_cases c : decide (a.length > 400) = true
    · exact ev_pos c known
    refine ev_neg c (ev_bind (long_eq b 400) ?_)
    by_cases c2 : decide (b.length > 400) = true
    · exact ev_pos c2 known
    have l1 : a.length ≤ 400 := by simpa using c
    have l2 : b.length ≤ 400 := by simpa using c2
    refine ev_neg c2 (ev_bind (nat_May_eq da (by omega)) ?_)
    by_cases h1 : may a = true
    · refine ev_pos h1 (ev_bind (nat_May_eq db (by omega)) ?_)
      by_cases h2 : may b = true
      · rw [h2]; exact divs_j0 (may_iff.1 h1).2 (may_iff.1 h2).2 l1 l2
      · have h3 : may b = false := by simpa using h2
        rw [h3]; exact known
    · exact ev_neg h1 known
  obtain ⟨k, hk⟩ := main
  exact ⟨k, hk k (Nat.le_refl _)⟩
end Go.Proofs.Ytldcelgbinenbaa.K
