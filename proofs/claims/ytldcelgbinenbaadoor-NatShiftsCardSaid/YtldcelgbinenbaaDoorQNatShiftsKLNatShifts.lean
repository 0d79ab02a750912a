/- NatShifts, of plain functions: shifts up and down, by any count, and the places of the highest and lowest bit are the document's. -/
import Derived.Test.YtldcelgbinenbaaDoorQNatShiftsKN22
set_option linter.unusedVariables false
set_option linter.unusedSimpArgs false
namespace Go.Proofs.YtldcelgbinenbaaDoor.K
open Go.RowKit Go.Proofs.YtldcelgbinenbaaDoor.Px Go.Proofs.YtldcelgbinenbaaDoorW.PrintWords Go.Proofs.YtldcelgbinenbaaDoorW.PrintLast Go.Proofs.YtldcelgbinenbaaDoorW.PrintMore

theorem w131 {b : Nat} (h : b ≤ 131072) : wrap64 (131072 - (b : Int)) = 131072 - (b : Int) := by unfold wrap64; omega
theorem ref_Down_far {a : List Int} (ha : Nm a) (la : a.length ≤ 4096) (N : Nat) (hN : N < 1000000000) (h : bl (V a) ≤ N) : Ev (fun k => cutplaneref01_Down.f k a N) ([], decide (V a ≠ 0)) := by
  have hp : V a < 2 ^ N := Nat.lt_of_lt_of_le (lt_bl _) (Nat.pow_le_pow_right (by omega) h)
  refine ev_eq (ref_Down_is ha (by omega) N hN) ?_
  rw [Nat.div_eq_of_lt hp, D_zero, Nat.mod_eq_of_lt hp]
theorem shifts_j0 {a : List Int} (ha : Nm a) (la : a.length ≤ 4096) (n : Int) : Ev (fun k => cutplanelaw01_NatShifts.j0 k a n (shiftR (V a) n).1 (shiftR (V a) n).2.1 (shiftR (V a) n).2.2 false) true := by
  have hbl := bl_list ha.dg
  have hl : a.length = 0 ↔ a = [] := List.length_eq_zero_iff
  refine ev_step ?_
  simp only [cutplanelaw01_NatShifts.j0]
  refine ev_neg (by simp) ?_
  by_cases h0 : 0 ≤ n
  · refine ev_pos h0 ?_
    by_cases c : a = []
    · subst c
      have e : shiftR (V []) n = ([], false, 0) := by simp [shiftR]
      rw [e]
      refine ev_neg (by simp) (ev_step ?_)
      simp only [cutplanelaw01_NatShifts.j1]
      exact ev_neg (by simp) (ev_neg (by simp) (Ev.bind (same_true rfl (by simp)) (ev_pos (by simp) (ev_neg (by simp) (ev_pos (by simp) known_some)))))
    have hv : V a ≠ 0 := fun h => c ((V_eq_zero ha).1 h)
    have hlp : a.length ≠ 0 := fun h => c (hl.1 h)
    obtain ⟨m, rfl⟩ := Int.eq_ofNat_of_zero_le h0
    refine ev_pos (by omega) (Ev.bind (ref_Len_ev ha (by omega)) ?_)
    rw [w131 (by omega)]
    unfold shiftR
    rw [if_neg hv, if_neg (by omega), if_neg (by omega)]
    by_cases h3 : (m : Int) > 131072 - ((bl (V a) : Nat) : Int)
    · rw [if_pos h3, decide_eq_true h3]
      refine ev_step ?_
      simp only [cutplanelaw01_NatShifts.j1]
      exact ev_pos (by simp) (ev_pos (by simp) (ev_neg (by simp) (ev_pos (by simp) known_some)))
    · rw [if_neg h3, decide_eq_false h3]
      refine ev_step ?_
      simp only [cutplanelaw01_NatShifts.j1, Int.toNat_natCast]
      have hlen : (D (V a * 2 ^ m)).length < 4611686018427387904 := by
        have h1 : (D (V a * 2 ^ m)).length ≤ 4096 := len_bl (Nat.le_trans (bl_up_le _ _) (by omega))
        omega
      refine ev_neg (by simp) (ev_pos (by omega) (Ev.bind (ref_Up_ev ha.dg (by omega) m (by omega)) (Ev.bind (same_true rfl hlen) ?_)))
      exact ev_pos (by simp) (ev_neg (by simp) (ev_pos (by simp) known_some))
  · refine ev_neg h0 ?_
    by_cases h1 : n < -131072
    · have hd := ref_Down_far ha la 131073 (by omega) (by omega)
      refine ev_pos h1 (Ev.bind hd ?_)
      unfold shiftR
      by_cases hv : V a = 0
      · rw [if_pos hv]
        exact Ev.bind (same_true rfl (by simp)) (ev_pos rfl (ev_pos (by simp [hv]) (ev_pos rfl known_some)))
      · rw [if_neg hv, if_pos h1]
        exact Ev.bind (same_true rfl (by simp)) (ev_pos rfl (ev_pos (by simp [hv]) (ev_pos rfl known_some)))
    · refine ev_neg h1 ?_
      have e : wrap64 (-n) = (((-n).toNat : Nat) : Int) := by unfold wrap64; omega
      rw [e]
      clear e
      have hm : (-n).toNat ≤ 131072 := by omega
      have hs : shiftR (V a) n = (D (V a / 2 ^ (-n).toNat), decide (V a % 2 ^ (-n).toNat ≠ 0), 0) := by
        unfold shiftR
        by_cases hv : V a = 0
        · rw [if_pos hv, hv, Nat.zero_div, Nat.zero_mod, D_zero]; rfl
        · rw [if_neg hv, if_neg h1, if_pos (by omega)]
      rw [hs]
      generalize (-n).toNat = m at *
      have hdl : (D (V a / 2 ^ m)).length ≤ a.length := D_lt (Nat.lt_of_le_of_lt (Nat.div_le_self _ _) (V_lt ha.dg))
      refine Ev.bind (ref_Down_is ha (by omega) m (by omega)) (Ev.bind (same_true rfl (by show (D (V a / 2 ^ m)).length < _; omega)) (ev_pos rfl (ev_pos (by simp) (ev_pos rfl known_some))))
theorem NatShifts : cutplanelaw01_NatShifts.Pure := by
  intro a n _ la wa _
  have da := Dg.wf wa
  have main : Ev (fun k => cutplanelaw01_NatShifts.f k a n) true := by
    unfold cutplanelaw01_NatShifts.f
    refine ev_bind (long_eq a 4100) ?_
    by_cases c : decide (a.length > 4100) = true
    · exact ev_pos c known_some
    have l1 : a.length ≤ 4100 := by simpa using c
    refine ev_neg c (ev_bind (lent_eq (by omega)) ?_)
    by_cases h1 : may a = true
    · have hn := (may_iff.1 h1).2
      have l2 := (may_iff.1 h1).1
      refine Ev.bind (nat_Shift_ev hn l2 n) (ev_bind (ref_May_eq da (by omega)) (ev_pos h1 ?_))
      refine ev_bind (nat_Len_ev hn l2) (Ev.bind (ref_Len_ev hn (by omega)) (ev_pos rfl ?_))
      refine Ev.bind (nat_Low_ev hn l2) (Ev.bind (ref_Low_ev da (by omega)) (ev_pos rfl ?_))
      exact Ev.bind (same_true rfl (by omega)) (shifts_j0 hn l2 n)
    · have h2 : may a = false := by simpa using h1
      refine Ev.bind (nat_Shift_bad da (by omega) h2 n) (ev_bind (ref_May_eq da (by omega)) (ev_neg h1 ?_))
      refine ev_pos rfl (ev_neg (by simp) (ev_pos rfl (ev_bind (nat_Len_bad da (by omega) h2) (ev_pos rfl ?_))))
      exact Ev.bind (nat_Low_bad da (by omega) h2) (ev_pos rfl known_some)
  obtain ⟨k, hk⟩ := main
  exact ⟨k, hk k (Nat.le_refl _)⟩
end Go.Proofs.YtldcelgbinenbaaDoor.K
