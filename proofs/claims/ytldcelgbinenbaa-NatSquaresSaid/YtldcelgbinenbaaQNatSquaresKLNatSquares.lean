/- NatSquares, of plain functions: the square of a root is not above the number, that of the next number is, and it is exact just if the square is the number. -/
import Derived.Test.YtldcelgbinenbaaQNatSquaresKN21
set_option linter.unusedVariables false
set_option linter.unusedSimpArgs false
namespace Go.Proofs.Ytldcelgbinenbaa.K
open Go.RowKit Go.Proofs.Ytldcelgbinenbaa.Px Go.Proofs.YtldcelgbinenbaaW.PrintWords Go.Proofs.YtldcelgbinenbaaW.PrintLast Go.Proofs.YtldcelgbinenbaaW.PrintMore

theorem bound_fits {n : Nat} (h : (D n).length ≤ 4096) : bound n = (D n, 0) := by unfold bound; rw [if_neg (by omega)]
theorem sqs_j0 {a : List Int} (ha : Nm a) (la : a.length ≤ 400) : Ev (fun k => cutplanelaw01_NatSquares.j0 k a false) true := by
  refine ev_step ?_
  simp only [cutplanelaw01_NatSquares.j0]
  have hs := rt_spec (V a)
  have lr : (D (rt (V a))).length ≤ 400 := rt_len (by rw [ha.len]; exact la)
  have e0 := sq1 (rt (V a))
  have hroot := nat_Root_ev ha (by omega)
  unfold rootR at hroot
  obtain ⟨r, hg⟩ : ∃ r, rt (V a) = r := ⟨_, rfl⟩
  rw [hg] at hroot hs lr e0
  refine ev_neg (by simp) (ev_bind (lent_eq (by omega)) (Ev.bind hroot ?_))
  have l1 : (D (r * r)).length ≤ 400 := Nat.le_trans (D_len_mono hs.1) (by rw [ha.len]; exact la)
  have hlt := lt_D_len r
  have m1 := nat_Mul_ev (Nm_D r) (Nm_D r) (by omega) (by omega)
  rw [V_D, bound_fits (by omega)] at m1
  have o1 := nat_Of_ev (n := 1) (by omega) (by omega)
  have d1 : (D (Int.toNat 1)).length ≤ 1 := D_lt (by decide)
  have d2 : (D (r + 1)).length ≤ 401 := len_succ lr
  have s1 := nat_Add_ev (Nm_D r) (Nm_D (Int.toNat 1)) (by omega) (by omega)
  rw [V_D, V_D, show Int.toNat 1 = 1 from rfl, bound_fits (by omega)] at s1
  have d3 : (D ((r + 1) * (r + 1))).length ≤ 802 := len_mul d2 d2
  have m2 := nat_Mul_ev (Nm_D (r + 1)) (Nm_D (r + 1)) (by omega) (by omega)
  rw [V_D, bound_fits (by omega)] at m2
  have c1 := nat_Cmp_ev (Nm_D (r * r)) ha (by omega) (by omega)
  have c2 := nat_Cmp_ev (Nm_D ((r + 1) * (r + 1))) ha (by omega) (by omega)
  rw [V_D] at c1 c2
  refine Ev.bind m1 (Ev.bind o1 (Ev.bind s1 (Ev.bind m2 (Ev.bind c1 (Ev.bind c2 ?_)))))
  have k2 : cmpN ((r + 1) * (r + 1)) (V a) = 1 := by unfold cmpN; rw [if_neg (by omega), if_pos hs.2]
  refine ev_pos rfl (ev_pos rfl (ev_pos rfl (ev_pos rfl (ev_pos rfl (ev_pos rfl ?_)))))
  have k1 : cmpN (r * r) (V a) ≤ 0 := by unfold cmpN; split; omega; rw [if_neg (by omega)]; omega
  refine ev_pos k1 (ev_pos (by rw [k2]; omega) (ev_pos ?_ known_some))
  have k3 : (cmpN (r * r) (V a) == 0) = decide (r * r = V a) := by
    unfold cmpN
    by_cases h2 : r * r = V a
    · rw [h2]; simp
    · rw [if_pos (by omega), decide_eq_false h2]; rfl
  rw [k3]; simp
theorem NatSquares : cutplanelaw01_NatSquares.Pure := by
  intro a _ la wa
  have da := Dg.wf wa
  have known : Ev (fun k => cutplanelaw01_NatSquares.j0 k a true) true := by
    refine ev_step ?_
    simp only [cutplanelaw01_NatSquares.j0]
    exact ev_pos trivial known_some
  have main : Ev (fun k => cutplanelaw01_NatSquares.f k a) true := by
    unfold cutplanelaw01_NatSquares.f
    refine ev_bind (long_eq a 400) ?_
    by_cases c : decide (a.length > 400) = true
    · exact ev_pos c known
    have l1 : a.length ≤ 400 := by simpa using c
    refine ev_neg c (ev_bind (nat_May_eq da (by omega)) ?_)
    by_cases h1 : may a = true
    · rw [h1]; exact sqs_j0 (may_iff.1 h1).2 l1
    · have h3 : may a = false := by simpa using h1
      rw [h3]; exact known
  obtain ⟨k, hk⟩ := main
  exact ⟨k, hk k (Nat.le_refl _)⟩
end Go.Proofs.Ytldcelgbinenbaa.K
