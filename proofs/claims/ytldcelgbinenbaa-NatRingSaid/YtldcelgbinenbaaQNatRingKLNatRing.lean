/- NatRing, of plain functions: sums and products hang neither on the order nor on the grouping of their terms, for lists of at most 100 digits. -/
import Derived.Test.YtldcelgbinenbaaQNatRingKN4
set_option linter.unusedVariables false
set_option linter.unusedSimpArgs false
namespace Go.Proofs.Ytldcelgbinenbaa.K
open Go.RowKit Go.Proofs.Ytldcelgbinenbaa.Px Go.Proofs.YtldcelgbinenbaaW.PrintWords Go.Proofs.YtldcelgbinenbaaW.PrintLast Go.Proofs.YtldcelgbinenbaaW.PrintMore

theorem ring_j0_known (a b c : List Int) : Ev (fun k => cutplanelaw01_NatRing.j0 k a b c true) true := by
  refine ev_step ?_
  simp only [cutplanelaw01_NatRing.j0]
  exact ev_pos trivial known_some
theorem ring_j0 {a b c : List Int} (ha : Nm a) (hb : Nm b) (hc : Nm c) (la : a.length ≤ 100) (lb : b.length ≤ 100) (lc : c.length ≤ 100) : Ev (fun k => cutplanelaw01_NatRing.j0 k a b c false) true := by
  have va := V_bd ha.dg la
  have vb := V_bd hb.dg lb
  have vc := V_bd hc.dg lc
  have la' : a.length ≤ 4096 := by omega
  have lb' : b.length ≤ 4096 := by omega
  have lc' : c.length ≤ 4096 := by omega
  have add : ∀ {x y : List Int} {n : Nat}, Nm x → Nm y → V x < 4294967296 ^ n → V y < 4294967296 ^ n → n + 1 ≤ 4096 → Ev (fun k => nat_Add.f k x y) (D (V x + V y), 0) := by
    intro x y n hx hy h1 h2 h3
    have l1 := D_len_lt h1
    have l2 := D_len_lt h2
    rw [hx] at l1
    rw [hy] at l2
    have := nat_Add_ev hx hy (by omega) (by omega)
    rwa [bound_ok (pow_add_lt h1 h2) h3] at this
  have mul : ∀ {x y : List Int} {n m : Nat}, Nm x → Nm y → V x < 4294967296 ^ n → V y < 4294967296 ^ m → n + m ≤ 4096 → Ev (fun k => nat_Mul.f k x y) (D (V x * V y), 0) := by
    intro x y n m hx hy h1 h2 h3
    have l1 := D_len_lt h1
    have l2 := D_len_lt h2
    rw [hx] at l1
    rw [hy] at l2
    have := nat_Mul_ev hx hy (by omega) (by omega)
    rwa [bound_ok (pow_mul_lt h1 h2) h3] at this
  have vab := pow_add_lt va vb
  have vbc := pow_add_lt vb vc
  have up : ∀ {x n m : Nat}, x < 4294967296 ^ n → n ≤ m → x < 4294967296 ^ m := fun h k => Nat.lt_of_lt_of_le h (Nat.pow_le_pow_right (by omega) k)
  refine ev_step ?_
  simp only [cutplanelaw01_NatRing.j0]
  refine ev_neg (by simp) ?_
  refine Ev.bind (add ha hb va vb (by omega)) ?_
  refine Ev.bind (add hb ha vb va (by omega)) ?_
  refine Ev.bind (add hb hc vb vc (by omega)) ?_
  refine Ev.bind (add (n := 101) (Nm_D _) hc (by rw [V_D]; exact vab) (up vc (by omega)) (by omega)) ?_
  refine Ev.bind (add (n := 101) ha (Nm_D _) (up va (by omega)) (by rw [V_D]; exact vbc) (by omega)) ?_
  refine ev_pos rfl (ev_pos rfl (ev_pos rfl (ev_pos rfl (ev_pos rfl ?_))))
  refine Ev.bind (same_true (by rw [Nat.add_comm]) (D_short vab (by omega))) (ev_pos rfl ?_)
  rw [V_D, V_D]
  refine Ev.bind (same_true (by rw [Nat.add_assoc]) (D_short (n := V a + V b + V c) (pow_add_lt vab (up vc (by omega))) (by omega))) ?_
  refine ev_step ?_
  simp only [cutplanelaw01_NatRing.j1]
  refine ev_neg (by simp) ?_
  have mab := pow_mul_lt va vb
  have mbc := pow_mul_lt vb vc
  have mac := pow_mul_lt va vc
  refine Ev.bind (mul ha hb va vb (by omega)) ?_
  refine Ev.bind (mul hb ha vb va (by omega)) ?_
  refine Ev.bind (mul hb hc vb vc (by omega)) ?_
  refine Ev.bind (mul (n := 200) (Nm_D _) hc (by rw [V_D]; exact mab) vc (by omega)) ?_
  refine Ev.bind (mul (m := 200) ha (Nm_D _) va (by rw [V_D]; exact mbc) (by omega)) ?_
  refine ev_pos rfl (ev_pos rfl (ev_pos rfl (ev_pos rfl (ev_pos rfl ?_))))
  refine Ev.bind (same_true (by rw [Nat.mul_comm]) (D_short mab (by omega))) (ev_pos rfl ?_)
  rw [V_D, V_D]
  refine Ev.bind (same_true (by rw [Nat.mul_assoc]) (D_short (n := V a * V b * V c) (pow_mul_lt mab vc) (by omega))) ?_
  refine ev_step ?_
  simp only [cutplanelaw01_NatRing.j2]
  refine ev_neg (by simp) ?_
  refine Ev.bind (mul (m := 101) ha (Nm_D _) va (by rw [V_D]; exact vbc) (by omega)) ?_
  refine Ev.bind (mul ha hc va vc (by omega)) ?_
  refine Ev.bind (add (n := 200) (Nm_D _) (Nm_D _) (by rw [V_D]; exact mab) (by rw [V_D]; exact mac) (by omega)) ?_
  refine Ev.bind (nat_Sub_ev (Nm_D _) hb (by have := D_len_lt vab; omega) lb') ?_
  rw [V_D, V_D, V_D, V_D, subR, if_neg (by omega)]
  refine ev_pos rfl (ev_pos rfl (ev_pos rfl (ev_pos rfl ?_)))
  refine Ev.bind (same_true (by rw [Nat.mul_add]) (D_short (n := V a * (V b + V c)) (pow_mul_lt va vbc) (by omega))) (ev_pos rfl ?_)
  have e : D (V a + V b - V b) = a := by rw [Nat.add_sub_cancel]; exact ha
  have e2 : (D (V a + V b - V b)).length < 4611686018427387904 := by rw [e]; exact Nat.lt_of_le_of_lt la (by decide)
  refine Ev.bind (same_true e e2) (ev_pos rfl ?_)
  exact known_some
theorem NatRing : cutplanelaw01_NatRing.Pure := by
  intro a b c ma _ wa mb _ wb mc _ wc
  have da := Dg.wf wa
  have db := Dg.wf wb
  have dc := Dg.wf wc
  unfold maxLen at ma mb mc
  have sa : a.length < 4611686018427387904 ∨ 100 < a.length := by omega
  refine Ev.rounds (?_ : Ev (fun k => cutplanelaw01_NatRing.f k a b c) true)
  unfold cutplanelaw01_NatRing.f
  refine ev_bind (long_eq a 100) ?_
  by_cases h1 : a.length > 100
  · exact ev_pos (decide_eq_true h1) (ring_j0_known a b c)
  refine ev_neg (by simpa using h1) (ev_bind (long_eq b 100) ?_)
  by_cases h2 : b.length > 100
  · exact ev_pos (decide_eq_true h2) (ring_j0_known a b c)
  refine ev_neg (by simpa using h2) (ev_bind (long_eq c 100) ?_)
  by_cases h3 : c.length > 100
  · exact ev_pos (decide_eq_true h3) (ring_j0_known a b c)
  refine ev_neg (by simpa using h3) (ev_bind (nat_May_eq da (by omega)) ?_)
  by_cases k1 : may a = true
  · refine ev_pos k1 (ev_bind (nat_May_eq db (by omega)) ?_)
    by_cases k2 : may b = true
    · refine ev_pos k2 (ev_bind (nat_May_eq dc (by omega)) ?_)
      by_cases k3 : may c = true
      · rw [k3]
        exact ring_j0 (may_iff.1 k1).2 (may_iff.1 k2).2 (may_iff.1 k3).2 (by omega) (by omega) (by omega)
      · rw [show may c = false by simpa using k3]
        exact ring_j0_known a b c
    · exact ev_neg k2 (ring_j0_known a b c)
  · exact ev_neg k1 (ring_j0_known a b c)
end Go.Proofs.Ytldcelgbinenbaa.K
