/- NatProducts, of plain functions: products, quotients and what is left of them are the document's. -/
import Derived.Test.YtldcelgbinenbaaQNatProductsKN19
set_option linter.unusedVariables false
set_option linter.unusedSimpArgs false
namespace Go.Proofs.Ytldcelgbinenbaa.K
open Go.RowKit Go.Proofs.Ytldcelgbinenbaa.Px Go.Proofs.YtldcelgbinenbaaW.PrintWords Go.Proofs.YtldcelgbinenbaaW.PrintLast Go.Proofs.YtldcelgbinenbaaW.PrintMore

section
variable {a b : List Int}
theorem prods_j4 (la : a.length ≤ 4100) (lb : b.length ≤ 4100) {p q r : List Int} (hp : p.length ≤ 4096) (hq : q.length ≤ 10000) (hr : r.length ≤ 10000) : Ev (fun k => cutplanelaw01_NatProducts.j4 k a b a b p q r true) true := by
  refine ev_step ?_
  simp only [cutplanelaw01_NatProducts.j4]
  obtain ⟨r1, h1⟩ := marked_ev (l := q) (by omega)
  obtain ⟨r2, h2⟩ := marked_ev (l := r) (by omega)
  obtain ⟨r3, h3⟩ := marked_ev (l := p) (by omega)
  refine Ev.bind h1 (Ev.bind h2 (Ev.bind h3 (ev_pos trivial ?_)))
  refine Ev.bind (same_true rfl (by omega)) (ev_pos rfl ?_)
  exact Ev.bind (same_true rfl (by omega)) (ev_pos rfl known_some)
theorem prods_j3 (ha : Nm a) (hb : Nm b) (la : a.length ≤ 4096) (lb : b.length ≤ 4096) {p : List Int} (hp : p.length ≤ 4096) (x : Bool) : Ev (fun k => cutplanelaw01_NatProducts.j3 k a b a b p x) true := by
  refine ev_step ?_
  simp only [cutplanelaw01_NatProducts.j3]
  by_cases hx : x = true
  · exact ev_pos hx known_some
  refine ev_neg hx (Ev.bind (nat_QuoRem_ev ha hb la lb) ?_)
  unfold quoR
  by_cases h0 : b = []
  · subst h0
    rw [if_pos V_nil]
    exact ev_pos rfl (ev_pos rfl (ev_pos rfl (ev_pos rfl known_some)))
  have hb0 := V_pos hb h0
  have hlp : 0 < b.length := List.length_pos_iff.2 h0
  rw [if_neg hb0]
  have l1 : (D (V a / V b)).length ≤ a.length := D_lt (Nat.lt_of_le_of_lt (Nat.div_le_self _ _) (V_lt ha.dg))
  have l2 : (D (V a % V b)).length ≤ a.length := D_lt (Nat.lt_of_le_of_lt (Nat.mod_le _ _) (V_lt ha.dg))
  refine ev_neg (by omega) (Ev.bind (ref_QuoRem_ev ha hb (by omega) (by omega) h0) ?_)
  refine Ev.bind (same_true rfl (by show (D (V a / V b)).length < _; omega)) (ev_pos rfl ?_)
  refine Ev.bind (same_true rfl (by show (D (V a % V b)).length < _; omega)) (ev_pos rfl ?_)
  exact prods_j4 (by omega) (by omega) hp (by show (D (V a / V b)).length ≤ _; omega) (by show (D (V a % V b)).length ≤ _; omega)
theorem prods_j2 (ha : Nm a) (hb : Nm b) (la : a.length ≤ 4096) (lb : b.length ≤ 4096) {p : List Int} (hp : p.length ≤ 4096) : Ev (fun k => cutplanelaw01_NatProducts.j2 k a b a b p) true := by
  refine ev_step ?_
  simp only [cutplanelaw01_NatProducts.j2]
  by_cases c : (b.length : Int) > 1
  · refine ev_pos c (ev_bind (long_eq a 220) ?_)
    by_cases c2 : decide (a.length > 220) = true
    · exact ev_pos c2 (prods_j3 ha hb la lb hp true)
    · exact ev_neg c2 (ev_bind (long_eq b 220) (prods_j3 ha hb la lb hp _))
  · exact ev_neg c (prods_j3 ha hb la lb hp false)
theorem prods_j1_ok (ha : Nm a) (hb : Nm b) (la : a.length ≤ 4096) (lb : b.length ≤ 4096) : Ev (fun k => cutplanelaw01_NatProducts.j1 k a b a b (bound (V a * V b)).1 (bound (V a * V b)).2 false) true := by
  refine ev_step ?_
  simp only [cutplanelaw01_NatProducts.j1]
  refine ev_neg (by simp) (Ev.bind (ref_Mul_ev ha.dg hb.dg (by omega) (by omega)) ?_)
  have h2 := prods_j2 ha hb la lb (bound_fst_len (V a * V b))
  by_cases c2 : (D (V a * V b)).length > 4096
  · have e : bound (V a * V b) = ([], 3) := by unfold bound; rw [if_pos c2]
    rw [e] at h2 ⊢
    exact ev_pos (by omega) (ev_pos rfl (ev_pos rfl h2))
  · have e : bound (V a * V b) = (D (V a * V b), 0) := by unfold bound; rw [if_neg c2]
    rw [e] at h2 ⊢
    exact ev_neg (by omega) (Ev.bind (same_true rfl (by show (D (V a * V b)).length < _; omega)) (ev_pos rfl (ev_pos rfl h2)))
theorem prods_j1_bad (da : Dg a) (db : Dg b) (la : a.length ≤ 4100) (lb : b.length ≤ 4100) (h : (may a && may b) = false) : Ev (fun k => cutplanelaw01_NatProducts.j1 k a b a b [] 2 true) true := by
  refine ev_step ?_
  simp only [cutplanelaw01_NatProducts.j1]
  refine ev_pos trivial (Ev.bind (nat_QuoRem_bad da db (by omega) (by omega) h) ?_)
  exact ev_pos rfl (ev_pos trivial (ev_pos rfl (ev_pos rfl (ev_pos rfl known_some))))
theorem prods_j0 (da : Dg a) (db : Dg b) (la : a.length ≤ 4100) (lb : b.length ≤ 4100) (x : Bool) : Ev (fun k => cutplanelaw01_NatProducts.j0 k a b x) true := by
  refine ev_step ?_
  simp only [cutplanelaw01_NatProducts.j0]
  by_cases hx : x = true
  · exact ev_pos hx known_some
  refine ev_neg hx (ev_bind (lent_eq (by omega)) (ev_bind (lent_eq (by omega)) ?_))
  by_cases c : (may a && may b) = true
  · have c' := c
    simp only [Bool.and_eq_true] at c'
    have ha := may_iff.1 c'.1
    have hb := may_iff.1 c'.2
    refine Ev.bind (nat_Mul_ev ha.2 hb.2 ha.1 hb.1) (ev_bind (ref_May_eq da (by omega)) (ev_pos c'.1 (ev_bind (ref_May_eq db (by omega)) ?_)))
    rw [c'.2]
    exact prods_j1_ok ha.2 hb.2 ha.1 hb.1
  · have c' : (may a && may b) = false := by simpa using c
    refine Ev.bind (nat_Mul_bad da db (by omega) (by omega) c') (ev_bind (ref_May_eq da (by omega)) ?_)
    by_cases c1 : may a = true
    · have c2 : may b = false := by simpa [c1] using c'
      refine ev_pos c1 (ev_bind (ref_May_eq db (by omega)) ?_)
      rw [c2]
      exact prods_j1_bad da db la lb c'
    · exact ev_neg c1 (prods_j1_bad da db la lb c')
end
theorem NatProducts : cutplanelaw01_NatProducts.Pure := by
  intro a b _ _ wa _ _ wb
  have da := Dg.wf wa
  have db := Dg.wf wb
  have main : Ev (fun k => cutplanelaw01_NatProducts.f k a b) true := by
    unfold cutplanelaw01_NatProducts.f
    refine ev_bind (long_eq a 4100) ?_
    have known : Ev (fun k => cutplanelaw01_NatProducts.j0 k a b true) true := by
      refine ev_step ?_
      simp only [cutplanelaw01_NatProducts.j0]
      exact ev_pos trivial known_some
    by_cases c : decide (a.length > 4100) = true
    · exact ev_pos c known
    refine ev_neg c (ev_bind (long_eq b 4100) ?_)
    by_cases c2 : decide (b.length > 4100) = true
    · exact ev_pos c2 known
    · exact ev_neg c2 (prods_j0 da db (by simpa using c) (by simpa using c2) _)
  obtain ⟨k, hk⟩ := main
  exact ⟨k, hk k (Nat.le_refl _)⟩
end Go.Proofs.Ytldcelgbinenbaa.K
