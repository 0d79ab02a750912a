/- NatSums, of plain functions: which lists are numbers, how they are told as words, which is above which, their sums and differences are the document's. -/
import Derived.Test.YtldcelgbinenbaaQNatSumsKN4
set_option linter.unusedVariables false
set_option linter.unusedSimpArgs false
namespace Go.Proofs.Ytldcelgbinenbaa.K
open Go.RowKit Go.Proofs.Ytldcelgbinenbaa.Px Go.Proofs.YtldcelgbinenbaaW.PrintWords Go.Proofs.YtldcelgbinenbaaW.PrintLast Go.Proofs.YtldcelgbinenbaaW.PrintMore

section
variable {a b : List Int}
theorem sums_j8 (la : a.length ≤ 4100) (lb : b.length ≤ 4100) {s d : List Int} (hs : s.length ≤ 4096) (hd : d.length ≤ 10000) : Ev (fun k => cutplanelaw01_NatSums.j8 k a b a b s d true) true := by
  refine ev_step ?_
  simp only [cutplanelaw01_NatSums.j8]
  obtain ⟨r1, h1⟩ := marked_ev (l := s) (by omega)
  obtain ⟨r2, h2⟩ := marked_ev (l := d) (by omega)
  refine Ev.bind h1 (Ev.bind h2 (ev_pos trivial ?_))
  refine Ev.bind (same_true rfl (by omega)) (ev_pos rfl ?_)
  exact Ev.bind (same_true rfl (by omega)) (ev_pos rfl known_some)
theorem sums_j7 (da : Dg a) (db : Dg b) (la : a.length ≤ 4100) (lb : b.length ≤ 4100) (ha : Nm a) (hb : Nm b) : Ev (fun k => cutplanelaw01_NatSums.j7 k a b a b (bound (V a + V b)).1 (subR (V a) (V b)).1 (subR (V a) (V b)).2) true := by
  refine ev_step ?_
  simp only [cutplanelaw01_NatSums.j7]
  refine Ev.bind (ref_Cmp_ev ha hb (by omega)) ?_
  unfold subR
  by_cases c : V a < V b
  · rw [if_pos c]
    refine ev_pos ?_ (ev_pos rfl (ev_pos rfl known_some))
    unfold cmpN; rw [if_pos c]; decide
  · rw [if_neg c]
    refine ev_neg ?_ ?_
    · unfold cmpN; rw [if_neg c]; split <;> decide
    · have hl : (D (V a - V b)).length ≤ a.length := by
        have := D_len_mono (Nat.sub_le (V a) (V b)); rwa [ha.len] at this
      refine Ev.bind (ref_Sub_ev ha hb (by omega) (by omega)) ?_
      refine Ev.bind (same_true rfl (by show (D (V a - V b)).length < _; omega)) (ev_pos rfl ?_)
      exact sums_j8 la lb (bound_fst_len _) (by show (D (V a - V b)).length ≤ _; omega)
theorem sums_j5 (da : Dg a) (db : Dg b) (la : a.length ≤ 4100) (lb : b.length ≤ 4100) : Ev (fun k => cutplanelaw01_NatSums.j5 k a b a b (if may a && may b then cmpN (V a) (V b) else 0) (if may a && may b then 0 else 2) (if may a && may b then bound (V a + V b) else ([], 2)).1 (if may a && may b then bound (V a + V b) else ([], 2)).2 (if may a && may b then (subR (V a) (V b)) else ([], 2)).1 (if may a && may b then (subR (V a) (V b)) else ([], 2)).2 (!(may a && may b))) true := by
  refine ev_step ?_
  simp only [cutplanelaw01_NatSums.j5]
  by_cases c : (may a && may b) = true
  · simp only [c, if_true]
    refine ev_neg (by simp) ?_
    simp only [Bool.and_eq_true] at c
    have ha := may_iff.1 c.1
    have hb := may_iff.1 c.2
    refine Ev.bind (ref_Cmp_ev ha.2 hb.2 (by omega)) (ev_pos rfl ?_)
    refine ev_step ?_
    simp only [cutplanelaw01_NatSums.j6]
    refine ev_neg (by simp) ?_
    refine Ev.bind (ref_Add_ev da db (by omega) (by omega)) ?_
    by_cases c2 : (D (V a + V b)).length > 4096
    · refine ev_pos (by omega) ?_
      have e : bound (V a + V b) = ([], 3) := by unfold bound; rw [if_pos c2]
      have := sums_j7 da db la lb ha.2 hb.2
      rw [e] at this ⊢
      exact ev_pos rfl (ev_pos rfl this)
    · refine ev_neg (by omega) ?_
      have e : bound (V a + V b) = (D (V a + V b), 0) := by unfold bound; rw [if_neg c2]
      have := sums_j7 da db la lb ha.2 hb.2
      rw [e] at this ⊢
      exact Ev.bind (same_true rfl (by show (D (V a + V b)).length < _; omega)) (ev_pos rfl (ev_pos rfl this))
  · have c' : (may a && may b) = false := by simpa using c
    simp only [c', Bool.false_eq_true, if_false]
    refine ev_pos (by simp) ?_
    exact ev_pos trivial (ev_pos trivial (ev_pos rfl (ev_pos trivial (ev_pos rfl (ev_pos trivial known_some)))))
theorem sums_j3 (da : Dg a) (db : Dg b) (la : a.length ≤ 4100) (lb : b.length ≤ 4100) : Ev (fun k => cutplanelaw01_NatSums.j3 k a b a b false) true := by
  refine ev_step ?_
  simp only [cutplanelaw01_NatSums.j3]
  refine ev_neg (by simp) ?_
  have last : Ev (fun k => cutplanelaw01_NatSums.j4 k a b a b (if may a && may b then cmpN (V a) (V b) else 0) (if may a && may b then 0 else 2) (if may a && may b then bound (V a + V b) else ([], 2)).1 (if may a && may b then bound (V a + V b) else ([], 2)).2 (if may a && may b then (subR (V a) (V b)) else ([], 2)).1 (if may a && may b then (subR (V a) (V b)) else ([], 2)).2 (!true)) true := by
    refine ev_step ?_
    simp only [cutplanelaw01_NatSums.j4]
    refine ev_neg (by simp) (ev_bind (ref_May_eq da (by omega)) ?_)
    have h5 := sums_j5 da db la lb
    by_cases c : may a = true
    · refine ev_pos c (ev_bind (ref_May_eq db (by omega)) ?_)
      simpa [c] using h5
    · have c' : may a = false := by simpa using c
      refine ev_neg c ?_
      simpa [c'] using h5
  have fin : ∀ (p : Int × Int) (q r : List Int × Int), p = (if may a && may b then cmpN (V a) (V b) else 0, if may a && may b then 0 else 2) → q = (if may a && may b then bound (V a + V b) else ([], 2)) → r = (if may a && may b then (subR (V a) (V b)) else ([], 2)) →
      Ev (fun k => (cutplaneref01_Same.f k a a).bind fun t => if t = true then (cutplaneref01_Same.f k b b).bind fun t2 => cutplanelaw01_NatSums.j4 k a b a b p.1 p.2 q.1 q.2 r.1 r.2 (!t2) else cutplanelaw01_NatSums.j4 k a b a b p.1 p.2 q.1 q.2 r.1 r.2 true) true := by
    rintro p q r rfl rfl rfl
    refine Ev.bind (same_true rfl (by omega)) (ev_pos rfl ?_)
    exact Ev.bind (same_true rfl (by omega)) last
  by_cases c : (may a && may b) = true
  · have c' := c
    simp only [Bool.and_eq_true] at c'
    have ha := may_iff.1 c'.1
    have hb := may_iff.1 c'.2
    refine Ev.bind (nat_Cmp_ev ha.2 hb.2 ha.1 hb.1) (Ev.bind (nat_Add_ev ha.2 hb.2 ha.1 hb.1) (Ev.bind (nat_Sub_ev ha.2 hb.2 ha.1 hb.1) ?_))
    exact fin _ _ _ (by simp [c]) (by simp [c]) (by simp [c])
  · have c' : (may a && may b) = false := by simpa using c
    refine Ev.bind (nat_Cmp_bad da db (by omega) (by omega) c') (Ev.bind (nat_Add_bad da db (by omega) (by omega) c') (Ev.bind (nat_Sub_bad da db (by omega) (by omega) c') ?_))
    exact fin _ _ _ (by simp [c']) (by simp [c']) (by simp [c'])
theorem sums_j1 (da : Dg a) (db : Dg b) (la : a.length ≤ 4100) (lb : b.length ≤ 4100) : Ev (fun k => cutplanelaw01_NatSums.j1 k a b a b false) true := by
  have h3 := sums_j3 da db la lb
  refine ev_step ?_
  simp only [cutplanelaw01_NatSums.j1]
  refine ev_neg (by simp) (Ev.bind (nat_Num_ev da (by omega)) (ev_bind (ref_May_eq da (by omega)) ?_))
  have j2 : Ev (fun k => cutplanelaw01_NatSums.j2 k a b a b (if numB a then ((V a : Nat) : Int) else 0) (numB a) (numB a)) true := by
    refine ev_step ?_
    simp only [cutplanelaw01_NatSums.j2]
    refine ev_neg (by simp) ?_
    by_cases c : numB a = true
    · simp only [c, if_true]
      have hn := c
      simp only [numB, Bool.and_eq_true, decide_eq_true_eq] at hn
      have ha := may_iff.1 hn.1
      have hv : V a < 4294967296 ^ 2 := V_bd da hn.2
      have e : D ((V a : Nat) : Int).toNat = a := ha.2
      refine Ev.bind (ref_Of_ev (by omega) (by omega)) ?_
      have : (D ((V a : Nat) : Int).toNat).length < 4611686018427387904 := by rw [e]; omega
      exact Ev.bind (same_true e this) (ev_pos rfl h3)
    · have c' : numB a = false := by simpa using c
      simp only [c', Bool.false_eq_true, if_false]
      exact h3
  by_cases c : may a = true
  · refine ev_pos c ?_
    have e : decide ((a.length : Int) ≤ 2) = numB a := by
      unfold numB; rw [c, Bool.true_and]; exact decide_eq_decide.2 (by omega)
    rw [e]; exact j2
  · refine ev_neg c ?_
    have e : numB a = false := by unfold numB; simp [show may a = false by simpa using c]
    rw [e] at j2 ⊢
    exact j2
theorem sums_j0 (da : Dg a) (db : Dg b) (la : a.length ≤ 4100) (lb : b.length ≤ 4100) (n : Int) (hn : 0 ≤ n ∧ n < 18446744073709551616) : Ev (fun k => cutplanelaw01_NatSums.j0 k a b n false) true := by
  refine ev_step ?_
  simp only [cutplanelaw01_NatSums.j0]
  refine ev_neg (by simp) (ev_bind (lent_eq (by omega)) (ev_bind (lent_eq (by omega)) ?_))
  refine ev_bind (nat_May_eq da (by omega)) (ev_bind (ref_May_eq da (by omega)) (ev_neg (by simp) ?_))
  refine Ev.bind (nat_Of_ev hn.1 hn.2) (Ev.bind (ref_Of_ev hn.1 hn.2) ?_)
  have : (D n.toNat).length ≤ 2 := D_len_lt (by omega)
  exact Ev.bind (same_true rfl (by omega)) (sums_j1 da db la lb)
end
theorem sums_j0_known (a b : List Int) (n : Int) : Ev (fun k => cutplanelaw01_NatSums.j0 k a b n true) true := by
  refine ev_step ?_
  simp only [cutplanelaw01_NatSums.j0]
  exact ev_pos trivial known_some
theorem NatSums : cutplanelaw01_NatSums.Pure := by
  intro a b n ma _ wa mb _ wb wn
  have da := Dg.wf wa
  have db := Dg.wf wb
  have hn := wf_u64 wn
  refine Ev.rounds (?_ : Ev (fun k => cutplanelaw01_NatSums.f k a b n) true)
  unfold cutplanelaw01_NatSums.f
  refine ev_bind (long_eq a 4100) ?_
  by_cases h1 : a.length > 4100
  · exact ev_pos (decide_eq_true h1) (sums_j0_known a b n)
  refine ev_neg (by simpa using h1) (ev_bind (long_eq b 4100) ?_)
  by_cases h2 : b.length > 4100
  · rw [decide_eq_true h2]; exact sums_j0_known a b n
  · rw [decide_eq_false h2]; exact sums_j0 da db (by omega) (by omega) n hn
end Go.Proofs.Ytldcelgbinenbaa.K
