/- NatRoots, of plain functions: the whole root of any number, and whether it is exact, are the document's. -/
import Derived.Test.YtldcelgbinenbaaQNatRootsKN21
set_option linter.unusedVariables false
set_option linter.unusedSimpArgs false
namespace Go.Proofs.Ytldcelgbinenbaa.K
open Go.RowKit Go.Proofs.Ytldcelgbinenbaa.Px Go.Proofs.YtldcelgbinenbaaW.PrintWords Go.Proofs.YtldcelgbinenbaaW.PrintLast Go.Proofs.YtldcelgbinenbaaW.PrintMore

theorem NatRoots : cutplanelaw01_NatRoots.Pure := by
  intro a _ la wa
  have da := Dg.wf wa
  have main : Ev (fun k => cutplanelaw01_NatRoots.f k a) true := by
    unfold cutplanelaw01_NatRoots.f
    refine ev_bind (long_eq a 130) ?_
    by_cases c : decide (a.length > 130) = true
    · exact ev_pos c known_some
    have l1 : a.length ≤ 130 := by simpa using c
    refine ev_neg c (ev_bind (lent_eq (by omega)) ?_)
    by_cases h1 : may a = true
    · have hn := (may_iff.1 h1).2
      have hr := nat_Root_ev hn (by omega)
      have hlr : (rootR (V a)).1.length ≤ 130 := rt_len (n := V a) (L := 130) (by rw [hn.len]; exact l1)
      refine Ev.bind hr (ev_bind (ref_May_eq da (by omega)) (ev_pos h1 (Ev.bind (ref_Root_ev hn (by omega)) ?_)))
      refine Ev.bind (same_true rfl (by show (rootR (V a)).1.length < _; omega)) (ev_pos rfl (ev_pos (by simp) (ev_pos rfl ?_)))
      exact Ev.bind (same_true rfl (by omega)) (ev_pos rfl known_some)
    · have h2 : may a = false := by simpa using h1
      refine Ev.bind (nat_Root_bad da (by omega) h2) (ev_bind (ref_May_eq da (by omega)) (ev_neg h1 ?_))
      exact ev_pos rfl (ev_neg (by simp) (ev_pos rfl known_some))
  obtain ⟨k, hk⟩ := main
  exact ⟨k, hk k (Nat.le_refl _)⟩
end Go.Proofs.Ytldcelgbinenbaa.K
