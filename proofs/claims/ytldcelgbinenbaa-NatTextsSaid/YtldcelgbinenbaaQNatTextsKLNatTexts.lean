/- NatTexts, of plain functions: the decimal text of any number, and what any text says, are the document's. -/
import Derived.Test.YtldcelgbinenbaaQNatTextsKN9
set_option linter.unusedVariables false
set_option linter.unusedSimpArgs false
namespace Go.Proofs.Ytldcelgbinenbaa.K
open Go Go.RowKit Go.Proofs.Ytldcelgbinenbaa.Px Go.Proofs.YtldcelgbinenbaaW.PrintWords Go.Proofs.YtldcelgbinenbaaW.PrintLast Go.Proofs.YtldcelgbinenbaaW.PrintMore

theorem texts_j0_known (a : List Int) (s : ByteArray) : Ev (fun k => cutplanelaw01_NatTexts.j0 k a s true) true := by
  refine ev_step ?_
  simp only [cutplanelaw01_NatTexts.j0]
  exact ev_pos trivial known_some
theorem parsed_len (l : List Int) : (parsed l).1.length ≤ 4096 := by
  unfold parsed; split
  · exact bound_fst_len _
  · simp
theorem bound_bad (n : Nat) : (bound n).2 ≠ 0 → (bound n).1 = [] := by
  unfold bound; split <;> simp
theorem parsed_bad (l : List Int) (h : (parsed l).2 ≠ 0) : (parsed l).1 = [] := by
  unfold parsed at h ⊢
  split
  · rename_i c; rw [if_pos c] at h; exact bound_bad _ h
  · rfl
theorem texts_j1 (a : List Int) (s : ByteArray) (la : a.length ≤ 4100) (ls : s.size ≤ 40000) : Ev (fun k => cutplanelaw01_NatTexts.j1 k a s a) true := by
  refine ev_step ?_
  simp only [cutplanelaw01_NatTexts.j1]
  have hl := parsed_len (bytesOf s)
  refine Ev.bind (nat_Parse_ev s (by omega)) (Ev.bind (ref_Parse_ev s (by omega)) (ev_pos rfl ?_))
  have tail : Ev (fun k => (cutplaneref01_Same.f k a a).bind fun t => if t = true then (cutplanelaw01_known.f k).bind fun t2 => some t2 else some false) true :=
    Ev.bind (same_true rfl (by omega)) (ev_pos rfl known_some)
  by_cases c : (parsed (bytesOf s)).2 = 0
  · exact ev_pos c (Ev.bind (same_true rfl (by omega)) (ev_pos rfl tail))
  · refine ev_neg c (ev_pos ?_ tail)
    rw [parsed_bad _ c]; rfl
theorem texts_j0 {a : List Int} (s : ByteArray) (da : Dg a) (la : a.length ≤ 4100) (ls : s.size ≤ 40000) : Ev (fun k => cutplanelaw01_NatTexts.j0 k a s false) true := by
  have j1 := texts_j1 a s la ls
  refine ev_step ?_
  simp only [cutplanelaw01_NatTexts.j0]
  refine ev_neg (by simp) (ev_bind (lent_eq (by omega)) ?_)
  by_cases c : may a = true
  · have ha := may_iff.1 c
    refine Ev.bind (nat_Text_ev ha.2 ha.1) (ev_bind (ref_May_eq da (by omega)) (ev_pos c ?_))
    exact Ev.bind (ref_Text_ev ha.2 ha.1) (ev_pos rfl (ev_pos rfl j1))
  · have c' : may a = false := by simpa using c
    refine Ev.bind (nat_Text_bad da (by omega) c') (ev_bind (ref_May_eq da (by omega)) (ev_neg c ?_))
    exact ev_pos (by rw [toList_nil]; rfl) (ev_pos rfl j1)
theorem NatTexts : cutplanelaw01_NatTexts.Pure := by
  intro a s ma _ wa ms
  have da := Dg.wf wa
  refine Ev.rounds (?_ : Ev (fun k => cutplanelaw01_NatTexts.f k a s) true)
  unfold cutplanelaw01_NatTexts.f
  refine ev_bind (long_eq a 4100) ?_
  by_cases h1 : a.length > 4100
  · exact ev_pos (decide_eq_true h1) (texts_j0_known a s)
  refine ev_neg (by simpa using h1) ?_
  by_cases h2 : (s.size : Int) > 40000
  · rw [decide_eq_true h2]; exact texts_j0_known a s
  · rw [decide_eq_false h2]; exact texts_j0 s da (by omega) (by omega)
end Go.Proofs.Ytldcelgbinenbaa.K
