/- NatReads, of plain functions: the text of a number is read as the number, and a text that is read is the number's text. -/
import Derived.Test.YtldcelgbinenbaaQNatReadsKN9
set_option linter.unusedVariables false
set_option linter.unusedSimpArgs false
namespace Go.Proofs.Ytldcelgbinenbaa.K
open Go Go.RowKit Go.Proofs.Ytldcelgbinenbaa.Px Go.Proofs.YtldcelgbinenbaaW.PrintWords Go.Proofs.YtldcelgbinenbaaW.PrintLast Go.Proofs.YtldcelgbinenbaaW.PrintMore

theorem reads_j0_known (a : List Int) (s : ByteArray) : Ev (fun k => cutplanelaw01_NatReads.j0 k a s true) true := by
  refine ev_step ?_
  simp only [cutplanelaw01_NatReads.j0]
  exact ev_pos trivial known_some
theorem reads_j1 (s : ByteArray) (ls : s.size ≤ 6000) : Ev (fun k => cutplanelaw01_NatReads.j1 k s) true := by
  refine ev_step ?_
  simp only [cutplanelaw01_NatReads.j1]
  refine Ev.bind (nat_Parse_ev s (by omega)) ?_
  unfold parsed
  by_cases c : isT (bytesOf s) = true
  · rw [if_pos c]
    by_cases c2 : (D (pv (bytesOf s))).length > 4096
    · have e : bound (pv (bytesOf s)) = ([], 3) := by unfold bound; rw [if_pos c2]
      rw [e]
      exact ev_neg (by simp) (ev_pos rfl known_some)
    · have e : bound (pv (bytesOf s)) = (D (pv (bytesOf s)), 0) := by unfold bound; rw [if_neg c2]
      rw [e]
      refine ev_pos rfl (Ev.bind (nat_Text_ev (Nm_D _) (by show (D (pv (bytesOf s))).length ≤ 4096; omega)) (ev_pos rfl (ev_pos ?_ known_some)))
      show (strOfNums (txt (V (D (pv (bytesOf s)))))).toList = s.toList
      rw [V_D, txt_pv c, str_bs]
  · rw [if_neg c]
    exact ev_neg (by simp) (ev_pos rfl known_some)
theorem reads_j0 {a : List Int} (s : ByteArray) (da : Dg a) (la : a.length ≤ 600) (ls : s.size ≤ 6000) : Ev (fun k => cutplanelaw01_NatReads.j0 k a s false) true := by
  have j1 := reads_j1 s ls
  refine ev_step ?_
  simp only [cutplanelaw01_NatReads.j0]
  refine ev_neg (by simp) (ev_bind (nat_May_eq da (by omega)) ?_)
  by_cases c : may a = true
  · have ha := may_iff.1 c
    refine ev_pos c (ev_bind (lent_eq (by omega)) (Ev.bind (nat_Text_ev ha.2 ha.1) ?_))
    have hsz : (strOfNums (txt (V a))).size < 100000000 := by
      rw [strOfNums_size]
      have h1 := dcl_short (V a)
      have h2 := bl_list da
      unfold txt; split
      · simp
      · simp; omega
    refine Ev.bind (nat_Parse_ev _ hsz) ?_
    have e : parsed (bytesOf (strOfNums (txt (V a)))) = (a, 0) := by
      unfold parsed
      rw [bs_txt, isT_txt, if_pos rfl, pv_txt]
      unfold bound
      rw [ha.2, if_neg (by omega)]
    rw [e]
    exact ev_pos rfl (ev_pos rfl (Ev.bind (same_true rfl (by omega)) (ev_pos rfl j1)))
  · exact ev_neg c j1
theorem NatReads : cutplanelaw01_NatReads.Pure := by
  intro a s ma _ wa ms
  have da := Dg.wf wa
  refine Ev.rounds (?_ : Ev (fun k => cutplanelaw01_NatReads.f k a s) true)
  unfold cutplanelaw01_NatReads.f
  refine ev_bind (long_eq a 600) ?_
  by_cases h1 : a.length > 600
  · exact ev_pos (decide_eq_true h1) (reads_j0_known a s)
  refine ev_neg (by simpa using h1) ?_
  by_cases h2 : (s.size : Int) > 6000
  · rw [decide_eq_true h2]; exact reads_j0_known a s
  · rw [decide_eq_false h2]; exact reads_j0 s da (by omega) (by omega)
end Go.Proofs.Ytldcelgbinenbaa.K
