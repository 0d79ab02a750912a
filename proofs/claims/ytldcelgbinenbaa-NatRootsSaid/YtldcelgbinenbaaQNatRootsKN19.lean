/- The first layer's QuoRem. -/
import Derived.Test.YtldcelgbinenbaaQNatRootsKN18
set_option linter.unusedVariables false
set_option linter.unusedSimpArgs false
namespace Go.Proofs.Ytldcelgbinenbaa.K
open Go Go.RowKit Go.Proofs.Ytldcelgbinenbaa.Px Go.Proofs.YtldcelgbinenbaaW.PrintWords Go.Proofs.YtldcelgbinenbaaW.PrintLast Go.Proofs.YtldcelgbinenbaaW.PrintMore

def quoR (m n : Nat) : List Int × List Int × Int := if n = 0 then ([], [], 11) else (D (m / n), D (m % n), 0)
theorem cmpN_lt {m n : Nat} : (cmpN m n < 0) ↔ m < n := by
  have := cmpN_ge (m := m) (n := n)
  constructor <;> intro h <;> omega
theorem Nm_len_le {a b : List Int} (ha : Nm a) (hb : Nm b) (h : V b ≤ V a) : b.length ≤ a.length := by
  have h1 := D_lt (Nat.lt_of_le_of_lt h (V_lt ha.dg))
  rwa [hb] at h1
theorem nat_QuoRem_ev {a b : List Int} (ha : Nm a) (hb : Nm b) (la : a.length ≤ 4096) (lb : b.length ≤ 4096) : Ev (fun k => nat_QuoRem.f k a b) (quoR (V a) (V b)) := by
  have hall := all2_ev ha.dg hb.dg (by omega) (by omega)
  rw [may_iff.2 ⟨la, ha⟩, may_iff.2 ⟨lb, hb⟩] at hall
  unfold nat_QuoRem.f quoR
  refine Ev.bind hall (ev_pos rfl ?_)
  by_cases h0 : b = []
  · subst h0
    exact ev_pos (by simp) (ev_eq (Ev.now _) (by simp))
  have hb0 := V_pos hb h0
  have hlp : 0 < b.length := List.length_pos_iff.2 h0
  rw [if_neg hb0]
  refine ev_neg (by omega) (Ev.bind (nat_cmp_ev ha hb (by omega)) ?_)
  by_cases hc : V a < V b
  · refine ev_pos (cmpN_lt.2 hc) (ev_pos (by simp; omega) (ev_eq (Ev.now _) ?_))
    rw [Nat.div_eq_of_lt hc, Nat.mod_eq_of_lt hc, D_zero, ha]; rfl
  refine ev_neg (fun h => hc (cmpN_lt.1 h)) ?_
  by_cases h1 : b.length = 1
  · obtain ⟨d, rfl⟩ := List.length_eq_one_iff.1 h1
    have hd := hb.dg.head
    have hdne : d ≠ 0 := by simp at hb0; omega
    have h4 : rd [d] 0 = d := by simp [rd]
    have h5 : V [d] = d.toNat := by simp
    rw [h4, h5]
    refine ev_pos (by simp) (ev_pos (by simp) (Ev.bind (nat_small_ev ha.dg (by omega) (d := d) (by omega)) ?_))
    have hm : V a % d.toNat < d.toNat := Nat.mod_lt _ (by omega)
    refine Ev.bind (nat_trim_ev (Dg.cons nn (lt_cast (by omega)) Dg.nil) (by simp)) (ev_eq (Ev.now _) ?_)
    simp only [V_cons, V_nil, Int.toNat_natCast, Nat.mul_zero, Nat.add_zero]
  · refine ev_neg (by omega) (Ev.bind (nat_long_ev ha hb la (Nm_len_le ha hb (by omega)) (by omega)) (Ev.now _))
end Go.Proofs.Ytldcelgbinenbaa.K
