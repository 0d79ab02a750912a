/- The first layer's whole root: Newton's step from above, till it does not fall. -/
import Derived.Test.YtldcelgbinenbaaDoorQNatShiftsKN12
set_option linter.unusedVariables false
set_option linter.unusedSimpArgs false
namespace Go.Proofs.YtldcelgbinenbaaDoor.K
open Go Go.RowKit Go.Proofs.YtldcelgbinenbaaDoor.Px Go.Proofs.YtldcelgbinenbaaDoorW.PrintWords Go.Proofs.YtldcelgbinenbaaDoorW.PrintLast Go.Proofs.YtldcelgbinenbaaDoorW.PrintMore

theorem nat_Len_ev {l : List Int} (h : Nm l) (hb : l.length ≤ 4096) : nat_Len.f l = some ((bl (V l) : Nat) : Int) := by
  unfold nat_Len.f
  rw [nat_May_eq h.dg (by omega), Option.bind_some, if_pos (may_iff.2 ⟨hb, h⟩)]
  by_cases c : l.length = 0
  · have : l = [] := List.eq_nil_of_length_eq_zero c
    subst this
    rfl
  · rw [if_neg (by omega)]
    have e : wrap64 ((l.length : Int) - 1) = ((l.length - 1 : Nat) : Int) := by unfold wrap64; omega
    rw [e]
    clear e
    have hd := h.dg.getD (l.length - 1)
    rw [if_pos nn, if_pos (by omega), rdn, len32_eq hd, Option.bind_some]
    have hne : l ≠ [] := fun e => c (by rw [e]; rfl)
    rw [bl_V h hne]
    generalize l.getD (l.length - 1) 0 = x at hd
    have hbn : bl x.toNat ≤ 32 := bl_le_of_lt (by omega)
    generalize bl x.toNat = y at hbn
    congr 1
    have e1 : wrap64 (32 * ((l.length - 1 : Nat) : Int)) = ((32 * (l.length - 1) : Nat) : Int) := by unfold wrap64; omega
    rw [e1]
    clear e1
    unfold wrap64
    omega
end Go.Proofs.YtldcelgbinenbaaDoor.K
