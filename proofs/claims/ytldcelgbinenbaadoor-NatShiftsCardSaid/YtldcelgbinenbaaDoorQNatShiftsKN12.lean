/- The first layer's reference: quotients bit by bit. -/
import Derived.Test.YtldcelgbinenbaaDoorQNatShiftsKN11
set_option linter.unusedVariables false
set_option linter.unusedSimpArgs false
namespace Go.Proofs.YtldcelgbinenbaaDoor.K
open Go Go.RowKit Go.Proofs.YtldcelgbinenbaaDoor.Px Go.Proofs.YtldcelgbinenbaaDoorW.PrintWords Go.Proofs.YtldcelgbinenbaaDoorW.PrintLast Go.Proofs.YtldcelgbinenbaaDoorW.PrintMore

theorem D_lt {n k : Nat} (h : n < 4294967296 ^ k) : (D n).length ≤ k := by
  rcases Nat.lt_or_ge k (D n).length with h1 | h1
  · have h2 := D_len_pos (Nm_D n) (by intro e; rw [e] at h1; simp at h1)
    rw [V_D] at h2
    have h3 : 4294967296 ^ k ≤ 4294967296 ^ ((D n).length - 1) := Nat.pow_le_pow_right (by omega) (by omega)
    omega
  · exact h1
theorem rdown_l0 (A : List Int) (hA : Dg A) (hl : A.length < 1000000000) (b : Bool) {s : Nat} (hs : s < 32) : ∀ (a done pa : List Int), A = pa ++ a → done.length + a.length < 1000000000 → Dg done →
    Ev (fun k => cutplaneref01_Down.l0 k A b done s pa.length) (D (V (done ++ downRec s a)), b)
  | [], done, pa, he, hd, hg => by
    have hlen : A.length = pa.length := by rw [he]; simp
    refine ev_step ?_
    simp only [cutplaneref01_Down.l0]
    refine ev_neg (by omega) ?_
    simp only [downRec, List.append_nil]
    exact Ev.bind (ref_Trim_ev hg (by simp at hd; omega)) (Ev.now _)
  | d :: a, done, pa, he, hd, hg => by
    have hlen : A.length = pa.length + 1 + a.length := by rw [he]; simp; omega
    have hdd : 0 ≤ d ∧ d < 4294967296 := by rw [he] at hA; exact hA.right.head
    obtain ⟨X, rfl⟩ := Int.eq_ofNat_of_zero_le hdd.1
    have hX : X < 4294967296 := by omega
    have h1 : rd A (pa.length : Int) = (X : Int) := by rw [he]; exact rd_app rfl
    have hg2 : Dg (a) := by rw [he] at hA; exact hA.right.tail
    have hy := hg2.headD
    have ih := rdown_l0 A hA hl b hs a (done ++ [((X / 2 ^ s + 2 ^ (32 - s) * ((a.headD 0).toNat % 2 ^ s) : Nat) : Int)]) (pa ++ [(X : Int)]) (by rw [he]; simp) (by simp at hd ⊢; omega)
      (hg.app (Dg.cons nn (lt_cast (down_lt X (a.headD 0).toNat s hs hX)) Dg.nil))
    rw [@List.length_append _ pa, List.length_singleton] at ih
    have hXs : X / 2 ^ s ≤ X := Nat.div_le_self _ _
    have e0 : ((X / 2 ^ s : Nat) : Int) % 4294967296 = ((X / 2 ^ s : Nat) : Int) := by
      generalize X / 2 ^ s = z at *; omega
    refine ev_step ?_
    simp only [cutplaneref01_Down.l0, h1, w64s (n := pa.length) (by omega)]
    refine ev_pos (by omega) (ev_pos (by omega) (ev_pos nn ?_))
    by_cases hn : a = []
    · subst hn
      refine ev_neg (by simp at hlen; omega) (ev_pos (by simp at hd; omega) ?_)
      rw [wrap_u64n _ hX, shr_n _ _ (by simp [IntKind.bits]; omega), e0]
      refine ev_eq (by simpa [downRec] using ih) ?_
      simp [downRec]
    · obtain ⟨y, a', rfl⟩ := List.exists_cons_of_ne_nil hn
      obtain ⟨Y, rfl⟩ := Int.eq_ofNat_of_zero_le hy.1
      simp only [List.headD_cons] at hy ih
      have h2 : rd A ((pa.length + 1 : Nat) : Int) = (Y : Int) := by rw [he, show pa ++ (X : Int) :: (Y : Int) :: a' = (pa ++ [(X : Int)]) ++ (Y : Int) :: a' by simp]; exact rd_app (by simp)
      simp only [h2, rdown_digit X Y s hs hX (by omega)]
      refine ev_pos (by simp at hlen; omega) (ev_pos nn (ev_pos (by rw [w32s (by omega)]; exact nn) (ev_pos (by simp at hd; omega) ?_)))
      rw [Int.toNat_natCast] at ih
      refine ev_eq ih ?_
      simp [downRec]
/-! ### quotients -/
end Go.Proofs.YtldcelgbinenbaaDoor.K
