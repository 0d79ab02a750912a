/- The first layer's statements: what they share. -/
import Derived.Test.YtldcelgbinenbaaQNatProductsKN3
set_option linter.unusedVariables false
set_option linter.unusedSimpArgs false
namespace Go.Proofs.Ytldcelgbinenbaa.K
open Go.RowKit Go.Proofs.Ytldcelgbinenbaa.Px Go.Proofs.YtldcelgbinenbaaW.PrintWords Go.Proofs.YtldcelgbinenbaaW.PrintLast Go.Proofs.YtldcelgbinenbaaW.PrintMore

theorem known_some : Ev (fun k => (cutplanelaw01_known.f k).bind fun t => some t) true := Ev.bind known_ev (Ev.now _)
theorem long_eq (l : List Int) (n : Nat) : cutplanelaw01_long.f l n = some (decide (l.length > n)) := by
  unfold cutplanelaw01_long.f
  congr 1
  exact decide_eq_decide.2 (by omega)
theorem V_bd {l : List Int} (h : Dg l) {n : Nat} (hn : l.length ≤ n) : V l < 4294967296 ^ n := Nat.lt_of_lt_of_le (V_lt h) (Nat.pow_le_pow_right (by omega) hn)
theorem same_true {x y : List Int} (h : x = y) (hb : x.length < 4611686018427387904) : Ev (fun k => cutplaneref01_Same.f k x y) true := by
  have := ref_Same_ev x y hb
  rwa [decide_eq_true h] at this
theorem lent_eq {l : List Int} (h : l.length < 35184372088832) : cutplanelaw01_lent.f l = some l := by
  unfold cutplanelaw01_lent.f
  simp [h]
theorem marked_l0 : ∀ (d : Nat) (l : List Int) (n : Nat), n + d = l.length → l.length < 4611686018427387904 → ∃ r, Ev (fun k => cutplanelaw01_marked.l0 k l n) r
  | 0, l, n, h, hb => ⟨l, by
    refine ev_step ?_
    simp only [cutplanelaw01_marked.l0]
    exact ev_neg (by omega) (Ev.now _)⟩
  | d + 1, l, n, h, hb => by
    obtain ⟨r, hr⟩ := marked_l0 d (l.set n 77) (n + 1) (by simp; omega) (by simpa using hb)
    refine ⟨r, ev_step ?_⟩
    simp only [cutplanelaw01_marked.l0, w64s (n := n) (by omega), Int.toNat_natCast]
    exact ev_pos (by omega) (ev_pos (by omega) hr)
theorem marked_ev {l : List Int} (h : l.length < 4611686018427387904) : ∃ r, Ev (fun k => cutplanelaw01_marked.f k l) r := marked_l0 l.length l 0 (by omega) h
theorem bound_fst_len (n : Nat) : (bound n).1.length ≤ 4096 := by
  unfold bound; split
  · simp
  · simp; omega

/-! ### a number's value as a word -/
end Go.Proofs.Ytldcelgbinenbaa.K
