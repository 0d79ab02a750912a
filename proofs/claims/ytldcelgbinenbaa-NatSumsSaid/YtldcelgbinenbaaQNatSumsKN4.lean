/- The first layer's statements: what they share. -/
import Derived.Test.YtldcelgbinenbaaQNatSumsKN3
set_option linter.unusedVariables false
set_option linter.unusedSimpArgs false
namespace Go.Proofs.Ytldcelgbinenbaa.K
open Go.RowKit Go.Proofs.Ytldcelgbinenbaa.Px Go.Proofs.YtldcelgbinenbaaW.PrintWords Go.Proofs.YtldcelgbinenbaaW.PrintLast Go.Proofs.YtldcelgbinenbaaW.PrintMore

theorem known_some : Ev (fun k => (cutplanelaw01_known.f k).bind fun t => some t) true := Ev.bind known_ev (Ev.now _)
theorem long_eq (l : List Int) (n : Nat) : cutplanelaw01_long.f l n = some (decide (l.length > n)) := by
  unfold cutplanelaw01_long.f
  congr 1
  exact decide_eq_decide.2 (by omega)
theorem V_bd {l : List Int} (h : Dg l) {n : Nat} (hn : l.length ≤ n) : V l < 4294967296 ^ n := Nat.lt_of_lt_of_le (V_lt h) (Nat.pow_le_pow_right (by omega) hn)
theorem same_true {x y : List Int} (h : x = y) (hb : x.length < 4611686018427387904) : Ev (fun k => cutplaneref01_Same.f k x y) true := by
  have := ref_Same_ev x y hb
  rwa [decide_eq_true h] at this
theorem lent_eq {l : List Int} (h : l.length < 35184372088832) : cutplanelaw01_lent.f l = some l := by
  unfold cutplanelaw01_lent.f
  simp [h]
theorem marked_l0 : ∀ (d : Nat) (l : List Int) (n : Nat), n + d = l.length → l.length < 4611686018427387904 → ∃ r, Ev (fun k => cutplanelaw01_marked.l0 k l n) r
  | 0, l, n, h, hb => ⟨l, by
    refine ev_step ?_
    simp only [cutplanelaw01_marked.l0]
    exact ev_neg (by omega) (Ev.now _)⟩
  | d + 1, l, n, h, hb => by
    obtain ⟨r, hr⟩ := marked_l0 d (l.set n 77) (n + 1) (by simp; omega) (by simpa using hb)
    refine ⟨r, ev_step ?_⟩
    simp only [cutplanelaw01_marked.l0, w64s (n := n) (by omega), Int.toNat_natCast]
    exact ev_pos (by omega) (ev_pos (by omega) hr)
theorem marked_ev {l : List Int} (h : l.length < 4611686018427387904) : ∃ r, Ev (fun k => cutplanelaw01_marked.f k l) r := marked_l0 l.length l 0 (by omega) h
theorem wf_u64 {n : Int} (h : (Lit.int .u64 n).wf = true) : 0 ≤ n ∧ n < 18446744073709551616 := by
  simp [Lit.wf, IntKind.min, IntKind.max, IntKind.signed, IntKind.bits] at h; omega
theorem bound_fst_len (n : Nat) : (bound n).1.length ≤ 4096 := by
  unfold bound; split
  · simp
  · simp; omega

/-! ### a number's value as a word -/
theorem or_u64_disjoint {x y : Int} (h0 : 0 ≤ x ∧ x < 4294967296) (h1 : 0 ≤ y ∧ y < 4294967296) : Go.bits .or .u64 x (y * 4294967296) = x + y * 4294967296 := by
  obtain ⟨X, rfl⟩ := Int.eq_ofNat_of_zero_le h0.1
  obtain ⟨Y, rfl⟩ := Int.eq_ofNat_of_zero_le h1.1
  have e : (Y : Int) * 4294967296 = ((2 ^ 32 * Y : Nat) : Int) := by omega
  rw [e, u64_or_nat _ _ (by omega) (by omega), Nat.or_comm, ← Nat.two_pow_add_eq_or_of_lt (by omega)]
  omega
theorem shl_zero {d : Int} (h : 0 ≤ d ∧ d < 4294967296) : shl .u64 d 0 = d := by
  unfold shl; simp; exact u64 h.1 (by omega)
theorem shl_32 {d : Int} (h : 0 ≤ d ∧ d < 4294967296) : shl .u64 d 32 = d * 4294967296 := by
  unfold shl
  have e : min (32 : Int).toNat IntKind.u64.bits = 32 := by decide
  rw [e, show (2 : Int) ^ 32 = 4294967296 from rfl, u64 (by omega) (by omega)]
def numB (l : List Int) : Bool := may l && decide (l.length ≤ 2)
theorem nat_Num_ev {l : List Int} (h : Dg l) (hb : l.length < 4611686018427387904) : Ev (fun k => nat_Num.f k l) (if numB l then ((V l : Nat) : Int) else 0, numB l) := by
  unfold nat_Num.f
  refine ev_bind (nat_May_eq h hb) ?_
  have no : numB l = false → Ev (fun k => nat_Num.j0 k l true) (if numB l then ((V l : Nat) : Int) else 0, numB l) := by
    intro e
    rw [e]
    refine ev_step ?_
    simp only [nat_Num.j0]
    exact ev_pos trivial (Ev.now _)
  by_cases c1 : may l = true
  · refine ev_pos c1 ?_
    by_cases c2 : l.length > 2
    · rw [show decide ((l.length : Int) > 2) = true from decide_eq_true (by omega)]
      exact no (by unfold numB; rw [decide_eq_false (by omega)]; simp)
    · rw [show decide ((l.length : Int) > 2) = false from decide_eq_false (by omega)]
      have e : numB l = true := by unfold numB; rw [c1, decide_eq_true (by omega)]; rfl
      rw [e]
      refine ev_step ?_
      simp only [nat_Num.j0]
      refine ev_neg (by simp) ?_
      have w0 : wrap64 (32 * 0) = 0 := by unfold wrap64; omega
      have w1 : wrap64 (0 + 1) = 1 := by unfold wrap64; omega
      have w2 : wrap64 (32 * 1) = 32 := by unfold wrap64; omega
      have w3 : wrap64 (1 + 1) = 2 := by unfold wrap64; omega
      match l, h with
      | [], h =>
        refine ev_step ?_
        simp only [nat_Num.l0]
        exact ev_neg (by simp) (Ev.now _)
      | [x], h =>
        have hx := h.head
        refine ev_step ?_
        simp only [nat_Num.l0, w0, w1]
        refine ev_pos (by simp) (ev_pos (by omega) (ev_pos (by simp) (ev_pos (by omega) ?_)))
        have r0 : rd [x] 0 = x := rfl
        rw [r0, u64 hx.1 (by omega), shl_zero hx, u64_or _ _ (by omega) (by omega) (by omega) (by omega)]
        refine ev_step ?_
        simp only [nat_Num.l0]
        refine ev_neg (by simp) (ev_eq (Ev.now _) ?_)
        simp
      | [x, y], h =>
        have hx := h.head
        have hy := h.tail.head
        refine ev_step ?_
        simp only [nat_Num.l0, w0, w1]
        refine ev_pos (by simp) (ev_pos (by omega) (ev_pos (by simp) (ev_pos (by omega) ?_)))
        have r0 : rd [x, y] 0 = x := rfl
        have r1 : rd [x, y] 1 = y := rfl
        rw [r0, u64 hx.1 (by omega), shl_zero hx, u64_or _ _ (by omega) (by omega) (by omega) (by omega)]
        have z : (((0 : Int).toNat ||| x.toNat : Nat) : Int) = x := by simp; omega
        rw [z]
        refine ev_step ?_
        simp only [nat_Num.l0, w2, w3]
        refine ev_pos (by simp) (ev_pos (by omega) (ev_pos (by simp) (ev_pos (by omega) ?_)))
        rw [r1, u64 hy.1 (by omega), shl_32 hy, or_u64_disjoint hx hy]
        refine ev_step ?_
        simp only [nat_Num.l0]
        refine ev_neg (by simp) (ev_eq (Ev.now _) ?_)
        simp; omega
      | x :: y :: z :: l, h => simp at c2
  · exact ev_neg c1 (no (by unfold numB; simp [show may l = false by simpa using c1]))
end Go.Proofs.Ytldcelgbinenbaa.K
