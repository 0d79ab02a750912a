import Derived.Test.YtclegbgmhimenaaDoorQConvBackK1
set_option linter.unusedVariables false
set_option linter.unusedSimpArgs false
/- Words as whole numbers, as int64, and back. -/
set_option linter.unusedVariables false
set_option linter.unusedSimpArgs false
namespace Go.Proofs.YtclegbgmhimenaaDoor.Eng.K
open Go.RowKit

theorem unit_lw (f : Int) {n : Nat} (h : n ≠ 0) (e : Int) : unit f (n / 2 ^ lw n) (e + (lw n : Nat)) = unit f n e := by
  have := top_lw h
  unfold unit
  congr 1; omega
theorem lw_mul {n : Nat} (h : n ≠ 0) : n / 2 ^ lw n * 2 ^ lw n = n := by
  obtain ⟨q, hq⟩ := lw_is h
  refine Nat.div_mul_cancel ⟨2 * q + 1, hq⟩
theorem encN_at {f : Int} {n : Nat} (h : n ≠ 0) {e : Int} (hu : unit f n e ≤ e) : encN f n e = (unit f n e - lo f).toNat * 2 ^ fb f + n * 2 ^ (e - unit f n e).toNat := by
  unfold encN enc
  rw [unit_lw f h]
  congr 1
  have e1 : (e + (lw n : Nat) - unit f n e).toNat = lw n + (e - unit f n e).toNat := by omega
  rw [e1, Nat.pow_add, ← Nat.mul_assoc, lw_mul h]
theorem wmag_bl_eq {f : Int} (h : isF f) {w : Nat} (c : wexpo f w ≠ 0) : bl (wmag f w) = pr f := by
  have h1 := wfrac_lt f w
  have h2 := pr_eq h
  have h3 : wmag f w = 2 ^ fb f + wfrac f w := by unfold wmag; rw [if_neg c]
  have hp := pw_pos (fb f)
  have h4 : 2 ^ (fb f + 1) = 2 ^ fb f * 2 := Nat.pow_succ ..
  have h5 : bl (wmag f w) ≤ fb f + 1 := bl_le_of_lt (by omega)
  have h6 : 2 ^ fb f ≤ wmag f w := by omega
  have h7 := bl_mono h6
  have h8 := bl_up (v := 1) (by omega) (fb f)
  rw [Nat.one_mul, show bl 1 = 1 by decide] at h8
  omega
theorem enc_word {f : Int} (h : isF f) {w : Nat} (c1 : cls f w ≠ 1) (c4 : cls f w < 4) : encN f (wmag f w) (wex f w) = w % sg f := by
  have hn := cls_num h c1 c4
  have h2 := pr_eq h
  have hx := wexpo_le h w
  have hu : unit f (wmag f w) (wex f w) = wex f w := by
    unfold unit
    by_cases c : wexpo f w = 0
    · have h3 : wmag f w = wfrac f w := by unfold wmag; rw [if_pos c]
      have h4 : bl (wmag f w) ≤ fb f := bl_le_of_lt (by rw [h3]; exact wfrac_lt f w)
      have h5 : wex f w = lo f := by unfold wex; rw [if_pos c]; omega
      omega
    · have h4 := wmag_bl_eq h c
      have h5 : wex f w = (wexpo f w : Int) - 1 + lo f := by unfold wex; rw [if_neg c]
      omega
  rw [encN_at hn (by omega), hu, Int.sub_self, w_parts f w]
  show _ + wmag f w * 2 ^ 0 = _
  rw [Nat.pow_zero, Nat.mul_one]
  unfold wmag wex
  by_cases c : wexpo f w = 0
  · rw [if_pos c, if_pos c, c, Int.zero_add, Int.sub_self]
    simp
  · rw [if_neg c, if_neg c, show ((wexpo f w : Int) - 1 + lo f - lo f).toNat = wexpo f w - 1 by omega]
    obtain ⟨q, hq⟩ : ∃ q, wexpo f w = q + 1 := ⟨wexpo f w - 1, by omega⟩
    rw [hq, Nat.add_mul, Nat.one_mul, Nat.add_sub_cancel]; omega
theorem w_sign {f : Int} (h : isF f) {w : Nat} (hw : w < 2 * sg f) : w % sg f + sgn f (wneg f w) = w := by
  unfold sgn wneg
  by_cases c : sg f ≤ w
  · rw [if_pos (decide_eq_true c), Nat.mod_eq_sub_mod c, Nat.mod_eq_of_lt (by omega)]; omega
  · rw [if_neg (by simpa using c), Nat.mod_eq_of_lt (by omega)]; omega
/-! ### int64 -/
/-! ### the calls -/
def wz (f : Int) (w : Nat) : Int := sv (wneg f w) (wmag f w)
/-! ### Integral -/
theorem sv_mod {f : Int} (h : isF f) {x : Nat} (hx : x < sg f) (s : Bool) : (x + sgn f s) % sg f = x := by
  unfold sgn
  cases s
  · rw [if_neg (by simp), Nat.add_zero, Nat.mod_eq_of_lt hx]
  · rw [if_pos rfl, Nat.add_mod_right, Nat.mod_eq_of_lt hx]
theorem encN_lt {f : Int} (h : isF f) {q : Nat} {E : Int} (hq : q ≤ 2 ^ pr f) (hE : lo f ≤ E) (hw : (bl q : Int) + E ≤ wd f) (h0 : q ≠ 0) : encN f q E < sg f := by
  have hpr := pr_eq h
  have h2 := (odd_bl h0 hq).resolve_right (by omega)
  have h3 := top_lw h0
  have hlt := (enc_lt h (n := q / 2 ^ lw q) (e := E + (lw q : Nat)) h2 (by omega) (by omega)).1
  have hil := inf_lt h
  have hp := pw_pos (fb f)
  unfold encN
  omega
/-! ### FromInt -/
end Go.Proofs.YtclegbgmhimenaaDoor.Eng.K

/- Words of sizes, and back. -/
set_option linter.unusedVariables false
set_option linter.unusedSimpArgs false
namespace Go.Proofs.YtclegbgmhimenaaDoor.Eng.K
open Go.RowKit

/-- What a made word is. -/
structure Dec (f : Int) (s : Bool) (q : Nat) (E : Int) (w : Nat) : Prop where
  lt : w < 2 * sg f
  neg : wneg f w = s
  c1 : cls f w ≠ 1
  c4 : cls f w < 4
  val : mk (wz f w) (wex f w) = mk (sv s q) E
theorem dec {f : Int} (h : isF f) (s : Bool) {q : Nat} {E : Int} (hq : q ≤ 2 ^ pr f) (hE : lo f ≤ E) (hw : (bl q : Int) + E ≤ wd f) (h0 : q ≠ 0) : Dec f s q E (encN f q E + sgn f s) := by
  have hlt := encN_lt h hq hE hw h0
  have hpr := pr_eq h
  have hfb := fb_le h
  have h2 := (odd_bl h0 hq).resolve_right (by omega)
  have h3 := top_lw h0
  have hel := enc_lt h (n := q / 2 ^ lw q) (e := E + (lw q : Nat)) h2 (by omega) (by omega)
  have hpl := part_lt (f := f) (n := q / 2 ^ lw q) (e := E + (lw q : Nat)) h2 (by omega)
  have hul := unit_le (f := f) (n := q / 2 ^ lw q) (e := E + (lw q : Nat)) h2 (by omega)
  have huge := unit_ge f (q / 2 ^ lw q) (E + (lw q : Nat))
  have hund : unit f (q / 2 ^ lw q) (E + (lw q : Nat)) = max (E + (lw q : Nat) + (bl (q / 2 ^ lw q) : Nat) - (pr f : Nat)) (lo f) := rfl
  have hen : encN f q E = (unit f (q / 2 ^ lw q) (E + (lw q : Nat)) - lo f).toNat * 2 ^ fb f + q / 2 ^ lw q * 2 ^ (E + (lw q : Nat) - unit f (q / 2 ^ lw q) (E + (lw q : Nat))).toNat := rfl
  have hq'0 : q / 2 ^ lw q ≠ 0 := by
    intro h4; rw [h4, bl_zero] at h3
    have := lw_lt h0
    omega
  have hXb := bl_up hq'0 (E + (lw q : Nat) - unit f (q / 2 ^ lw q) (E + (lw q : Nat))).toNat
  have hXv : mk (sv s (q / 2 ^ lw q * 2 ^ (E + (lw q : Nat) - unit f (q / 2 ^ lw q) (E + (lw q : Nat))).toNat)) (unit f (q / 2 ^ lw q) (E + (lw q : Nat))) = mk (sv s q) E := by
    rw [← sv_pow, mk_up]
    have e1 : mk (sv s q) E = mk (sv s (q / 2 ^ lw q * 2 ^ lw q)) E := by rw [lw_mul h0]
    rw [e1, ← sv_pow, mk_up]
    congr 1; omega
  have hX0 : q / 2 ^ lw q * 2 ^ (E + (lw q : Nat) - unit f (q / 2 ^ lw q) (E + (lw q : Nat))).toNat ≠ 0 := by
    have := Nat.mul_pos (Nat.pos_of_ne_zero hq'0) (pw_pos (E + (lw q : Nat) - unit f (q / 2 ^ lw q) (E + (lw q : Nat))).toNat)
    omega
  generalize hw0 : encN f q E = x at *
  generalize hX : q / 2 ^ lw q * 2 ^ (E + (lw q : Nat) - unit f (q / 2 ^ lw q) (E + (lw q : Nat))).toNat = X at *
  generalize hU : unit f (q / 2 ^ lw q) (E + (lw q : Nat)) = U at *
  have hsp := sg_pos h
  have hmod : (x + sgn f s) % sg f = x := sv_mod h hlt s
  have hng : wneg f (x + sgn f s) = s := by
    unfold wneg sgn
    cases s
    · rw [if_neg (by simp)]; exact decide_eq_false (by omega)
    · rw [if_pos rfl]; exact decide_eq_true (by omega)
  have hltw : x + sgn f s < 2 * sg f := by unfold sgn; split <;> omega
  have hp := pw_pos (fb f)
  have hm := mo_ge h
  rw [hpr, Nat.pow_succ] at hpl
  have main : wmag f (x + sgn f s) = X ∧ wex f (x + sgn f s) = U ∧ wexpo f (x + sgn f s) < mo f := by
    unfold wmag wex wexpo wfrac
    rw [hmod]
    by_cases c : X < 2 ^ fb f
    · have hb : bl X ≤ fb f := bl_le_of_lt c
      have hu0 : (U - lo f).toNat = 0 := by omega
      have hx : x = X := by rw [hen, hu0]; omega
      have hd : x / 2 ^ fb f = 0 := Nat.div_eq_of_lt (by omega)
      rw [hd, if_pos rfl, if_pos rfl, Nat.mod_eq_of_lt (by omega)]
      refine ⟨hx, by omega, by omega⟩
    · have hx : x = ((U - lo f).toNat + 1) * 2 ^ fb f + (X - 2 ^ fb f) := by rw [hen, Nat.add_mul, Nat.one_mul]; omega
      have hd : x / 2 ^ fb f = (U - lo f).toNat + 1 := by
        rw [hx, Nat.mul_comm, Nat.mul_add_div hp, Nat.div_eq_of_lt (by omega), Nat.add_zero]
      have hr : x % 2 ^ fb f = X - 2 ^ fb f := by
        rw [hx, Nat.mul_comm, Nat.mul_add_mod, Nat.mod_eq_of_lt (by omega)]
      rw [hd, hr, if_neg (by omega), if_neg (by omega)]
      refine ⟨by omega, by omega, by omega⟩
  obtain ⟨m1, m2, m3⟩ := main
  refine ⟨hltw, hng, ?_, ?_, ?_⟩
  · intro hc
    rw [cls_eq h] at hc
    by_cases c : wexpo f (x + sgn f s) = 0
    · rw [if_pos c] at hc
      have : wmag f (x + sgn f s) = wfrac f (x + sgn f s) := by unfold wmag; rw [if_pos c]
      by_cases c2 : wfrac f (x + sgn f s) = 0
      · omega
      · rw [if_neg c2] at hc; omega
    · rw [if_neg c, if_pos m3] at hc; omega
  · rw [cls_eq h]
    by_cases c : wexpo f (x + sgn f s) = 0
    · rw [if_pos c]; split <;> omega
    · rw [if_neg c, if_pos m3]; omega
  · unfold wz
    rw [m1, m2, hng]
    exact hXv
/-! ### what rounding comes to depends on the number alone -/
theorem R_of_mk {m : Int} {s : Bool} {n n' : Nat} {e e' : Int} (hn : n ≠ 0) (hn' : n' ≠ 0) (hv : mk (sv s n) e = mk (sv s n') e') (E : Int) : R m s n e E = R m s n' e' E ∧ exR n e E = exR n' e' E := by
  obtain ⟨a1, a2, a3⟩ := w_sv (s := s) hn
  obtain ⟨b1, b2, b3⟩ := w_sv (s := s) hn'
  obtain ⟨j, j1, j2, _, _⟩ := mz_abs a3 e
  obtain ⟨i, i1, i2, _, _⟩ := mz_abs b3 e'
  rw [a2] at j1
  rw [b2] at i1
  rw [j1, i1, R_up, R_up, exR_up, exR_up, ← j2, ← i2, hv]
  exact ⟨rfl, rfl⟩
theorem top_of_mk {s : Bool} {n n' : Nat} {e e' : Int} (hn : n ≠ 0) (hn' : n' ≠ 0) (hv : mk (sv s n) e = mk (sv s n') e') : e + (bl n : Nat) = e' + (bl n' : Nat) := by
  obtain ⟨a1, a2, a3⟩ := w_sv (s := s) hn
  obtain ⟨b1, b2, b3⟩ := w_sv (s := s) hn'
  have h1 := top_mz (sv s n) e
  have h2 := top_mz (sv s n') e'
  have e1 : top (mz (sv s n) e) (me (sv s n) e) = top (mz (sv s n') e') (me (sv s n') e') := by unfold mz me; rw [hv]
  rw [h1, h2] at e1
  unfold top at e1
  rw [if_neg a3, if_neg b3, a2, b2] at e1
  exact e1
theorem roundS_of_mk {f m : Int} {s : Bool} {n n' : Nat} {e e' : Int} (hn : n ≠ 0) (hn' : n' ≠ 0) (hv : mk (sv s n) e = mk (sv s n') e') : roundS f m s n e = roundS f m s n' e' := by
  have ht := top_of_mk hn hn' hv
  have hu : unitR f n e = unitR f n' e' := by unfold unitR; rw [ht]
  have hr := fun E => R_of_mk (m := m) hn hn' hv E
  unfold roundS
  simp only [hu, ht, fun E => (hr E).1, fun E => (hr E).2]
theorem encN_of_mk {f : Int} {s : Bool} {n n' : Nat} {e e' : Int} (hn : n ≠ 0) (hn' : n' ≠ 0) (hv : mk (sv s n) e = mk (sv s n') e') : encN f n e = encN f n' e' := by
  rw [mk_sv s hn, mk_sv s hn'] at hv
  simp only [Prod.mk.injEq] at hv
  unfold encN
  rw [D_inj hv.2.1, hv.2.2]
/-- What fits is rounded to itself. -/
theorem roundS_fits {f m : Int} (h : isF f) (s : Bool) {n : Nat} {e : Int} (hn : n ≠ 0) (hb : bl (n / 2 ^ lw n) ≤ pr f) (hl : lo f ≤ e + (lw n : Nat)) (ht : e + (bl n : Nat) ≤ wd f) : roundS f m s n e = (((encN f n e + sgn f s : Nat) : Int), 0) := by
  have h3 := top_lw hn
  have hu : unitR f n e ≤ e + (lw n : Nat) := by unfold unitR; omega
  have hx : exR n e (unitR f n e) = true := by
    unfold exR
    refine decide_eq_true ?_
    have := (lw_is hn).mod (k := (unitR f n e - e).toNat)
    exact this.2 (by omega)
  obtain ⟨a1, a2, a3⟩ := w_sv (s := s) hn
  have hT := TK_exact (m := m) (z := sv s n) (e := e) (E := unitR f n e) (by rw [a2]; exact hx)
  have hTK : TK m (sv s n) e (unitR f n e) = sv s (R m s n e (unitR f n e)) := by unfold TK; rw [a1, a2]
  rw [hTK] at hT
  have hq0 : R m s n e (unitR f n e) ≠ 0 := by
    intro h0
    rw [h0, sv_zero] at hT
    have h1 := mz_ne a3 e
    unfold mz at h1
    rw [← hT, mk_zero] at h1
    exact h1 rfl
  have htop := top_of_mk hq0 hn hT
  have henc := encN_of_mk (f := f) hq0 hn hT
  unfold roundS
  simp only [hx]
  rw [if_neg (by omega), if_neg hq0, henc]
  rfl
theorem roundS_zero_flags {f m : Int} (h : isF f) {s : Bool} {n : Nat} {e : Int} (hn : n ≠ 0) (h0 : (roundS f m s n e).2 = 0) : bl (n / 2 ^ lw n) ≤ pr f ∧ lo f ≤ e + (lw n : Nat) ∧ e + (bl n : Nat) ≤ wd f := by
  have h3 := top_lw hn
  unfold roundS at h0
  by_cases c : (bl (R m s n e (unitR f n e)) : Int) + unitR f n e > wd f
  · simp only [c, if_true] at h0; omega
  · simp only [c, if_false] at h0
    cases hx : exR n e (unitR f n e)
    · rw [hx, if_neg Bool.false_ne_true] at h0
      split at h0 <;> omega
    · have h1 : n % 2 ^ (unitR f n e - e).toNat = 0 := of_decide_eq_true hx
      have h2 := ((lw_is hn).mod (k := (unitR f n e - e).toNat)).1 h1
      have hu : unitR f n e = max (e + (bl n : Nat) - (pr f : Nat)) (lo f) := rfl
      obtain ⟨a1, a2, a3⟩ := w_sv (s := s) hn
      have hT := TK_exact (m := m) (z := sv s n) (e := e) (E := unitR f n e) (by rw [a2]; exact hx)
      have hTK : TK m (sv s n) e (unitR f n e) = sv s (R m s n e (unitR f n e)) := by unfold TK; rw [a1, a2]
      rw [hTK] at hT
      have hq0 : R m s n e (unitR f n e) ≠ 0 := by
        intro h0
        rw [h0, sv_zero] at hT
        have h1 := mz_ne a3 e
        unfold mz at h1
        rw [← hT, mk_zero] at h1
        exact h1 rfl
      have htop := top_of_mk hq0 hn hT
      refine ⟨by omega, by omega, by omega⟩
/-- A word that fits, made of any size with its value. -/
theorem dec_fits {f : Int} (h : isF f) (s : Bool) {n : Nat} {e : Int} (hn : n ≠ 0) (hb : bl (n / 2 ^ lw n) ≤ pr f) (hl : lo f ≤ e + (lw n : Nat)) (ht : e + (bl n : Nat) ≤ wd f) : Dec f s n e (encN f n e + sgn f s) := by
  have h3 := top_lw hn
  have hq'0 : n / 2 ^ lw n ≠ 0 := by
    intro h4; rw [h4, bl_zero] at h3
    have := lw_lt hn
    omega
  have hv : mk (sv s (n / 2 ^ lw n)) (e + (lw n : Nat)) = mk (sv s n) e := by
    have e1 : mk (sv s n) e = mk (sv s (n / 2 ^ lw n * 2 ^ lw n)) e := by rw [lw_mul hn]
    rw [e1, ← sv_pow, mk_up]
  have hq : n / 2 ^ lw n ≤ 2 ^ pr f := by
    have h1 := lt_bl (n / 2 ^ lw n)
    have h2 : 2 ^ bl (n / 2 ^ lw n) ≤ 2 ^ pr f := Nat.pow_le_pow_right (by omega) hb
    omega
  have hd := dec h s (q := n / 2 ^ lw n) (E := e + (lw n : Nat)) hq hl (by omega) hq'0
  rw [encN_of_mk hq'0 hn hv] at hd
  exact ⟨hd.lt, hd.neg, hd.c1, hd.c4, by rw [hd.val, hv]⟩
theorem dec_mag {f : Int} {s : Bool} {q : Nat} {E : Int} {w : Nat} (h : isF f) (d : Dec f s q E w) : wmag f w ≠ 0 := cls_num h d.c1 d.c4
theorem dec_wv {f : Int} {s : Bool} {q : Nat} {E : Int} {w : Nat} (d : Dec f s q E w) : mk (sv s (wmag f w)) (wex f w) = mk (sv s q) E := by
  have := d.val
  unfold wz at this
  rw [d.neg] at this
  exact this
/-- A word's own size fits. -/
theorem word_fits {f : Int} (h : isF f) {w : Nat} (c1 : cls f w ≠ 1) (c4 : cls f w < 4) : bl (wmag f w / 2 ^ lw (wmag f w)) ≤ pr f ∧ lo f ≤ wex f w + (lw (wmag f w) : Nat) ∧ wex f w + (bl (wmag f w) : Nat) ≤ wd f := by
  have h1 := wmag_bl h w
  have h2 := fin_top h c4
  have h3 : bl (wmag f w / 2 ^ lw (wmag f w)) ≤ bl (wmag f w) := bl_mono (Nat.div_le_self _ _)
  have h4 : lo f ≤ wex f w := by unfold wex; split <;> omega
  exact ⟨by omega, by omega, h2⟩
/-! ### ConvInts -/
end Go.Proofs.YtclegbgmhimenaaDoor.Eng.K

/- Words there and back: other formats, other scales, remainders. -/
set_option linter.unusedVariables false
set_option linter.unusedSimpArgs false
namespace Go.Proofs.YtclegbgmhimenaaDoor.Eng.K
open Go.RowKit

def canon (f : Int) (w : Nat) : Nat := if cls f w = 5 then nanW f else w
theorem rCanon_eq {f : Int} (h : isF f) (w : Nat) : cutplaneref03_Canon.f f (w : Int) = some (canon f w : Int) := by
  unfold cutplaneref03_Canon.f canon
  rw [rClass_eq h w, Option.bind_some]
  by_cases c : cls f w = 5
  · rw [if_pos c, if_pos c, rNone_eq h]; rfl
  · rw [if_neg c, if_neg c]
/-! ### made words' classes -/
theorem nan_cls {f : Int} (h : isF f) : cls f (nanW f) = 5 ∧ nanW f < 2 * sg f := by rcases h with rfl | rfl <;> decide +kernel
/-! ### ConvThere -/
/-! ### ConvBack -/
theorem scale_self {f m : Int} {w : Nat} (h : cls f w = 4 ∨ cls f w = 1) (n : Int) : scaleS f m w n = ((w : Int), 0) := by
  unfold scaleS; rw [if_neg (by omega), if_pos h]
theorem scale_num {f m : Int} {w : Nat} (h1 : cls f w ≠ 1) (h4 : cls f w < 4) (n : Int) : scaleS f m w n = roundS f m (wneg f w) (wmag f w) (wex f w + clampN n) := by
  unfold scaleS; rw [if_neg (by omega), if_neg (by omega)]
theorem roundS_word {f m : Int} {s : Bool} {n : Nat} {e : Int} (h : isF f) : ∃ a : Nat, (roundS f m s n e).1 = (a : Int) := by
  unfold roundS
  by_cases c : (bl (R m s n e (unitR f n e)) : Int) + unitR f n e > wd f
  · simp only [c, if_true]; exact ⟨_, rfl⟩
  · simp only [c, if_false]; exact ⟨_, rfl⟩
theorem roundS_lt {f m : Int} (h : isF f) (s : Bool) {n : Nat} (hn : n ≠ 0) (e : Int) : ∃ a : Nat, (roundS f m s n e).1 = (a : Int) ∧ a < 2 * sg f := by
  have hil := inf_lt h
  have hp := pw_pos (fb f)
  have hsg : sgn f s ≤ sg f := by unfold sgn; split <;> omega
  unfold roundS
  by_cases c : (bl (R m s n e (unitR f n e)) : Int) + unitR f n e > wd f
  · simp only [c, if_true]
    refine ⟨_, rfl, ?_⟩
    unfold overW
    split <;> omega
  · simp only [c, if_false]
    refine ⟨_, rfl, ?_⟩
    by_cases cq : R m s n e (unitR f n e) = 0
    · rw [if_pos cq]; have := (sg_pos h).1; unfold sgn; split <;> omega
    · rw [if_neg cq]
      have := encN_lt h (q := R m s n e (unitR f n e)) (E := unitR f n e) (R_le (by unfold unitR; omega)) (by unfold unitR; omega) (by omega) cq
      omega
theorem mk_shift {a b ea eb c : Int} (h : mk a ea = mk b eb) : mk a (ea + c) = mk b (eb + c) := by
  by_cases ha : a = 0
  · have hb : b = 0 := by
      by_cases hb : b = 0
      · exact hb
      · exfalso
        have h1 := mz_ne hb eb
        unfold mz at h1
        rw [← h, ha] at h1
        exact h1 rfl
    rw [ha, hb]; rfl
  · by_cases hb : b = 0
    · exfalso
      have h1 := mz_ne ha ea
      unfold mz at h1
      rw [h, hb] at h1
      exact h1 rfl
    · have hm : mz a ea = mz b eb := by unfold mz; rw [h]
      have he : me a ea = me b eb := by unfold me; rw [h]
      obtain ⟨j, j1, j2, _, _⟩ := mk_val ha ea
      obtain ⟨i, i1, i2, _, _⟩ := mk_val hb eb
      have h1 : mk a (ea + c) = mk (mz a ea) (ea + c + j) := by
        have : mk a (ea + c) = mk (mz a ea * 2 ^ j) (ea + c) := by rw [← j1]
        rw [this, mk_up]
      have h2 : mk b (eb + c) = mk (mz b eb) (eb + c + i) := by
        have : mk b (eb + c) = mk (mz b eb * 2 ^ i) (eb + c) := by rw [← i1]
        rw [this, mk_up]
      rw [h1, h2, hm]
      congr 1; omega
/-- Scaled back: from a number that a word has, times 2^-n. -/
theorem back_word {f m : Int} (h : isF f) {w a : Nat} (hw : w < 2 * sg f) (c1 : cls f w ≠ 1) (c4 : cls f w < 4) {E n : Int} (hd : Dec f (wneg f w) (wmag f w) E a) (hE : E + clampN n = wex f w) : scaleS f m a n = ((w : Int), 0) := by
  have hn := cls_num h c1 c4
  obtain ⟨g1, g2, g3⟩ := word_fits h c1 c4
  rw [scale_num hd.c1 hd.c4, hd.neg, roundS_of_mk (dec_mag h hd) hn (mk_shift (c := clampN n) (dec_wv hd)), hE, roundS_fits h (wneg f w) hn g1 g2 g3, enc_word h c1 c4, w_sign h hw]
theorem Back_tail {f m : Int} (h : isF f) (hm : isM m) {w : Nat} (hw : w < 2 * sg f) : Ev (fun k => (conv_Parts.f k f (w : Int)).bind fun t => (if ¬ (t.2.2 = 0) then (if t.2.2 = 7 then ((cutplanelaw06_known.f k).bind fun t1194 => (some t1194)) else (some false)) else ((conv_Scale.f k f m t.1 t.2.1).bind fun t1195 => (if t1195.2.2 = 0 then (if t1195.1 = (w : Int) then (if t1195.2.1 = 0 then ((cutplanelaw06_known.f k).bind fun t1196 => (some t1196)) else (some false)) else (some false)) else (some false))))) true := by
  have hcb := cls_b h w
  by_cases c4 : cls f w < 4
  · by_cases c1 : cls f w = 1
    · have hp : Ev (fun k => conv_Parts.f k f (w : Int)) ((w : Int), 0, 0) := by
        unfold conv_Parts.f
        refine Ev.bind (word_Class_ev h hw) ?_; try dsimp only
        exact ev_neg (by simp) (ev_neg (by omega) (ev_pos c1 (Ev.now _)))
      have hs := Scale_ev h hm hw 0
      rw [scale_self (.inr c1)] at hs
      refine Ev.bind (hp) ?_; try dsimp only
      refine ev_neg (by simp) ?_
      refine Ev.bind (hs) ?_; try dsimp only
      exact ev_pos rfl (ev_pos rfl (ev_pos rfl known_then))
    · have hn := cls_num h c1 c4
      have hb := wmag_bl h w
      have hbx := wex_b h w
      have hpr := pr_eq h
      have hfb := fb_le h
      have hl := lo_b h
      have hwd := wd_b h
      have hbp := bl_pos hn
      have hd := dec h (wneg f w) (q := wmag f w) (E := -(bl (wmag f w) : Int)) (w_le h w) (by omega) (by omega) hn
      have hs := Scale_ev h hm hd.lt (partE f w)
      have hpe : partE f w = wex f w + (bl (wmag f w) : Nat) := rfl
      rw [back_word h hw c1 c4 hd (by unfold clampN; omega)] at hs
      refine Ev.bind (Parts_num h hw c1 c4) ?_; try dsimp only
      refine ev_neg (by simp) ?_
      have hs : Ev (fun k => conv_Scale.f k f m (partW f w : Int) (partE f w)) ((w : Int), 0, 0) := hs
      refine Ev.bind (hs) ?_; try dsimp only
      exact ev_pos rfl (ev_pos rfl (ev_pos rfl known_then))
  · have hp : Ev (fun k => conv_Parts.f k f (w : Int)) (0, 0, 7) := by
      unfold conv_Parts.f
      refine Ev.bind (word_Class_ev h hw) ?_; try dsimp only
      exact ev_neg (by simp) (ev_pos (by omega) (Ev.now _))
    refine Ev.bind (hp) ?_; try dsimp only
    exact ev_pos (by simp) (ev_pos rfl known_then)
theorem Back_law (f m : Int) {w : Nat} (hw : w < 18446744073709551616) (n : Int) : Ev (fun k => cutplanelaw06_ConvBack.f k f m (w : Int) n) true := by
  unfold cutplanelaw06_ConvBack.f
  refine Ev.bind (opens_one f m hw) ?_; try dsimp only
  by_cases hb : opE f m w = 0
  · obtain ⟨h, hm, hww⟩ := opE_zero.1 hb
    refine ev_neg (fun h => h hb) ?_
    by_cases n1 : n < -5000
    · exact ev_pos n1 known_then
    refine ev_neg n1 ?_
    by_cases n2 : n > 5000
    · exact ev_pos n2 known_then
    refine ev_neg n2 ?_
    have hcb := cls_b h w
    have tail := Back_tail h hm hww
    rw [wneg64 (by omega) (by omega)]
    -- the first scale's word, and what comes back
    have key : ∃ (a b : Nat) (x y : Int), scaleS f m w n = ((a : Int), x) ∧ a < 2 * sg f ∧ scaleS f m a (-n) = ((b : Int), y) ∧ (x = 0 → b = canon f w ∧ y = 0) := by
      by_cases c5 : cls f w = 5
      · have e1 : ∀ w' k, cls f w' = 5 → scaleS f m w' k = ((nanW f : Int), 0) := fun w' k hc => by unfold scaleS; rw [if_pos hc]
        have hnan := nan_cls h
        exact ⟨nanW f, nanW f, 0, 0, e1 w n c5, hnan.2, e1 _ _ hnan.1, fun _ => ⟨by unfold canon; rw [if_pos c5], rfl⟩⟩
      have hcan : canon f w = w := by unfold canon; rw [if_neg c5]
      by_cases c41 : cls f w = 4 ∨ cls f w = 1
      · exact ⟨w, w, 0, 0, scale_self c41 n, hww, scale_self c41 (-n), fun _ => ⟨hcan.symm, rfl⟩⟩
      · have c1 : cls f w ≠ 1 := by omega
        have c4 : cls f w < 4 := by omega
        have hn := cls_num h c1 c4
        obtain ⟨a, a1, a2⟩ := roundS_lt (m := m) h (wneg f w) hn (wex f w + clampN n)
        have hs : scaleS f m w n = ((a : Int), (roundS f m (wneg f w) (wmag f w) (wex f w + clampN n)).2) := by
          rw [scale_num c1 c4, ← a1]
        have hb : ∃ b : Nat, (scaleS f m a (-n)).1 = (b : Int) := by
          unfold scaleS
          split
          · exact ⟨_, rfl⟩
          · split
            · exact ⟨_, rfl⟩
            · exact roundS_word h
        obtain ⟨b, hb⟩ := hb
        refine ⟨a, b, _, (scaleS f m a (-n)).2, hs, a2, by rw [← hb], ?_⟩
        intro hx
        obtain ⟨g1, g2, g3⟩ := roundS_zero_flags h hn hx
        have hd := dec_fits h (wneg f w) hn g1 g2 g3
        have hr := roundS_fits (m := m) h (wneg f w) hn g1 g2 g3
        rw [hr] at a1
        have hab : encN f (wmag f w) (wex f w + clampN n) + sgn f (wneg f w) = a := by
          have : ((encN f (wmag f w) (wex f w + clampN n) + sgn f (wneg f w) : Nat) : Int) = (a : Int) := a1
          omega
        rw [hab] at hd
        have hbw := back_word (m := m) h hww c1 c4 (n := -n) hd (by unfold clampN; omega)
        rw [hbw] at hb ⊢
        have hb : (w : Int) = (b : Int) := hb
        exact ⟨by rw [hcan]; omega, rfl⟩
    obtain ⟨a, b, x, y, k1, k2, k3, k4⟩ := key
    have s1 := Scale_ev h hm hww n
    rw [k1] at s1
    have s2 := Scale_ev h hm k2 (-n)
    rw [k3] at s2
    refine Ev.bind (s1) ?_; try dsimp only
    refine Ev.bind (s2) ?_; try dsimp only
    refine ev_neg (fun h => h rfl) (ev_neg (fun h => h rfl) ?_)
    by_cases hx : x = 0
    · obtain ⟨kb, ky⟩ := k4 hx
      refine ev_pos hx ?_
      refine ev_bind (rCanon_eq h w) ?_; try dsimp only
      refine ev_neg (fun h => h (by rw [kb])) (ev_neg (fun h => h ky) ?_)
      exact tail
    · exact ev_neg hx tail
  · exact ev_pos hb known_then
theorem ConvBack (f m w n : Int) (h : IntKind.u64.min ≤ w ∧ w ≤ IntKind.u64.max) : Ev (fun k => cutplanelaw06_ConvBack.f k f m w n) true := by
  obtain ⟨x, rfl, hx⟩ := u64_nat h
  exact Back_law f m hx n
end Go.Proofs.YtclegbgmhimenaaDoor.Eng.K

