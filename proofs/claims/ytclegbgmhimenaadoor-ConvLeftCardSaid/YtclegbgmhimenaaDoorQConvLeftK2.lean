import Derived.Test.YtclegbgmhimenaaDoorQConvLeftK1
set_option linter.unusedVariables false
set_option linter.unusedSimpArgs false
/- Dyadic numbers told as whole numbers times powers of two: what the operations make of such, the reference. -/
set_option linter.unusedVariables false
set_option linter.unusedSimpArgs false
namespace Go.Proofs.YtclegbgmhimenaaDoor.Eng.K
open Go.RowKit

def mz (z e : Int) : Int := sv (mk z e).1 (V (mk z e).2.1)
def me (z e : Int) : Int := (mk z e).2.2
theorem mz_zero (e : Int) : mz 0 e = 0 := rfl
theorem sv_self (z : Int) : sv (decide (z < 0)) z.natAbs = z := by
  unfold sv
  by_cases h : z < 0
  · rw [decide_eq_true h, if_pos rfl]; omega
  · rw [decide_eq_false h, if_neg (by simp)]; omega
theorem mk_val {z : Int} (h : z ≠ 0) (e : Int) : ∃ j : Nat, z = mz z e * 2 ^ j ∧ me z e = e + (j : Int) ∧ mz z e ≠ 0 ∧ bl (mz z e).natAbs + j = bl z.natAbs := by
  have hn : z.natAbs ≠ 0 := by omega
  have hw := lw_lt hn
  obtain ⟨q, hq⟩ := lw_is hn
  have hd : z.natAbs / 2 ^ lw z.natAbs = 2 * q + 1 := by
    have : z.natAbs / 2 ^ lw z.natAbs = 2 ^ lw z.natAbs * (2 * q + 1) / 2 ^ lw z.natAbs := by rw [← hq]
    rw [this, Nat.mul_div_cancel_left _ (pw_pos _)]
  have hm : mz z e = sv (decide (z < 0)) (z.natAbs / 2 ^ lw z.natAbs) := by
    unfold mz mk; rw [if_neg h]; show sv _ (V (D _)) = _; rw [V_D]
  have he : me z e = e + (lw z.natAbs : Nat) := by unfold me mk; rw [if_neg h]
  refine ⟨lw z.natAbs, ?_, he, ?_, ?_⟩
  · rw [hm, hd]
    have h1 : sv (decide (z < 0)) (2 * q + 1) * 2 ^ lw z.natAbs = sv (decide (z < 0)) ((2 * q + 1) * 2 ^ lw z.natAbs) := by
      unfold sv
      split
      · rw [Int.neg_mul, Int.natCast_mul, Int.natCast_pow]; rfl
      · rw [Int.natCast_mul, Int.natCast_pow]; rfl
    rw [h1, Nat.mul_comm, ← hq, sv_self]
  · rw [hm, hd]; intro h2; have := sv_eq_zero.1 h2; omega
  · rw [hm, sv_abs, bl_down]; omega
theorem mk_len (z e : Int) : (mk z e).2.1.length ≤ (bl z.natAbs + 31) / 32 := by
  rw [mk_Near]
  refine len_bl ?_
  rw [bl_down]; omega
theorem me_b (z e : Int) : me z e = 0 ∧ z = 0 ∨ e ≤ me z e ∧ me z e ≤ e + (bl z.natAbs : Nat) := by
  by_cases h : z = 0
  · exact .inl ⟨by rw [h]; rfl, h⟩
  · obtain ⟨j, _, h2, _, h4⟩ := mk_val h e
    exact .inr (by omega)
theorem al_mz {z : Int} (h : z ≠ 0) {e m : Int} (hm : m ≤ e) : al (mz z e) (me z e) m = al z e m := by
  obtain ⟨j, h1, h2, _, _⟩ := mk_val h e
  rw [h2]
  have h3 : al z e m = al (mz z e * 2 ^ j) e m := by rw [← h1]
  rw [h3]
  unfold al
  rw [Int.mul_assoc, ← Int.pow_add]
  congr 2
  omega
theorem mz_ne {z : Int} (h : z ≠ 0) (e : Int) : mz z e ≠ 0 := by obtain ⟨j, _, _, h3, _⟩ := mk_val h e; exact h3
theorem addD_comm (za ea zb eb : Int) : addD za ea zb eb = addD zb eb za ea := by
  unfold addD; rw [Int.add_comm, Int.min_comm]
theorem addD_mz (za ea zb eb : Int) : addD (mz za ea) (me za ea) zb eb = addD za ea zb eb := by
  by_cases h : za = 0
  · subst h; rw [mz_zero, addD_zero_left, addD_zero_left]
  · have hb := me_b za ea
    have h1 : ea ≤ me za ea := by omega
    rw [← addD_at (za := mz za ea) (m := min ea eb) (by omega) (by omega), al_mz h (by omega)]
    rfl
theorem addD_mz2 (za ea zb eb : Int) : addD za ea (mz zb eb) (me zb eb) = addD za ea zb eb := by
  rw [addD_comm, addD_mz, addD_comm]
theorem cmpD_zero_left (ea zb eb : Int) : cmpD 0 ea zb eb = -zb.sign := by
  unfold cmpD
  rw [al_zero, Int.zero_sub, Int.sign_neg, al_sign]
theorem cmpD_comm (za ea zb eb : Int) : cmpD za ea zb eb = -cmpD zb eb za ea := by
  unfold cmpD
  rw [← Int.sign_neg, Int.neg_sub, Int.min_comm]
theorem cmpD_mz (za ea zb eb : Int) : cmpD (mz za ea) (me za ea) zb eb = cmpD za ea zb eb := by
  by_cases h : za = 0
  · subst h; rw [mz_zero, cmpD_zero_left, cmpD_zero_left]
  · have hb := me_b za ea
    have h1 : ea ≤ me za ea := by omega
    rw [← cmpD_at (za := mz za ea) (m := min ea eb) (by omega) (by omega), al_mz h (by omega)]
    rfl
theorem cmpD_mz2 (za ea zb eb : Int) : cmpD za ea (mz zb eb) (me zb eb) = cmpD za ea zb eb := by
  rw [cmpD_comm, cmpD_mz, ← cmpD_comm]
/-- Not too long, not too far out, for the reference. -/
structure Rg (z e : Int) : Prop where
  b : bl z.natAbs ≤ 10000000
  lo : -40000000 ≤ e
  hi : e ≤ 40000000
theorem rg_near {za ea zb eb : Int} (ha : Rg za ea) (hb : Rg zb eb) : Near (mk za ea).2.1 (me za ea) (mk zb eb).2.1 (me zb eb) := by
  have a1 := mk_len za ea
  have b1 := mk_len zb eb
  have a2 := me_b za ea
  have b2 := me_b zb eb
  obtain ⟨h1, h2, h3⟩ := ha
  obtain ⟨h4, h5, h6⟩ := hb
  refine ⟨by omega, by omega, by omega, by omega⟩
theorem mz_neg (z e : Int) : mz (-z) e = -mz z e ∧ me (-z) e = me z e := by
  by_cases h : z = 0
  · subst h; exact ⟨rfl, rfl⟩
  · have hv := Dy_neg (Dy_mk z e)
    have h1 : mk (-mz z e) (me z e) = mk (-z) e := by
      obtain ⟨j, h1, h2, h3, h4⟩ := mk_val h e
      have h5 : mk (-z) e = mk (-mz z e * 2 ^ j) e := by rw [Int.neg_mul, ← h1]
      rw [h5, mk_up, h2]
    have h2 : mk (-(sv (mk z e).1 (V (mk z e).2.1))) (mk z e).2.2 = mk (-z) e := h1
    rw [h2] at hv
    refine ⟨?_, hv.2.2⟩
    have h3 : mz (-z) e = sv (mk (-z) e).1 (V (mk z e).2.1) := by unfold mz; rw [hv.1]
    rw [h3, hv.2.1]; rfl
theorem rSub_mk {za ea zb eb : Int} (ha : Rg za ea) (hb : Rg zb eb) : Ev (fun k => cutplaneref02_Sub.f k (mk za ea).1 (mk za ea).2.1 (mk za ea).2.2 (mk zb eb).1 (mk zb eb).2.1 (mk zb eb).2.2) (addD za ea (-zb) eb) := by
  refine ev_eq (ref_Sub2_ev (Dy_mk za ea) (Dy_mk zb eb) (rg_near ha hb)) ?_
  show addD (mz za ea) (me za ea) (-mz zb eb) (me zb eb) = _
  rw [addD_mz, ← (mz_neg zb eb).1, ← (mz_neg zb eb).2, addD_mz2]
theorem rCmp_mk {za ea zb eb : Int} (ha : Rg za ea) (hb : Rg zb eb) : Ev (fun k => cutplaneref02_Cmp.f k (mk za ea).1 (mk za ea).2.1 (mk za ea).2.2 (mk zb eb).1 (mk zb eb).2.1 (mk zb eb).2.2) (cmpD za ea zb eb) := by
  refine ev_eq (ref_Cmp2_ev (Dy_mk za ea) (Dy_mk zb eb) (rg_near ha hb)) ?_
  show cmpD (mz za ea) (me za ea) (mz zb eb) (me zb eb) = _
  rw [cmpD_mz, cmpD_mz2]
theorem rSign_mk (z e : Int) : cutplaneref02_Sign.f (mk z e).1 (mk z e).2.1 (mk z e).2.2 = some z.sign := by
  rw [ref_Sign2_eq (Dy_mk z e), mk_sign]
theorem rShift_mk (z : Int) {e n : Int} (hb : bl z.natAbs ≤ 10000000000) (h1 : -10000000000000 ≤ e) (h2 : e ≤ 10000000000000) (h3 : -10000000000000 ≤ n) (h4 : n ≤ 10000000000000) : cutplaneref02_Shift.f (mk z e).1 (mk z e).2.1 (mk z e).2.2 n = some (mk z (e + n)) := by
  have a2 := me_b z e
  have e1 : (mk z e).2.2 = me z e := rfl
  rw [ref_Shift2_eq (Dy_mk z e) (by omega) (by omega) (by omega) (by omega)]
  congr 1
  show mk (mz z e) (me z e + n) = _
  by_cases c : z = 0
  · subst c; rfl
  · obtain ⟨j, p1, p2, _, _⟩ := mk_val c e
    have e3 : mk z (e + n) = mk (mz z e * 2 ^ j) (e + n) := by rw [← p1]
    rw [e3, mk_up, p2]
    congr 1; omega
end Go.Proofs.YtclegbgmhimenaaDoor.Eng.K

/- Rounding: a size taken to a whole number of units; the reference's way to it. -/
set_option linter.unusedVariables false
set_option linter.unusedSimpArgs false
namespace Go.Proofs.YtclegbgmhimenaaDoor.Eng.K
open Go.RowKit

/-- Does a size go up? -/
def upB (m : Int) (s odd half more : Bool) : Bool :=
  if m = 1 then half && (more || odd) else if m = 2 then half else if m = 4 then !s && (half || more) else if m = 5 then s && (half || more) else false
/-- n in units of 2^k, rounded. -/
def rnd (m : Int) (s : Bool) (n k : Nat) : Nat :=
  n / 2 ^ k + (if upB m s (decide (n / 2 ^ k % 2 = 1)) (decide (2 ^ k ≤ 2 * (n % 2 ^ k))) (decide (2 * (n % 2 ^ k) % 2 ^ k ≠ 0)) = true then 1 else 0)
theorem rnd_exact {m : Int} {s : Bool} {n k : Nat} (h : n % 2 ^ k = 0) : rnd m s n k = n / 2 ^ k := by
  have hp := pw_pos k
  unfold rnd
  rw [h]
  have e1 : decide (2 ^ k ≤ 2 * 0) = false := decide_eq_false (by omega)
  have e2 : decide (2 * 0 % 2 ^ k ≠ 0) = false := decide_eq_false (by simp)
  rw [e1, e2]
  unfold upB
  simp
theorem rnd_zero (m : Int) (s : Bool) (n : Nat) : rnd m s n 0 = n := by
  rw [rnd_exact (by rw [Nat.pow_zero, Nat.mod_one]), Nat.pow_zero, Nat.div_one]
theorem rnd_up (m : Int) (s : Bool) (n k j : Nat) : rnd m s (n * 2 ^ j) (k + j) = rnd m s n k := by
  have hj := pw_pos j
  have hk := pw_pos k
  have e1 : n * 2 ^ j / 2 ^ (k + j) = n / 2 ^ k := by rw [Nat.pow_add, Nat.mul_div_mul_right _ _ hj]
  have e2 : n * 2 ^ j % 2 ^ (k + j) = n % 2 ^ k * 2 ^ j := by rw [Nat.pow_add, Nat.mul_mod_mul_right]
  unfold rnd
  rw [e1, e2]
  have e3 : decide (2 ^ (k + j) ≤ 2 * (n % 2 ^ k * 2 ^ j)) = decide (2 ^ k ≤ 2 * (n % 2 ^ k)) := decide_eq_decide.2 (by
    rw [Nat.pow_add, ← Nat.mul_assoc]
    exact ⟨fun h => Nat.le_of_mul_le_mul_right h hj, fun h => Nat.mul_le_mul_right _ h⟩)
  have e4 : decide (2 * (n % 2 ^ k * 2 ^ j) % 2 ^ (k + j) ≠ 0) = decide (2 * (n % 2 ^ k) % 2 ^ k ≠ 0) := decide_eq_decide.2 (by
    rw [Nat.pow_add, ← Nat.mul_assoc, Nat.mul_mod_mul_right]
    constructor
    · intro h h2; exact h (by rw [h2, Nat.zero_mul])
    · intro h h2
      rcases Nat.mul_eq_zero.1 h2 with h3 | h3
      · exact h h3
      · omega)
  rw [e3, e4]
/-- n 2^e in units of 2^E, rounded. -/
def R (m : Int) (s : Bool) (n : Nat) (e E : Int) : Nat := rnd m s (n * 2 ^ (e - E).toNat) (E - e).toNat
theorem R_up (m : Int) (s : Bool) (n : Nat) (e E : Int) (j : Nat) : R m s (n * 2 ^ j) e E = R m s n (e + j) E := by
  unfold R
  by_cases h : E ≤ e
  · have e1 : (E - e).toNat = 0 := by omega
    have e2 : (E - (e + (j : Int))).toNat = 0 := by omega
    rw [e1, e2, rnd_zero, rnd_zero, Nat.mul_assoc, ← Nat.pow_add]
    congr 2; omega
  · by_cases h2 : E ≤ e + (j : Int)
    · have e1 : (e - E).toNat = 0 := by omega
      have e2 : (E - (e + (j : Int))).toNat = 0 := by omega
      rw [e1, e2, rnd_zero, Nat.pow_zero, Nat.mul_one]
      have e3 : n * 2 ^ j = n * 2 ^ (e + (j : Int) - E).toNat * 2 ^ (E - e).toNat := by
        rw [Nat.mul_assoc, ← Nat.pow_add]; congr 2; omega
      rw [e3]
      have := rnd_up m s (n * 2 ^ (e + (j : Int) - E).toNat) 0 (E - e).toNat
      rw [Nat.zero_add, rnd_zero] at this
      exact this
    · have e1 : (e - E).toNat = 0 := by omega
      have e2 : (e + (j : Int) - E).toNat = 0 := by omega
      have e3 : (E - e).toNat = (E - (e + (j : Int))).toNat + j := by omega
      rw [e1, e2, e3, Nat.pow_zero, Nat.mul_one, Nat.mul_one, rnd_up]
/-- Is nothing lost? -/
def exR (n : Nat) (e E : Int) : Bool := decide (n % 2 ^ (E - e).toNat = 0)
theorem exR_up (n : Nat) (e E : Int) (j : Nat) : exR (n * 2 ^ j) e E = exR n (e + j) E := by
  unfold exR
  apply decide_eq_decide.2
  by_cases h2 : E ≤ e + (j : Int)
  · have e2 : (E - (e + (j : Int))).toNat = 0 := by omega
    rw [e2, Nat.pow_zero, Nat.mod_one]
    have e3 : n * 2 ^ j = n * 2 ^ (j - (E - e).toNat) * 2 ^ (E - e).toNat := by
      rw [Nat.mul_assoc, ← Nat.pow_add]; congr 2; omega
    rw [e3, Nat.mul_mod_left]
  · have e3 : (E - e).toNat = (E - (e + (j : Int))).toNat + j := by omega
    rw [e3, Nat.pow_add, Nat.mul_mod_mul_right]
    constructor
    · intro h
      rcases Nat.mul_eq_zero.1 h with h3 | h3
      · exact h3
      · have := pw_pos j; omega
    · intro h; rw [h, Nat.zero_mul]
theorem bl_succ (q : Nat) : bl (q + 1) ≤ bl q + 1 := by
  refine bl_le_of_lt ?_
  have := lt_bl q
  rw [Nat.pow_succ]
  have := pw_pos (bl q)
  omega
/-! ### the reference -/
end Go.Proofs.YtclegbgmhimenaaDoor.Eng.K

/- Rounding, the reference: what is taken of a number; the word and the flags. -/
set_option linter.unusedVariables false
set_option linter.unusedSimpArgs false
namespace Go.Proofs.YtclegbgmhimenaaDoor.Eng.K
open Go.RowKit

theorem al_self (z e : Int) : al z e e = z := by unfold al; rw [Int.sub_self]; simp
end Go.Proofs.YtclegbgmhimenaaDoor.Eng.K

/- Rounding, the reference: the word and the flags. -/
set_option linter.unusedVariables false
set_option linter.unusedSimpArgs false
namespace Go.Proofs.YtclegbgmhimenaaDoor.Eng.K
open Go.RowKit

/-- Towards nought, as the sign stands? -/
def inw (m : Int) (s : Bool) : Bool := decide (m = 3) || (decide (m = 4) && s) || (decide (m = 5) && !s)
def overW (f m : Int) (s : Bool) : Nat := (if inw m s = true then mo f * 2 ^ fb f - 1 else mo f * 2 ^ fb f) + sgn f s
end Go.Proofs.YtclegbgmhimenaaDoor.Eng.K

/- Rounding: what it comes to, and the reference's way to it. -/
set_option linter.unusedVariables false
set_option linter.unusedSimpArgs false
namespace Go.Proofs.YtclegbgmhimenaaDoor.Eng.K
open Go.RowKit

/-- The word of a size, of its one form. -/
def encN (f : Int) (n : Nat) (e : Int) : Nat := enc f (n / 2 ^ lw n) (e + (lw n : Nat))
/-- The word to which a size is rounded, and the flags. -/
def unitR (f : Int) (n : Nat) (e : Int) : Int := max (e + (bl n : Nat) - (pr f : Nat)) (lo f)
def roundS (f m : Int) (s : Bool) (n : Nat) (e : Int) : Int × Int :=
  let q := R m s n e (unitR f n e)
  if (bl q : Int) + unitR f n e > wd f then ((overW f m s : Int), 20)
  else ((((if q = 0 then 0 else encN f q (unitR f n e)) + sgn f s : Nat) : Int),
    if exR n e (unitR f n e) = true then 0
    else if (bl (R m s n e (e + (bl n : Nat) - (pr f : Nat))) : Int) + (e + (bl n : Nat) - (pr f : Nat)) < lo f + (pr f : Nat) then 24 else 16)
theorem odd_bl {q p : Nat} (h0 : q ≠ 0) (h : q ≤ 2 ^ p) : bl (q / 2 ^ lw q) ≤ p ∨ p = 0 := by
  rcases Nat.eq_zero_or_pos p with hp | hp
  · exact .inr hp
  left
  rcases Nat.lt_or_ge q (2 ^ p) with c | c
  · exact bl_le_of_lt (Nat.lt_of_le_of_lt (Nat.div_le_self _ _) c)
  · have e : q = 2 ^ p := by omega
    have hw : lw q = p := lw_eq ⟨0, by rw [e]; omega⟩
    rw [hw, e, Nat.div_self (pw_pos p)]
    have : bl 1 = 1 := by decide
    omega
theorem top_lw {n : Nat} (h : n ≠ 0) : bl (n / 2 ^ lw n) + lw n = bl n := by
  have := lw_lt h
  rw [bl_down]; omega
end Go.Proofs.YtclegbgmhimenaaDoor.Eng.K

/- Rounding, the program: the first bits of a number, and what is behind them. -/
set_option linter.unusedVariables false
set_option linter.unusedSimpArgs false
namespace Go.Proofs.YtclegbgmhimenaaDoor.Eng.K
open Go.RowKit

def bN (b : Bool) : Nat := if b = true then 1 else 0
/-- What is known of a size: its first bits H, and whether something is behind them; d of the bits below the unit. -/
theorem rnd_eq {m : Int} {s : Bool} {n k n' k' : Nat} (h1 : n / 2 ^ k = n' / 2 ^ k') (h2 : 2 ^ k ≤ 2 * (n % 2 ^ k) ↔ 2 ^ k' ≤ 2 * (n' % 2 ^ k')) (h3 : 2 * (n % 2 ^ k) % 2 ^ k = 0 ↔ 2 * (n' % 2 ^ k') % 2 ^ k' = 0) : rnd m s n k = rnd m s n' k' := by
  unfold rnd
  rw [h1, decide_eq_decide.2 h2, decide_eq_decide.2 (show 2 * (n % 2 ^ k) % 2 ^ k ≠ 0 ↔ 2 * (n' % 2 ^ k') % 2 ^ k' ≠ 0 from not_congr h3)]
theorem dbl_mod {x M : Nat} (h : x < M) : 2 * x % M = 0 ↔ x = 0 ∨ 2 * x = M := by
  by_cases c : 2 * x < M
  · rw [Nat.mod_eq_of_lt c]; omega
  · have : 2 * x % M = 2 * x - M := by rw [Nat.mod_eq_sub_mod (by omega), Nat.mod_eq_of_lt (by omega)]
    rw [this]; omega
theorem split_pow {H j r d : Nat} (hr : r < 2 ^ j) : (H * 2 ^ j + r) / 2 ^ (d + j) = H / 2 ^ d ∧ (H * 2 ^ j + r) % 2 ^ (d + j) = H % 2 ^ d * 2 ^ j + r := by
  have := shift_nat (X := H) (P := 2 ^ j) (Q := 2 ^ d) (c := r) (pw_pos j) hr
  rw [Nat.pow_add, Nat.mul_comm (2 ^ d)]
  exact ⟨this.1, by rw [this.2, Nat.mul_comm]⟩
/-- Only whether something is behind counts. -/
theorem rnd_sticky (m : Int) (s : Bool) {H j r d : Nat} (hr : r < 2 ^ j) (hd : 1 ≤ d) : rnd m s (H * 2 ^ j + r) (d + j) = rnd m s (2 * H + bN (decide (r ≠ 0))) (d + 1) := by
  have hb : bN (decide (r ≠ 0)) < 2 ^ 1 := by unfold bN; split <;> omega
  have hb0 : bN (decide (r ≠ 0)) = 0 ↔ r = 0 := by
    unfold bN
    by_cases c : r = 0
    · simp [c]
    · simp [c]
  have e0 : 2 * H + bN (decide (r ≠ 0)) = H * 2 ^ 1 + bN (decide (r ≠ 0)) := by omega
  rw [e0]
  generalize bN (decide (r ≠ 0)) = b at *
  obtain ⟨a1, a2⟩ := split_pow (H := H) (d := d) hr
  obtain ⟨b1, b2⟩ := split_pow (H := H) (d := d) hb
  have hh := Nat.mod_lt H (pw_pos d)
  have hj := pw_pos j
  obtain ⟨d', rfl⟩ : ∃ d', d = d' + 1 := ⟨d - 1, by omega⟩
  have he : 2 ^ (d' + 1) = 2 * 2 ^ d' := by rw [Nat.pow_succ, Nat.mul_comm]
  refine rnd_eq (by rw [a1, b1]) ?_ ?_
  · rw [a2, b2, Nat.pow_add 2 (d' + 1) j, Nat.pow_add 2 (d' + 1) 1, he]
    rw [he] at hh
    generalize H % (2 * 2 ^ d') = h at *
    generalize 2 ^ d' = p at *
    generalize 2 ^ j = q at *
    constructor
    · intro h1
      rcases Nat.lt_or_ge h p with c | c
      · exfalso
        have h2 : (h + 1) * q ≤ p * q := Nat.mul_le_mul_right _ c
        rw [Nat.add_mul, Nat.one_mul] at h2
        rw [Nat.mul_assoc] at h1
        omega
      · omega
    · intro h1
      have h2 : p * q ≤ h * q := Nat.mul_le_mul_right _ (by omega)
      rw [Nat.mul_assoc]; omega
  · have l1 : H % 2 ^ (d' + 1) * 2 ^ j + r < 2 ^ (d' + 1 + j) := by
      rw [Nat.pow_add 2 (d' + 1) j]
      have h2 : (H % 2 ^ (d' + 1) + 1) * 2 ^ j ≤ 2 ^ (d' + 1) * 2 ^ j := Nat.mul_le_mul_right _ hh
      rw [Nat.add_mul, Nat.one_mul] at h2
      omega
    have l2 : H % 2 ^ (d' + 1) * 2 ^ 1 + b < 2 ^ (d' + 1 + 1) := by rw [Nat.pow_add 2 (d' + 1) 1]; omega
    rw [a2, b2, dbl_mod l1, dbl_mod l2, Nat.pow_add 2 (d' + 1) j, Nat.pow_add 2 (d' + 1) 1, he]
    rw [he] at hh
    generalize H % (2 * 2 ^ d') = h at *
    generalize 2 ^ d' = p at *
    generalize 2 ^ j = q at *
    constructor
    · rintro (h1 | h1)
      · have h2 : h * q = 0 := by omega
        rcases Nat.mul_eq_zero.1 h2 with h3 | h3
        · left; have := hb0.2 (by omega); omega
        · omega
      · right
        rw [Nat.mul_assoc] at h1
        rcases Nat.lt_trichotomy h p with c | c | c
        · have h2 : (h + 1) * q ≤ p * q := Nat.mul_le_mul_right _ c
          rw [Nat.add_mul, Nat.one_mul] at h2
          omega
        · subst c
          have := hb0.2 (by omega)
          omega
        · have h2 : (p + 1) * q ≤ h * q := Nat.mul_le_mul_right _ c
          rw [Nat.add_mul, Nat.one_mul] at h2
          omega
    · rintro (h1 | h1)
      · left
        have h2 : h = 0 := by omega
        have h3 := hb0.1 (by omega)
        rw [h2, h3]; omega
      · right
        have h2 : h = p := by omega
        have h3 := hb0.1 (by omega)
        rw [h2, h3, Nat.mul_assoc]; omega
theorem ex_sticky {H j r d : Nat} (hr : r < 2 ^ j) : (H * 2 ^ j + r) % 2 ^ (d + j) = 0 ↔ (2 * H + bN (decide (r ≠ 0))) % 2 ^ (d + 1) = 0 := by
  have hb : bN (decide (r ≠ 0)) < 2 ^ 1 := by unfold bN; split <;> omega
  have hb0 : bN (decide (r ≠ 0)) = 0 ↔ r = 0 := by
    unfold bN
    by_cases c : r = 0
    · simp [c]
    · simp [c]
  have e0 : 2 * H + bN (decide (r ≠ 0)) = H * 2 ^ 1 + bN (decide (r ≠ 0)) := by omega
  rw [e0]
  generalize bN (decide (r ≠ 0)) = b at *
  rw [(split_pow (H := H) (d := d) hr).2, (split_pow (H := H) (d := d) hb).2]
  have hj := pw_pos j
  constructor
  · intro h
    have h2 : H % 2 ^ d * 2 ^ j = 0 := by omega
    rcases Nat.mul_eq_zero.1 h2 with h3 | h3
    · have := hb0.2 (by omega); omega
    · omega
  · intro h
    have h2 : H % 2 ^ d = 0 := by omega
    have h3 := hb0.1 (by omega)
    rw [h2, h3]; omega
/-- In units of 2^E, of first bits H with their top at T. -/
def UP (m : Int) (s : Bool) (H : Nat) (T : Int) (b : Bool) (E : Int) : Nat := rnd m s (2 * H + bN b) ((E - T + 64).toNat + 1)
def XP (H : Nat) (T : Int) (b : Bool) (E : Int) : Bool := decide ((2 * H + bN b) % 2 ^ ((E - T + 64).toNat + 1) = 0)
/-- A number's first 64 bits. -/
def hd64 (n : Nat) : Nat := n * 2 ^ (64 - bl n) / 2 ^ (bl n - 64)
def mr64 (n : Nat) : Bool := decide (n % 2 ^ (bl n - 64) ≠ 0)
theorem hd64_b {n : Nat} (h : n ≠ 0) : 2 ^ 63 ≤ hd64 n ∧ hd64 n < 2 ^ 64 := by
  have h1 := lt_bl n
  have h2 := bl_le h
  have hp := bl_pos h
  unfold hd64
  by_cases c : bl n ≤ 64
  · have e1 : bl n - 64 = 0 := by omega
    rw [e1, Nat.pow_zero, Nat.div_one]
    have h3 : 2 ^ (bl n - 1) * 2 ^ (64 - bl n) ≤ n * 2 ^ (64 - bl n) := Nat.mul_le_mul_right _ h2
    have h4 : n * 2 ^ (64 - bl n) < 2 ^ bl n * 2 ^ (64 - bl n) := Nat.mul_lt_mul_of_pos_right h1 (pw_pos _)
    rw [← Nat.pow_add] at h3 h4
    rw [show bl n - 1 + (64 - bl n) = 63 by omega] at h3
    rw [show bl n + (64 - bl n) = 64 by omega] at h4
    exact ⟨h3, h4⟩
  · have e1 : 64 - bl n = 0 := by omega
    rw [e1, Nat.pow_zero, Nat.mul_one]
    constructor
    · rw [Nat.le_div_iff_mul_le (pw_pos _), ← Nat.pow_add, show 63 + (bl n - 64) = bl n - 1 by omega]; exact h2
    · rw [Nat.div_lt_iff_lt_mul (pw_pos _), ← Nat.pow_add, show 64 + (bl n - 64) = bl n by omega]; exact h1
theorem UP_R (m : Int) (s : Bool) {n : Nat} (hn : n ≠ 0) {e E : Int} (h : 1 ≤ E - (e + (bl n : Nat)) + 64) : UP m s (hd64 n) (e + (bl n : Nat)) (mr64 n) E = R m s n e E ∧ XP (hd64 n) (e + (bl n : Nat)) (mr64 n) E = exR n e E := by
  have hp := bl_pos hn
  generalize hd : (E - (e + (bl n : Nat)) + 64).toNat = d
  by_cases c : 64 ≤ bl n
  · have e1 : 64 - bl n = 0 := by omega
    have hH : hd64 n = n / 2 ^ (bl n - 64) := by unfold hd64; rw [e1, Nat.pow_zero, Nat.mul_one]
    have hsp : n = hd64 n * 2 ^ (bl n - 64) + n % 2 ^ (bl n - 64) := by
      rw [hH]
      have := Nat.div_add_mod n (2 ^ (bl n - 64))
      rw [Nat.mul_comm] at this
      exact this.symm
    have hr := Nat.mod_lt n (pw_pos (bl n - 64))
    have hk : (E - e).toNat = d + (bl n - 64) := by omega
    have hz : (e - E).toNat = 0 := by omega
    have st := rnd_sticky m s (H := hd64 n) (d := d) hr (by omega)
    have ex := ex_sticky (H := hd64 n) (d := d) hr
    rw [← hsp] at st ex
    unfold UP XP R exR mr64
    rw [hd, hk, hz, Nat.pow_zero, Nat.mul_one]
    exact ⟨st.symm, decide_eq_decide.2 ex.symm⟩
  · have e1 : bl n - 64 = 0 := by omega
    have hH : hd64 n = n * 2 ^ (64 - bl n) := by unfold hd64; rw [e1, Nat.pow_zero, Nat.div_one]
    have hm : mr64 n = false := by unfold mr64; rw [e1, Nat.pow_zero, Nat.mod_one]; rfl
    have hR := R_up m s n (e - (64 - bl n : Nat)) E (64 - bl n)
    have hX := exR_up n (e - (64 - bl n : Nat)) E (64 - bl n)
    rw [show e - ((64 - bl n : Nat) : Int) + ((64 - bl n : Nat) : Int) = e by omega, ← hH] at hR hX
    rw [← hR, ← hX, hm]
    unfold UP XP R exR bN
    rw [if_neg (by simp), Nat.add_zero, hd, show (e - ((64 - bl n : Nat) : Int) - E).toNat = 0 by omega, show (E - (e - ((64 - bl n : Nat) : Int))).toNat = d by omega, Nat.pow_zero, Nat.mul_one]
    have := rnd_up m s (hd64 n) d 1
    rw [Nat.pow_one, Nat.mul_comm] at this
    refine ⟨this, ?_⟩
    apply decide_eq_decide.2
    rw [Nat.pow_succ, Nat.mul_comm 2, Nat.mul_mod_mul_right]
    omega
end Go.Proofs.YtclegbgmhimenaaDoor.Eng.K

/- Rounding, the program: units, the word, the flags. -/
set_option linter.unusedVariables false
set_option linter.unusedSimpArgs false
namespace Go.Proofs.YtclegbgmhimenaaDoor.Eng.K
open Go.RowKit

theorem up_eq (m : Int) (s odd half more : Bool) : round_up.f m s odd half more = some (upB m s odd half more) := by
  unfold round_up.f upB
  by_cases c1 : m = 1
  · rw [if_pos c1, if_pos c1]; cases more <;> cases odd <;> cases half <;> rfl
  rw [if_neg c1, if_neg c1]
  by_cases c2 : m = 2
  · rw [if_pos c2, if_pos c2]
  rw [if_neg c2, if_neg c2]
  by_cases c4 : m = 4
  · rw [if_pos c4, if_pos c4]; cases s <;> cases half <;> cases more <;> rfl
  rw [if_neg c4, if_neg c4]
  by_cases c5 : m = 5
  · rw [if_pos c5, if_pos c5]; cases s <;> cases half <;> cases more <;> rfl
  · rw [if_neg c5, if_neg c5]
theorem btoi_eq (b : Bool) : round_btoi.f b = some (bN b : Int) := by cases b <;> rfl
theorem and1 (a : Nat) (ha : a < 18446744073709551616) : Go.bits .and .u64 (a : Int) 1 = ((a % 2 : Nat) : Int) := and_low a 1 ha (by omega)
theorem units_j2 (m : Int) (s : Bool) {W : Nat} (hW : W < 9223372036854775808) (half more : Bool) : Ev (fun k => round_part_units.j2 k m s (W : Int) half more) (((W + bN (upB m s (decide (W % 2 = 1)) half more) : Nat) : Int), !half && !more) := by
  have hb : bN (upB m s (decide (W % 2 = 1)) half more) ≤ 1 := by unfold bN; split <;> omega
  refine ev_step ?_
  simp only [round_part_units.j2]
  rw [and1 W (by omega)]
  have e1 : decide (((W % 2 : Nat) : Int) = 1) = decide (W % 2 = 1) := decide_eq_decide.2 (by omega)
  rw [e1]
  refine ev_bind (up_eq _ _ _ _ _) ?_; try dsimp only
  refine ev_bind (btoi_eq _) ?_; try dsimp only
  rw [← Int.natCast_add, u64_n (by omega)]
  cases half
  · exact ev_pos rfl (Ev.now _)
  · exact ev_neg (by simp) (Ev.now _)
/-- The bits about the unit. -/
theorem bits_about {H d : Nat} (b : Bool) (hd : 1 ≤ d) : (2 * H + bN b) / 2 ^ (d + 1) = H / 2 ^ d ∧
    decide (2 ^ (d + 1) ≤ 2 * ((2 * H + bN b) % 2 ^ (d + 1))) = decide (H / 2 ^ (d - 1) % 2 = 1) ∧
    decide (2 * ((2 * H + bN b) % 2 ^ (d + 1)) % 2 ^ (d + 1) ≠ 0) = (b || decide (H % 2 ^ (d - 1) ≠ 0)) ∧
    decide ((2 * H + bN b) % 2 ^ (d + 1) = 0) = (!decide (H / 2 ^ (d - 1) % 2 = 1) && !(b || decide (H % 2 ^ (d - 1) ≠ 0))) := by
  have hb : bN b < 2 ^ 1 := by unfold bN; split <;> omega
  have hb0 : bN b = 0 ↔ b = false := by unfold bN; cases b <;> simp
  have hb1 : bN b ≤ 1 := by unfold bN; split <;> omega
  obtain ⟨d', rfl⟩ : ∃ d', d = d' + 1 := ⟨d - 1, by omega⟩
  have hs := split_pow (H := H) (d := d' + 1) hb
  have e0 : H * 2 ^ 1 + bN b = 2 * H + bN b := by omega
  rw [e0] at hs
  have hm : H % 2 ^ (d' + 1) = H % 2 ^ d' + 2 ^ d' * (H / 2 ^ d' % 2) := by rw [Nat.pow_succ, Nat.mod_mul]
  have hl := Nat.mod_lt H (pw_pos d')
  have h2 : H / 2 ^ d' % 2 = 0 ∨ H / 2 ^ d' % 2 = 1 := by omega
  have hp : 2 ^ (d' + 1 + 1) = 4 * 2 ^ d' := by rw [Nat.pow_succ, Nat.pow_succ]; omega
  have hx : H % 2 ^ (d' + 1) * 2 ^ 1 + bN b < 4 * 2 ^ d' := by
    rw [hm]; rcases h2 with h | h <;> rw [h] <;> omega
  rw [hs.1, hs.2, hp]
  rw [show d' + 1 - 1 = d' from rfl]
  refine ⟨rfl, ?_, ?_, ?_⟩
  · apply decide_eq_decide.2
    rw [hm]; rcases h2 with h | h <;> rw [h] <;> constructor <;> intro h3 <;> omega
  · have e3 : (b || decide (H % 2 ^ d' ≠ 0)) = decide (¬ (bN b = 0 ∧ H % 2 ^ d' = 0)) := by
      by_cases c : H % 2 ^ d' = 0
      · cases b <;> simp [c, bN]
      · cases b <;> simp [c, bN]
    rw [e3]
    apply decide_eq_decide.2
    apply not_congr
    rw [dbl_mod hx, hm]
    rcases h2 with h | h <;> rw [h] <;> constructor
    · rintro (h3 | h3) <;> omega
    · rintro ⟨h3, h4⟩; left; omega
    · rintro (h3 | h3) <;> omega
    · rintro ⟨h3, h4⟩; right; omega
  · have e3 : (!decide (H / 2 ^ d' % 2 = 1) && !(b || decide (H % 2 ^ d' ≠ 0))) = decide (¬ (H / 2 ^ d' % 2 = 1) ∧ (bN b = 0 ∧ H % 2 ^ d' = 0)) := by
      by_cases c : H % 2 ^ d' = 0
      · rcases h2 with h | h <;> cases b <;> simp [c, h, bN]
      · rcases h2 with h | h <;> cases b <;> simp [c, h, bN]
    rw [e3]
    apply decide_eq_decide.2
    rw [hm]
    rcases h2 with h | h <;> rw [h] <;> constructor <;> intro h3 <;> omega
theorem units_ev (m : Int) (s : Bool) {H : Nat} (hH : 2 ^ 63 ≤ H ∧ H < 2 ^ 64) {T E : Int} (b : Bool) (hd : 1 ≤ E - T + 64) (h1 : -1000000000 ≤ T) (h2 : T ≤ 1000000000) (h3 : -1000000000 ≤ E) (h4 : E ≤ 1000000000) :
    Ev (fun k => round_part_units.f k (H : Int) T b m s E) ((UP m s H T b E : Int), XP H T b E) := by
  have ew : wrap64 (wrap64 (E - T) + 64) = E - T + 64 := by unfold wrap64; omega
  unfold round_part_units.f
  rw [ew]
  clear ew
  obtain ⟨d, hdd⟩ := Int.eq_ofNat_of_zero_le (show 0 ≤ E - T + 64 by omega)
  have hdn : (E - T + 64).toNat = d := by omega
  unfold UP XP
  rw [hdn, hdd]
  rw [hdd] at hd
  clear hdn hdd
  have hd1 : 1 ≤ d := by omega
  have hbb : bN b ≤ 1 := by unfold bN; split <;> omega
  by_cases c : d > 64
  · have hp : 2 ^ 66 ≤ 2 ^ (d + 1) := Nat.pow_le_pow_right (by omega) (by omega)
    have e1 : rnd m s (2 * H + bN b) (d + 1) = bN (upB m s false false true) := by
      unfold rnd
      rw [Nat.div_eq_of_lt (by omega), Nat.mod_eq_of_lt (a := 2 * H + bN b) (by omega), Nat.mod_eq_of_lt (a := 2 * (2 * H + bN b)) (by omega)]
      rw [decide_eq_false (by omega : ¬ (0 % 2 = 1)), decide_eq_false (by omega : ¬ (2 ^ (d + 1) ≤ 2 * (2 * H + bN b))), decide_eq_true (by omega : 2 * (2 * H + bN b) ≠ 0), Nat.zero_add]
      rfl
    have e2 : decide ((2 * H + bN b) % 2 ^ (d + 1) = 0) = false := decide_eq_false (by rw [Nat.mod_eq_of_lt (by omega)]; omega)
    rw [e1, e2]
    refine ev_pos (by omega) ?_
    refine ev_bind (up_eq _ _ _ _ _) ?_; try dsimp only
    refine ev_bind (btoi_eq _) ?_; try dsimp only
    exact Ev.now _
  refine ev_neg (by omega) ?_
  obtain ⟨a1, a2, a3, a4⟩ := bits_about (H := H) b hd1
  have e1 : rnd m s (2 * H + bN b) (d + 1) = H / 2 ^ d + bN (upB m s (decide (H / 2 ^ d % 2 = 1)) (decide (H / 2 ^ (d - 1) % 2 = 1)) (b || decide (H % 2 ^ (d - 1) ≠ 0))) := by
    unfold rnd
    rw [a1, a2, a3]; rfl
  rw [e1, a4]
  clear a1 a2 a3 a4 e1
  have hW : H / 2 ^ d < 9223372036854775808 := by
    rw [Nat.div_lt_iff_lt_mul (pw_pos d)]
    have : 2 ^ 1 ≤ 2 ^ d := Nat.pow_le_pow_right (by omega) hd1
    have := Nat.mul_le_mul_left 9223372036854775808 this
    omega
  have last : Ev (fun k => round_part_units.j1 k m s (H : Int) T b (d : Int) ((H / 2 ^ d : Nat) : Int) false b) (((H / 2 ^ d + bN (upB m s (decide (H / 2 ^ d % 2 = 1)) (decide (H / 2 ^ (d - 1) % 2 = 1)) (b || decide (H % 2 ^ (d - 1) ≠ 0))) : Nat) : Int), (!decide (H / 2 ^ (d - 1) % 2 = 1) && !(b || decide (H % 2 ^ (d - 1) ≠ 0)))) := by
    have ew : wrap64 ((d : Int) - 1) = ((d - 1 : Nat) : Int) := by unfold wrap64; omega
    have hp64 : 2 ^ (d - 1) ≤ 2 ^ 63 := Nat.pow_le_pow_right (by omega) (by omega)
    have hpp := pw_pos (d - 1)
    have hq : H / 2 ^ (d - 1) ≤ H := Nat.div_le_self _ _
    refine ev_step ?_
    simp only [round_part_units.j1]
    rw [ew]
    clear ew
    rw [shr_n H (d - 1) (by show d - 1 ≤ 64; omega), and1 _ (by omega)]
    have e2 : decide (((H / 2 ^ (d - 1) % 2 : Nat) : Int) = 1) = decide (H / 2 ^ (d - 1) % 2 = 1) := decide_eq_decide.2 (by omega)
    have e3 : shl .u64 1 ((d - 1 : Nat) : Int) = ((2 ^ (d - 1) : Nat) : Int) := by
      have := shl_u64 (X := 1) (s := d - 1) (by omega) (by omega)
      rw [Nat.one_mul] at this
      exact this
    have e4 : IntKind.u64.wrap (((2 ^ (d - 1) : Nat) : Int) - 1) = ((2 ^ (d - 1) - 1 : Nat) : Int) := by
      rw [show ((2 ^ (d - 1) : Nat) : Int) - 1 = ((2 ^ (d - 1) - 1 : Nat) : Int) by omega]
      exact u64_n (by omega)
    have e5 : decide (¬ (((H % 2 ^ (d - 1) : Nat) : Int) = 0)) = decide (H % 2 ^ (d - 1) ≠ 0) := decide_eq_decide.2 (by omega)
    rw [e2, e3, e4, and_low H (d - 1) (by omega) (by omega), e5]
    refine ev_pos (by omega) (ev_pos (by omega) ?_)
    cases b
    · refine ev_neg (by simp) (ev_pos (by omega) ?_)
      exact units_j2 m s hW _ _
    · refine ev_pos rfl ?_
      exact units_j2 m s hW _ _
  by_cases c2 : d < 64
  · refine ev_pos (by omega) (ev_pos (by omega) ?_)
    rw [shr_n H d (by show d ≤ 64; omega)]
    exact last
  · have hd64 : d = 64 := by omega
    have e0 : H / 2 ^ d = 0 := Nat.div_eq_of_lt (by rw [hd64]; exact hH.2)
    refine ev_neg (by omega) ?_
    rw [e0] at last ⊢
    exact last
/-! ### the word -/
/-- What rounding comes to, of a top and of what is taken in each unit. -/
def roundG (f m : Int) (s : Bool) (T : Int) (U : Int → Nat) (X : Int → Bool) : Int × Int :=
  if (bl (U (max (T - (pr f : Nat)) (lo f))) : Int) + max (T - (pr f : Nat)) (lo f) > wd f then ((overW f m s : Int), 20)
  else ((((if U (max (T - (pr f : Nat)) (lo f)) = 0 then 0 else encN f (U (max (T - (pr f : Nat)) (lo f))) (max (T - (pr f : Nat)) (lo f))) + sgn f s : Nat) : Int),
    if X (max (T - (pr f : Nat)) (lo f)) = true then 0
    else if (bl (U (T - (pr f : Nat))) : Int) + (T - (pr f : Nat)) < lo f + (pr f : Nat) then 24 else 16)
theorem roundG_S (f m : Int) (s : Bool) (n : Nat) (e : Int) : roundG f m s (e + (bl n : Nat)) (R m s n e) (exR n e) = roundS f m s n e := rfl
theorem roundG_congr {f m : Int} {s : Bool} {T : Int} {U U' : Int → Nat} {X X' : Int → Bool} (h : ∀ E, T - (pr f : Nat) ≤ E → U E = U' E ∧ X E = X' E) : roundG f m s T U X = roundG f m s T U' X' := by
  unfold roundG
  rw [(h (max (T - (pr f : Nat)) (lo f)) (by omega)).1, (h (max (T - (pr f : Nat)) (lo f)) (by omega)).2, (h (T - (pr f : Nat)) (by omega)).1]
theorem formOf_eq {f : Int} (h : isF f) : round_formOf.f f = some ((pr f : Int), lo f, wd f, true) := by rcases h with rfl | rfl <;> rfl
theorem formOf_bad {f : Int} (h : ¬ isF f) : round_formOf.f f = some (0, 0, 0, false) := by
  unfold round_formOf.f
  rw [if_neg (fun e => h (.inl e)), if_neg (fun e => h (.inr e))]
/-- The error of a format or a mode that is none. -/
def fmE (f m : Int) : Int := if isF f then (if isM m then 0 else 5) else 4
theorem open_good {f m : Int} (h : isF f) (hm : isM m) : Ev (fun k => round_open.f k f m []) ((pr f : Int), lo f, wd f, 0) := by
  unfold round_open.f
  unfold isM at hm
  refine ev_bind (formOf_eq h) ?_; try dsimp only
  refine ev_neg (by simp) (ev_neg (by omega) (ev_neg (by omega) ?_))
  refine ev_step ?_
  simp only [round_open.l0]
  exact ev_neg (by simp) (Ev.now _)
theorem open_bad {f m : Int} (h : fmE f m ≠ 0) : ∃ r : Int × Int × Int × Int, r.2.2.2 = fmE f m ∧ Ev (fun k => round_open.f k f m []) r ∧ ∀ d, Ev (fun k => round_open.f k f m [d]) r := by
  unfold fmE at *
  by_cases c : isF f
  · rw [if_pos c] at h ⊢
    by_cases hm : isM m
    · rw [if_pos hm] at h; exact absurd rfl h
    · rw [if_neg hm]
      unfold isM at hm
      have : ∀ l, Ev (fun k => round_open.f k f m l) ((pr f : Int), lo f, wd f, 5) := by
        intro l
        unfold round_open.f
        refine ev_bind (formOf_eq c) ?_; try dsimp only
        refine ev_neg (by simp) ?_
        by_cases c : m < 1
        · exact ev_pos c (Ev.now _)
        · exact ev_neg c (ev_pos (by omega) (Ev.now _))
      exact ⟨((pr f : Int), lo f, wd f, 5), rfl, this _, fun d => this _⟩
  · rw [if_neg c]
    have : ∀ l, Ev (fun k => round_open.f k f m l) (0, 0, 0, 4) := by
      intro l
      unfold round_open.f
      refine ev_bind (formOf_bad c) ?_; try dsimp only
      exact ev_pos (by simp) (Ev.now _)
    exact ⟨(0, 0, 0, 4), rfl, this _, fun d => this _⟩
theorem open_one {f m : Int} (h : isF f) (hm : isM m) {s : Bool} {l : List Int} {e : Int} (hd : My s l e) : Ev (fun k => round_open.f k f m [(s, l, e)]) ((pr f : Int), lo f, wd f, 0) := by
  unfold round_open.f
  unfold isM at hm
  refine ev_bind (formOf_eq h) ?_; try dsimp only
  refine ev_neg (by simp) (ev_neg (by omega) (ev_neg (by omega) ?_))
  have e1 : wrap64 (0 + 1) = 1 := by rw [w64n (by omega) (by omega)]; rfl
  have el : (([(s, l, e)] : List (Bool × List Int × Int)).length : Int) = 1 := rfl
  have r0 : rdT [.b, .is .u32, .i .i64] [(s, l, e)] 0 = (s, l, e) := rfl
  refine ev_step ?_
  simp only [round_open.l0, el, e1, r0]
  clear e1
  refine ev_pos (by omega) (ev_pos (by omega) (ev_pos (by omega) ?_))
  refine ev_bind (dyad_May_true hd) ?_; try dsimp only
  refine ev_neg (by simp) (ev_step ?_)
  simp only [round_open.l0]
  exact ev_neg (by omega) (Ev.now _)
theorem Over_j1 {f : Int} (h : isF f) (s b : Bool) : Ev (fun k => round_Over.j1 k f s b) ((((if b = true then mo f * 2 ^ fb f - 1 else mo f * 2 ^ fb f) + sgn f s : Nat) : Int), 0) := by
  refine ev_step ?_
  simp only [round_Over.j1]
  cases b
  · refine ev_neg (by simp) ?_
    refine Ev.bind (word_Inf_ev h s) ?_; try dsimp only
    exact Ev.now _
  · refine ev_pos rfl ?_
    refine Ev.bind (word_Greatest_ev h s) ?_; try dsimp only
    exact Ev.now _
theorem Over_ev {f m : Int} (h : isF f) (hm : isM m) (s : Bool) : Ev (fun k => round_Over.f k f m s) ((overW f m s : Int), 0) := by
  have j := fun b => Over_j1 h s b
  unfold round_Over.f overW
  refine Ev.bind (open_good h hm) ?_; try dsimp only
  refine ev_neg (by simp) ?_
  by_cases c3 : m = 3
  · refine ev_pos c3 ?_
    have e : inw m s = true := by unfold inw; simp [c3]
    rw [e]; exact j true
  refine ev_neg c3 ?_
  by_cases c4 : m = 4
  · refine ev_pos c4 ?_
    have e : inw m s = s := by unfold inw; simp [c4]
    rw [e]
    cases s
    · exact ev_neg (by simp) (ev_neg (by omega) (j false))
    · exact ev_pos rfl (j true)
  refine ev_neg c4 ?_
  by_cases c5 : m = 5
  · refine ev_pos c5 ?_
    have e : inw m s = !s := by unfold inw; simp [c5]
    rw [e]; exact j (!s)
  · refine ev_neg c5 ?_
    have e : inw m s = false := by unfold inw; simp [c3, c4, c5]
    rw [e]; exact j false
theorem Over_bad {f m : Int} (h : fmE f m ≠ 0) (s : Bool) : Ev (fun k => round_Over.f k f m s) (0, fmE f m) := by
  obtain ⟨r, hr, ho, _⟩ := open_bad h
  unfold round_Over.f
  refine Ev.bind (ho) ?_; try dsimp only
  rw [hr]
  exact ev_pos h (Ev.now _)
end Go.Proofs.YtclegbgmhimenaaDoor.Eng.K

/- Rounding, the program: a number as a word. -/
set_option linter.unusedVariables false
set_option linter.unusedSimpArgs false
namespace Go.Proofs.YtclegbgmhimenaaDoor.Eng.K
open Go.RowKit

theorem word_Of_zero {f : Int} (h : isF f) : Ev (fun k => word_Of.f k f false [] 0) (0, 0) := by
  have hm : My false [] 0 := ⟨⟨Nm_nil, fun _ => ⟨rfl, rfl⟩, fun h => absurd rfl h⟩, by simp, by omega, by omega⟩
  have hn := nat_Num_ev Dg.nil (by simp)
  have e1 : numB [] = true := numB_small Nm_nil (by simp)
  rw [e1, if_pos rfl] at hn
  have hl := len64_ev (x := 0) (by omega)
  have b0 : bl (Int.toNat 0) = 0 := bl_zero
  rw [b0] at hl
  have hfb := fb_le h
  have w1 : wrap64 ((fb f : Int) + 1) = (fb f : Int) + 1 := by unfold wrap64; omega
  unfold word_Of.f
  refine Ev.bind (word_open_nil h) ?_; try dsimp only
  refine ev_neg (fun h => h rfl) ?_
  refine ev_bind (dyad_May_true hm) ?_; try dsimp only
  refine ev_neg (by simp) ?_
  refine Ev.bind (hn) ?_; try dsimp only
  refine Ev.bind (hl) ?_; try dsimp only
  rw [w1]
  clear w1
  refine ev_neg (by simp) (ev_neg (by omega) (ev_neg (by simp) ?_))
  exact ev_pos rfl (Ev.now _)
theorem UP_le {m : Int} {s : Bool} {H : Nat} (hH : H < 2 ^ 64) {T E : Int} {b : Bool} {p : Nat} (hp : p ≤ 64) (h : T - (p : Nat) ≤ E) : UP m s H T b E ≤ 2 ^ p := by
  have hb : bN b ≤ 1 := by unfold bN; split <;> omega
  have h1 : (2 * H + bN b) / 2 ^ ((E - T + 64).toNat + 1) < 2 ^ p := by
    rw [Nat.div_lt_iff_lt_mul (pw_pos _), ← Nat.pow_add]
    have : 2 ^ 65 ≤ 2 ^ (p + ((E - T + 64).toNat + 1)) := Nat.pow_le_pow_right (by omega) (by omega)
    omega
  unfold UP rnd
  split <;> omega
theorem word_of_size {f : Int} (h : isF f) (s : Bool) {q : Nat} {E : Int} (hq : q ≤ 2 ^ pr f) (hE : lo f ≤ E) (hw : (bl q : Int) + E ≤ wd f) (h0 : q ≠ 0) : Ev (fun k => word_Of.f k f (mk (sv s q) E).1 (mk (sv s q) E).2.1 (mk (sv s q) E).2.2) (((encN f q E + sgn f s : Nat) : Int), 0) := by
  have hpr := pr_eq h
  have hfb := fb_le h
  have hl := lo_b h
  have hwb := wd_b h
  have h2 := (odd_bl h0 hq).resolve_right (by omega)
  have h3 := top_lw h0
  have hdy := Dy_mk (sv s q) E
  rw [mk_sv s h0] at hdy ⊢
  have hne : D (q / 2 ^ lw q) ≠ [] := by
    intro hc
    have h1 : V (D (q / 2 ^ lw q)) = 0 := by rw [hc]; rfl
    rw [V_D] at h1
    rw [h1, bl_zero] at h3
    have := lw_lt h0
    omega
  have hmy : My s (D (q / 2 ^ lw q)) (E + (lw q : Nat)) := ⟨hdy, len_bl (by omega), by omega, by omega⟩
  have := word_Of_ev h hmy hne (by rw [V_D]; exact h2) (by omega) (by rw [V_D]; omega)
  rw [V_D] at this
  exact this
theorem part_j1 {f m : Int} (h : isF f) (s : Bool) {H : Nat} (hH : 2 ^ 63 ≤ H ∧ H < 2 ^ 64) {T : Int} (b : Bool) (h1 : -100000000 ≤ T) (h2 : T ≤ 100000000) (x : Bool) (w : Int) :
    Ev (fun k => round_part_word.j1 k m s (H : Int) T b (pr f : Int) (lo f) (wd f) x w) (w, if x = true then 0 else if (bl (UP m s H T b (T - (pr f : Nat))) : Int) + (T - (pr f : Nat)) < lo f + (pr f : Nat) then 24 else 16) := by
  have hpr := pr_eq h
  have hfb := fb_le h
  have hl := lo_b h
  have hu := units_ev m s hH (T := T) (E := T - (pr f : Nat)) b (by omega) (by omega) (by omega) (by omega) (by omega)
  have hle := UP_le (m := m) (s := s) (H := H) (b := b) hH.2 (T := T) (E := T - (pr f : Nat)) (p := pr f) (by omega) (Int.le_refl _)
  have h2f := two_fb h
  have hlen := len64_ev (x := (UP m s H T b (T - (pr f : Nat)) : Int)) ⟨by omega, by omega⟩
  rw [Int.toNat_natCast] at hlen
  have hb : bl (UP m s H T b (T - (pr f : Nat))) ≤ 64 := bl_le_of_lt (by omega)
  refine ev_step ?_
  simp only [round_part_word.j1]
  cases x
  · refine ev_neg (by simp) ?_
    have w0 : wrap64 (T - ((pr f : Nat) : Int)) = T - ((pr f : Nat) : Int) := by unfold wrap64; omega
    rw [w0]
    clear w0
    refine Ev.bind (hu) ?_; try dsimp only
    refine Ev.bind (hlen) ?_; try dsimp only
    have w1 : wrap64 (wrap64 ((bl (UP m s H T b (T - (pr f : Nat))) : Int) + T) - ((pr f : Nat) : Int)) = (bl (UP m s H T b (T - (pr f : Nat))) : Int) + (T - (pr f : Nat)) := by unfold wrap64; omega
    have w2 : wrap64 (lo f + ((pr f : Nat) : Int)) = lo f + ((pr f : Nat) : Int) := by clear w1; unfold wrap64; omega
    rw [w1, w2]
    clear w1 w2
    rw [if_neg Bool.false_ne_true]
    by_cases c : (bl (UP m s H T b (T - (pr f : Nat))) : Int) + (T - (pr f : Nat)) < lo f + (pr f : Nat)
    · exact ev_pos c (ev_eq (Ev.now _) (by rw [if_pos c]))
    · exact ev_neg c (ev_eq (Ev.now _) (by rw [if_neg c]))
  · exact ev_pos rfl (Ev.now _)
theorem part_word_ev {f m : Int} (h : isF f) (hm : isM m) (s : Bool) {H : Nat} (hH : 2 ^ 63 ≤ H ∧ H < 2 ^ 64) {T : Int} (b : Bool) (h1 : -100000000 ≤ T) (h2 : T ≤ 100000000) :
    Ev (fun k => round_part_word.f k (H : Int) T b f (pr f : Int) (lo f) (wd f) m s) (roundG f m s T (UP m s H T b) (XP H T b)) := by
  have hpr := pr_eq h
  have hfb := fb_le h
  have hl := lo_b h
  have hwb := wd_b h
  have h2f := two_fb h
  obtain ⟨E, hE⟩ : ∃ E, E = max (T - (pr f : Nat)) (lo f) := ⟨_, rfl⟩
  have hu := units_ev m s hH (T := T) (E := E) b (by omega) (by omega) (by omega) (by omega) (by omega)
  have hle := UP_le (m := m) (s := s) (H := H) (b := b) hH.2 (T := T) (E := E) (p := pr f) (by omega) (by omega)
  have hlen := len64_ev (x := (UP m s H T b E : Int)) ⟨by omega, by omega⟩
  rw [Int.toNat_natCast] at hlen
  have hb : bl (UP m s H T b E) ≤ 64 := bl_le_of_lt (by omega)
  have ho := nat_Of_ev (n := (UP m s H T b E : Int)) (by omega) (by omega)
  rw [Int.toNat_natCast] at ho
  have hj := part_j1 (m := m) h s hH (T := T) b h1 h2 (XP H T b E)
  have hwos := word_of_size h s (q := UP m s H T b E) (E := E) hle (by omega)
  have em : mx (wrap64 (T - ((pr f : Nat) : Int))) (lo f) = E := by rw [mx_eq, wsubx (by omega) (by omega) (by omega) (by omega), hE]
  unfold round_part_word.f roundG
  rw [em, ← hE]
  clear em
  refine Ev.bind (hu) ?_; try dsimp only
  refine Ev.bind (hlen) ?_; try dsimp only
  have w1 : wrap64 ((bl (UP m s H T b E) : Int) + E) = (bl (UP m s H T b E) : Int) + E := waddx (by omega) (by omega) (by omega) (by omega)
  rw [w1]
  clear w1
  by_cases c : (bl (UP m s H T b E) : Int) + E > wd f
  · rw [if_pos c]
    refine ev_pos c ?_
    refine Ev.bind (Over_ev h hm s) ?_; try dsimp only
    exact Ev.now _
  rw [if_neg c]
  refine ev_neg c ?_
  refine Ev.bind (ho) ?_; try dsimp only
  have m1 := dyad_Make_ev s (Nm_D (UP m s H T b E)) (len_bl (by omega)) E
  rw [V_D, makeR_ok3 (by omega) (by omega)] at m1
  refine Ev.bind (m1) ?_; try dsimp only
  by_cases c0 : UP m s H T b E = 0
  · have hz := word_Of_zero h
    rw [if_pos c0]
    rw [c0, sv_zero, mk_zero]
    refine Ev.bind (hz) ?_; try dsimp only
    refine ev_pos rfl ?_
    refine Ev.bind (word_Zero_ev h s) ?_; try dsimp only
    rw [Nat.zero_add]
    exact hj _
  · rw [if_neg c0]
    refine Ev.bind (hwos (by omega) c0) ?_; try dsimp only
    refine ev_neg (by omega) ?_
    exact hj _
theorem partOf_ev {s : Bool} {l : List Int} {e : Int} (hd : My s l e) (h0 : V l ≠ 0) : Ev (fun k => round_partOf.f k s l e) ((hd64 (V l) : Int), e + (bl (V l) : Nat), mr64 (V l)) := by
  have hlen := hd.len
  have hb := bl_list hd.dy.nm.dg
  have hlo := hd.lo
  have hhi := hd.hi
  have hH := hd64_b h0
  unfold round_partOf.f
  refine Ev.bind (nat_Len_ev hd.dy.nm hlen) ?_; try dsimp only
  have w1 : wrap64 (e + ((bl (V l) : Nat) : Int)) = e + ((bl (V l) : Nat) : Int) := waddx (by omega) (by omega) (by omega) (by omega)
  have w2 : wrap64 (64 - ((bl (V l) : Nat) : Int)) = 64 - ((bl (V l) : Nat) : Int) := by clear w1; unfold wrap64; omega
  rw [w1, w2]
  clear w1 w2
  have hs := nat_Shift_ev hd.dy.nm hlen (64 - ((bl (V l) : Nat) : Int))
  have es : shiftR (V l) (64 - ((bl (V l) : Nat) : Int)) = (D (hd64 (V l)), mr64 (V l), 0) := by
    by_cases c : bl (V l) ≤ 64
    · have e1 : 64 - ((bl (V l) : Nat) : Int) = ((64 - bl (V l) : Nat) : Int) := by omega
      have e2 : bl (V l) - 64 = 0 := by omega
      rw [e1, shiftR_up (by omega)]
      unfold hd64 mr64
      rw [e2, Nat.pow_zero, Nat.div_one, Nat.mod_one]; rfl
    · have e1 : 64 - ((bl (V l) : Nat) : Int) = -((bl (V l) - 64 : Nat) : Int) := by omega
      have e2 : 64 - bl (V l) = 0 := by omega
      rw [e1, shiftR_down (by omega) (by omega)]
      unfold hd64 mr64
      rw [e2, Nat.pow_zero, Nat.mul_one]
  rw [es] at hs
  refine Ev.bind (hs) ?_; try dsimp only
  have hl2 : (D (hd64 (V l))).length ≤ 2 := D_lt (by omega)
  have hn := nat_Num_ev (Dg_D (hd64 (V l))) (by omega)
  rw [numB_small (Nm_D _) (by rw [V_D]; omega), if_pos rfl, V_D] at hn
  refine Ev.bind (hn) ?_; try dsimp only
  exact Ev.now _
theorem Round_ev {f m : Int} (h : isF f) (hm : isM m) {s : Bool} {l : List Int} {e : Int} (hd : My s l e) (h0 : V l ≠ 0) : Ev (fun k => round_Round.f k f m s l e) ((roundS f m s (V l) e).1, (roundS f m s (V l) e).2, 0) := by
  have hb := bl_list hd.dy.nm.dg
  have hlen := hd.len
  have hlo := hd.lo
  have hhi := hd.hi
  have hpr := pr_eq h
  have hfb := fb_le h
  have hp := part_word_ev h hm s (hd64_b h0) (T := e + (bl (V l) : Nat)) (mr64 (V l)) (by omega) (by omega)
  have hg : roundG f m s (e + (bl (V l) : Nat)) (UP m s (hd64 (V l)) (e + (bl (V l) : Nat)) (mr64 (V l))) (XP (hd64 (V l)) (e + (bl (V l) : Nat)) (mr64 (V l))) = roundS f m s (V l) e := by
    rw [← roundG_S]
    refine roundG_congr ?_
    intro E hE
    exact UP_R m s h0 (by omega)
  rw [hg] at hp
  unfold round_Round.f
  refine Ev.bind (open_one h hm hd) ?_; try dsimp only
  refine ev_neg (by simp) ?_
  refine Ev.bind (dyad_Sign_ev hd) ?_; try dsimp only
  refine ev_neg (by rw [sv_sign h0]; split <;> omega) ?_
  refine Ev.bind (partOf_ev hd h0) ?_; try dsimp only
  refine Ev.bind (hp) ?_; try dsimp only
  exact Ev.now _
end Go.Proofs.YtclegbgmhimenaaDoor.Eng.K

/- Words of one format as words of another; what is asked ahead. -/
set_option linter.unusedVariables false
set_option linter.unusedSimpArgs false
namespace Go.Proofs.YtclegbgmhimenaaDoor.Eng.K
open Go.RowKit

theorem roundS_up (f m : Int) (s : Bool) {n : Nat} (hn : n ≠ 0) (e : Int) (j : Nat) : roundS f m s (n * 2 ^ j) e = roundS f m s n (e + j) := by
  have hu : unitR f (n * 2 ^ j) e = unitR f n (e + j) := by unfold unitR; rw [bl_up hn]; congr 1; omega
  have hb : e + (bl (n * 2 ^ j) : Nat) - (pr f : Nat) = e + j + (bl n : Nat) - (pr f : Nat) := by rw [bl_up hn]; omega
  unfold roundS
  simp only [hu, hb, R_up, exR_up]
theorem roundS_mk (f m : Int) {z : Int} (hz : z ≠ 0) (e : Int) : roundS f m (mk z e).1 (V (mk z e).2.1) (mk z e).2.2 = roundS f m (decide (z < 0)) z.natAbs e := by
  have hza : z.natAbs ≠ 0 := by omega
  obtain ⟨q, hq⟩ := lw_is hza
  have hd : z.natAbs / 2 ^ lw z.natAbs = 2 * q + 1 := by
    have : z.natAbs / 2 ^ lw z.natAbs = 2 ^ lw z.natAbs * (2 * q + 1) / 2 ^ lw z.natAbs := by rw [← hq]
    rw [this, Nat.mul_div_cancel_left _ (pw_pos _)]
  unfold mk
  rw [if_neg hz]
  show roundS f m (decide (z < 0)) (V (D (z.natAbs / 2 ^ lw z.natAbs))) (e + (lw z.natAbs : Nat)) = _
  rw [V_D, ← roundS_up f m _ (by rw [hd]; omega), hd]
  congr 1
  rw [Nat.mul_comm]; exact hq.symm
/-- Not too long, not too far out, for the program. -/
structure Mg (z e : Int) : Prop where
  b : bl z.natAbs ≤ 131072
  lo : -16777216 ≤ e
  hi : e + (bl z.natAbs : Nat) ≤ 16777216
theorem my_of {z e : Int} (h : Mg z e) : My (mk z e).1 (mk z e).2.1 (mk z e).2.2 := My_mk h.lo h.hi h.b
theorem V_mk_ne {z : Int} (hz : z ≠ 0) (e : Int) : V (mk z e).2.1 ≠ 0 := by
  have := mz_ne hz e
  intro h
  unfold mz at this
  rw [h, sv_zero] at this
  exact this rfl
theorem Round_mk {f m : Int} (h : isF f) (hm : isM m) {z e : Int} (hz : z ≠ 0) (hg : Mg z e) : Ev (fun k => round_Round.f k f m (mk z e).1 (mk z e).2.1 (mk z e).2.2) ((roundS f m (decide (z < 0)) z.natAbs e).1, (roundS f m (decide (z < 0)) z.natAbs e).2, 0) := by
  have := Round_ev h hm (my_of hg) (V_mk_ne hz e)
  rw [roundS_mk f m hz e] at this
  exact this
/-! ### words that are numbers -/
theorem cls_num {f : Int} (h : isF f) {w : Nat} (h1 : cls f w ≠ 1) (h2 : cls f w < 4) : wmag f w ≠ 0 := by
  rw [cls_eq h] at h1 h2
  have hp := pw_pos (fb f)
  unfold wmag
  by_cases c : wexpo f w = 0
  · rw [if_pos c] at h1 h2 ⊢
    intro h3
    rw [if_pos h3] at h1
    exact h1 rfl
  · rw [if_neg c]; omega
theorem cls_b {f : Int} (h : isF f) (w : Nat) : 1 ≤ cls f w ∧ cls f w ≤ 5 := by
  rw [cls_eq h]; split
  · split <;> omega
  · split
    · omega
    · split <;> omega
theorem wmag_bl {f : Int} (h : isF f) (w : Nat) : bl (wmag f w) ≤ pr f := by
  have h1 := wfrac_lt f w
  have h2 := pr_eq h
  refine bl_le_of_lt ?_
  rw [h2, Nat.pow_succ]
  unfold wmag; split <;> omega
theorem w_sv {s : Bool} {n : Nat} (h : n ≠ 0) : decide (sv s n < 0) = s ∧ (sv s n).natAbs = n ∧ sv s n ≠ 0 := ⟨sv_neg h, sv_abs s n, fun h2 => h (sv_eq_zero.1 h2)⟩
theorem w_mg {f : Int} (h : isF f) (w : Nat) : Mg (sv (wneg f w) (wmag f w)) (wex f w) := by
  have h1 := wmag_bl h w
  have h2 := wex_b h w
  have h3 := pr_eq h
  have h4 := fb_le h
  refine ⟨by rw [sv_abs]; omega, by omega, by rw [sv_abs]; omega⟩
/-! ### errors ahead -/
theorem mode_ev (f m : Int) : Ev (fun k => conv_mode.f k f m) (fmE f m) := by
  unfold conv_mode.f
  by_cases h : fmE f m = 0
  · have hf : isF f := by unfold fmE at h; split at h; · assumption
                          · omega
    have hm : isM m := by unfold fmE at h; rw [if_pos hf] at h; split at h; · assumption
                          · omega
    refine Ev.bind (Over_ev hf hm false) ?_; try dsimp only
    exact ev_eq (Ev.now _) h.symm
  · refine Ev.bind (Over_bad h false) ?_; try dsimp only
    exact Ev.now _
theorem fmE_zero {f m : Int} : fmE f m = 0 ↔ isF f ∧ isM m := by
  unfold fmE
  by_cases h : isF f
  · rw [if_pos h]
    by_cases hm : isM m
    · rw [if_pos hm]; exact ⟨fun _ => ⟨h, hm⟩, fun _ => rfl⟩
    · rw [if_neg hm]; exact ⟨fun h => by omega, fun h => absurd h.2 hm⟩
  · rw [if_neg h]; exact ⟨fun h => by omega, fun k => absurd k.1 h⟩
/-- The error of a format, a mode, a word. -/
def opE (f m : Int) (w : Nat) : Int := if fmE f m ≠ 0 then fmE f m else goodE f w
theorem conv_open_good {f m : Int} (h : isF f) (hm : isM m) {w : Nat} (hw : w < 2 * sg f) : Ev (fun k => conv_open.f k f m (w : Int)) (cls f w, wneg f w, 0) := by
  unfold conv_open.f
  have he := mode_ev f m
  rw [fmE_zero.2 ⟨h, hm⟩] at he
  refine Ev.bind (he) ?_; try dsimp only
  refine ev_neg (by simp) ?_
  refine Ev.bind (word_Class_ev h hw) ?_; try dsimp only
  refine Ev.bind (word_Split_ev h hw) ?_; try dsimp only
  exact Ev.now _
theorem opE_zero {f m : Int} {w : Nat} : opE f m w = 0 ↔ isF f ∧ isM m ∧ w < 2 * sg f := by
  unfold opE
  by_cases c : fmE f m = 0
  · obtain ⟨h, hm⟩ := fmE_zero.1 c
    rw [if_neg (fun h => h c)]
    unfold goodE
    by_cases c2 : w < 2 * sg f
    · rw [if_pos c2]; exact ⟨fun _ => ⟨h, hm, c2⟩, fun _ => rfl⟩
    · rw [if_neg c2]; exact ⟨fun h => by omega, fun h => absurd h.2.2 c2⟩
  · rw [if_pos c]
    exact ⟨fun h => absurd h c, fun h => absurd (fmE_zero.2 ⟨h.1, h.2.1⟩) c⟩
/-! ### To -/
def toS (f g m : Int) (w : Nat) : Int × Int :=
  if cls f w = 5 then ((nanW g : Int), 0) else if cls f w = 4 then (((mo g * 2 ^ fb g + sgn g (wneg f w) : Nat) : Int), 0) else if cls f w = 1 then ((sgn g (wneg f w) : Int), 0)
  else roundS g m (wneg f w) (wmag f w) (wex f w)
theorem conv_To_ev {f g m : Int} (h : isF f) (hg : isF g) (hm : isM m) {w : Nat} (hw : w < 2 * sg f) : Ev (fun k => conv_To.f k f g m (w : Int)) ((toS f g m w).1, (toS f g m w).2, 0) := by
  unfold conv_To.f toS
  have he := mode_ev g m
  rw [fmE_zero.2 ⟨hg, hm⟩] at he
  refine Ev.bind (he) ?_; try dsimp only
  refine ev_neg (by omega) ?_
  refine Ev.bind (conv_open_good h hm hw) ?_; try dsimp only
  refine ev_neg (by simp) ?_
  by_cases c5 : cls f w = 5
  · rw [if_pos c5]
    refine ev_pos c5 ?_
    refine Ev.bind (word_None_ev hg) ?_; try dsimp only
    exact Ev.now _
  rw [if_neg c5]
  refine ev_neg c5 ?_
  by_cases c4 : cls f w = 4
  · rw [if_pos c4]
    refine ev_pos c4 ?_
    refine Ev.bind (word_Inf_ev hg (wneg f w)) ?_; try dsimp only
    exact Ev.now _
  rw [if_neg c4]
  refine ev_neg c4 ?_
  by_cases c1 : cls f w = 1
  · rw [if_pos c1]
    refine ev_pos c1 ?_
    refine Ev.bind (word_Zero_ev hg (wneg f w)) ?_; try dsimp only
    exact Ev.now _
  rw [if_neg c1]
  refine ev_neg c1 ?_
  have hb := cls_b h w
  obtain ⟨a1, a2, a3⟩ := w_sv (s := wneg f w) (cls_num h c1 (by omega))
  refine Ev.bind (word_Value_ev h hw (by omega)) ?_; try dsimp only
  have hr := Round_mk hg hm a3 (w_mg h w)
  rw [a1, a2] at hr
  refine Ev.bind (hr) ?_; try dsimp only
  exact Ev.now _
end Go.Proofs.YtclegbgmhimenaaDoor.Eng.K

/- Remainders: the program's and the reference's quotients to the nearest even whole number. -/
set_option linter.unusedVariables false
set_option linter.unusedSimpArgs false
namespace Go.Proofs.YtclegbgmhimenaaDoor.Eng.K
open Go.RowKit

/-- The whole number nearest to X / Y, of two the even one; what is left of X. -/
def rnE (X Y : Nat) : Nat := X / Y + (if 2 * (X % Y) > Y ∨ (2 * (X % Y) = Y ∧ X / Y % 2 = 1) then 1 else 0)
def remI (X Y : Nat) : Int := (X : Int) - (rnE X Y : Int) * (Y : Int)
def sI (s : Bool) (i : Int) : Int := if s = true then -i else i
theorem remI_cases (X Y : Nat) (hY : 0 < Y) : (rnE X Y = X / Y ∧ remI X Y = ((X % Y : Nat) : Int) ∧ 2 * (X % Y) ≤ Y) ∨ (rnE X Y = X / Y + 1 ∧ remI X Y = -((Y - X % Y : Nat) : Int) ∧ Y ≤ 2 * (X % Y) ∧ X % Y < Y) := by
  have h1 := Nat.div_add_mod X Y
  have h2 := Nat.mod_lt X hY
  unfold remI
  by_cases c : 2 * (X % Y) > Y ∨ (2 * (X % Y) = Y ∧ X / Y % 2 = 1)
  · right
    have e : rnE X Y = X / Y + 1 := by unfold rnE; rw [if_pos c]
    refine ⟨e, ?_, by omega, h2⟩
    rw [e, Int.natCast_add, Int.add_mul, ← Int.natCast_mul, Nat.mul_comm (X / Y) Y]
    generalize Y * (X / Y) = w at *
    omega
  · left
    have e : rnE X Y = X / Y := by unfold rnE; rw [if_neg c, Nat.add_zero]
    refine ⟨e, ?_, by omega⟩
    rw [e, ← Int.natCast_mul, Nat.mul_comm (X / Y) Y]
    generalize Y * (X / Y) = w at *
    omega
theorem remI_le (X Y : Nat) (hY : 0 < Y) : (remI X Y).natAbs ≤ X ∧ 2 * (remI X Y).natAbs ≤ Y := by
  have h1 := Nat.mod_le X Y
  have h3 := Nat.div_add_mod X Y
  rcases remI_cases X Y hY with ⟨_, h, h2⟩ | ⟨_, h, h2, h4⟩
  · rw [h]; omega
  · rw [h]; omega
theorem sv_sI (s : Bool) (n : Nat) : sv s n = sI s (n : Int) := rfl
theorem sI_neg (s : Bool) (i : Int) : sI s (-i) = -sI s i := by unfold sI; split <;> omega
theorem left_ev {sx sy : Bool} {lx ly : List Int} {ex ey : Int} (hx : Dy sx lx ex) (hy : Dy sy ly ey) (x0 : V lx ≠ 0) (y0 : V ly ≠ 0) (bx : bl (V lx) ≤ 64) (bY : bl (V ly) ≤ 64) (h1 : -5000 ≤ ex) (h2 : ex ≤ 5000) (h3 : -5000 ≤ ey) (h4 : ey ≤ 5000) :
    Ev (fun k => conv_left.f k sx lx ex sy ly ey) (mk (sI sx (remI (V lx * 2 ^ (ex - min ex ey).toNat) (V ly * 2 ^ (ey - min ex ey).toNat))) (min ex ey)) := by
  have lenx : lx.length ≤ 2 := by have := len_bl (x := V lx) (k := 2) (by omega); rwa [hx.nm] at this
  have leny : ly.length ≤ 2 := by have := len_bl (x := V ly) (k := 2) (by omega); rwa [hy.nm] at this
  obtain ⟨u, hu⟩ : ∃ u, u = min ex ey := ⟨_, rfl⟩
  obtain ⟨a, ha⟩ : ∃ a : Nat, a = (ex - u).toNat := ⟨_, rfl⟩
  obtain ⟨b, hb⟩ : ∃ b : Nat, b = (ey - u).toNat := ⟨_, rfl⟩
  have hs1 := nat_Shift_ev hx.nm (by omega) (a : Int)
  rw [shiftR_up (by omega)] at hs1
  have hs2 := nat_Shift_ev hy.nm (by omega) (b : Int)
  rw [shiftR_up (by omega)] at hs2
  have w1 : wrap64 (ex - mn ex ey) = (a : Int) := by rw [mn_eq, ← hu]; unfold wrap64; omega
  have w2 : wrap64 (ey - mn ex ey) = (b : Int) := by clear w1; rw [mn_eq, ← hu]; unfold wrap64; omega
  have b1 := bl_up x0 a
  have b2 := bl_up y0 b
  have p1 := Nat.mul_pos (Nat.pos_of_ne_zero x0) (pw_pos a)
  have p2 := Nat.mul_pos (Nat.pos_of_ne_zero y0) (pw_pos b)
  unfold conv_left.f
  rw [w1, w2, mn_eq, ← hu, ← ha, ← hb]
  clear w1 w2
  have ba : a ≤ 10000 := by omega
  have bb : b ≤ 10000 := by omega
  have bu : -5000 ≤ u ∧ u ≤ 5000 := by omega
  clear ha hb hu h1 h2 h3 h4
  generalize hX : V lx * 2 ^ a = X at *
  generalize hY : V ly * 2 ^ b = Y at *
  have hq := nat_QuoRem_ev (Nm_D X) (Nm_D Y) (len_bl (by omega)) (len_bl (by omega))
  rw [V_D, V_D, show quoR X Y = (D (X / Y), D (X % Y), 0) by unfold quoR; rw [if_neg (by omega)]] at hq
  have hr := Nat.mod_lt X (show Y > 0 by omega)
  have hrb := bl_mono (Nat.le_of_lt hr)
  have hs3 := nat_Shift_ev (Nm_D (X % Y)) (len_bl (by omega)) ((1 : Nat) : Int)
  rw [V_D, shiftR_up (by omega), Nat.pow_one] at hs3
  have hr2 := bl_up_le (X % Y) 1
  rw [Nat.pow_one] at hr2
  have hc := nat_Cmp_ev (Nm_D (X % Y * 2)) (Nm_D Y) (len_bl (by omega)) (len_bl (by omega))
  rw [V_D, V_D] at hc
  have jj2 : ∀ (s : Bool) (n : Nat), bl n ≤ 20000 → Ev (fun k => conv_left.j2 k false [] 0 u (D n) s) (mk (sv s n) u) := by
    intro s n hn
    have m1 := dyad_Make_ev s (Nm_D n) (len_bl (by omega)) u
    rw [V_D, makeR_ok3 (by omega) (by omega)] at m1
    refine ev_step ?_
    simp only [conv_left.j2]
    exact Ev.bind m1 (Ev.now _)
  have jj1 : ∀ (x90 : Bool), (x90 = true ↔ (2 * (X % Y) > Y ∨ (2 * (X % Y) = Y ∧ X / Y % 2 = 1))) → Ev (fun k => conv_left.j1 k false [] 0 u (D Y) (D (X % Y)) sx x90) (mk (sI sx (remI X Y)) u) := by
    intro x90 hx90
    refine ev_step ?_
    simp only [conv_left.j1]
    cases x90
    · have hn : ¬ (2 * (X % Y) > Y ∨ (2 * (X % Y) = Y ∧ X / Y % 2 = 1)) := fun h => by have := hx90.2 h; cases this
      have e : remI X Y = ((X % Y : Nat) : Int) := by
        rcases remI_cases X Y (by omega) with ⟨_, h, _⟩ | ⟨h, _, _, _⟩
        · exact h
        · exfalso; unfold rnE at h; rw [if_neg hn] at h; omega
      rw [e]
      exact ev_neg (by simp) (jj2 sx (X % Y) (by omega))
    · have hp := hx90.1 rfl
      have e : remI X Y = -((Y - X % Y : Nat) : Int) := by
        rcases remI_cases X Y (by omega) with ⟨h, _, _⟩ | ⟨_, h, _, _⟩
        · exfalso; unfold rnE at h; rw [if_pos hp] at h; omega
        · exact h
      have hsub := nat_Sub_ev (Nm_D Y) (Nm_D (X % Y)) (len_bl (by omega)) (len_bl (by omega))
      rw [V_D, V_D, show subR Y (X % Y) = (D (Y - X % Y), 0) by unfold subR; rw [if_neg (by omega)]] at hsub
      have hbl := bl_mono (show Y - X % Y ≤ Y by omega)
      rw [e, sI_neg, ← sv_sI, ← sv_not]
      refine ev_pos rfl ?_
      refine Ev.bind (hsub) ?_; try dsimp only
      exact jj2 (!sx) (Y - X % Y) (by omega)
  have jj0 : ∀ (o : Bool), o = decide (X / Y % 2 = 1) → Ev (fun k => conv_left.j0 k sx lx ex false [] 0 u (D Y) (D (X % Y)) (cmpN (X % Y * 2) Y) o) (mk (sI sx (remI X Y)) u) := by
    rintro o rfl
    refine ev_step ?_
    simp only [conv_left.j0]
    unfold cmpN
    rcases Nat.lt_trichotomy (X % Y * 2) Y with c | c | c
    · rw [if_pos c]
      refine ev_neg (by omega) (ev_neg (by omega) (jj1 _ ?_))
      constructor
      · intro h; cases h
      · intro h; omega
    · rw [if_neg (by omega), if_neg (by omega)]
      refine ev_neg (by omega) (ev_pos rfl (jj1 _ ?_))
      rw [decide_eq_true_iff]
      constructor
      · intro h; right; omega
      · rintro (h | h)
        · omega
        · exact h.2
    · rw [if_neg (by omega), if_pos c]
      refine ev_pos (by omega) (jj1 _ ?_)
      constructor
      · intro _; left; omega
      · intro _; rfl
  refine Ev.bind (hs1) ?_; try dsimp only
  refine Ev.bind (hs2) ?_; try dsimp only
  refine Ev.bind (hq) ?_; try dsimp only
  refine Ev.bind (hs3) ?_; try dsimp only
  refine Ev.bind (hc) ?_; try dsimp only
  by_cases c : D (X / Y) = []
  · have h0 : X / Y = 0 := by rw [← V_D (X / Y), c]; rfl
    refine ev_neg (by rw [c]; simp) ?_
    exact jj0 false (by rw [h0]; rfl)
  · have hl := len_pos c
    refine ev_pos hl (ev_pos (by omega) ?_)
    have hod := low_digit (Dg_D (X / Y))
    rw [V_D] at hod
    rw [hod]
    refine jj0 _ ?_
    exact decide_eq_decide.2 (by omega)
/-! ### the reference -/
end Go.Proofs.YtclegbgmhimenaaDoor.Eng.K

/- Remainders, the reference: cuts, quotients, the nearest whole number. -/
set_option linter.unusedVariables false
set_option linter.unusedSimpArgs false
namespace Go.Proofs.YtclegbgmhimenaaDoor.Eng.K
open Go.RowKit

theorem mz_abs {z : Int} (h : z ≠ 0) (e : Int) : ∃ j : Nat, z.natAbs = V (mk z e).2.1 * 2 ^ j ∧ (mk z e).2.2 = e + j ∧ (mk z e).1 = decide (z < 0) ∧ V (mk z e).2.1 ≠ 0 := by
  have hza : z.natAbs ≠ 0 := by omega
  obtain ⟨q, hq⟩ := lw_is hza
  have hd : z.natAbs / 2 ^ lw z.natAbs = 2 * q + 1 := by
    have : z.natAbs / 2 ^ lw z.natAbs = 2 ^ lw z.natAbs * (2 * q + 1) / 2 ^ lw z.natAbs := by rw [← hq]
    rw [this, Nat.mul_div_cancel_left _ (pw_pos _)]
  have hm : mk z e = (decide (z < 0), D (z.natAbs / 2 ^ lw z.natAbs), e + (lw z.natAbs : Nat)) := by unfold mk; rw [if_neg h]
  refine ⟨lw z.natAbs, ?_, by rw [hm], by rw [hm], ?_⟩
  · rw [hm]
    show _ = V (D _) * _
    rw [V_D, hd, Nat.mul_comm]; exact hq
  · rw [hm]
    show V (D _) ≠ 0
    rw [V_D, hd]; omega
/-- What a cut leaves. -/
theorem cut_scale (n j b : Nat) (hn : n ≠ 0) (s : Bool) (e : Int) : mk (sv s (n * 2 ^ j / 2 ^ (bl (n * 2 ^ j) - b))) (e + ((bl (n * 2 ^ j) - b : Nat) : Int)) = mk (sv s (n / 2 ^ (bl n - b))) (e + j + ((bl n - b : Nat) : Int)) ∧ (n * 2 ^ j % 2 ^ (bl (n * 2 ^ j) - b) = 0 ↔ n % 2 ^ (bl n - b) = 0) := by
  rw [bl_up hn]
  by_cases c : bl n ≤ b
  · have e1 : bl n - b = 0 := by omega
    have e2 : bl n + j - b ≤ j := by omega
    generalize bl n + j - b = t at *
    have h1 : n * 2 ^ j = n * 2 ^ (j - t) * 2 ^ t := by rw [Nat.mul_assoc, ← Nat.pow_add]; congr 2; omega
    rw [e1, Nat.pow_zero, Nat.div_one, Nat.mod_one, h1, Nat.mul_div_cancel _ (pw_pos t), Nat.mul_mod_left]
    refine ⟨?_, Iff.rfl⟩
    have h2 : sv s (n * 2 ^ (j - t)) = sv s n * 2 ^ (j - t) := by
      unfold sv; split
      · rw [Int.neg_mul, Int.natCast_mul, Int.natCast_pow]; rfl
      · rw [Int.natCast_mul, Int.natCast_pow]; rfl
    rw [h2, mk_up]; congr 1; omega
  · have e1 : bl n + j - b = bl n - b + j := by omega
    rw [e1]
    have h1 := split_pow (H := n) (j := j) (r := 0) (d := bl n - b) (pw_pos j)
    rw [Nat.add_zero] at h1
    rw [h1.1, h1.2]
    refine ⟨by congr 1; omega, ?_⟩
    constructor
    · intro h
      have h2 : n % 2 ^ (bl n - b) * 2 ^ j = 0 := by omega
      rcases Nat.mul_eq_zero.1 h2 with h3 | h3
      · exact h3
      · have := pw_pos j; omega
    · intro h; rw [h]; omega
theorem rCut_mk {z : Int} (hz : z ≠ 0) {e : Int} (hb : bl z.natAbs ≤ 20000000) (h1 : -90000000000000 ≤ e) (h2 : e ≤ 90000000000000) (b : Nat) (hbb : b ≤ 100000000) : Ev (fun k => cutplaneref02_Cut.f k (mk z e).1 (mk z e).2.1 (mk z e).2.2 b) ((mk (sv (decide (z < 0)) (z.natAbs / 2 ^ (bl z.natAbs - b))) (e + ((bl z.natAbs - b : Nat) : Int))).1, (mk (sv (decide (z < 0)) (z.natAbs / 2 ^ (bl z.natAbs - b))) (e + ((bl z.natAbs - b : Nat) : Int))).2.1, (mk (sv (decide (z < 0)) (z.natAbs / 2 ^ (bl z.natAbs - b))) (e + ((bl z.natAbs - b : Nat) : Int))).2.2, decide (z.natAbs % 2 ^ (bl z.natAbs - b) ≠ 0)) := by
  have a1 := mk_len z e
  have a2 := me_b z e
  have e1 : (mk z e).2.2 = me z e := rfl
  obtain ⟨j, j1, j2, j3, j4⟩ := mz_abs hz e
  have := ref_Cut2_ev (Dy_mk z e) (by omega) (by omega) (by omega) b hbb
  refine ev_eq this ?_
  have hc := cut_scale (V (mk z e).2.1) j b j4 (decide (z < 0)) e
  rw [← j1] at hc
  rw [j2, j3, ← hc.1]
  have : decide (V (mk z e).2.1 % 2 ^ (bl (V (mk z e).2.1) - b) ≠ 0) = decide (z.natAbs % 2 ^ (bl z.natAbs - b) ≠ 0) := decide_eq_decide.2 (not_congr hc.2.symm)
  rw [this]
/-- A quotient of sizes, cut to b bits. -/
def quoN (A B b : Nat) : Nat := b + 1 + bl B - bl A
def quoC (A B b : Nat) : Nat := bl (A * 2 ^ quoN A B b / B) - b
def quoQ (A B b : Nat) : Nat := A * 2 ^ quoN A B b / (B * 2 ^ quoC A B b)
def quoL (A B b : Nat) : Bool := decide (A * 2 ^ quoN A B b % (B * 2 ^ quoC A B b) ≠ 0)
theorem wexp2 {ea eb : Int} {n : Nat} (h1 : -1000000000 ≤ ea) (h2 : ea ≤ 1000000000) (h3 : -1000000000 ≤ eb) (h4 : eb ≤ 1000000000) (hn : n ≤ 100000000) : wrap64 (wrap64 (ea - eb) - (n : Int)) = ea - eb - (n : Int) := by unfold wrap64; omega
theorem wlen3 {b x y : Nat} (h1 : b ≤ 1000000) (h2 : x ≤ 10000000) (h3 : y ≤ 10000000) : wrap64 (wrap64 (wrap64 ((b : Int) + 1) + (x : Int)) - (y : Int)) = (b : Int) + 1 + (x : Int) - (y : Int) := by unfold wrap64; omega
theorem rQuo_ev {sa sb : Bool} {la lb : List Int} {ea eb : Int} (ha : Dy sa la ea) (hb : Dy sb lb eb) (A0 : V la ≠ 0) (B0 : V lb ≠ 0) (l1 : la.length ≤ 100000) (l2 : lb.length ≤ 100000) (h1 : -1000000000 ≤ ea) (h2 : ea ≤ 1000000000) (h3 : -1000000000 ≤ eb) (h4 : eb ≤ 1000000000) (b : Nat) (hbb : b ≤ 1000000) :
    Ev (fun k => cutplaneref02_Quo.f k sa la ea sb lb eb b) ((mk (sv (sa != sb) (quoQ (V la) (V lb) b)) (ea - eb - (quoN (V la) (V lb) b : Nat) + (quoC (V la) (V lb) b : Nat))).1, (mk (sv (sa != sb) (quoQ (V la) (V lb) b)) (ea - eb - (quoN (V la) (V lb) b : Nat) + (quoC (V la) (V lb) b : Nat))).2.1, (mk (sv (sa != sb) (quoQ (V la) (V lb) b)) (ea - eb - (quoN (V la) (V lb) b : Nat) + (quoC (V la) (V lb) b : Nat))).2.2, quoL (V la) (V lb) b) := by
  have b1 := bl_list ha.nm.dg
  have b2 := bl_list hb.nm.dg
  have lne : lb ≠ [] := fun h => B0 (by rw [h]; rfl)
  have ane : la ≠ [] := fun h => A0 (by rw [h]; rfl)
  have hN : quoN (V la) (V lb) b = b + 1 + bl (V lb) - bl (V la) := rfl
  have hC : quoC (V la) (V lb) b = bl (V la * 2 ^ quoN (V la) (V lb) b / V lb) - b := rfl
  have hup := ref_Up_ev ha.nm.dg (by omega) (quoN (V la) (V lb) b) (by omega)
  have hul := upl_len ha.nm.dg (n := quoN (V la) (V lb) b)
  have hq := ref_QuoRem_ev (Nm_D (V la * 2 ^ quoN (V la) (V lb) b)) hb.nm (by omega) (by omega) lne
  rw [V_D] at hq
  have last : ∀ u v w, Ev (fun k => cutplaneref02_Quo.j1 k b sa la ea sb lb eb u v w (quoN (V la) (V lb) b : Nat)) ((mk (sv (sa != sb) (quoQ (V la) (V lb) b)) (ea - eb - (quoN (V la) (V lb) b : Nat) + (quoC (V la) (V lb) b : Nat))).1, (mk (sv (sa != sb) (quoQ (V la) (V lb) b)) (ea - eb - (quoN (V la) (V lb) b : Nat) + (quoC (V la) (V lb) b : Nat))).2.1, (mk (sv (sa != sb) (quoQ (V la) (V lb) b)) (ea - eb - (quoN (V la) (V lb) b : Nat) + (quoC (V la) (V lb) b : Nat))).2.2, quoL (V la) (V lb) b) := by
    intro u v w
    refine ev_step ?_
    simp only [cutplaneref02_Quo.j1]
    refine Ev.bind (hup) ?_; try dsimp only
    refine Ev.bind (hq) ?_; try dsimp only
    rw [wexp2 h1 h2 h3 h4 (by omega), ne_dec]
    have eQ : quoQ (V la) (V lb) b = V la * 2 ^ quoN (V la) (V lb) b / V lb / 2 ^ quoC (V la) (V lb) b := by unfold quoQ; rw [Nat.div_div_eq_div_mul]
    have eL : quoL (V la) (V lb) b = (decide (V la * 2 ^ quoN (V la) (V lb) b / V lb % 2 ^ quoC (V la) (V lb) b ≠ 0) || decide (V la * 2 ^ quoN (V la) (V lb) b % V lb ≠ 0)) := by
      unfold quoL
      rw [Nat.mod_mul]
      have hB : 0 < V lb := by omega
      generalize V la * 2 ^ quoN (V la) (V lb) b / V lb % 2 ^ quoC (V la) (V lb) b = x
      generalize V la * 2 ^ quoN (V la) (V lb) b % V lb = y
      by_cases c : x = 0
      · subst c; simp
      · have : V lb * x ≠ 0 := Nat.mul_ne_zero (by omega) c
        rw [decide_eq_true (show y + V lb * x ≠ 0 by omega), decide_eq_true c, Bool.true_or]
    have hqb : bl (V la * 2 ^ quoN (V la) (V lb) b / V lb) ≤ bl (V la) + quoN (V la) (V lb) b := Nat.le_trans (bl_mono (Nat.div_le_self _ _)) (bl_up_le _ _)
    have hQ0 : V la * 2 ^ quoN (V la) (V lb) b / V lb ≠ 0 := by
      have h5 := lt_bl (V lb)
      have h6 : 2 ^ bl (V lb) ≤ V la * 2 ^ quoN (V la) (V lb) b := by
        have h7 := bl_le A0
        have h8 : 2 ^ (bl (V la) - 1) * 2 ^ quoN (V la) (V lb) b ≤ V la * 2 ^ quoN (V la) (V lb) b := Nat.mul_le_mul_right _ h7
        rw [← Nat.pow_add] at h8
        have h9 := bl_pos A0
        exact Nat.le_trans (Nat.pow_le_pow_right (by omega) (by omega)) h8
      have := Nat.div_pos (show V lb ≤ V la * 2 ^ quoN (V la) (V lb) b by omega) (by omega)
      omega
    rw [eL, eQ]
    generalize hNN : quoN (V la) (V lb) b = n at *
    generalize hCC : quoC (V la) (V lb) b = c at *
    generalize V la * 2 ^ n % V lb = y
    generalize hx : V la * 2 ^ n / V lb = x at *
    clear hup hq
    have hf := ref_Form_ev (sa != sb) (Nm_D x) (by have := len_bl (x := x) (k := 300000) (by omega); omega) (e := ea - eb - (n : Int)) (by omega) (by omega)
    rw [V_D] at hf
    refine Ev.bind (hf) ?_; try dsimp only
    obtain ⟨a1, a2, a3⟩ := w_sv (s := (sa != sb)) hQ0
    have hc := rCut_mk a3 (e := ea - eb - (n : Int)) (by rw [a2]; omega) (by omega) (by omega) b (by omega)
    rw [a1, a2, ← hC] at hc
    refine Ev.bind (hc) ?_; try dsimp only
    cases hcx : decide (x % 2 ^ c ≠ 0)
    · refine ev_neg (by simp) (ev_eq (Ev.now _) ?_)
      rw [Bool.false_or]
      have : decide (((D y).length : Int) > 0) = decide (y ≠ 0) := decide_eq_decide.2 (by
        constructor
        · intro h h2; rw [h2, D_zero] at h; simp at h
        · intro h
          have : (D y) ≠ [] := fun h2 => h (by rw [← V_D y, h2]; rfl)
          exact len_pos this)
      rw [this]
    · refine ev_pos rfl (ev_eq (Ev.now _) ?_)
      rw [Bool.true_or]
  unfold cutplaneref02_Quo.f
  refine ev_neg (fun h => ane (nil_len.1 h)) ?_
  refine Ev.bind (ref_Len_ev hb.nm (by omega)) ?_; try dsimp only
  refine Ev.bind (ref_Len_ev ha.nm (by omega)) ?_; try dsimp only
  rw [wlen3 hbb (by omega) (by omega)]
  by_cases c : (b : Int) + 1 + (bl (V lb) : Nat) - (bl (V la) : Nat) < 0
  · refine ev_pos c ?_
    have : ((quoN (V la) (V lb) b : Nat) : Int) = 0 := by omega
    rw [← this]
    exact last _ _ _
  · refine ev_neg c ?_
    have : (b : Int) + 1 + (bl (V lb) : Nat) - (bl (V la) : Nat) = ((quoN (V la) (V lb) b : Nat) : Int) := by omega
    rw [this]
    exact last _ _ _
theorem sv_pow (s : Bool) (n j : Nat) : sv s n * 2 ^ j = sv s (n * 2 ^ j) := by
  unfold sv; split
  · rw [Int.neg_mul, Int.natCast_mul, Int.natCast_pow]; rfl
  · rw [Int.natCast_mul, Int.natCast_pow]; rfl
end Go.Proofs.YtclegbgmhimenaaDoor.Eng.K

/- Remainders of words, both ways; what is known. -/
set_option linter.unusedVariables false
set_option linter.unusedSimpArgs false
namespace Go.Proofs.YtclegbgmhimenaaDoor.Eng.K
open Go.RowKit

theorem bl_mul (x y : Nat) : bl (x * y) ≤ bl x + bl y := bl_le_of_lt (by rw [Nat.pow_add]; exact Nat.mul_lt_mul'' (lt_bl x) (lt_bl y))
/-- A finite word's number, in its one form. -/
def wv (f : Int) (w : Nat) : Bool × List Int × Int := mk (sv (wneg f w) (wmag f w)) (wex f w)
structure Wv (f : Int) (w : Nat) : Prop where
  dy : Dy (wv f w).1 (wv f w).2.1 (wv f w).2.2
  ne : V (wv f w).2.1 ≠ 0
  b : bl (V (wv f w).2.1) ≤ pr f
  lo : lo f ≤ (wv f w).2.2
  hi : (wv f w).2.2 + (bl (V (wv f w).2.1) : Nat) = wex f w + (bl (wmag f w) : Nat)
  s : (wv f w).1 = wneg f w
theorem fin_top {f : Int} (h : isF f) {w : Nat} (h2 : cls f w < 4) : wex f w + (bl (wmag f w) : Nat) ≤ wd f := by
  rw [cls_eq h] at h2
  have h3 := wmag_bl h w
  have h4 := fits_room h
  have h5 := wfrac_lt f w
  have h6 := pr_eq h
  have h7 := mo_ge h
  have hlo := lo_b h
  have hwd := wd_b h
  by_cases c : wexpo f w = 0
  · unfold wex; rw [if_pos c]
    have := fb_le h
    omega
  · rw [if_neg c] at h2
    have : wexpo f w < mo f := by
      rcases Nat.lt_or_ge (wexpo f w) (mo f) with c2 | c2
      · exact c2
      · rw [if_neg (by omega)] at h2; split at h2 <;> omega
    unfold wex; rw [if_neg c]
    omega
theorem wv_ok {f : Int} (h : isF f) {w : Nat} (h1 : cls f w ≠ 1) (h2 : cls f w < 4) : Wv f w := by
  have hn := cls_num h h1 h2
  obtain ⟨a1, a2, a3⟩ := w_sv (s := wneg f w) hn
  obtain ⟨j, j1, j2, j3, j4⟩ := mz_abs a3 (wex f w)
  have hb := wmag_bl h w
  have hl : lo f ≤ wex f w := by
    unfold wex
    split <;> omega
  rw [a2] at j1
  have hbl : bl (wmag f w) = bl (V (wv f w).2.1) + j := by rw [j1]; exact bl_up j4 j
  have e2 : (wv f w).2.2 = wex f w + j := j2
  refine ⟨Dy_mk _ _, j4, by omega, by omega, by omega, ?_⟩
  show (mk _ _).1 = _
  rw [j3, a1]
/-- What is left. -/
def remA (f : Int) (a b : Nat) : Nat := V (wv f a).2.1 * 2 ^ ((wv f a).2.2 - min (wv f a).2.2 (wv f b).2.2).toNat
def remB (f : Int) (a b : Nat) : Nat := V (wv f b).2.1 * 2 ^ ((wv f b).2.2 - min (wv f a).2.2 (wv f b).2.2).toNat
def remZ (f : Int) (a b : Nat) : Int := sI (wneg f a) (remI (remA f a b) (remB f a b))
def remU (f : Int) (a b : Nat) : Int := min (wv f a).2.2 (wv f b).2.2
def remS (f : Int) (a b : Nat) : Int × Int :=
  if cls f a = 5 ∨ cls f b = 5 then ((nanW f : Int), 0) else if cls f a = 4 ∨ cls f b = 1 then ((nanW f : Int), 1) else if cls f b = 4 ∨ cls f a = 1 then ((a : Int), 0)
  else if remZ f a b = 0 then ((sgn f (wneg f a) : Int), 0) else (((encN f (remZ f a b).natAbs (remU f a b) + sgn f (decide (remZ f a b < 0)) : Nat) : Int), 0)
theorem rem_fits {f : Int} (h : isF f) {a b : Nat} (ha1 : cls f a ≠ 1) (ha2 : cls f a < 4) (hb1 : cls f b ≠ 1) (hb2 : cls f b < 4) : (remZ f a b).natAbs ≤ 2 ^ pr f ∧ lo f ≤ remU f a b ∧ (bl (remZ f a b).natAbs : Int) + remU f a b ≤ wd f := by
  have wa := wv_ok h ha1 ha2
  have wb := wv_ok h hb1 hb2
  have hB : 0 < remB f a b := Nat.mul_pos (Nat.pos_of_ne_zero wb.ne) (pw_pos _)
  have hle := remI_le (remA f a b) (remB f a b) hB
  have hab : (remZ f a b).natAbs = (remI (remA f a b) (remB f a b)).natAbs := by unfold remZ sI; split <;> omega
  rw [hab]
  have ft := fin_top h ha2
  have la := wa.lo
  have lb := wb.lo
  have hi := wa.hi
  refine ⟨?_, by unfold remU; omega, ?_⟩
  · rcases Int.le_total (wv f a).2.2 (wv f b).2.2 with c | c
    · have e : remA f a b = V (wv f a).2.1 := by unfold remA; rw [Int.min_eq_left c, Int.sub_self]; simp
      have h1 := lt_bl (V (wv f a).2.1)
      have h2 : 2 ^ bl (V (wv f a).2.1) ≤ 2 ^ pr f := Nat.pow_le_pow_right (by omega) wa.b
      omega
    · have e : remB f a b = V (wv f b).2.1 := by unfold remB; rw [Int.min_eq_right c, Int.sub_self]; simp
      have h1 := lt_bl (V (wv f b).2.1)
      have h2 : 2 ^ bl (V (wv f b).2.1) ≤ 2 ^ pr f := Nat.pow_le_pow_right (by omega) wb.b
      omega
  · have h1 := bl_mono hle.1
    have h2 : bl (remA f a b) = bl (V (wv f a).2.1) + ((wv f a).2.2 - min (wv f a).2.2 (wv f b).2.2).toNat := bl_up wa.ne _
    unfold remU
    omega
theorem wv_b {f : Int} (h : isF f) {w : Nat} (hw : Wv f w) (h2 : cls f w < 4) : -5000 ≤ (wv f w).2.2 ∧ (wv f w).2.2 ≤ 5000 ∧ bl (V (wv f w).2.1) ≤ 64 := by
  have := hw.lo
  have := hw.hi
  have := hw.b
  have := lo_b h
  have := wd_b h
  have := fin_top h h2
  have := pr_eq h
  have := fb_le h
  refine ⟨by omega, by omega, by omega⟩
theorem Rem_j3 {f : Int} (h : isF f) {a b : Nat} (ha : a < 2 * sg f) (hb : b < 2 * sg f) (ha2 : cls f a < 4) (hb1 : cls f b ≠ 1) (hb2 : cls f b < 4) (ha1 : cls f a ≠ 1) :
    Ev (fun k => conv_Rem.j3 k f (a : Int) (b : Int) (wneg f a) false) ((remS f a b).1, (remS f a b).2, 0) := by
  have wa := wv_ok h ha1 ha2
  have wb := wv_ok h hb1 hb2
  obtain ⟨b1, b2, b3⟩ := wv_b h wa ha2
  obtain ⟨c1, c2, c3⟩ := wv_b h wb hb2
  have hl := left_ev wa.dy wb.dy wa.ne wb.ne b3 c3 b1 b2 c1 c2
  rw [wa.s] at hl
  have hl : Ev (fun k => conv_left.f k (wneg f a) (wv f a).2.1 (wv f a).2.2 (wv f b).1 (wv f b).2.1 (wv f b).2.2) (mk (remZ f a b) (remU f a b)) := hl
  rw [← wa.s] at hl
  obtain ⟨f1, f2, f3⟩ := rem_fits h ha1 ha2 hb1 hb2
  have hwd := wd_b h
  have hlo := lo_b h
  have hmy := my_of (z := remZ f a b) (e := remU f a b) ⟨by
    have h1 : bl (remZ f a b).natAbs ≤ pr f + 1 := bl_le_of_lt (Nat.lt_of_le_of_lt f1 (by rw [Nat.pow_succ]; have := pw_pos (pr f); omega))
    have := pr_eq h
    have := fb_le h
    omega, by omega, by omega⟩
  have hs := dyad_Sign_ev hmy
  have e2 : (sv (mk (remZ f a b) (remU f a b)).1 (V (mk (remZ f a b) (remU f a b)).2.1)).sign = (remZ f a b).sign := mk_sign _ _
  rw [e2] at hs
  have eS : remS f a b = if remZ f a b = 0 then ((sgn f (wneg f a) : Int), 0) else (((encN f (remZ f a b).natAbs (remU f a b) + sgn f (decide (remZ f a b < 0)) : Nat) : Int), 0) := by
    unfold remS
    rw [if_neg (by omega), if_neg (by omega), if_neg (by omega)]
  rw [eS]
  refine ev_step ?_
  simp only [conv_Rem.j3]
  refine ev_neg (by simp) ?_
  refine Ev.bind (word_Value_ev h ha ha2) ?_; try dsimp only
  refine Ev.bind (word_Value_ev h hb hb2) ?_; try dsimp only
  refine Ev.bind (hl) ?_; try dsimp only
  by_cases c : remZ f a b = 0
  · rw [if_pos c]
    rw [c] at hs ⊢
    rw [mk_zero] at hs ⊢
    refine Ev.bind (word_Of_zero h) ?_; try dsimp only
    refine Ev.bind (hs) ?_; try dsimp only
    refine ev_pos rfl ?_
    refine Ev.bind (word_Zero_ev h (wneg f a)) ?_; try dsimp only
    exact Ev.now _
  · rw [if_neg c]
    have hw := word_of_size h (decide (remZ f a b < 0)) (q := (remZ f a b).natAbs) (E := remU f a b) f1 f2 f3 (by omega)
    rw [sv_self] at hw
    refine Ev.bind (hw) ?_; try dsimp only
    refine Ev.bind (hs) ?_; try dsimp only
    refine ev_neg (fun h => c (by rcases sgn_cases (remZ f a b) with ⟨_, k⟩ | ⟨k, _⟩ | ⟨_, k⟩ <;> omega)) ?_
    exact Ev.now _
theorem conv_Rem_ev {f : Int} (h : isF f) {a b : Nat} (ha : a < 2 * sg f) (hb : b < 2 * sg f) : Ev (fun k => conv_Rem.f k f (a : Int) (b : Int)) ((remS f a b).1, (remS f a b).2, 0) := by
  have hm : isM 1 := ⟨by omega, by omega⟩
  have ca := cls_b h a
  have cb := cls_b h b
  unfold conv_Rem.f
  refine Ev.bind (conv_open_good h hm ha) ?_; try dsimp only
  refine ev_neg (by simp) ?_
  refine Ev.bind (conv_open_good h hm hb) ?_; try dsimp only
  refine ev_neg (by simp) ?_
  have r5 : cls f a = 5 ∨ cls f b = 5 → Ev (fun k => conv_Rem.j1 k f (a : Int) (b : Int) (cls f a) (wneg f a) (cls f b) true) ((remS f a b).1, (remS f a b).2, 0) := by
    intro c
    have eS : remS f a b = ((nanW f : Int), 0) := by unfold remS; rw [if_pos c]
    rw [eS]
    refine ev_step ?_
    simp only [conv_Rem.j1]
    refine ev_pos trivial ?_
    refine Ev.bind (word_None_ev h) ?_; try dsimp only
    exact Ev.now _
  by_cases c5 : cls f a = 5
  · exact ev_pos c5 (r5 (.inl c5))
  refine ev_neg c5 ?_
  by_cases d5 : cls f b = 5
  · have := r5 (.inr d5)
    rw [decide_eq_true d5]; exact this
  rw [decide_eq_false d5]
  refine ev_step ?_
  simp only [conv_Rem.j1]
  refine ev_neg (by simp) ?_
  have r4 : cls f a = 4 ∨ cls f b = 1 → Ev (fun k => conv_Rem.j2 k f (a : Int) (b : Int) (cls f a) (wneg f a) (cls f b) true) ((remS f a b).1, (remS f a b).2, 0) := by
    intro c
    have eS : remS f a b = ((nanW f : Int), 1) := by unfold remS; rw [if_neg (by omega), if_pos c]
    rw [eS]
    refine ev_step ?_
    simp only [conv_Rem.j2]
    refine ev_pos trivial ?_
    refine Ev.bind (word_None_ev h) ?_; try dsimp only
    exact Ev.now _
  by_cases c4 : cls f a = 4
  · exact ev_pos c4 (r4 (.inl c4))
  refine ev_neg c4 ?_
  by_cases d1 : cls f b = 1
  · rw [decide_eq_true d1]; exact r4 (.inr d1)
  rw [decide_eq_false d1]
  refine ev_step ?_
  simp only [conv_Rem.j2]
  refine ev_neg (by simp) ?_
  have r3 : cls f b = 4 ∨ cls f a = 1 → Ev (fun k => conv_Rem.j3 k f (a : Int) (b : Int) (wneg f a) true) ((remS f a b).1, (remS f a b).2, 0) := by
    intro c
    have eS : remS f a b = ((a : Int), 0) := by unfold remS; rw [if_neg (by omega), if_neg (by omega), if_pos c]
    rw [eS]
    refine ev_step ?_
    simp only [conv_Rem.j3]
    exact ev_pos trivial (Ev.now _)
  by_cases d4 : cls f b = 4
  · exact ev_pos d4 (r3 (.inl d4))
  refine ev_neg d4 ?_
  by_cases c1 : cls f a = 1
  · rw [decide_eq_true c1]; exact r3 (.inr c1)
  rw [decide_eq_false c1]
  exact Rem_j3 h ha hb (by omega) d1 (by omega) c1
/-! ### the reference -/
/-! ### what is known -/
theorem known_ev : Ev (fun k => cutplanelaw06_known.f k) true := by
  have f1 : isF 1 := .inl rfl
  have f2 : isF 2 := .inr rfl
  have m4 : isM 4 := ⟨by omega, by omega⟩
  have h1 := conv_To_ev f2 f1 m4 (w := 4607182419068452864) (by decide)
  have e1 : toS 2 1 4 4607182419068452864 = (1065353217, 16) := by decide +kernel
  rw [e1] at h1
  have h2 := conv_Rem_ev f2 (a := 4617315517961601024) (b := 4613937818241073152) (by decide) (by decide)
  have e2 : remS 2 4617315517961601024 4613937818241073152 = (13830554455654793216, 0) := by decide +kernel
  rw [e2] at h2
  unfold cutplanelaw06_known.f
  refine Ev.bind (h1) ?_; try dsimp only
  refine Ev.bind (h2) ?_; try dsimp only
  refine ev_pos rfl (ev_pos rfl (ev_pos rfl (ev_pos rfl (ev_pos rfl ?_))))
  exact Ev.now _
end Go.Proofs.YtclegbgmhimenaaDoor.Eng.K

/- ConvFormats and ConvRemainders: for every input they answer true. -/
set_option linter.unusedVariables false
set_option linter.unusedSimpArgs false
namespace Go.Proofs.YtclegbgmhimenaaDoor.Eng.K
open Go.RowKit

theorem known_then : Ev (fun k => (cutplanelaw06_known.f k).bind fun t => some t) true := Ev.bind known_ev (Ev.now _)
/-- The error of a format, a mode and two words. -/
def opE2 (f m : Int) (a b : Nat) : Int := if opE f m a ≠ 0 then opE f m a else opE f m b
theorem opE_good {f m : Int} (h : isF f) (hm : isM m) (w : Nat) : opE f m w = goodE f w := by
  unfold opE; rw [if_neg (fun k => k (fmE_zero.2 ⟨h, hm⟩))]
theorem opE_fm {f m : Int} (h : fmE f m ≠ 0) (w : Nat) : opE f m w = fmE f m := by unfold opE; rw [if_pos h]
theorem goodE_six {f : Int} {w : Nat} (c : goodE f w ≠ 0) : goodE f w = 6 := by
  unfold goodE at c ⊢
  split at c
  · exact absurd rfl c
  · rw [if_neg (by assumption)]
theorem opens_two (f m : Int) {a b : Nat} (ha : a < 18446744073709551616) (hb : b < 18446744073709551616) : Ev (fun k => cutplanelaw06_opens.f k f m [(a : Int), (b : Int)]) (opE2 f m a b) := by
  unfold cutplanelaw06_opens.f
  refine ev_bind (rIs_eq f) ?_; try dsimp only
  by_cases h : isF f
  · rw [decide_eq_true h]
    refine ev_neg (by simp) ?_
    refine ev_bind (rIsM_eq m) ?_; try dsimp only
    by_cases hm : isM m
    · have eS : opE2 f m a b = if goodE f a ≠ 0 then goodE f a else goodE f b := by unfold opE2; rw [opE_good h hm, opE_good h hm]
      rw [decide_eq_true hm, eS]
      refine ev_neg (by simp) ?_
      have e1 : wrap64 (0 + 1) = 1 := by rw [w64n (by omega) (by omega)]; rfl
      have e2 : wrap64 (1 + 1) = 2 := by rw [w64n (by omega) (by omega)]; rfl
      have el : (([(a : Int), (b : Int)] : List Int).length : Int) = 2 := rfl
      have er : rd [(a : Int), (b : Int)] 0 = (a : Int) := rfl
      have er1 : rd [(a : Int), (b : Int)] 1 = (b : Int) := rfl
      refine ev_step ?_
      simp only [cutplanelaw06_opens.l0, el, er, e1]
      clear e1
      refine ev_pos (by clear e2; omega) (ev_pos (by clear e2; omega) (ev_pos (by clear e2; omega) ?_))
      refine ev_bind (rGood_eq h ha) ?_; try dsimp only
      by_cases c : goodE f a = 0
      · refine ev_neg (fun h => h c) (ev_step ?_)
        simp only [cutplanelaw06_opens.l0, el, er1, e2]
        clear e2
        refine ev_pos (by omega) (ev_pos (by omega) (ev_pos (by omega) ?_))
        refine ev_bind (rGood_eq h hb) ?_; try dsimp only
        by_cases c2 : goodE f b = 0
        · refine ev_neg (fun h => h c2) (ev_step ?_)
          simp only [cutplanelaw06_opens.l0]
          exact ev_neg (by simp) (ev_eq (Ev.now _) (by rw [if_neg (fun h => h c), c2]))
        · refine ev_pos c2 (ev_eq (Ev.now _) ?_)
          rw [if_neg (fun h => h c), goodE_six c2]
      · refine ev_pos c (ev_eq (Ev.now _) ?_)
        rw [if_pos c, goodE_six c]
    · have ef : fmE f m = 5 := by unfold fmE; rw [if_pos h, if_neg hm]
      have eS : opE2 f m a b = 5 := by unfold opE2; rw [opE_fm (by omega), if_pos (by omega), ef]
      rw [decide_eq_false hm, eS]
      exact ev_pos (by simp) (Ev.now _)
  · have ef : fmE f m = 4 := by unfold fmE; rw [if_neg h]
    have eS : opE2 f m a b = 4 := by unfold opE2; rw [opE_fm (by omega), if_pos (by omega), ef]
    rw [decide_eq_false h, eS]
    exact ev_pos (by simp) (Ev.now _)
theorem u64_nat {n : Int} (h : IntKind.u64.min ≤ n ∧ n ≤ IntKind.u64.max) : ∃ w : Nat, n = (w : Int) ∧ w < 18446744073709551616 := by
  simp [IntKind.min, IntKind.max, IntKind.signed, IntKind.bits] at h
  exact ⟨n.toNat, by omega, by omega⟩
end Go.Proofs.YtclegbgmhimenaaDoor.Eng.K

/- Words times powers of two, and their parts, both ways. -/
set_option linter.unusedVariables false
set_option linter.unusedSimpArgs false
namespace Go.Proofs.YtclegbgmhimenaaDoor.Eng.K
open Go.RowKit

/-! ### parts -/
theorem rFinite_eq {f : Int} (h : isF f) (w : Nat) : cutplaneref03_Finite.f f (w : Int) = some (decide (cls f w < 4)) := by
  have hb := cls_b h w
  unfold cutplaneref03_Finite.f
  rw [rClass_eq h w, Option.bind_some]
  by_cases c : cls f w = 4
  · rw [if_neg (fun h => h c)]
    rw [decide_eq_false (by omega)]
  · rw [if_pos c]
    congr 1
    exact decide_eq_decide.2 (by omega)
/-! ### the law -/
end Go.Proofs.YtclegbgmhimenaaDoor.Eng.K

/- Words as whole numbers, as int64, and back. -/
set_option linter.unusedVariables false
set_option linter.unusedSimpArgs false
namespace Go.Proofs.YtclegbgmhimenaaDoor.Eng.K
open Go.RowKit

theorem lw_mul {n : Nat} (h : n ≠ 0) : n / 2 ^ lw n * 2 ^ lw n = n := by
  obtain ⟨q, hq⟩ := lw_is h
  refine Nat.div_mul_cancel ⟨2 * q + 1, hq⟩
/-! ### int64 -/
/-! ### the calls -/
def wz (f : Int) (w : Nat) : Int := sv (wneg f w) (wmag f w)
theorem wz_bl {f : Int} (h : isF f) (w : Nat) : bl (wz f w).natAbs ≤ 64 := by
  have h1 := wmag_bl h w
  have h3 := pr_eq h
  have h4 := fb_le h
  unfold wz
  rw [sv_abs]; omega
/-! ### Integral -/
theorem sv_mod {f : Int} (h : isF f) {x : Nat} (hx : x < sg f) (s : Bool) : (x + sgn f s) % sg f = x := by
  unfold sgn
  cases s
  · rw [if_neg (by simp), Nat.add_zero, Nat.mod_eq_of_lt hx]
  · rw [if_pos rfl, Nat.add_mod_right, Nat.mod_eq_of_lt hx]
theorem encN_lt {f : Int} (h : isF f) {q : Nat} {E : Int} (hq : q ≤ 2 ^ pr f) (hE : lo f ≤ E) (hw : (bl q : Int) + E ≤ wd f) (h0 : q ≠ 0) : encN f q E < sg f := by
  have hpr := pr_eq h
  have h2 := (odd_bl h0 hq).resolve_right (by omega)
  have h3 := top_lw h0
  have hlt := (enc_lt h (n := q / 2 ^ lw q) (e := E + (lw q : Nat)) h2 (by omega) (by omega)).1
  have hil := inf_lt h
  have hp := pw_pos (fb f)
  unfold encN
  omega
/-! ### FromInt -/
end Go.Proofs.YtclegbgmhimenaaDoor.Eng.K

/- Words of sizes, and back. -/
set_option linter.unusedVariables false
set_option linter.unusedSimpArgs false
namespace Go.Proofs.YtclegbgmhimenaaDoor.Eng.K
open Go.RowKit

/-- What a made word is. -/
structure Dec (f : Int) (s : Bool) (q : Nat) (E : Int) (w : Nat) : Prop where
  lt : w < 2 * sg f
  neg : wneg f w = s
  c1 : cls f w ≠ 1
  c4 : cls f w < 4
  val : mk (wz f w) (wex f w) = mk (sv s q) E
theorem dec {f : Int} (h : isF f) (s : Bool) {q : Nat} {E : Int} (hq : q ≤ 2 ^ pr f) (hE : lo f ≤ E) (hw : (bl q : Int) + E ≤ wd f) (h0 : q ≠ 0) : Dec f s q E (encN f q E + sgn f s) := by
  have hlt := encN_lt h hq hE hw h0
  have hpr := pr_eq h
  have hfb := fb_le h
  have h2 := (odd_bl h0 hq).resolve_right (by omega)
  have h3 := top_lw h0
  have hel := enc_lt h (n := q / 2 ^ lw q) (e := E + (lw q : Nat)) h2 (by omega) (by omega)
  have hpl := part_lt (f := f) (n := q / 2 ^ lw q) (e := E + (lw q : Nat)) h2 (by omega)
  have hul := unit_le (f := f) (n := q / 2 ^ lw q) (e := E + (lw q : Nat)) h2 (by omega)
  have huge := unit_ge f (q / 2 ^ lw q) (E + (lw q : Nat))
  have hund : unit f (q / 2 ^ lw q) (E + (lw q : Nat)) = max (E + (lw q : Nat) + (bl (q / 2 ^ lw q) : Nat) - (pr f : Nat)) (lo f) := rfl
  have hen : encN f q E = (unit f (q / 2 ^ lw q) (E + (lw q : Nat)) - lo f).toNat * 2 ^ fb f + q / 2 ^ lw q * 2 ^ (E + (lw q : Nat) - unit f (q / 2 ^ lw q) (E + (lw q : Nat))).toNat := rfl
  have hq'0 : q / 2 ^ lw q ≠ 0 := by
    intro h4; rw [h4, bl_zero] at h3
    have := lw_lt h0
    omega
  have hXb := bl_up hq'0 (E + (lw q : Nat) - unit f (q / 2 ^ lw q) (E + (lw q : Nat))).toNat
  have hXv : mk (sv s (q / 2 ^ lw q * 2 ^ (E + (lw q : Nat) - unit f (q / 2 ^ lw q) (E + (lw q : Nat))).toNat)) (unit f (q / 2 ^ lw q) (E + (lw q : Nat))) = mk (sv s q) E := by
    rw [← sv_pow, mk_up]
    have e1 : mk (sv s q) E = mk (sv s (q / 2 ^ lw q * 2 ^ lw q)) E := by rw [lw_mul h0]
    rw [e1, ← sv_pow, mk_up]
    congr 1; omega
  have hX0 : q / 2 ^ lw q * 2 ^ (E + (lw q : Nat) - unit f (q / 2 ^ lw q) (E + (lw q : Nat))).toNat ≠ 0 := by
    have := Nat.mul_pos (Nat.pos_of_ne_zero hq'0) (pw_pos (E + (lw q : Nat) - unit f (q / 2 ^ lw q) (E + (lw q : Nat))).toNat)
    omega
  generalize hw0 : encN f q E = x at *
  generalize hX : q / 2 ^ lw q * 2 ^ (E + (lw q : Nat) - unit f (q / 2 ^ lw q) (E + (lw q : Nat))).toNat = X at *
  generalize hU : unit f (q / 2 ^ lw q) (E + (lw q : Nat)) = U at *
  have hsp := sg_pos h
  have hmod : (x + sgn f s) % sg f = x := sv_mod h hlt s
  have hng : wneg f (x + sgn f s) = s := by
    unfold wneg sgn
    cases s
    · rw [if_neg (by simp)]; exact decide_eq_false (by omega)
    · rw [if_pos rfl]; exact decide_eq_true (by omega)
  have hltw : x + sgn f s < 2 * sg f := by unfold sgn; split <;> omega
  have hp := pw_pos (fb f)
  have hm := mo_ge h
  rw [hpr, Nat.pow_succ] at hpl
  have main : wmag f (x + sgn f s) = X ∧ wex f (x + sgn f s) = U ∧ wexpo f (x + sgn f s) < mo f := by
    unfold wmag wex wexpo wfrac
    rw [hmod]
    by_cases c : X < 2 ^ fb f
    · have hb : bl X ≤ fb f := bl_le_of_lt c
      have hu0 : (U - lo f).toNat = 0 := by omega
      have hx : x = X := by rw [hen, hu0]; omega
      have hd : x / 2 ^ fb f = 0 := Nat.div_eq_of_lt (by omega)
      rw [hd, if_pos rfl, if_pos rfl, Nat.mod_eq_of_lt (by omega)]
      refine ⟨hx, by omega, by omega⟩
    · have hx : x = ((U - lo f).toNat + 1) * 2 ^ fb f + (X - 2 ^ fb f) := by rw [hen, Nat.add_mul, Nat.one_mul]; omega
      have hd : x / 2 ^ fb f = (U - lo f).toNat + 1 := by
        rw [hx, Nat.mul_comm, Nat.mul_add_div hp, Nat.div_eq_of_lt (by omega), Nat.add_zero]
      have hr : x % 2 ^ fb f = X - 2 ^ fb f := by
        rw [hx, Nat.mul_comm, Nat.mul_add_mod, Nat.mod_eq_of_lt (by omega)]
      rw [hd, hr, if_neg (by omega), if_neg (by omega)]
      refine ⟨by omega, by omega, by omega⟩
  obtain ⟨m1, m2, m3⟩ := main
  refine ⟨hltw, hng, ?_, ?_, ?_⟩
  · intro hc
    rw [cls_eq h] at hc
    by_cases c : wexpo f (x + sgn f s) = 0
    · rw [if_pos c] at hc
      have : wmag f (x + sgn f s) = wfrac f (x + sgn f s) := by unfold wmag; rw [if_pos c]
      by_cases c2 : wfrac f (x + sgn f s) = 0
      · omega
      · rw [if_neg c2] at hc; omega
    · rw [if_neg c, if_pos m3] at hc; omega
  · rw [cls_eq h]
    by_cases c : wexpo f (x + sgn f s) = 0
    · rw [if_pos c]; split <;> omega
    · rw [if_neg c, if_pos m3]; omega
  · unfold wz
    rw [m1, m2, hng]
    exact hXv
/-! ### what rounding comes to depends on the number alone -/
/-! ### ConvInts -/
end Go.Proofs.YtclegbgmhimenaaDoor.Eng.K

/- Whole numbers that were taken for words: how far they are. -/
set_option linter.unusedVariables false
set_option linter.unusedSimpArgs false
namespace Go.Proofs.YtclegbgmhimenaaDoor.Eng.K
open Go.RowKit

theorem abs_mk (z e : Int) : (false, (mk z e).2.1, (mk z e).2.2) = mk (z.natAbs : Int) e := by
  unfold mk
  by_cases c : z = 0
  · subst c; rfl
  · rw [if_neg c, if_neg (by omega), decide_eq_false (show ¬ ((z.natAbs : Int) < 0) by omega)]
    rfl
theorem nought_z {f : Int} (h : isF f) {w : Nat} (c : cls f w = 1) : wmag f w = 0 := by
  rw [cls_eq h] at c
  unfold wmag
  by_cases c2 : wexpo f w = 0
  · rw [if_pos c2] at c ⊢
    by_cases c3 : wfrac f w = 0
    · exact c3
    · rw [if_neg c3] at c; omega
  · rw [if_neg c2] at c
    split at c
    · omega
    · split at c <;> omega
end Go.Proofs.YtclegbgmhimenaaDoor.Eng.K

/- Words there and back: other formats, other scales, remainders. -/
set_option linter.unusedVariables false
set_option linter.unusedSimpArgs false
namespace Go.Proofs.YtclegbgmhimenaaDoor.Eng.K
open Go.RowKit

/-! ### made words' classes -/
theorem zero_cls {f : Int} (h : isF f) (s : Bool) : cls f (sgn f s) = 1 ∧ sgn f s < 2 * sg f ∧ wneg f (sgn f s) = s := by
  rcases h with rfl | rfl <;> cases s <;> decide +kernel
/-! ### ConvThere -/
/-! ### ConvBack -/
end Go.Proofs.YtclegbgmhimenaaDoor.Eng.K

/- What a remainder leaves is a whole multiple. -/
set_option linter.unusedVariables false
set_option linter.unusedSimpArgs false
namespace Go.Proofs.YtclegbgmhimenaaDoor.Eng.K
open Go.RowKit

theorem rem_val {f : Int} (h : isF f) {a b : Nat} (ha : a < 2 * sg f) (ca : cls f a < 4) (b1 : cls f b ≠ 1) (b4 : cls f b < 4) (a1 : cls f a ≠ 1) : ∃ w : Nat, remS f a b = ((w : Int), 0) ∧ cls f w < 4 ∧ mk (wz f w) (wex f w) = mk (remZ f a b) (remU f a b) := by
  have eS : remS f a b = if remZ f a b = 0 then ((sgn f (wneg f a) : Int), 0) else (((encN f (remZ f a b).natAbs (remU f a b) + sgn f (decide (remZ f a b < 0)) : Nat) : Int), 0) := by
    unfold remS
    rw [if_neg (by omega), if_neg (by omega), if_neg (by omega)]
  obtain ⟨f1, f2, f3⟩ := rem_fits h a1 ca b1 b4
  by_cases c : remZ f a b = 0
  · rw [if_pos c] at eS
    have hz := zero_cls h (wneg f a)
    refine ⟨_, eS, by omega, ?_⟩
    unfold wz
    rw [nought_z h hz.1, sv_zero, c]; rfl
  · rw [if_neg c] at eS
    have hd := dec h (decide (remZ f a b < 0)) (q := (remZ f a b).natAbs) (E := remU f a b) f1 f2 f3 (by omega)
    refine ⟨_, eS, hd.c4, ?_⟩
    rw [hd.val, sv_self]
theorem rem_tie {X Y : Nat} (hY : 0 < Y) (h : 2 * (remI X Y).natAbs = Y) : rnE X Y % 2 = 0 := by
  unfold rnE
  by_cases c : 2 * (X % Y) > Y ∨ (2 * (X % Y) = Y ∧ X / Y % 2 = 1)
  · rw [if_pos c]
    rcases remI_cases X Y hY with ⟨h1, _, _⟩ | ⟨_, h2, h3, h4⟩
    · unfold rnE at h1; rw [if_pos c] at h1; omega
    · rw [h2] at h; omega
  · rw [if_neg c]
    rcases remI_cases X Y hY with ⟨_, h2, h3⟩ | ⟨h1, _, _, _⟩
    · rw [h2] at h; omega
    · unfold rnE at h1; rw [if_neg c] at h1; omega
theorem quo_exact {t B : Nat} (ht : t ≠ 0) (hB : B ≠ 0) (hb : bl t ≤ 2200) : quoL (t * B) B 2200 = false ∧ ∃ k : Nat, quoQ (t * B) B 2200 = t * 2 ^ k ∧ (quoN (t * B) B 2200 : Int) = quoC (t * B) B 2200 + k := by
  have hq : t * B * 2 ^ quoN (t * B) B 2200 / B = t * 2 ^ quoN (t * B) B 2200 := by
    rw [Nat.mul_right_comm]; exact Nat.mul_div_cancel _ (by omega)
  have hC : quoC (t * B) B 2200 = bl t + quoN (t * B) B 2200 - 2200 := by
    unfold quoC; rw [hq, bl_up ht]
  generalize hn : quoN (t * B) B 2200 = n at *
  generalize hc : quoC (t * B) B 2200 = c at *
  have hcn : c ≤ n := by omega
  have e1 : t * B * 2 ^ n = t * 2 ^ (n - c) * (B * 2 ^ c) := by
    have h9 : n - c + c = n := Nat.sub_add_cancel hcn
    have : 2 ^ n = 2 ^ (n - c) * 2 ^ c := by rw [← Nat.pow_add, h9]
    rw [this]; ac_rfl
  have hp : 0 < B * 2 ^ c := Nat.mul_pos (by omega) (pw_pos c)
  refine ⟨?_, n - c, ?_, by omega⟩
  · unfold quoL
    rw [hn, hc, e1, Nat.mul_mod_left]; rfl
  · unfold quoQ
    rw [hn, hc, e1, Nat.mul_div_cancel _ hp]
theorem Left_law (f : Int) {a b : Nat} (ha : a < 18446744073709551616) (hb : b < 18446744073709551616) : Ev (fun k => cutplanelaw06_ConvLeft.f k f (a : Int) (b : Int)) true := by
  unfold cutplanelaw06_ConvLeft.f
  refine Ev.bind (opens_two f 1 ha hb) ?_; try dsimp only
  by_cases c : opE2 f 1 a b = 0
  · have h1 : opE f 1 a = 0 := by
      unfold opE2 at c
      by_cases d : opE f 1 a = 0
      · exact d
      · rw [if_pos d] at c; exact c
    have h2 : opE f 1 b = 0 := by unfold opE2 at c; rw [if_neg (fun h => h h1)] at c; exact c
    obtain ⟨h, hm, hwa⟩ := opE_zero.1 h1
    obtain ⟨_, _, hwb⟩ := opE_zero.1 h2
    have cca := cls_b h a
    have ccb := cls_b h b
    refine ev_neg (fun h => h c) ?_
    refine ev_bind (rFinite_eq h a) ?_; try dsimp only
    by_cases ca : cls f a < 4
    · rw [decide_eq_true ca]
      refine ev_neg (by simp) ?_
      refine ev_bind (rFinite_eq h b) ?_; try dsimp only
      by_cases cb : cls f b < 4
      · rw [decide_eq_true cb]
        refine ev_neg (by simp) ?_
        refine ev_bind (rClass_eq h b) ?_; try dsimp only
        by_cases b1 : cls f b = 1
        · exact ev_pos b1 known_then
        refine ev_neg b1 ?_
        have wb := wv_ok h b1 cb
        obtain ⟨y1, y2, y3⟩ := wv_b h wb cb
        have hba := wz_bl h a
        have hxa := wex_b h a
        have evb_ : mk (sv (wneg f b) (wmag f b)) (wex f b) = (wneg f b, (wv f b).2.1, (wv f b).2.2) := by show wv f b = _; rw [← wb.s]
        -- the divisor's size
        have habs : (false, (wv f b).2.1, (wv f b).2.2) = mk (V (wv f b).2.1 : Int) (wv f b).2.2 := by
          have := mk_self (s := false) (l := (wv f b).2.1) (e := (wv f b).2.2) ⟨wb.dy.nm, fun h0 => absurd h0 (fun hc => wb.ne (by rw [hc]; rfl)), wb.dy.odd⟩
          exact this.symm
        by_cases a1 : cls f a = 1
        · have eS : remS f a b = ((a : Int), 0) := by unfold remS; rw [if_neg (by omega), if_neg (by omega), if_pos (.inr a1)]
          have hr := conv_Rem_ev h hwa hwb
          rw [eS] at hr
          refine Ev.bind (hr) ?_; try dsimp only
          refine ev_neg (fun h => h rfl) (ev_neg (fun h => h rfl) ?_)
          refine ev_bind (rFinite_eq h a) ?_; try dsimp only
          rw [decide_eq_true ca]
          refine ev_neg (by simp) ?_
          have v1 := rValue_ev h a
          rw [nought_z h a1, sv_zero] at v1
          refine Ev.bind (v1) ?_; try dsimp only
          refine Ev.bind (rValue_ev h b) ?_; try dsimp only
          rw [evb_, mk_zero]
          refine ev_bind (a := (false, [], 0)) rfl ?_
          refine ev_bind (a := (false, [], 0)) rfl ?_
          refine ev_bind (a := (false, (wv f b).2.1, (wv f b).2.2)) rfl ?_
          have cc := rCmp_mk (za := 0) (ea := 0) (zb := (V (wv f b).2.1 : Int)) (eb := (wv f b).2.2) ⟨by decide, by omega, by omega⟩ ⟨by rw [Int.natAbs_natCast]; omega, by omega, by omega⟩
          rw [← habs, cmpD_zero_left, Int.sign_eq_one_of_pos (by have := wb.ne; omega)] at cc
          have cc : Ev (fun k => cutplaneref02_Cmp.f k false [] 0 false (wv f b).2.1 (wv f b).2.2) (-1) := cc
          refine Ev.bind (cc) ?_; try dsimp only
          refine Ev.bind (v1) ?_; try dsimp only
          rw [mk_zero]
          have s0 := rSub_mk (za := 0) (ea := 0) (zb := 0) (eb := 0) ⟨by decide, by omega, by omega⟩ ⟨by decide, by omega, by omega⟩
          rw [Int.neg_zero, addD_zero_left] at s0
          have s0 : Ev (fun k => cutplaneref02_Sub.f k false [] 0 false [] 0) (mk 0 0) := s0
          refine Ev.bind (s0) ?_; try dsimp only
          refine ev_bind (rSign_mk 0 0) ?_; try dsimp only
          exact ev_pos rfl (ev_pos (by omega) known_then)
        · have wa := wv_ok h a1 ca
          obtain ⟨x1, x2, x3⟩ := wv_b h wa ca
          obtain ⟨w, w1, w2, w3⟩ := rem_val h hwa ca b1 cb a1
          have hr := conv_Rem_ev h hwa hwb
          rw [w1] at hr
          refine Ev.bind (hr) ?_; try dsimp only
          refine ev_neg (fun h => h rfl) (ev_neg (fun h => h rfl) ?_)
          refine ev_bind (rFinite_eq h w) ?_; try dsimp only
          rw [decide_eq_true w2]
          refine ev_neg (by simp) ?_
          have v1 := rValue_ev h w
          have ew : mk (sv (wneg f w) (wmag f w)) (wex f w) = mk (remZ f a b) (remU f a b) := w3
          rw [ew] at v1
          refine Ev.bind (v1) ?_; try dsimp only
          refine Ev.bind (rValue_ev h b) ?_; try dsimp only
          rw [evb_]
          have hB : 0 < remB f a b := Nat.mul_pos (Nat.pos_of_ne_zero wb.ne) (pw_pos _)
          have hle := remI_le (remA f a b) (remB f a b) hB
          have hab : (remZ f a b).natAbs = (remI (remA f a b) (remB f a b)).natAbs := by unfold remZ sI; split <;> omega
          have hAb : bl (remA f a b) ≤ 64 + 10000 := by
            have : bl (remA f a b) ≤ bl (V (wv f a).2.1) + ((wv f a).2.2 - min (wv f a).2.2 (wv f b).2.2).toNat := bl_up_le _ _
            omega
          have hzb : bl (remZ f a b).natAbs ≤ 10064 := by
            rw [hab]
            exact Nat.le_trans (bl_mono hle.1) hAb
          have hU : remU f a b = min (wv f a).2.2 (wv f b).2.2 := rfl
          have sc : ∀ x : Bool × List Int × Int, cutplaneref02_Abs.f x.1 x.2.1 x.2.2 = some (false, x.2.1, x.2.2) := fun _ => rfl
          have e1 := sc (mk (remZ f a b) (remU f a b))
          rw [abs_mk] at e1
          refine ev_bind (e1) ?_; try dsimp only
          refine ev_bind (rShift_mk ((remZ f a b).natAbs : Int) (by rw [Int.natAbs_natCast]; omega) (by omega) (by omega) (by omega) (by omega)) ?_; try dsimp only
          refine ev_bind (a := (false, (wv f b).2.1, (wv f b).2.2)) rfl ?_
          have cc := rCmp_mk (za := ((remZ f a b).natAbs : Int)) (ea := remU f a b + 1) (zb := (V (wv f b).2.1 : Int)) (eb := (wv f b).2.2) ⟨by rw [Int.natAbs_natCast]; omega, by omega, by omega⟩ ⟨by rw [Int.natAbs_natCast]; omega, by omega, by omega⟩
          rw [← habs] at cc
          have ec : cmpD ((remZ f a b).natAbs : Int) (remU f a b + 1) (V (wv f b).2.1 : Int) (wv f b).2.2 = (2 * ((remZ f a b).natAbs : Int) - (remB f a b : Int)).sign := by
            rw [← cmpD_at (m := remU f a b) (by omega) (by omega), al_nat, al_nat]
            have e2 : (remU f a b + 1 - remU f a b).toNat = 1 := by omega
            rw [e2, Nat.pow_one]
            have e3 : V (wv f b).2.1 * 2 ^ ((wv f b).2.2 - remU f a b).toNat = remB f a b := rfl
            rw [e3]
            congr 1; omega
          rw [ec] at cc
          refine Ev.bind (cc) ?_; try dsimp only
          refine Ev.bind (rValue_ev h a) ?_; try dsimp only
          have eva : mk (sv (wneg f a) (wmag f a)) (wex f a) = (wneg f a, (wv f a).2.1, (wv f a).2.2) := by show wv f a = _; rw [← wa.s]
          rw [eva]
          have ma : mk (sv (wneg f a) (V (wv f a).2.1)) (wv f a).2.2 = (wneg f a, (wv f a).2.1, (wv f a).2.2) := by
            have := mk_self wa.dy
            rw [wa.s] at this
            exact this
          have hsub := rSub_mk (za := sv (wneg f a) (V (wv f a).2.1)) (ea := (wv f a).2.2) (zb := remZ f a b) (eb := remU f a b) ⟨by rw [sv_abs]; omega, by omega, by omega⟩ ⟨by omega, by omega, by omega⟩
          have erest : addD (sv (wneg f a) (V (wv f a).2.1)) (wv f a).2.2 (-remZ f a b) (remU f a b) = mk (sv (wneg f a) (rnE (remA f a b) (remB f a b) * remB f a b)) (remU f a b) := by
            rw [← addD_at (m := remU f a b) (by omega) (Int.le_refl _), al_sv, al_self]
            have e3 : V (wv f a).2.1 * 2 ^ ((wv f a).2.2 - remU f a b).toNat = remA f a b := rfl
            rw [e3]
            congr 1
            unfold remZ remI
            rw [← Int.natCast_mul]
            generalize rnE (remA f a b) (remB f a b) * remB f a b = p
            generalize remA f a b = q
            cases wneg f a <;> simp [sI, sv] <;> omega
          rw [ma, erest] at hsub
          refine Ev.bind (hsub) ?_; try dsimp only
          refine ev_bind (rSign_mk _ _) ?_; try dsimp only
          have c0 : (2 * ((remZ f a b).natAbs : Int) - (remB f a b : Int)).sign ≤ 0 := by
            rcases sgn_cases (2 * ((remZ f a b).natAbs : Int) - (remB f a b : Int)) with ⟨_, k⟩ | ⟨_, k⟩ | ⟨k, _⟩ <;> omega
          by_cases cN : rnE (remA f a b) (remB f a b) = 0
          · rw [cN, Nat.zero_mul, sv_zero]
            exact ev_pos rfl (ev_pos c0 known_then)
          · have hN0 : rnE (remA f a b) (remB f a b) * remB f a b ≠ 0 := Nat.mul_ne_zero cN (by omega)
            obtain ⟨g1, g2, g3⟩ := w_sv (s := wneg f a) hN0
            refine ev_neg (fun h => g3 (by rcases sgn_cases (sv (wneg f a) (rnE (remA f a b) (remB f a b) * remB f a b)) with ⟨_, k⟩ | ⟨k, _⟩ | ⟨_, k⟩ <;> omega)) ?_
            -- the quotient
            have hev0 : 2 * (remI (remA f a b) (remB f a b)).natAbs = remB f a b → rnE (remA f a b) (remB f a b) % 2 = 0 := rem_tie hB
            have hNb : bl (rnE (remA f a b) (remB f a b)) ≤ 2200 := by
              have h1 : rnE (remA f a b) (remB f a b) ≤ remA f a b + 1 := by
                have := Nat.div_le_self (remA f a b) (remB f a b)
                unfold rnE; split <;> omega
              have h2 := bl_mono h1
              have h3 := bl_succ (remA f a b)
              have h4 : bl (remA f a b) = bl (V (wv f a).2.1) + ((wv f a).2.2 - min (wv f a).2.2 (wv f b).2.2).toNat := bl_up wa.ne _
              have h5 := wa.hi
              have h6 := fin_top h ca
              have h7 := wa.lo
              have h8 := wb.lo
              have h9 := lo_b h
              have h10 := wd_b h
              omega
            generalize hNN : rnE (remA f a b) (remB f a b) = N at *
            obtain ⟨t', ht'⟩ := lw_is cN
            have hlwN := lw_mul cN
            have hVb := wb.dy.odd (fun hc => wb.ne (by rw [hc]; rfl))
            have hodd : IsLow (N * remB f a b) (lw (N) + ((wv f b).2.2 - remU f a b).toNat) := by
              refine ⟨(2 * t' + 1) * (V (wv f b).2.1 / 2) + t', ?_⟩
              have e4 : remB f a b = V (wv f b).2.1 * 2 ^ ((wv f b).2.2 - remU f a b).toNat := rfl
              have e5 : V (wv f b).2.1 = 2 * (V (wv f b).2.1 / 2) + 1 := by omega
              rw [e4, Nat.pow_add]
              conv => lhs; rw [ht']
              have e6 : (2 * t' + 1) * V (wv f b).2.1 = 2 * ((2 * t' + 1) * (V (wv f b).2.1 / 2) + t') + 1 := by
                conv => lhs; rw [e5]
                rw [Nat.mul_add, Nat.mul_one, Nat.mul_left_comm]; omega
              rw [← e6]
              ac_rfl
            have hlwP := lw_eq hodd
            obtain ⟨tt, htt⟩ : ∃ tt, tt = N / 2 ^ lw (N) := ⟨_, rfl⟩
            have htodd : tt = 2 * t' + 1 := by
              rw [htt]
              have : N / 2 ^ lw (N) = 2 ^ lw (N) * (2 * t' + 1) / 2 ^ lw (N) := by rw [← ht']
              rw [this, Nat.mul_div_cancel_left _ (pw_pos _)]
            have hPdiv : N * remB f a b / 2 ^ (lw (N) + ((wv f b).2.2 - remU f a b).toNat) = tt * V (wv f b).2.1 := by
              have e4 : remB f a b = V (wv f b).2.1 * 2 ^ ((wv f b).2.2 - remU f a b).toNat := rfl
              have e5 : N * remB f a b = tt * V (wv f b).2.1 * 2 ^ (lw (N) + ((wv f b).2.2 - remU f a b).toNat) := by
                rw [e4, Nat.pow_add, htt]
                conv => lhs; rw [← hlwN]
                ac_rfl
              rw [e5, Nat.mul_div_cancel _ (pw_pos _)]
            have hrest : mk (sv (wneg f a) (N * remB f a b)) (remU f a b) = (wneg f a, D (tt * V (wv f b).2.1), remU f a b + ((lw (N) + ((wv f b).2.2 - remU f a b).toNat : Nat) : Int)) := by
              rw [mk_sv _ hN0, hlwP, hPdiv]
            have hdy := Dy_mk (sv (wneg f a) (N * remB f a b)) (remU f a b)
            rw [hrest] at hdy ⊢
            have hdy : Dy (wneg f a) (D (tt * V (wv f b).2.1)) (remU f a b + ((lw (N) + ((wv f b).2.2 - remU f a b).toNat : Nat) : Int)) := hdy
            have hdyb : Dy (wneg f b) (wv f b).2.1 (wv f b).2.2 := by have := wb.dy; rw [wb.s] at this; exact this
            have hlwlt := lw_lt cN
            have htb : bl tt ≤ 2200 := by
              -- the quotient of two words has not so many bits
              have h3 : bl tt ≤ bl N := bl_mono (by rw [htt]; exact Nat.div_le_self _ _)
              omega
            have ht0 : tt ≠ 0 := by omega
            obtain ⟨q1, kk, q2, q3⟩ := quo_exact ht0 wb.ne htb
            have hbB := bl_mul tt (V (wv f b).2.1)
            have hq := rQuo_ev hdy hdyb (by rw [V_D]; exact Nat.mul_ne_zero ht0 wb.ne) wb.ne (by have := len_bl (x := tt * V (wv f b).2.1) (k := 100) (by omega); omega) (by have := len_bl (x := V (wv f b).2.1) (k := 2) (by omega); rw [wb.dy.nm] at this; omega) (by omega) (by omega) (by omega) (by omega) 2200 (by omega)
            rw [V_D, q1, q2] at hq
            have hexp : remU f a b + ((lw (N) + ((wv f b).2.2 - remU f a b).toNat : Nat) : Int) - (wv f b).2.2 - (quoN (tt * V (wv f b).2.1) (V (wv f b).2.1) 2200 : Nat) + (quoC (tt * V (wv f b).2.1) (V (wv f b).2.1) 2200 : Nat) + (kk : Int) = (lw (N) : Int) := by omega
            have hval : mk (sv (wneg f a != wneg f b) (tt * 2 ^ kk)) (remU f a b + ((lw (N) + ((wv f b).2.2 - remU f a b).toNat : Nat) : Int) - (wv f b).2.2 - (quoN (tt * V (wv f b).2.1) (V (wv f b).2.1) 2200 : Nat) + (quoC (tt * V (wv f b).2.1) (V (wv f b).2.1) 2200 : Nat)) = (wneg f a != wneg f b, D tt, (lw (N) : Int)) := by
              rw [← sv_pow, mk_up, hexp, mk_sv _ ht0, lw_odd (by omega : tt % 2 = 1), Nat.pow_zero, Nat.div_one]
              simp
            rw [hval] at hq
            refine Ev.bind (hq) ?_; try dsimp only
            refine ev_pos c0 (ev_pos rfl (ev_pos (by omega) ?_))
            by_cases cz : (2 * ((remZ f a b).natAbs : Int) - (remB f a b : Int)).sign < 0
            · exact ev_pos cz known_then
            · refine ev_neg cz (ev_pos ?_ known_then)
              have htie : 2 * (remI (remA f a b) (remB f a b)).natAbs = remB f a b := by
                rcases sgn_cases (2 * ((remZ f a b).natAbs : Int) - (remB f a b : Int)) with ⟨_, k⟩ | ⟨k, _⟩ | ⟨k, _⟩ <;> omega
              have hev := hev0 htie
              rcases Nat.eq_zero_or_pos (lw (N)) with h0 | h0
              · exfalso
                rw [h0, Nat.pow_zero, Nat.one_mul] at ht'
                omega
              · omega
      · rw [decide_eq_false cb]
        exact ev_pos (by simp) known_then
    · rw [decide_eq_false ca]
      exact ev_pos (by simp) known_then
  · exact ev_pos c known_then
theorem ConvLeft (f a b : Int) (ha : IntKind.u64.min ≤ a ∧ a ≤ IntKind.u64.max) (hb : IntKind.u64.min ≤ b ∧ b ≤ IntKind.u64.max) : Ev (fun k => cutplanelaw06_ConvLeft.f k f a b) true := by
  obtain ⟨n, rfl, hn⟩ := u64_nat ha
  obtain ⟨m, rfl, hm⟩ := u64_nat hb
  exact Left_law f hn hm
end Go.Proofs.YtclegbgmhimenaaDoor.Eng.K

