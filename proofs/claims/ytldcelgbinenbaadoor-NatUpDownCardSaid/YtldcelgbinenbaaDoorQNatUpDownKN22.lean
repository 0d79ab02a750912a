/- The place of the lowest bit: what it is; the program's way to it, and the reference's. -/
import Derived.Test.YtldcelgbinenbaaDoorQNatUpDownKN21
set_option linter.unusedVariables false
set_option linter.unusedSimpArgs false
namespace Go.Proofs.YtldcelgbinenbaaDoor.K
open Go Go.RowKit Go.Proofs.YtldcelgbinenbaaDoor.Px Go.Proofs.YtldcelgbinenbaaDoorW.PrintWords Go.Proofs.YtldcelgbinenbaaDoorW.PrintLast Go.Proofs.YtldcelgbinenbaaDoorW.PrintMore

/-- The lowest bit's place: n is 2 to it times an odd number. -/
def IsLow (n b : Nat) : Prop := ∃ m, n = 2 ^ b * (2 * m + 1)
theorem IsLow.ne {n b : Nat} (h : IsLow n b) : n ≠ 0 := by
  obtain ⟨m, h⟩ := h
  have := Nat.mul_pos (pw_pos b) (show 0 < 2 * m + 1 by omega)
  omega
theorem IsLow.mod {n b k : Nat} (h : IsLow n b) : n % 2 ^ k = 0 ↔ k ≤ b := by
  obtain ⟨m, h⟩ := h
  constructor
  · intro hk
    rcases Nat.lt_or_ge b k with h1 | h1
    · exfalso
      obtain ⟨d, rfl⟩ := Nat.exists_eq_add_of_lt h1
      have hd : 2 ^ (b + d + 1) ∣ 2 ^ b * (2 * m + 1) := by rw [← h]; exact Nat.dvd_of_mod_eq_zero hk
      rw [Nat.add_assoc, Nat.pow_add] at hd
      have h2 := Nat.dvd_of_mul_dvd_mul_left (pw_pos b) hd
      rw [Nat.pow_succ] at h2
      have h3 : 2 ∣ 2 * m + 1 := Nat.dvd_trans (Nat.dvd_mul_left 2 _) h2
      omega
    · exact h1
  · intro hk
    obtain ⟨d, rfl⟩ := Nat.exists_eq_add_of_le hk
    rw [h, Nat.pow_add, Nat.mul_assoc]
    exact Nat.mul_mod_right _ _
theorem IsLow.unique {n b c : Nat} (h : IsLow n b) (k : IsLow n c) : b = c := by
  have h1 := (h.mod (k := b)).2 (Nat.le_refl _)
  have h2 := (k.mod (k := c)).2 (Nat.le_refl _)
  have h3 := k.mod.1 h1
  have h4 := h.mod.1 h2
  omega
theorem isLow_up {n b k : Nat} (h : IsLow n b) : IsLow (n * 2 ^ k) (b + k) := by
  obtain ⟨m, h⟩ := h
  exact ⟨m, by rw [h, Nat.pow_add, Nat.mul_assoc, Nat.mul_comm (2 * m + 1), ← Nat.mul_assoc]⟩
theorem isLow_ctz {x : Nat} (h : x ≠ 0) (hx : x < 4294967296) : IsLow x (Lib.ctz 32 x) ∧ Lib.ctz 32 x < 32 := by
  obtain ⟨m, h1, h2⟩ := Lib.ctzFrom_spec 32 x (by omega) hx
  unfold Lib.ctz
  rw [if_neg h]
  exact ⟨⟨m, h1⟩, h2⟩
theorem isLow_add {x r b : Nat} (h : IsLow x b) (hb : b < 32) : IsLow (x + 4294967296 * r) b := by
  obtain ⟨m, h⟩ := h
  obtain ⟨d, hd⟩ : ∃ d, 32 = b + (d + 1) := ⟨31 - b, by omega⟩
  have e : 4294967296 = 2 ^ b * (2 ^ d * 2) := by
    rw [← Nat.pow_succ, ← Nat.pow_add, Nat.succ_eq_add_one, ← hd]
  have e2 : 2 ^ b * (2 ^ d * 2) * r = 2 ^ b * (2 * (2 ^ d * r)) := by
    rw [Nat.mul_assoc, Nat.mul_comm (2 ^ d) 2, Nat.mul_assoc]
  refine ⟨m + 2 ^ d * r, ?_⟩
  rw [h, e, e2, ← Nat.mul_add]
  congr 1
  omega
def lw (n : Nat) : Nat := if n = 0 then 0 else Lib.ctzFrom n n
theorem lw_is {n : Nat} (h : n ≠ 0) : IsLow n (lw n) := by
  obtain ⟨m, h1, _⟩ := Lib.ctzFrom_spec n n (by omega) Nat.lt_two_pow_self
  unfold lw
  rw [if_neg h]
  exact ⟨m, h1⟩
theorem lw_eq {n b : Nat} (h : IsLow n b) : lw n = b := (lw_is h.ne).unique h
theorem tz_eq {x : Int} (h : 0 ≤ x ∧ x < 4294967296) : bits_TrailingZeros32.f x = some ((Lib.ctz 32 x.toNat : Nat) : Int) := by
  unfold bits_TrailingZeros32.f
  rw [if_pos h]
theorem w32a {i b : Nat} (hi : i < 1000000) (hb : b < 32) : wrap64 (wrap64 (32 * (i : Int)) + (b : Int)) = ((b + 32 * i : Nat) : Int) := by unfold wrap64; omega
theorem nlow_l0 (A : List Int) (hA : Dg A) (hl : A.length < 1000000) : ∀ (a pa : List Int), A = pa ++ a → V pa = 0 → Ev (fun k => nat_Low.l0 k A A.length pa.length) ((lw (V A) : Nat) : Int)
  | [], pa, he, hv => by
    have hlen : A.length = pa.length := by rw [he]; simp
    refine ev_step ?_
    simp only [nat_Low.l0]
    refine ev_neg (by omega) (ev_eq (Ev.now _) ?_)
    have : V A = 0 := by rw [he, List.append_nil, hv]
    rw [this]; rfl
  | d :: a, pa, he, hv => by
    have hlen : A.length = pa.length + 1 + a.length := by rw [he]; simp; omega
    have hdd : 0 ≤ d ∧ d < 4294967296 := by rw [he] at hA; exact hA.right.head
    have h1 : rd A (pa.length : Int) = d := by rw [he]; exact rd_app rfl
    refine ev_step ?_
    simp only [nat_Low.l0, h1, w64s (n := pa.length) (by omega)]
    refine ev_pos (by omega) (ev_pos nn (ev_pos (by omega) ?_))
    by_cases h0 : d = 0
    · refine ev_pos h0 ?_
      have := nlow_l0 A hA hl a (pa ++ [0]) (by rw [he, h0]; simp) (by rw [V_snoc_zero, hv])
      rwa [@List.length_append _ pa, List.length_singleton] at this
    · refine ev_neg h0 (ev_bind (tz_eq hdd) (ev_eq (Ev.now _) ?_))
      have hz := isLow_ctz (x := d.toNat) (by omega) (by omega)
      have e : V A = (d.toNat + 4294967296 * V a) * 2 ^ (32 * pa.length) := by
        rw [he, V_append, hv, V_cons, Nat.zero_add, Nat.mul_comm, Nat.pow_mul]
      rw [e, lw_eq (isLow_up (isLow_add hz.1 hz.2)), w32a (by omega) hz.2]
theorem nat_Low_ev {a : List Int} (ha : Nm a) (la : a.length ≤ 4096) : Ev (fun k => nat_Low.f k a) ((lw (V a) : Nat) : Int) := by
  unfold nat_Low.f
  exact ev_bind (nat_May_eq ha.dg (by omega)) (ev_pos (may_iff.2 ⟨la, ha⟩) (nlow_l0 a ha.dg (by omega) a [] rfl rfl))
theorem lw_mod {n k : Nat} (h : n ≠ 0) : k > lw n ↔ n % 2 ^ k ≠ 0 := by
  have := (lw_is h).mod (k := k)
  constructor
  · intro h1 h2; have := this.1 h2; omega
  · intro h1; rcases Nat.lt_or_ge (lw n) k with h2 | h2
    · exact h2
    · exact absurd (this.2 h2) h1
def shiftR (v : Nat) (n : Int) : List Int × Bool × Int :=
  if v = 0 then ([], false, 0) else if n < -131072 then ([], true, 0) else if n < 0 then (D (v / 2 ^ (-n).toNat), decide (v % 2 ^ (-n).toNat ≠ 0), 0) else if n > 131072 - (bl v : Int) then ([], false, 3) else (D (v * 2 ^ n.toNat), false, 0)
theorem nat_Shift_ev {a : List Int} (ha : Nm a) (la : a.length ≤ 4096) (n : Int) : Ev (fun k => nat_Shift.f k a n) (shiftR (V a) n) := by
  unfold nat_Shift.f shiftR
  refine ev_bind (nat_May_eq ha.dg (by omega)) (ev_pos (may_iff.2 ⟨la, ha⟩) ?_)
  by_cases c : a = []
  · subst c
    exact ev_pos (by simp) (ev_eq (Ev.now _) (by simp))
  have h0 : V a ≠ 0 := fun h => c ((V_eq_zero ha).1 h)
  have hl : a.length ≠ 0 := fun h => c (List.eq_nil_of_length_eq_zero h)
  have hbl := bl_list ha.dg
  rw [if_neg h0]
  refine ev_neg (by omega) ?_
  by_cases h1 : n < -131072
  · rw [if_pos h1]; exact ev_pos h1 (Ev.now _)
  rw [if_neg h1]
  refine ev_neg h1 ?_
  by_cases h2 : n < 0
  · rw [if_pos h2]
    have e : wrap64 (-n) = (((-n).toNat : Nat) : Int) := by unfold wrap64; omega
    rw [e]
    clear e
    have hm : (-n).toNat ≤ 131072 := by omega
    generalize (-n).toNat = m at *
    refine ev_pos h2 (Ev.bind (nat_down_ev ha.dg (by omega) m (by omega)) (Ev.bind (nat_Low_ev ha la) (ev_eq (Ev.now _) ?_)))
    congr 2
    exact decide_eq_decide.2 (by rw [← lw_mod h0]; omega)
  · rw [if_neg h2]
    have e : wrap64 (131072 - ((bl (V a) : Nat) : Int)) = 131072 - ((bl (V a) : Nat) : Int) := by unfold wrap64; omega
    refine ev_neg h2 (ev_bind (nat_Len_ev ha la) ?_)
    rw [e]
    clear e
    by_cases h3 : n > 131072 - ((bl (V a) : Nat) : Int)
    · rw [if_pos h3]; exact ev_pos h3 (Ev.now _)
    · rw [if_neg h3]
      obtain ⟨m, rfl⟩ := Int.eq_ofNat_of_zero_le (show 0 ≤ n by omega)
      refine ev_neg h3 (Ev.bind (nat_up_ev ha.dg (by omega) m (by omega)) (ev_eq (Ev.now _) ?_))
      rw [Int.toNat_natCast]
theorem len_bl {x k : Nat} (h : bl x ≤ 32 * k) : (D x).length ≤ k := by
  refine D_lt ?_
  have e : 4294967296 ^ k = 2 ^ (32 * k) := by rw [Nat.pow_mul]
  rw [e]
  exact Nat.lt_of_lt_of_le (lt_bl x) (Nat.pow_le_pow_right (by omega) h)
theorem bl_up_le (v m : Nat) : bl (v * 2 ^ m) ≤ bl v + m := by
  refine bl_le_of_lt ?_
  rw [Nat.pow_add]
  exact Nat.mul_lt_mul_of_pos_right (lt_bl v) (pw_pos m)
theorem bl_up {v : Nat} (h : v ≠ 0) (m : Nat) : bl (v * 2 ^ m) = bl v + m := by
  rw [bl_shift (n := v * 2 ^ m) (k := m) (Nat.le_mul_of_pos_left _ (by omega)), Nat.mul_div_cancel _ (pw_pos m), Nat.add_comm]
theorem bl_down (v m : Nat) : bl (v / 2 ^ m) = bl v - m := by
  rcases Nat.lt_or_ge v (2 ^ m) with h | h
  · rw [Nat.div_eq_of_lt h, bl_zero]
    have := bl_le_of_lt h
    omega
  · rw [bl_shift h]; omega
end Go.Proofs.YtldcelgbinenbaaDoor.K
