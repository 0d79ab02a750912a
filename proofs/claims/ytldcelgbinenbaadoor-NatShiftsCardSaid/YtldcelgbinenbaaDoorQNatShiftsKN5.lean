/- The first layer's plain functions: the length of a number in bits. -/
import Derived.Test.YtldcelgbinenbaaDoorQNatShiftsKN4
set_option linter.unusedVariables false
set_option linter.unusedSimpArgs false
namespace Go.Proofs.YtldcelgbinenbaaDoor.K
open Go.RowKit Go.Proofs.YtldcelgbinenbaaDoor.Px Go.Proofs.YtldcelgbinenbaaDoorW.PrintWords Go.Proofs.YtldcelgbinenbaaDoorW.PrintLast Go.Proofs.YtldcelgbinenbaaDoorW.PrintMore

/-- how many bits -/
def bl (n : Nat) : Nat := if n = 0 then 0 else n.log2 + 1
theorem bl_zero : bl 0 = 0 := rfl
theorem bl_le {n : Nat} (h : n ≠ 0) : 2 ^ (bl n - 1) ≤ n := by
  unfold bl; rw [if_neg h]; exact Nat.log2_self_le h
theorem lt_bl (n : Nat) : n < 2 ^ bl n := by
  unfold bl
  split
  · subst n; simp
  · exact Nat.lt_log2_self
theorem bl_pos {n : Nat} (h : n ≠ 0) : 0 < bl n := by unfold bl; rw [if_neg h]; omega
theorem bl_le_of_lt {n k : Nat} (h : n < 2 ^ k) : bl n ≤ k := by
  by_cases e : n = 0
  · subst e; simp [bl_zero]
  · have h1 := bl_le e
    have h2 := bl_pos e
    have : bl n - 1 < k := (Nat.pow_lt_pow_iff_right (a := 2) (by omega)).1 (Nat.lt_of_le_of_lt h1 h)
    omega
theorem bl_unique {n k : Nat} (h1 : 2 ^ k ≤ n) (h2 : n < 2 ^ (k + 1)) : bl n = k + 1 := by
  have := bl_le_of_lt h2
  have h3 : 2 ^ k < 2 ^ bl n := Nat.lt_of_le_of_lt h1 (lt_bl n)
  have := (Nat.pow_lt_pow_iff_right (a := 2) (by omega)).1 h3
  omega
theorem bl_shift {n k : Nat} (h : 2 ^ k ≤ n) : bl n = k + bl (n / 2 ^ k) := by
  have hp : 0 < 2 ^ k := Nat.pow_pos (by omega)
  have h0 : n / 2 ^ k ≠ 0 := by
    have := (Nat.le_div_iff_mul_le hp (x := 1) (y := n)).2 (by omega)
    omega
  have h1 := bl_le h0
  have h2 := lt_bl (n / 2 ^ k)
  have h3 := bl_pos h0
  have e : k + bl (n / 2 ^ k) = (k + (bl (n / 2 ^ k) - 1)) + 1 := by omega
  rw [e]
  apply bl_unique
  · rw [Nat.pow_add]
    have := (Nat.le_div_iff_mul_le hp).1 h1
    rw [Nat.mul_comm]; exact this
  · have := (Nat.div_lt_iff_lt_mul hp).1 h2
    rw [show k + (bl (n / 2 ^ k) - 1) + 1 = bl (n / 2 ^ k) + k by omega, Nat.pow_add]
    exact this
theorem bl_step {n : Nat} (h : n ≠ 0) : bl n = bl (n / 2) + 1 := by
  by_cases h1 : n = 1
  · subst h1; rfl
  · have := bl_shift (n := n) (k := 1) (by omega)
    simp at this; omega
def tab8 : ByteArray := ⟨#[0, 1, 2, 2, 3, 3, 3, 3, 4, 4, 4, 4, 4, 4, 4, 4, 5, 5, 5, 5, 5, 5, 5, 5, 5, 5, 5, 5, 5, 5, 5, 5, 6, 6, 6, 6, 6, 6, 6, 6, 6, 6, 6, 6, 6, 6, 6, 6, 6, 6, 6, 6, 6, 6, 6, 6, 6, 6, 6, 6, 6, 6, 6, 6, 7, 7, 7, 7, 7, 7, 7, 7, 7, 7, 7, 7, 7, 7, 7, 7, 7, 7, 7, 7, 7, 7, 7, 7, 7, 7, 7, 7, 7, 7, 7, 7, 7, 7, 7, 7, 7, 7, 7, 7, 7, 7, 7, 7, 7, 7, 7, 7, 7, 7, 7, 7, 7, 7, 7, 7, 7, 7, 7, 7, 7, 7, 7, 7, 8, 8, 8, 8, 8, 8, 8, 8, 8, 8, 8, 8, 8, 8, 8, 8, 8, 8, 8, 8, 8, 8, 8, 8, 8, 8, 8, 8, 8, 8, 8, 8, 8, 8, 8, 8, 8, 8, 8, 8, 8, 8, 8, 8, 8, 8, 8, 8, 8, 8, 8, 8, 8, 8, 8, 8, 8, 8, 8, 8, 8, 8, 8, 8, 8, 8, 8, 8, 8, 8, 8, 8, 8, 8, 8, 8, 8, 8, 8, 8, 8, 8, 8, 8, 8, 8, 8, 8, 8, 8, 8, 8, 8, 8, 8, 8, 8, 8, 8, 8, 8, 8, 8, 8, 8, 8, 8, 8, 8, 8, 8, 8, 8, 8, 8, 8, 8, 8, 8, 8, 8, 8, 8, 8, 8, 8, 8, 8]⟩
theorem tab8_eq : (List.range 256).all (fun i => bt tab8 (i : Int) == (bl i : Int)) = true := by decide +kernel
theorem bt8 {t : ByteArray} {n : Nat} (h : n < 256) (ht : t = tab8) : bt t (n : Int) = (bl n : Int) := by
  subst ht
  have := List.all_eq_true.1 tab8_eq n (List.mem_range.2 h)
  exact eq_of_beq this
theorem bl_small {n : Nat} (h : n < 256) : bl n ≤ 8 := bl_le_of_lt h
theorem len32_eq {x : Int} (h : 0 ≤ x ∧ x < 4294967296) : bits_Len32.f x = some ((bl x.toNat : Nat) : Int) := by
  obtain ⟨n, rfl⟩ := Int.eq_ofNat_of_zero_le h.1
  unfold bits_Len32.f
  rw [Int.toNat_natCast]
  by_cases c1 : n ≥ 65536
  · rw [if_pos (by omega)]
    have e1 : bl n = 16 + bl (n / 65536) := bl_shift (k := 16) c1
    by_cases c2 : n / 65536 ≥ 256
    · rw [if_pos (by omega), if_pos (by omega), if_pos (by omega)]
      have e2 : bl (n / 65536) = 8 + bl (n / 65536 / 256) := bl_shift (k := 8) c2
      have e : ((n : Int) / 65536 / 256) % 256 = ((n / 65536 / 256 : Nat) : Int) := by omega
      have l := bl_small (n := n / 65536 / 256) (by omega)
      rw [e, bt8 (by omega) ?_, w64n (n := ((bl _ : Nat) : Int)) (by omega) (by omega), w64n (by omega) (by omega)]
      · congr 1; omega
      · rfl
    · rw [if_neg (by omega), if_pos (by omega), if_pos (by omega)]
      have e : ((n : Int) / 65536) % 256 = ((n / 65536 : Nat) : Int) := by omega
      have l := bl_small (n := n / 65536) (by omega)
      rw [e, bt8 (by omega) ?_, w64n (n := ((bl _ : Nat) : Int)) (by omega) (by omega), w64n (by omega) (by omega)]
      · congr 1; omega
      · rfl
  · rw [if_neg (by omega)]
    by_cases c2 : n ≥ 256
    · rw [if_pos (by omega), if_pos (by omega), if_pos (by omega)]
      have e2 : bl n = 8 + bl (n / 256) := bl_shift (k := 8) c2
      have e : ((n : Int) / 256) % 256 = ((n / 256 : Nat) : Int) := by omega
      have l := bl_small (n := n / 256) (by omega)
      rw [e, bt8 (by omega) ?_, w64n (n := ((bl _ : Nat) : Int)) (by omega) (by omega), w64n (by omega) (by omega)]
      · congr 1; omega
      · rfl
    · rw [if_neg (by omega), if_pos (by omega), if_pos (by omega)]
      have e : (n : Int) % 256 = (n : Int) := by omega
      have l := bl_small (n := n) (by omega)
      rw [e, bt8 (by omega) ?_, w64n (n := ((bl _ : Nat) : Int)) (by omega) (by omega), w64n (by omega) (by omega)]
      · congr 1; omega
      · rfl
/-! ### the references' length -/
theorem rlen_l0 : ∀ (n : Nat) (m : Int), 0 ≤ m ∧ m + (bl n : Nat) < 4611686018427387904 → n < 4294967296 → Ev (fun k => cutplaneref01_Len.l0 k m n) (m + (bl n : Nat)) := by
  intro n
  induction n using Nat.strongRecOn with
  | _ n ih =>
    intro m hm hn
    refine ev_step ?_
    simp only [cutplaneref01_Len.l0]
    by_cases c : n = 0
    · subst c
      refine ev_neg (by omega) (ev_eq (Ev.now _) ?_)
      simp [bl_zero]
    · refine ev_pos (by omega) ?_
      have e : (n : Int) / 2 = ((n / 2 : Nat) : Int) := by omega
      have hb := bl_step c
      rw [e, w64n (by omega) (by omega)]
      refine ev_eq (ih (n / 2) (by omega) (m + 1) (by omega) (by omega)) ?_
      omega
/-- the bits of a list: its highest digit's, and 32 for each other one -/
theorem bl_V {l : List Int} (h : Nm l) (h0 : l ≠ []) : bl (V l) = 32 * (l.length - 1) + bl (l.getD (l.length - 1) 0).toNat := by
  rcases List.eq_nil_or_concat l with rfl | ⟨a, d, rfl⟩
  · exact absurd rfl h0
  rw [List.concat_eq_append] at h ⊢
  have hd := h.dg d (by simp)
  have hn := Nm_last h
  have e : (a ++ [d]).getD ((a ++ [d]).length - 1) 0 = d := by simp
  rw [e]
  have hl : (a ++ [d]).length - 1 = a.length := by simp
  rw [hl, V_append]
  simp only [V_cons, V_nil, Nat.mul_zero, Nat.add_zero]
  have hv := V_lt h.dg.left
  have hp : (4294967296 : Nat) ^ a.length = 2 ^ (32 * a.length) := by rw [Nat.pow_mul]
  rw [hp] at hv ⊢
  have hpos : 0 < 2 ^ (32 * a.length) := Nat.pow_pos (by omega)
  have hd1 : 2 ^ (32 * a.length) * 1 ≤ 2 ^ (32 * a.length) * d.toNat := Nat.mul_le_mul_left _ (by omega)
  rw [bl_shift (n := V a + 2 ^ (32 * a.length) * d.toNat) (k := 32 * a.length) (by omega)]
  rw [Nat.add_mul_div_left _ _ hpos, Nat.div_eq_of_lt hv, Nat.zero_add]
theorem ref_Len_ev {l : List Int} (h : Nm l) (hb : l.length < 1000000000) : Ev (fun k => cutplaneref01_Len.f k l) ((bl (V l) : Nat) : Int) := by
  unfold cutplaneref01_Len.f
  by_cases c : l.length = 0
  · have : l = [] := List.eq_nil_of_length_eq_zero c
    subst this
    exact ev_pos (by simp) (Ev.now _)
  · refine ev_neg (by omega) ?_
    have e : wrap64 ((l.length : Int) - 1) = ((l.length - 1 : Nat) : Int) := by unfold wrap64; omega
    rw [e]
    clear e
    refine ev_pos (by omega) (ev_pos (by omega) ?_)
    have hd := h.dg.getD (l.length - 1)
    rw [rdn, w64n (by omega) (by omega)]
    generalize hx : l.getD (l.length - 1) 0 = x at hd
    obtain ⟨n, rfl⟩ := Int.eq_ofNat_of_zero_le hd.1
    have hbn : bl n ≤ 32 := bl_le_of_lt (by omega)
    refine ev_eq (rlen_l0 n _ (by omega) (by omega)) ?_
    have hne : l ≠ [] := fun e => c (by rw [e]; rfl)
    have hm := Nm_iff h.dg |>.1 h
    rw [bl_V h hne, hx]
    simp
end Go.Proofs.YtldcelgbinenbaaDoor.K
