/- NatPowers, of plain functions: every power, at the bound and past it, is the document's. -/
import Derived.Test.YtldcelgbinenbaaQNatPowersKN5
set_option linter.unusedVariables false
set_option linter.unusedSimpArgs false
namespace Go.Proofs.Ytldcelgbinenbaa.K
open Go.RowKit Go.Proofs.Ytldcelgbinenbaa.Px Go.Proofs.YtldcelgbinenbaaW.PrintWords Go.Proofs.YtldcelgbinenbaaW.PrintLast Go.Proofs.YtldcelgbinenbaaW.PrintMore

theorem bound_short {n : Nat} (h : (D n).length ≤ 4096) : bound n = (D n, 0) := by
  unfold bound; rw [if_neg (by omega)]
theorem D_one : D 1 = [1] := by
  have h2 : Nm [1] := by have := Nm_snoc Dg.nil (d := 1) (by omega) (by omega); simpa using this
  exact h2
theorem ofInt64 (n : Nat) (h : n < 9223372036854775808) : (BitVec.ofInt 64 (n : Int)).toNat = n := by
  rw [BitVec.ofInt_natCast, BitVec.toNat_ofNat]; exact Nat.mod_eq_of_lt (by omega)
theorem and_i64_one (n : Nat) (h : n < 9223372036854775808) : Go.bits .and .i64 (n : Int) 1 = ((n % 2 : Nat) : Int) := by
  show IntKind.i64.wrap ((BitVec.ofInt 64 (n : Int) &&& BitVec.ofInt 64 ((1 : Nat) : Int)).toNat : Int) = _
  rw [BitVec.toNat_and, ofInt64 n h, ofInt64 1 (by omega), Nat.and_one_is_mod, IntKind.wrap_i64]
  omega
theorem shr_i64 (n i : Nat) (h : i ≤ 64) : shr .i64 (n : Int) (i : Int) = ((n / 2 ^ i : Nat) : Int) := by
  unfold shr
  have e : min (i : Int).toNat IntKind.i64.bits = i := by rw [Int.toNat_natCast]; exact Nat.min_eq_left h
  rw [e]; simp
theorem one_le_pow {b n : Nat} (h : 1 ≤ b) : 1 ≤ b ^ n := Nat.one_le_pow _ _ h
theorem pow_mono {b m n : Nat} (h : 1 ≤ b) (k : m ≤ n) : b ^ m ≤ b ^ n := Nat.pow_le_pow_right h k
theorem half_pow (n i : Nat) : n / 2 ^ i = 2 * (n / 2 ^ (i + 1)) + n / 2 ^ i % 2 := by
  have : n / 2 ^ (i + 1) = n / 2 ^ i / 2 := by rw [Nat.pow_succ, Nat.div_div_eq_div_mul]
  rw [this]; omega
theorem sq_len {m : Nat} (h : m ≠ 0) : 2 * (D m).length - 1 ≤ (D (m * m)).length := by
  have h1 := D_len_ge h
  have h2 := Nat.mul_le_mul h1 h1
  rw [← Nat.pow_add] at h2
  apply Nat.le_of_not_lt
  intro k
  have h3 := lt_D_len (m * m)
  have h4 : (4294967296 : Nat) ^ (D (m * m)).length ≤ 4294967296 ^ ((D m).length - 1 + ((D m).length - 1)) := Nat.pow_le_pow_right (by omega) (by omega)
  omega
theorem w_sq {L : Nat} (h : L ≤ 4096) : wrap64 (wrap64 (2 * (L : Int)) - 1) = 2 * (L : Int) - 1 := by unfold wrap64; omega
theorem sq_short {p : Nat} (h : (D p).length ≤ 4096) : (D (p * p)).length ≤ 8192 := by
  have h1 := lt_D_len p
  have h2 := Nat.mul_lt_mul'' h1 h1
  rw [← Nat.pow_add] at h2
  have := D_len_lt h2
  omega
theorem power_round {b n i p q T t : Nat} (hbl : Dg [((b : Nat) : Int)]) (hi : i < 64) (hs : Go.bits .and .i64 (shr .i64 (n : Int) (i : Int)) 1 = ((t % 2 : Nat) : Int)) (hp : p ≠ 0) (hl : (D p).length ≤ 4096) (hpT : p * p ≤ T) (hqT : q ≤ T)
    (h1 : t % 2 = 1 → p * p * b = q) (h0 : t % 2 ≠ 1 → p * p = q) (ih : (D q).length ≤ 4096 → Ev (fun k => nat_Power.l0 k (b : Int) (n : Int) (D q) ((i : Int) - 1)) (bound T)) :
    Ev (fun k => nat_Power.l0 k (b : Int) (n : Int) (D p) (i : Int)) (bound T) := by
  have hsl := sq_len hp
  have hss := sq_short hl
  refine ev_step ?_
  simp only [nat_Power.l0, w_sq hl, hs, w64m (n := i) (by omega)]
  clear hs
  refine ev_pos (by omega) ?_
  by_cases c1 : 2 * (D p).length > 4097
  · refine ev_pos (by omega) (ev_eq (Ev.now _) ?_)
    exact (bound_long (m := p * p) (by omega) hpT).symm
  · refine ev_neg (by omega) (Ev.bind (nat_mul_ev (Dg_D _) (Dg_D _) (by omega) (by omega)) ?_)
    rw [V_D]
    refine ev_pos (by omega) ?_
    have next : Ev (fun k => if ((D q).length : Int) > 4096 then some ([], 3) else nat_Power.l0 k (b : Int) (n : Int) (D q) ((i : Int) - 1)) (bound T) := by
      by_cases c2 : (D q).length > 4096
      · refine ev_pos (by omega) (ev_eq (Ev.now _) ?_)
        exact (bound_long c2 hqT).symm
      · exact ev_neg (by omega) (ih (by omega))
    by_cases c3 : t % 2 = 1
    · refine ev_pos (by omega) (Ev.bind (nat_mul_ev (Dg_D _) hbl (by omega) (by simp)) ?_)
      have hv : V (D (p * p)) * V [((b : Nat) : Int)] = q := by
        rw [V_D, ← h1 c3]
        simp only [V_cons, V_nil, Int.toNat_natCast, Nat.mul_zero, Nat.add_zero]
      rw [hv]; exact next
    · refine ev_neg (by omega) ?_
      rw [h0 c3]; exact next
theorem power_l0 {b : Nat} (hb : 1 ≤ b ∧ b < 4294967296) (hbl : Dg [((b : Nat) : Int)]) {n : Nat} (hn : n < 9223372036854775808) : ∀ (i : Nat), i ≤ 64 → (D (b ^ (n / 2 ^ i))).length ≤ 4096 → Ev (fun k => nat_Power.l0 k (b : Int) (n : Int) (D (b ^ (n / 2 ^ i))) ((i : Int) - 1)) (bound (b ^ n))
  | 0, hi, hl => by
    refine ev_step ?_
    simp only [nat_Power.l0]
    refine ev_neg (by decide) (ev_eq (Ev.now _) ?_)
    rw [Nat.pow_zero, Nat.div_one] at hl ⊢
    exact (bound_short hl).symm
  | i + 1, hi, hl => by
    have e0 : ((i + 1 : Nat) : Int) - 1 = (i : Int) := by rw [Int.natCast_add]; exact Int.add_sub_cancel _ _
    have hh := half_pow n i
    have hle : n / 2 ^ i ≤ n := Nat.div_le_self _ _
    have hm : b ^ (n / 2 ^ (i + 1)) ≠ 0 := Nat.ne_of_gt (one_le_pow hb.1)
    have hsq : b ^ (n / 2 ^ (i + 1)) * b ^ (n / 2 ^ (i + 1)) = b ^ (2 * (n / 2 ^ (i + 1))) := by rw [← Nat.pow_add, Nat.two_mul]
    have hle2 : 2 * (n / 2 ^ (i + 1)) ≤ n / 2 ^ i := by rw [hh]; exact Nat.le_add_right _ _
    have hbit : Go.bits .and .i64 (shr .i64 (n : Int) (i : Int)) 1 = ((n / 2 ^ i % 2 : Nat) : Int) := by
      rw [shr_i64 n i (Nat.le_of_lt hi), and_i64_one _ (Nat.lt_of_le_of_lt hle hn)]
    rw [e0]
    refine power_round (q := b ^ (n / 2 ^ i)) hbl hi hbit hm hl ?_ (pow_mono hb.1 hle) ?_ ?_ (fun h => power_l0 hb hbl hn i (Nat.le_of_lt hi) h)
    · rw [hsq]; exact pow_mono hb.1 (Nat.le_trans hle2 hle)
    · intro c; rw [hsq, ← Nat.pow_succ]; congr 1; rw [c] at hh; exact hh.symm
    · intro c
      have c' : n / 2 ^ i % 2 = 0 := (Nat.mod_two_eq_zero_or_one _).resolve_right c
      rw [hsq]; congr 1; rw [c'] at hh; exact hh.symm
theorem one_pow_lt {b n K : Nat} (hb : b < 2) (hK : 1 ≤ K) : (max 1 b) ^ n < 4294967296 ^ K := by
  have : max 1 b = 1 := by omega
  rw [this, Nat.one_pow]
  exact Nat.one_lt_pow (by omega) (by omega)
theorem nat_Power_ev {b n : Nat} (hb : b < 4294967296) (hn : n < 9223372036854775808) : Ev (fun k => nat_Power.f k (b : Int) (n : Int)) (bound (b ^ n)) := by
  have h1 : Nm [1] := by rw [← D_one]; exact Nm_D 1
  have one : ∀ z, z = true → b ^ n = 1 → Ev (fun k => nat_Power.j0 k (b : Int) (n : Int) z) (bound (b ^ n)) := by
    rintro z rfl e
    refine ev_step ?_
    simp only [nat_Power.j0]
    refine ev_pos trivial (Ev.bind (nat_Of_ev (by omega) (by omega)) (ev_eq (Ev.now _) ?_))
    rw [e]
    exact (bound_short (n := 1) (by rw [D_one]; simp)).symm
  unfold nat_Power.f
  refine ev_neg (by omega) ?_
  by_cases c0 : n = 0
  · refine ev_pos (by omega) (one true rfl (by subst c0; simp))
  · refine ev_neg (by omega) ?_
    by_cases c1 : b = 1
    · refine one _ (by subst c1; rfl) (by subst c1; simp)
    · have e : ((b : Int) == 1) = false := by simp; omega
      rw [e]
      refine ev_step ?_
      simp only [nat_Power.j0]
      refine ev_neg (by simp) ?_
      by_cases c2 : b = 0
      · refine ev_pos (by omega) (ev_eq (Ev.now _) ?_)
        subst c2
        rw [Nat.zero_pow (by omega), bound_short (by rw [D_zero]; simp), D_zero]
      · refine ev_neg (by omega) ?_
        by_cases c3 : n > 131072
        · refine ev_pos (by omega) (ev_eq (Ev.now _) ?_)
          have p1 : 2 ^ n ≤ b ^ n := Nat.pow_le_pow_left (by omega) n
          exact (two_pow_le (by omega) p1).symm
        · refine ev_neg (by omega) (Ev.bind (nat_Of_ev (by omega) (by omega)) ?_)
          rw [u64 (by omega) (by omega)]
          refine Ev.bind (bits_Len_ev (by omega)) ?_
          have hbl : bl n ≤ 63 := bl_le_of_lt (by omega)
          rw [Int.toNat_natCast, w64m (by omega)]
          have := power_l0 (b := b) (by omega) (Dg.cons (by omega) (by omega) Dg.nil) hn (bl n) (by omega)
          rw [Nat.div_eq_of_lt (lt_bl n), Nat.pow_zero] at this
          exact this (by rw [D_one]; simp)

/-! ### the reference's powers: the lowest bit first -/
theorem tdiv2 (n : Nat) (h : n < 9223372036854775808) : wrap64 (Int.tdiv (n : Int) 2) = ((n / 2 : Nat) : Int) := by
  rw [Int.tdiv_eq_ediv_of_nonneg (by omega), w64n (by omega) (by omega)]; omega
theorem tmod2 (n : Nat) : Int.tmod (n : Int) 2 = ((n % 2 : Nat) : Int) := by
  rw [Int.tmod_eq_emod_of_nonneg (by omega)]; omega
theorem rpower_l0 {M K : Nat} (hK : K < 100000000) (hM : M < 4294967296 ^ K) : ∀ (n : Nat), n < 9223372036854775808 → ∀ (out sq : Nat) (o s : Nat), out ≤ o → sq ≤ s → 1 ≤ o → 1 ≤ s → (0 < n → s ≤ M) → o * s ^ n ≤ M → s < 4294967296 ^ K →
    Ev (fun k => cutplaneref01_Power.l0 k (n : Int) (D out) (D sq)) (D (out * sq ^ n)) := by
  intro n
  induction n using Nat.strongRecOn with
  | _ n ih =>
    intro hn out sq o s ho hs h1 h2 hsM hT hs9
    have lenM : ∀ {x : Nat}, x ≤ M → (D x).length < 100000000 := by
      intro x hx
      have := D_len_lt (Nat.lt_of_le_of_lt hx hM)
      omega
    have hoM : out ≤ M := by
      have : o * 1 ≤ o * s ^ n := Nat.mul_le_mul_left _ (one_le_pow h2)
      omega
    have hls : (D sq).length < 100000000 := by have := D_len_lt (Nat.lt_of_le_of_lt hs hs9); omega
    refine ev_step ?_
    simp only [cutplaneref01_Power.l0, tdiv2 n hn, tmod2]
    by_cases c : n = 0
    · subst c
      refine ev_neg (by omega) (ev_eq (Ev.now _) ?_)
      simp
    · refine ev_pos (by omega) ?_
      have hsM' := hsM (by omega)
      have hsq : sq ^ n = (sq * sq) ^ (n / 2) * sq ^ (n % 2) := by
        rw [← Nat.pow_two, ← Nat.pow_mul, ← Nat.pow_add]; congr 1; omega
      have hsp : s ^ n = (s * s) ^ (n / 2) * s ^ (n % 2) := by
        rw [← Nat.pow_two, ← Nat.pow_mul, ← Nat.pow_add]; congr 1; omega
      -- the square is at most the whole, where it is used again
      have hss : 0 < n / 2 → s * s ≤ M := by
        intro h
        have h3 : s ^ 2 ≤ s ^ n := pow_mono h2 (by omega)
        have h4 : 1 * s ^ n ≤ o * s ^ n := Nat.mul_le_mul_right _ h1
        rw [Nat.pow_two] at h3
        omega
      have go : ∀ (out' o' : Nat), out' ≤ o' → 1 ≤ o' → o' * (s * s) ^ (n / 2) ≤ M → out' * (sq * sq) ^ (n / 2) = out * sq ^ n → (D out').length < 100000000 →
          Ev (fun k => if ((n / 2 : Nat) : Int) > 0 then (cutplaneref01_Mul.f k (D sq) (D sq)).bind fun t => cutplaneref01_Power.l0 k ((n / 2 : Nat) : Int) (D out') t else cutplaneref01_Power.l0 k ((n / 2 : Nat) : Int) (D out') (D sq)) (D (out * sq ^ n)) := by
        intro out' o' k1 k2 k3 k4 k5
        by_cases c2 : 0 < n / 2
        · refine ev_pos (by omega) (Ev.bind (ref_Mul_ev (Dg_D _) (Dg_D _) hls hls) ?_)
          rw [V_D]
          have := ih (n / 2) (by omega) (by omega) out' (sq * sq) o' (s * s) k1 (Nat.mul_le_mul hs hs) k2 (Nat.mul_le_mul h2 h2) (fun _ => hss c2) k3 (Nat.lt_of_le_of_lt (hss c2) hM)
          rwa [k4] at this
        · refine ev_neg (by omega) ?_
          have e : n / 2 = 0 := by omega
          rw [e] at k3 k4 ⊢
          have := ih 0 (by omega) (by omega) out' sq o' s k1 hs k2 h2 (fun h => absurd h (by omega)) (by simpa using k3) hs9
          rwa [Nat.pow_zero, ← Nat.pow_zero (sq * sq), k4] at this
      by_cases c1 : n % 2 = 1
      · refine ev_pos (by omega) (Ev.bind (ref_Mul_ev (Dg_D _) (Dg_D _) (lenM hoM) hls) ?_)
        rw [V_D, V_D]
        have k3 : o * s * (s * s) ^ (n / 2) ≤ M := by
          rw [hsp, c1, Nat.pow_one] at hT
          have : o * s * (s * s) ^ (n / 2) = o * ((s * s) ^ (n / 2) * s) := by rw [Nat.mul_assoc, Nat.mul_comm s]
          omega
        refine go (out * sq) (o * s) (Nat.mul_le_mul ho hs) (Nat.mul_le_mul h1 h2) k3 ?_ ?_
        · rw [hsq, c1, Nat.pow_one, Nat.mul_assoc, Nat.mul_comm sq]
        · apply lenM
          have : o * s * 1 ≤ o * s * (s * s) ^ (n / 2) := Nat.mul_le_mul_left _ (one_le_pow (Nat.mul_le_mul h2 h2))
          have := Nat.mul_le_mul ho hs
          omega
      · refine ev_neg (by omega) ?_
        have c1' : n % 2 = 0 := by omega
        refine go out o ho h1 ?_ ?_ (lenM hoM)
        · rw [hsp, c1', Nat.pow_zero, Nat.mul_one] at hT; exact hT
        · rw [hsq, c1', Nat.pow_zero, Nat.mul_one]
theorem ref_Power_ev {b n : Nat} (hb : b < 4294967296) (hn : n < 9223372036854775808) {K : Nat} (hK : K < 100000000) (hK1 : 1 ≤ K) (h : (max 1 b) ^ n < 4294967296 ^ K) : Ev (fun k => cutplaneref01_Power.f k (b : Int) (n : Int)) (D (b ^ n)) := by
  unfold cutplaneref01_Power.f
  rw [u64 (by omega) (by omega)]
  refine Ev.bind (ref_Of_ev (by omega) (by omega)) ?_
  rw [Int.toNat_natCast]
  have hs : max 1 b < 4294967296 ^ K := Nat.lt_of_lt_of_le (show max 1 b < 4294967296 ^ 1 by omega) (Nat.pow_le_pow_right (by omega) hK1)
  have := rpower_l0 (M := max 1 b ^ n) hK h n hn 1 b 1 (max 1 b) (by omega) (by omega) (by omega) (by omega) ?_ (by omega) hs
  · rw [D_one, Nat.one_mul] at this; exact this
  · intro h0
    have h1 : max 1 b ^ 1 ≤ max 1 b ^ n := pow_mono (by omega) h0
    rwa [Nat.pow_one] at h1
theorem ref_Fits_ev {b : Nat} {n : Nat} (hb : b < 4294967296) (hn : n < 9223372036854775808) : Ev (fun k => cutplaneref01_Fits.f k (b : Int) (n : Int)) (decide (b < 2 ∨ n ≤ 131072 / (bl b - 1))) := by
  unfold cutplaneref01_Fits.f
  by_cases c : b < 2
  · refine ev_pos (by omega) (ev_eq (Ev.now _) ?_)
    simp [c]
  · refine ev_neg (by omega) ?_
    rw [u64 (by omega) (by omega)]
    refine Ev.bind (ref_Of_ev (by omega) (by omega)) ?_
    rw [Int.toNat_natCast]
    have hl : (D b).length ≤ 1 := D_len_lt (by omega)
    refine Ev.bind (ref_Len_ev (Nm_D _) (by omega)) ?_
    rw [V_D]
    have h1 : bl b ≤ 32 := bl_le_of_lt (by omega)
    have h2 : 2 ≤ bl b := by have := bl_shift (n := b) (k := 1) (by omega); have := bl_pos (n := b / 2 ^ 1) (by omega); omega
    have e : wrap64 (((bl b : Nat) : Int) - 1) = ((bl b - 1 : Nat) : Int) := by rw [w64m (by omega)]; omega
    rw [e]
    have h3 : 131072 / (bl b - 1) ≤ 131072 := Nat.div_le_self _ _
    have e2 : wrap64 ((131072 : Int) / ((bl b - 1 : Nat) : Int)) = ((131072 / (bl b - 1) : Nat) : Int) := by
      have hq : (131072 : Int) / ((bl b - 1 : Nat) : Int) = ((131072 / (bl b - 1) : Nat) : Int) := (Int.natCast_ediv 131072 (bl b - 1)).symm
      rw [hq]
      clear hq e
      generalize 131072 / (bl b - 1) = q at *
      exact w64n (by omega) (by omega)
    rw [Int.tdiv_eq_ediv_of_nonneg (show (0 : Int) ≤ 131072 by decide), e2]
    refine ev_neg (by omega) (ev_eq (Ev.now _) ?_)
    exact decide_eq_decide.2 (by omega)
theorem power_long {b n : Nat} (hb : ¬ b < 2) (h : ¬ n ≤ 131072 / (bl b - 1)) : bound (b ^ n) = ([], 3) := by
  have h2 : 2 ≤ bl b := by have := bl_shift (n := b) (k := 1) (by omega); have := bl_pos (n := b / 2 ^ 1) (by omega); omega
  have h3 : 131072 < n * (bl b - 1) := by
    have := (Nat.div_lt_iff_lt_mul (show 0 < bl b - 1 by omega)).1 (Nat.lt_of_not_le h)
    exact this
  have h4 := bl_le (n := b) (by omega)
  have h5 := Nat.pow_le_pow_left h4 n
  rw [← Nat.pow_mul] at h5
  exact two_pow_le (by rw [Nat.mul_comm]; omega) h5
theorem power_fits {b n K : Nat} (hK : 9000 ≤ K) (hb : b < 4294967296) (h2b : ¬ b < 2) (h : n ≤ 131072 / (bl b - 1)) : (max 1 b) ^ n < 4294967296 ^ K := by
  have h2 : 2 ≤ bl b := by have := bl_shift (n := b) (k := 1) (by omega); have := bl_pos (n := b / 2 ^ 1) (by omega); omega
  have e : max 1 b = b := by omega
  rw [e]
  have h1 := (Nat.le_div_iff_mul_le (show 0 < bl b - 1 by omega)).1 h
  have h3 : n * bl b ≤ n * (2 * (bl b - 1)) := Nat.mul_le_mul_left _ (by omega)
  have h4 : n * (2 * (bl b - 1)) = 2 * (n * (bl b - 1)) := by rw [Nat.mul_left_comm]
  have h5 : b ^ n ≤ (2 ^ bl b) ^ n := Nat.pow_le_pow_left (Nat.le_of_lt (lt_bl b)) n
  rw [← Nat.pow_mul, Nat.mul_comm] at h5
  rw [show (4294967296 : Nat) = 2 ^ 32 from rfl, ← Nat.pow_mul]
  exact Nat.lt_of_le_of_lt h5 (Nat.pow_lt_pow_right (by omega) (by omega))
theorem powers_j0 {b n : Nat} (m : Nat) (hb : b < 4294967296) (hn : n < 9223372036854775808) (he : b ^ m = b ^ n) {K : Nat} (hK : K < 100000000) (hK1 : 1 ≤ K) (h : (max 1 b) ^ n < 4294967296 ^ K) : Ev (fun k => cutplanelaw01_NatPowers.j0 k (b : Int) (n : Int) (bound (b ^ m)).1 (bound (b ^ m)).2) true := by
  refine ev_step ?_
  simp only [cutplanelaw01_NatPowers.j0]
  refine Ev.bind (ref_Power_ev hb hn hK hK1 h) ?_
  rw [he]
  by_cases c : (D (b ^ n)).length > 4096
  · refine ev_pos (by omega) ?_
    have e : bound (b ^ n) = ([], 3) := by unfold bound; rw [if_pos c]
    rw [e]
    exact ev_pos rfl (ev_pos rfl known_some)
  · refine ev_neg (by omega) ?_
    rw [bound_short (by omega)]
    exact Ev.bind (same_true rfl (by show (D (b ^ n)).length < _; omega)) (ev_pos rfl (ev_pos rfl known_some))
theorem NatPowers : cutplanelaw01_NatPowers.Pure := by
  intro b n wb wn
  have hb := wf_u32 wb
  have hn := wf_i64 wn
  refine Ev.rounds (?_ : Ev (fun k => cutplanelaw01_NatPowers.f k b n) true)
  unfold cutplanelaw01_NatPowers.f
  by_cases c : n < 0
  · have : Ev (fun k => nat_Power.f k b n) ([], 2) := by
      unfold nat_Power.f
      exact ev_pos c (Ev.now _)
    refine Ev.bind this (ev_pos c (ev_pos rfl (ev_pos rfl known_some)))
  · obtain ⟨K, hK1, hK2⟩ : ∃ K, 9000 ≤ K ∧ K < 100000000 := ⟨9000, by omega, by omega⟩
    obtain ⟨B, rfl⟩ := Int.eq_ofNat_of_zero_le hb.1
    obtain ⟨N, rfl⟩ := Int.eq_ofNat_of_zero_le (show 0 ≤ n by omega)
    refine Ev.bind (nat_Power_ev (b := B) (n := N) (by omega) (by omega)) (ev_neg (by omega) ?_)
    refine Ev.bind (ref_Fits_ev (b := B) (n := N) (by omega) (by omega)) ?_
    by_cases c2 : B < 2
    · refine ev_pos (decide_eq_true (Or.inl c2)) (ev_pos (by omega) ?_)
      have e : mn (N : Int) 2 = ((min N 2 : Nat) : Int) := by unfold mn; split <;> omega
      rw [e]
      refine powers_j0 N (by omega) (by omega) ?_ (K := K) (by omega) (by omega) ?_
      · by_cases h0 : B = 0
        · subst h0
          by_cases h1 : N = 0
          · subst h1; rfl
          · rw [Nat.zero_pow (by omega), Nat.zero_pow (by omega)]
        · have : B = 1 := by omega
          subst this; simp
      · exact one_pow_lt c2 (by omega)
    · by_cases c3 : N ≤ 131072 / (bl B - 1)
      · refine ev_pos (decide_eq_true (Or.inr c3)) (ev_neg (by omega) ?_)
        exact powers_j0 N (by omega) (by omega) rfl (K := K) (by omega) (by omega) (power_fits (by omega) (by omega) c2 c3)
      · refine ev_neg (by simp [c2, c3]) ?_
        rw [power_long c2 c3]
        exact ev_pos rfl (ev_pos rfl known_some)
end Go.Proofs.Ytldcelgbinenbaa.K
