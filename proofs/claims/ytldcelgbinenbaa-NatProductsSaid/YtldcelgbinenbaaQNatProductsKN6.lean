/- The first layer's plain functions: quotients by one digit; decimal texts. -/
import Derived.Test.YtldcelgbinenbaaQNatProductsKN5
import Derived.Lib.Bytes
set_option linter.unusedVariables false
set_option linter.unusedSimpArgs false
namespace Go.Proofs.Ytldcelgbinenbaa.K
open Go Go.RowKit Go.Proofs.Ytldcelgbinenbaa.Px Go.Proofs.YtldcelgbinenbaaW.PrintWords Go.Proofs.YtldcelgbinenbaaW.PrintLast Go.Proofs.YtldcelgbinenbaaW.PrintMore

/-! ### a text's bytes as numbers -/
/-! ### by one digit -/
theorem or_digit {x y : Int} (h0 : 0 ≤ x ∧ x < 4294967296) (h1 : 0 ≤ y ∧ y < 4294967296) : Go.bits .or .u64 (x * 4294967296) y = x * 4294967296 + y := by
  obtain ⟨X, rfl⟩ := Int.eq_ofNat_of_zero_le h0.1
  obtain ⟨Y, rfl⟩ := Int.eq_ofNat_of_zero_le h1.1
  have e : (X : Int) * 4294967296 = ((2 ^ 32 * X : Nat) : Int) := by omega
  rw [e, u64_or_nat _ _ (by omega) (by omega), ← Nat.two_pow_add_eq_or_of_lt (by omega)]
  omega
theorem top_div {r x d : Int} (hr : 0 ≤ r ∧ r < d) (hx : 0 ≤ x ∧ x < 4294967296) (hd : d < 4294967296) : 0 ≤ (r * 4294967296 + x) / d ∧ (r * 4294967296 + x) / d < 4294967296 := by
  constructor
  · exact Int.ediv_nonneg (by omega) (by omega)
  · apply Int.ediv_lt_of_lt_mul (by omega)
    have : r * 4294967296 + 4294967296 ≤ d * 4294967296 := by omega
    rw [Int.mul_comm]; omega
theorem div32_eq {r x d : Int} (hr : 0 ≤ r ∧ r < d) (hx : 0 ≤ x ∧ x < 4294967296) (hd : d < 4294967296) : bits_Div32.f r x d = some ((r * 4294967296 + x) / d, (r * 4294967296 + x) % d) := by
  have hn : 0 ≤ r * 4294967296 + x := by omega
  have hd0 : d ≠ 0 := by omega
  have hr0 : ¬ d ≤ r := by omega
  have ur := u64 (n := r) (by omega) (by omega)
  have ur2 := u64 (n := r * 4294967296) (by omega) (by omega)
  have ux := u64 (n := x) (by omega) (by omega)
  have ud := u64 (n := d) (by omega) (by omega)
  have ho := or_digit (x := r) (by omega) hx
  have h1 := top_div hr hx hd
  have h2 : 0 ≤ (r * 4294967296 + x) % d := Int.emod_nonneg _ hd0
  have h3 : (r * 4294967296 + x) % d < d := Int.emod_lt_of_pos _ (by omega)
  unfold bits_Div32.f
  rw [if_neg hd0, if_neg hr0, ud, if_neg hd0, ur, ur2, ux, ho, Int.tdiv_eq_ediv_of_nonneg hn, Int.tmod_eq_emod_of_nonneg hn]
  clear ur ur2 ux ud ho
  generalize (r * 4294967296 + x) / d = q at *
  generalize (r * 4294967296 + x) % d = m at *
  rw [u64 h1.1 (by omega), Int.emod_eq_of_lt h1.1 h1.2, Int.emod_eq_of_lt h2 (by omega)]
theorem zeros_snoc (n : Nat) (l : List Int) : List.replicate (n + 1) (0 : Int) ++ l = List.replicate n 0 ++ 0 :: l := by
  rw [List.replicate_succ', List.append_assoc]; rfl
/-- one digit more comes down -/
theorem small_nat (t P X R E w : Nat) (hE : 0 < E) :
    (t + P * X + P * 4294967296 * R) / E + P * 4294967296 * w = (t + P * ((R * 4294967296 + X) % E)) / E + P * ((R * 4294967296 + X) / E + 4294967296 * w) ∧
    (t + P * X + P * 4294967296 * R) % E = (t + P * ((R * 4294967296 + X) % E)) % E := by
  have h := Nat.div_add_mod (R * 4294967296 + X) E
  have e4 : P * (R * 4294967296 + X) = P * 4294967296 * R + P * X := by rw [Nat.mul_add, Nat.mul_comm R, Nat.mul_assoc]
  generalize (R * 4294967296 + X) / E = q at *
  generalize (R * 4294967296 + X) % E = m at *
  have e3 : P * (E * q + m) = E * (P * q) + P * m := by rw [Nat.mul_add, Nat.mul_left_comm]
  rw [h, e4] at e3
  have key : t + P * X + P * 4294967296 * R = t + P * m + E * (P * q) := by
    rw [Nat.add_assoc, Nat.add_comm (P * X), e3, Nat.add_assoc, Nat.add_comm (P * m)]
  rw [key, Nat.add_mul_div_left _ _ hE, Nat.add_mul_mod_self_left, Nat.mul_add, Nat.mul_assoc P, Nat.add_assoc]
  exact ⟨rfl, rfl⟩
theorem small_step {a : List Int} (ha : Dg a) {i : Nat} (hi : i < a.length) {r d : Int} (hr : 0 ≤ r ∧ r < d) (w : Nat) :
    (V (a.take (i + 1)) + 4294967296 ^ (i + 1) * r.toNat) / d.toNat + 4294967296 ^ (i + 1) * w =
      (V (a.take i) + 4294967296 ^ i * ((r * 4294967296 + a.getD i 0) % d).toNat) / d.toNat + 4294967296 ^ i * (((r * 4294967296 + a.getD i 0) / d).toNat + 4294967296 * w) ∧
    (V (a.take (i + 1)) + 4294967296 ^ (i + 1) * r.toNat) % d.toNat = (V (a.take i) + 4294967296 ^ i * ((r * 4294967296 + a.getD i 0) % d).toNat) % d.toNat := by
  have hx := ha.getD i
  rw [V_take_succ hi]
  obtain ⟨R, rfl⟩ := Int.eq_ofNat_of_zero_le hr.1
  obtain ⟨E, rfl⟩ := Int.eq_ofNat_of_zero_le (show 0 ≤ d by omega)
  obtain ⟨X, hX⟩ := Int.eq_ofNat_of_zero_le hx.1
  rw [hX]
  have hE : 0 < E := by omega
  clear hx hX hr ha hi
  have e1 : ((R : Int) * 4294967296 + X) % E = (((R * 4294967296 + X) % E : Nat) : Int) := by
    rw [Int.natCast_emod, Int.natCast_add, Int.natCast_mul, Int.cast_ofNat_Int]
  have e2 : ((R : Int) * 4294967296 + X) / E = (((R * 4294967296 + X) / E : Nat) : Int) := by
    rw [Int.natCast_ediv, Int.natCast_add, Int.natCast_mul, Int.cast_ofNat_Int]
  rw [e1, e2]
  rw [Int.toNat_natCast, Int.toNat_natCast, Int.toNat_natCast, Int.toNat_natCast, Int.toNat_natCast, Nat.pow_succ]
  exact small_nat _ _ _ _ _ _ hE
theorem small_l0 {a : List Int} (ha : Dg a) (hl : a.length < 1000000000) {d : Int} (hd : 0 < d ∧ d < 4294967296) : ∀ (i : Nat) (r : Int) (done : List Int), i + done.length = a.length → 0 ≤ r ∧ r < d → Dg done →
    Ev (fun k => nat_small.l0 k a d (List.replicate i 0 ++ done) r ((i : Int) - 1)) (D ((V (a.take i) + 4294967296 ^ i * r.toNat) / d.toNat + 4294967296 ^ i * V done), (((V (a.take i) + 4294967296 ^ i * r.toNat) % d.toNat : Nat) : Int))
  | 0, r, done, hi, hr, hg => by
    refine ev_step ?_
    simp only [nat_small.l0]
    refine ev_neg (by omega) ?_
    refine Ev.bind (nat_trim_ev (l := List.replicate 0 0 ++ done) (by simpa using hg) (by simp; omega)) (ev_eq (Ev.now _) ?_)
    have h1 : r.toNat / d.toNat = 0 := Nat.div_eq_of_lt (by omega)
    have h2 : r.toNat % d.toNat = r.toNat := Nat.mod_eq_of_lt (by omega)
    simp [h1, h2]; omega
  | i + 1, r, done, hi, hr, hg => by
    have e0 : ((i + 1 : Nat) : Int) - 1 = (i : Int) := by omega
    have hx := ha.getD i
    have ht := top_div hr hx hd.2
    have st := small_step ha (i := i) (by omega) hr (V done)
    have hm0 : 0 ≤ (r * 4294967296 + a.getD i 0) % d := Int.emod_nonneg _ (by omega)
    have hm1 : (r * 4294967296 + a.getD i 0) % d < d := Int.emod_lt_of_pos _ (by omega)
    have ih := small_l0 ha hl hd i ((r * 4294967296 + a.getD i 0) % d) (((r * 4294967296 + a.getD i 0) / d) :: done) (by simp; omega) ⟨hm0, hm1⟩ (Dg.cons ht.1 ht.2 hg)
    rw [e0]
    refine ev_step ?_
    simp only [nat_small.l0, w64m (n := i) (by omega)]
    refine ev_pos (by omega) (ev_pos (by omega) (ev_pos (by omega) ?_))
    rw [rdn]
    refine ev_bind (div32_eq hr hx hd.2) (ev_pos (by simp; omega) ?_)
    have hs : (List.replicate (i + 1) (0 : Int) ++ done).set ((i : Int)).toNat ((r * 4294967296 + a.getD i 0) / d) = List.replicate i 0 ++ ((r * 4294967296 + a.getD i 0) / d) :: done := by
      rw [zeros_snoc, set_app (by simp)]; simp
    rw [hs]
    refine ev_eq ih ?_
    rw [V_cons, st.1, st.2]
theorem nat_small_ev {a : List Int} (ha : Dg a) (hl : a.length < 1000000000) {d : Int} (hd : 0 < d ∧ d < 4294967296) : Ev (fun k => nat_small.f k a d) (D (V a / d.toNat), ((V a % d.toNat : Nat) : Int)) := by
  unfold nat_small.f
  refine ev_pos (by omega) (ev_pos (by omega) ?_)
  have := small_l0 ha hl hd a.length 0 [] (by simp) (by omega) Dg.nil
  rw [w64m (by omega)]
  simpa using this
theorem rsmall_l0 {a : List Int} (ha : Dg a) (hl : a.length < 1000000000) {d : Int} (hd : 0 < d ∧ d < 4294967296) : ∀ (i : Nat) (r : Int) (done : List Int), i + done.length = a.length → 0 ≤ r ∧ r < d → Dg done →
    Ev (fun k => cutplaneref01_byDigit.l0 k a d (List.replicate i 0 ++ done) r ((i : Int) - 1)) (D ((V (a.take i) + 4294967296 ^ i * r.toNat) / d.toNat + 4294967296 ^ i * V done), D ((V (a.take i) + 4294967296 ^ i * r.toNat) % d.toNat))
  | 0, r, done, hi, hr, hg => by
    refine ev_step ?_
    simp only [cutplaneref01_byDigit.l0]
    refine ev_neg (by omega) ?_
    refine Ev.bind (ref_Trim_ev (l := List.replicate 0 0 ++ done) (by simpa using hg) (by simp; omega)) (Ev.bind (ref_Of_ev hr.1 (by omega)) (ev_eq (Ev.now _) ?_))
    have h1 : r.toNat / d.toNat = 0 := Nat.div_eq_of_lt (by omega)
    have h2 : r.toNat % d.toNat = r.toNat := Nat.mod_eq_of_lt (by omega)
    simp [h1, h2]
  | i + 1, r, done, hi, hr, hg => by
    have e0 : ((i + 1 : Nat) : Int) - 1 = (i : Int) := by omega
    have hx := ha.getD i
    have ht := top_div hr hx hd.2
    have st := small_step ha (i := i) (by omega) hr (V done)
    have hm0 : 0 ≤ (r * 4294967296 + a.getD i 0) % d := Int.emod_nonneg _ (by omega)
    have hm1 : (r * 4294967296 + a.getD i 0) % d < d := Int.emod_lt_of_pos _ (by omega)
    have ih := rsmall_l0 ha hl hd i ((r * 4294967296 + a.getD i 0) % d) (((r * 4294967296 + a.getD i 0) / d) :: done) (by simp; omega) ⟨hm0, hm1⟩ (Dg.cons ht.1 ht.2 hg)
    rw [e0]
    refine ev_step ?_
    simp only [cutplaneref01_byDigit.l0, w64m (n := i) (by omega)]
    refine ev_pos (by omega) (ev_pos (by omega) (ev_pos (by omega) ?_))
    rw [rdn, u64 (n := d) (by omega) (by omega), u64 (n := r * 4294967296) (by omega) (by omega), u64 (n := a.getD i 0) (by omega) (by omega), or_digit (by omega) hx,
      Int.tdiv_eq_ediv_of_nonneg (by omega), Int.tmod_eq_emod_of_nonneg (by omega), u64 ht.1 (by omega), Int.emod_eq_of_lt ht.1 ht.2]
    refine ev_neg (by omega) (ev_pos (by simp; omega) ?_)
    have hs : (List.replicate (i + 1) (0 : Int) ++ done).set ((i : Int)).toNat ((r * 4294967296 + a.getD i 0) / d) = List.replicate i 0 ++ ((r * 4294967296 + a.getD i 0) / d) :: done := by
      rw [zeros_snoc, set_app (by simp)]; simp
    rw [hs]
    refine ev_eq ih ?_
    rw [V_cons, st.1, st.2]
theorem ref_byDigit_ev {a : List Int} (ha : Dg a) (hl : a.length < 1000000000) {d : Int} (hd : 0 < d ∧ d < 4294967296) : Ev (fun k => cutplaneref01_byDigit.f k a d) (D (V a / d.toNat), D (V a % d.toNat)) := by
  unfold cutplaneref01_byDigit.f
  refine ev_pos (by omega) (ev_pos (by omega) ?_)
  have := rsmall_l0 ha hl hd a.length 0 [] (by simp) (by omega) Dg.nil
  rw [w64m (by omega)]
  simpa using this

/-! ### decimal digits, the lowest first -/
end Go.Proofs.Ytldcelgbinenbaa.K
