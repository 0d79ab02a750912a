/- The first layer's plain functions: times a power of two, bits. -/
import Derived.Test.YtldcelgbinenbaaDoorQNatUpDownKN8
set_option linter.unusedVariables false
set_option linter.unusedSimpArgs false
namespace Go.Proofs.YtldcelgbinenbaaDoor.K
open Go Go.RowKit Go.Proofs.YtldcelgbinenbaaDoor.Px Go.Proofs.YtldcelgbinenbaaDoorW.PrintWords Go.Proofs.YtldcelgbinenbaaDoorW.PrintLast Go.Proofs.YtldcelgbinenbaaDoorW.PrintMore

/-! ### one digit -/
theorem pw {s : Nat} (h : s ≤ 32) : 2 ^ s * 2 ^ (32 - s) = 4294967296 := by
  rw [← Nat.pow_add]; have : s + (32 - s) = 32 := by omega
  rw [this]
theorem pw_pos (s : Nat) : 0 < 2 ^ s := Nat.pow_pos (by omega)
theorem shift_nat {X P Q c : Nat} (hP : 0 < P) (hc : c < P) : (X * P + c) / (P * Q) = X / Q ∧ (X * P + c) % (P * Q) = P * (X % Q) + c := by
  have h1 : (X * P + c) / P = X := by rw [Nat.mul_comm, Nat.mul_add_div hP, Nat.div_eq_of_lt hc, Nat.add_zero]
  have h2 : (X * P + c) % P = c := by rw [Nat.mul_comm, Nat.mul_add_mod, Nat.mod_eq_of_lt hc]
  exact ⟨by rw [← Nat.div_div_eq_div_mul, h1], by rw [Nat.mod_mul, h1, h2, Nat.add_comm]⟩
theorem pow_cast (s : Nat) : ((2 : Int) ^ s) = ((2 ^ s : Nat) : Int) := by simp
theorem shl32 (X s : Nat) (hs : s < 32) : shl .u32 (X : Int) (s : Int) = ((X * 2 ^ s % 4294967296 : Nat) : Int) := by
  unfold shl
  rw [Int.toNat_natCast, Nat.min_eq_left (by simp [IntKind.bits]; omega), pow_cast, ← Int.natCast_mul]
  simp [IntKind.wrap, IntKind.bits, IntKind.signed]
theorem shl64 (X s : Nat) (hs : s ≤ 32) (hX : X < 4294967296) : shl .u64 (X : Int) (s : Int) = ((X * 2 ^ s : Nat) : Int) := by
  unfold shl
  rw [Int.toNat_natCast, Nat.min_eq_left (by simp [IntKind.bits]; omega), pow_cast, ← Int.natCast_mul]
  have h1 : 2 ^ s ≤ 2 ^ 32 := Nat.pow_le_pow_right (by omega) hs
  have h2 : X * 2 ^ s ≤ 4294967295 * 2 ^ 32 := Nat.mul_le_mul (by omega) h1
  exact u64 (by omega) (by omega)
theorem shr_n {k : IntKind} (X s : Nat) (hs : s ≤ k.bits) : shr k (X : Int) (s : Int) = ((X / 2 ^ s : Nat) : Int) := by
  unfold shr
  rw [Int.toNat_natCast, Nat.min_eq_left hs, pow_cast, ← Int.natCast_ediv]
theorem wrap_u64n (X : Nat) (hX : X < 4294967296) : IntKind.u64.wrap (X : Int) = (X : Int) := u64 (by omega) (by omega)
theorem w32s {s : Nat} (hs : s ≤ 32) : wrap64 (32 - (s : Int)) = ((32 - s : Nat) : Int) := by unfold wrap64; omega
theorem div_lt_pw {X s : Nat} (hs : s ≤ 32) (hX : X < 4294967296) : X / 2 ^ s < 2 ^ (32 - s) := by
  rw [Nat.div_lt_iff_lt_mul (pw_pos _), Nat.mul_comm, pw hs]; exact hX
/-- up: the digit that stays -/
theorem up_digit (X s c : Nat) (hs : s < 32) (hX : X < 4294967296) (hc : c < 2 ^ s) : Go.bits .or .u32 (shl .u32 (X : Int) (s : Int)) (c : Int) = (((X * 2 ^ s + c) % 4294967296 : Nat) : Int) := by
  have h1 := (shift_nat (X := X) (Q := 2 ^ (32 - s)) (pw_pos s) hc).2
  have h0 := (shift_nat (X := X) (Q := 2 ^ (32 - s)) (c := 0) (pw_pos s) (pw_pos s)).2
  have hle : 2 ^ s ≤ 2 ^ 31 := Nat.pow_le_pow_right (by omega) (by omega)
  rw [pw (by omega)] at h1 h0
  rw [shl32 _ _ hs, u32_or_nat _ _ (by omega) (by omega), h1]
  rw [Nat.add_zero, Nat.add_zero] at h0
  rw [h0, ← Nat.two_pow_add_eq_or_of_lt hc]
theorem up_carry (X s c : Nat) (hs : s < 32) (hX : X < 4294967296) (hc : c < 2 ^ s) : (shr .u64 (IntKind.u64.wrap (X : Int)) (wrap64 (32 - (s : Int)))) % 4294967296 = (((X * 2 ^ s + c) / 4294967296 : Nat) : Int) := by
  have h1 := (shift_nat (X := X) (Q := 2 ^ (32 - s)) (pw_pos s) hc).1
  rw [pw (by omega)] at h1
  rw [wrap_u64n _ hX, w32s (by omega), shr_n _ _ (by simp [IntKind.bits]; omega), h1]
  have := div_lt_pw (s := 32 - s) (by omega) hX
  have h3 : X / 2 ^ (32 - s) ≤ X := Nat.div_le_self _ _
  omega
theorem up_carry_lt (X s c : Nat) (hs : s < 32) (hX : X < 4294967296) (hc : c < 2 ^ s) : (X * 2 ^ s + c) / 4294967296 < 2 ^ s := by
  have h1 := (shift_nat (X := X) (Q := 2 ^ (32 - s)) (pw_pos s) hc).1
  rw [pw (by omega)] at h1
  rw [h1]
  have := div_lt_pw (s := 32 - s) (by omega) hX
  have e : 32 - (32 - s) = s := by omega
  rwa [e] at this
/-! ### times 2^n -/
def upRec (P : Nat) : List Int → Nat → List Int
  | [], c => [(c : Int)]
  | d :: l, c => (((d.toNat * P + c) % 4294967296 : Nat) : Int) :: upRec P l ((d.toNat * P + c) / 4294967296)
theorem upRec_V {s : Nat} (hs : s < 32) : ∀ (l : List Int) (c : Nat), Dg l → c < 2 ^ s → V (upRec (2 ^ s) l c) = V l * 2 ^ s + c ∧ Dg (upRec (2 ^ s) l c)
  | [], c, _, hc => by
    have hle : 2 ^ s ≤ 2 ^ 31 := Nat.pow_le_pow_right (by omega) (by omega)
    simp only [upRec, V_cons, V_nil]
    exact ⟨by omega, Dg.cons (by omega) (by omega) Dg.nil⟩
  | d :: l, c, hg, hc => by
    have hd := hg.head
    have hX : d.toNat < 4294967296 := by omega
    have ih := upRec_V hs l _ hg.tail (up_carry_lt d.toNat s c hs hX hc)
    simp only [upRec, V_cons, ih.1]
    refine ⟨?_, Dg.cons (by omega) (by omega) ih.2⟩
    generalize hm : d.toNat * 2 ^ s + c = m
    rw [Nat.add_mul, Nat.mul_assoc]
    generalize V l * 2 ^ s = z
    omega
theorem nn {i : Nat} : 0 ≤ (i : Int) := Int.natCast_nonneg i
theorem up_l0 (A : List Int) (hA : Dg A) (hl : A.length < 1000000000) {s : Nat} (hs : s < 32) : ∀ (a done pa : List Int) (c : Nat), A = pa ++ a → c < 2 ^ s → Dg done → done.length + a.length < 2000000000 →
    Ev (fun k => nat_up.l0 k done s c A A.length pa.length) (D (V (done ++ upRec (2 ^ s) a c)))
  | [], done, pa, c, he, hc, hg, hb => by
    have hlen : A.length = pa.length := by rw [he]; simp
    have hle : 2 ^ s ≤ 2 ^ 31 := Nat.pow_le_pow_right (by omega) (by omega)
    refine ev_step ?_
    simp only [nat_up.l0]
    refine ev_neg (by omega) (ev_pos (by simp at hb; omega) ?_)
    exact Ev.bind (nat_trim_ev (hg.app (Dg.cons (by omega) (by omega) Dg.nil)) (by simp at hb ⊢; omega)) (Ev.now _)
  | d :: a, done, pa, c, he, hc, hg, hb => by
    have hlen : A.length = pa.length + 1 + a.length := by rw [he]; simp; omega
    have hd : 0 ≤ d ∧ d < 4294967296 := by rw [he] at hA; exact hA.right.head
    obtain ⟨X, rfl⟩ := Int.eq_ofNat_of_zero_le hd.1
    have hX : X < 4294967296 := by omega
    have h1 : rd A (pa.length : Int) = (X : Int) := by rw [he]; exact rd_app rfl
    refine ev_step ?_
    simp only [nat_up.l0, h1, w64s (n := pa.length) (by omega), up_digit X s c hs hX hc, up_carry X s c hs hX hc]
    refine ev_pos (by omega) (ev_pos (by omega) (ev_pos (by omega) (ev_pos nn (ev_pos (by simp at hb; omega) (ev_pos (by rw [w32s (by omega)]; exact nn) ?_)))))
    have := up_l0 A hA hl hs a (done ++ [(((X * 2 ^ s + c) % 4294967296 : Nat) : Int)]) (pa ++ [(X : Int)]) ((X * 2 ^ s + c) / 4294967296) (by rw [he]; simp) (up_carry_lt X s c hs hX hc) (hg.app (Dg.cons (by omega) (by omega) Dg.nil)) (by simp at hb ⊢; omega)
    rw [List.length_append, List.length_singleton] at this
    refine ev_eq this ?_
    simp [upRec]
theorem t32 {n : Nat} (h : n < 4611686018427387904) : wrap64 (Int.tdiv (n : Int) 32) = ((n / 32 : Nat) : Int) := by
  rw [Int.tdiv_eq_ediv_of_nonneg (by omega)]; unfold wrap64; omega
theorem m32 (n : Nat) : Int.tmod (n : Int) 32 = ((n % 32 : Nat) : Int) := by
  rw [Int.tmod_eq_emod_of_nonneg (by omega)]; omega
theorem pw_split (n : Nat) : 2 ^ n = 4294967296 ^ (n / 32) * 2 ^ (n % 32) := by
  have h : (4294967296 : Nat) = 2 ^ 32 := by decide
  rw [h, ← Nat.pow_mul, ← Nat.pow_add]; congr 1; omega
theorem up_V {a : List Int} (ha : Dg a) (n : Nat) : V (List.replicate (n / 32) 0 ++ upRec (2 ^ (n % 32)) a 0) = V a * 2 ^ n := by
  have h := (upRec_V (s := n % 32) (by omega) a 0 ha (pw_pos _)).1
  rw [V_append, V_zeros, List.length_replicate, h, Nat.zero_add, Nat.add_zero, pw_split n, Nat.mul_left_comm]
theorem nat_up_ev {a : List Int} (ha : Dg a) (la : a.length < 1000000000) (n : Nat) (hn : n < 1000000000) : Ev (fun k => nat_up.f k a n) (D (V a * 2 ^ n)) := by
  unfold nat_up.f
  have e1 : wrap64 (wrap64 (((n / 32 : Nat) : Int) + (a.length : Int)) + 1) = ((n / 32 + a.length + 1 : Nat) : Int) := by unfold wrap64; omega
  simp only [t32 (n := n) (by omega), m32, e1]
  clear e1
  by_cases h0 : a = []
  · subst h0
    refine ev_pos (by simp) (ev_eq (Ev.now _) ?_)
    simp [D_zero]
  · have : 0 < a.length := List.length_pos_iff.2 h0
    refine ev_neg (by omega) (ev_pos (by omega) (ev_pos (by omega) (ev_pos (by omega) ?_)))
    have h := up_l0 a ha la (s := n % 32) (by omega) a (List.replicate (n / 32) 0) [] 0 rfl (pw_pos _) (Dg.zeros _) (by simp; omega)
    rw [up_V ha] at h
    simp only [Int.toNat_natCast]
    simpa using h
end Go.Proofs.YtldcelgbinenbaaDoor.K
