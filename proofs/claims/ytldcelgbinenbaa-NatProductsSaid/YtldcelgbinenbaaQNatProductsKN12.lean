/- The first layer's reference: quotients bit by bit. -/
import Derived.Test.YtldcelgbinenbaaQNatProductsKN11
set_option linter.unusedVariables false
set_option linter.unusedSimpArgs false
namespace Go.Proofs.Ytldcelgbinenbaa.K
open Go Go.RowKit Go.Proofs.Ytldcelgbinenbaa.Px Go.Proofs.YtldcelgbinenbaaW.PrintWords Go.Proofs.YtldcelgbinenbaaW.PrintLast Go.Proofs.YtldcelgbinenbaaW.PrintMore

theorem D_lt {n k : Nat} (h : n < 4294967296 ^ k) : (D n).length ≤ k := by
  rcases Nat.lt_or_ge k (D n).length with h1 | h1
  · have h2 := D_len_pos (Nm_D n) (by intro e; rw [e] at h1; simp at h1)
    rw [V_D] at h2
    have h3 : 4294967296 ^ k ≤ 4294967296 ^ ((D n).length - 1) := Nat.pow_le_pow_right (by omega) (by omega)
    omega
  · exact h1
theorem ref_Low_ex {l : List Int} (h : Dg l) (hl : l.length < 1000000000) : ∀ (n i : Nat), 32 * l.length - i ≤ n → i < 100000000000 → ∃ b : Nat, Ev (fun k => cutplaneref01_Low.l0 k l i) (b : Int)
  | n, i, hn, hi => by
    have e32 : wrap64 (32 * (l.length : Int)) = ((32 * l.length : Nat) : Int) := by unfold wrap64; omega
    by_cases hlt : i < 32 * l.length
    · have hb := ref_Bit_eq h hl i (by omega)
      generalize V l / 2 ^ i % 2 = z at hb
      by_cases h0 : z = 0
      · have e1 : wrap64 ((i : Int) + 32) = ((i + 32 : Nat) : Int) := by unfold wrap64; omega
        have e2 : wrap64 ((i : Int) + 1) = ((i + 1 : Nat) : Int) := by unfold wrap64; omega
        cases n with
        | zero => omega
        | succ n =>
          obtain ⟨b1, hb1⟩ := ref_Low_ex h hl n (i + 32) (by omega) (by omega)
          obtain ⟨b2, hb2⟩ := ref_Low_ex h hl n (i + 1) (by omega) (by omega)
          by_cases hz : rd l (((i / 32 : Nat) : Int)) = 0
          · refine ⟨b1, ev_step ?_⟩
            simp only [cutplaneref01_Low.l0, e32]
            refine ev_pos (by omega) (ev_bind hb (ev_step ?_))
            subst h0
            simp only [cutplaneref01_Low.j1, t32 (n := i) (by omega), e1]
            exact ev_pos (by simp) (ev_pos nn (ev_pos (by omega) (ev_pos hz hb1)))
          · refine ⟨b2, ev_step ?_⟩
            simp only [cutplaneref01_Low.l0, e32]
            refine ev_pos (by omega) (ev_bind hb (ev_step ?_))
            subst h0
            simp only [cutplaneref01_Low.j1, t32 (n := i) (by omega), e2]
            exact ev_pos (by simp) (ev_pos nn (ev_pos (by omega) (ev_neg hz hb2)))
      · refine ⟨i, ev_step ?_⟩
        simp only [cutplaneref01_Low.l0, e32]
        refine ev_pos (by omega) (ev_bind hb (ev_step ?_))
        simp only [cutplaneref01_Low.j1, e32]
        exact ev_neg (by simpa using h0) (ev_neg (by omega) (Ev.now _))
    · by_cases he : i = 32 * l.length
      · refine ⟨0, ev_step ?_⟩
        simp only [cutplaneref01_Low.l0, e32]
        refine ev_neg (by omega) (ev_step ?_)
        simp only [cutplaneref01_Low.j1, e32]
        exact ev_neg (by simp) (ev_pos (by omega) (Ev.now _))
      · refine ⟨i, ev_step ?_⟩
        simp only [cutplaneref01_Low.l0, e32]
        refine ev_neg (by omega) (ev_step ?_)
        simp only [cutplaneref01_Low.j1, e32]
        exact ev_neg (by simp) (ev_neg (by omega) (Ev.now _))
termination_by n => n
theorem rdown_l0 (A : List Int) (hA : Dg A) (hl : A.length < 1000000000) (b : Bool) {s : Nat} (hs : s < 32) : ∀ (a done pa : List Int), A = pa ++ a → done.length + a.length < 1000000000 → Dg done →
    Ev (fun k => cutplaneref01_Down.l0 k A b done s pa.length) (D (V (done ++ downRec s a)), b)
  | [], done, pa, he, hd, hg => by
    have hlen : A.length = pa.length := by rw [he]; simp
    refine ev_step ?_
    simp only [cutplaneref01_Down.l0]
    refine ev_neg (by omega) ?_
    simp only [downRec, List.append_nil]
    exact Ev.bind (ref_Trim_ev hg (by simp at hd; omega)) (Ev.now _)
  | d :: a, done, pa, he, hd, hg => by
    have hlen : A.length = pa.length + 1 + a.length := by rw [he]; simp; omega
    have hdd : 0 ≤ d ∧ d < 4294967296 := by rw [he] at hA; exact hA.right.head
    obtain ⟨X, rfl⟩ := Int.eq_ofNat_of_zero_le hdd.1
    have hX : X < 4294967296 := by omega
    have h1 : rd A (pa.length : Int) = (X : Int) := by rw [he]; exact rd_app rfl
    have hg2 : Dg (a) := by rw [he] at hA; exact hA.right.tail
    have hy := hg2.headD
    have ih := rdown_l0 A hA hl b hs a (done ++ [((X / 2 ^ s + 2 ^ (32 - s) * ((a.headD 0).toNat % 2 ^ s) : Nat) : Int)]) (pa ++ [(X : Int)]) (by rw [he]; simp) (by simp at hd ⊢; omega)
      (hg.app (Dg.cons nn (lt_cast (down_lt X (a.headD 0).toNat s hs hX)) Dg.nil))
    rw [@List.length_append _ pa, List.length_singleton] at ih
    have hXs : X / 2 ^ s ≤ X := Nat.div_le_self _ _
    have e0 : ((X / 2 ^ s : Nat) : Int) % 4294967296 = ((X / 2 ^ s : Nat) : Int) := by
      generalize X / 2 ^ s = z at *; omega
    refine ev_step ?_
    simp only [cutplaneref01_Down.l0, h1, w64s (n := pa.length) (by omega)]
    refine ev_pos (by omega) (ev_pos (by omega) (ev_pos nn ?_))
    by_cases hn : a = []
    · subst hn
      refine ev_neg (by simp at hlen; omega) (ev_pos (by simp at hd; omega) ?_)
      rw [wrap_u64n _ hX, shr_n _ _ (by simp [IntKind.bits]; omega), e0]
      refine ev_eq (by simpa [downRec] using ih) ?_
      simp [downRec]
    · obtain ⟨y, a', rfl⟩ := List.exists_cons_of_ne_nil hn
      obtain ⟨Y, rfl⟩ := Int.eq_ofNat_of_zero_le hy.1
      simp only [List.headD_cons] at hy ih
      have h2 : rd A ((pa.length + 1 : Nat) : Int) = (Y : Int) := by rw [he, show pa ++ (X : Int) :: (Y : Int) :: a' = (pa ++ [(X : Int)]) ++ (Y : Int) :: a' by simp]; exact rd_app (by simp)
      simp only [h2, rdown_digit X Y s hs hX (by omega)]
      refine ev_pos (by simp at hlen; omega) (ev_pos nn (ev_pos (by rw [w32s (by omega)]; exact nn) (ev_pos (by simp at hd; omega) ?_)))
      rw [Int.toNat_natCast] at ih
      refine ev_eq ih ?_
      simp [downRec]
theorem ref_Down_ev {a : List Int} (ha : Nm a) (la : a.length < 100000000) (n : Nat) (hn : n < 1000000000) : ∃ b, Ev (fun k => cutplaneref01_Down.f k a n) (D (V a / 2 ^ n), b) := by
  unfold cutplaneref01_Down.f
  by_cases h : n ≥ bl (V a)
  · refine ⟨decide ((a.length : Int) > 0), Ev.bind (ref_Len_ev ha (by omega)) (ev_pos (by omega) (ev_eq (Ev.now _) ?_))⟩
    rw [Nat.div_eq_of_lt (Nat.lt_of_lt_of_le (lt_bl _) (Nat.pow_le_pow_right (by omega) h)), D_zero]
  · obtain ⟨b, hb⟩ := ref_Low_ex ha.dg (by omega) _ 0 (Nat.le_refl _) (by omega)
    refine ⟨decide ((n : Int) > (b : Int)), Ev.bind (ref_Len_ev ha (by omega)) (ev_neg (by omega) (Ev.bind hb ?_))⟩
    simp only [t32 (n := n) (by omega), m32]
    have hbl := bl_list ha.dg
    have hq : n / 32 ≤ a.length := by omega
    have h1 := rdown_l0 a ha.dg (by omega) (decide ((n : Int) > (b : Int))) (s := n % 32) (by omega) (a.drop (n / 32)) [] (a.take (n / 32)) (by simp) (by simp; omega) Dg.nil
    rw [List.length_take, Nat.min_eq_left hq, List.nil_append, down_V ha.dg] at h1
    exact h1

/-! ### quotients -/
theorem V_set_add : ∀ (q : List Int) (j y : Nat), Dg q → j < q.length → V (q.set j (q.getD j 0 + (y : Int))) = V q + 4294967296 ^ j * y
  | [], j, y, _, h => by simp at h
  | d :: q, 0, y, hg, _ => by
    have := hg.head
    simp; omega
  | d :: q, j + 1, y, hg, h => by
    have ih := V_set_add q j y hg.tail (by simpa using h)
    simp only [List.set_cons_succ, V_cons, List.getD_cons_succ, ih, Nat.pow_succ]
    generalize 4294967296 ^ j = p
    rw [Nat.mul_add, Nat.mul_comm p 4294967296, Nat.mul_assoc, Nat.add_assoc]
theorem bit_set {q : List Int} (hg : Dg q) {i Qv : Nat} (hi : i / 32 < q.length) (hv : V q = Qv * 2 ^ (i + 1)) :
    V (q.set (i / 32) (Go.bits .or .u32 (rd q ((i / 32 : Nat) : Int)) (shl .u32 1 ((i % 32 : Nat) : Int)))) = V q + 2 ^ i ∧ Dg (q.set (i / 32) (Go.bits .or .u32 (rd q ((i / 32 : Nat) : Int)) (shl .u32 1 ((i % 32 : Nat) : Int)))) := by
  have hx := hg.getD (i / 32)
  obtain ⟨X, hX⟩ := Int.eq_ofNat_of_zero_le hx.1
  have hX2 : X < 4294967296 := by omega
  have hd : q.drop (i / 32) = (X : Int) :: q.drop (i / 32 + 1) := by
    rw [List.drop_eq_getElem_cons (by omega)]
    congr 1
    rw [← hX, List.getD_eq_getElem?_getD, List.getElem?_eq_getElem (by omega)]; rfl
  have h1 := V_drop hg (i / 32)
  have hp : 0 < 4294967296 ^ (i / 32) := Nat.pow_pos (by omega)
  have e1 : 2 ^ (i + 1) = 4294967296 ^ (i / 32) * 2 ^ (i % 32 + 1) := by rw [Nat.pow_succ, pw_split i, Nat.mul_assoc, ← Nat.pow_succ]
  rw [hv, e1, Nat.mul_left_comm, Nat.mul_div_cancel_left _ hp, hd, V_cons, Int.toNat_natCast] at h1
  have e2 : X % 2 ^ (i % 32 + 1) = 0 := by
    have h3 := congrArg (· % 2 ^ (i % 32 + 1)) h1
    simp only [Nat.mul_mod_left] at h3
    rw [← pw (s := i % 32 + 1) (by omega), Nat.mul_assoc, Nat.add_mul_mod_self_left] at h3
    exact h3
  obtain ⟨z, hz⟩ := Nat.dvd_of_mod_eq_zero e2
  have hlt : 2 ^ (i % 32) < 2 ^ (i % 32 + 1) := Nat.pow_lt_pow_right (by omega) (by omega)
  have hor : X ||| 2 ^ (i % 32) = X + 2 ^ (i % 32) := by rw [hz, ← Nat.two_pow_add_eq_or_of_lt hlt]
  have hple : 2 ^ (i % 32) ≤ 2 ^ 31 := Nat.pow_le_pow_right (by omega) (by omega)
  have hsum : X + 2 ^ (i % 32) < 4294967296 := by
    have h4 := pw (s := i % 32 + 1) (by omega)
    have h5 : z < 2 ^ (32 - (i % 32 + 1)) := by
      apply Nat.lt_of_mul_lt_mul_left (a := 2 ^ (i % 32 + 1)); rw [h4, ← hz]; exact hX2
    have h6 := Nat.mul_le_mul_left (2 ^ (i % 32 + 1)) (Nat.succ_le_of_lt h5)
    rw [h4, Nat.mul_succ, ← hz] at h6
    omega
  have hsh : shl .u32 1 ((i % 32 : Nat) : Int) = ((2 ^ (i % 32) : Nat) : Int) := by
    rw [show (1 : Int) = ((1 : Nat) : Int) from rfl, shl32 1 (i % 32) (by omega), Nat.one_mul, Nat.mod_eq_of_lt (by omega)]
  have hval : Go.bits .or .u32 (rd q ((i / 32 : Nat) : Int)) (shl .u32 1 ((i % 32 : Nat) : Int)) = q.getD (i / 32) 0 + ((2 ^ (i % 32) : Nat) : Int) := by
    rw [rdn, hX, hsh, u32_or_nat _ _ hX2 (by omega), hor]; simp
  rw [hval]
  refine ⟨?_, hg.set _ (by omega) ?_⟩
  · rw [V_set_add q _ _ hg hi, ← pw_split]
  · rw [hX]
    have := lt_cast hsum
    rwa [Int.natCast_add] at this
end Go.Proofs.Ytldcelgbinenbaa.K
