/- The first layer's plain functions: comparisons and differences; a number's value. -/
import Derived.Test.YtldcelgbinenbaaQNatRootsKN1
set_option linter.unusedVariables false
set_option linter.unusedSimpArgs false
namespace Go.Proofs.Ytldcelgbinenbaa.K
open Go.RowKit Go.Proofs.Ytldcelgbinenbaa.Px Go.Proofs.YtldcelgbinenbaaW.PrintWords Go.Proofs.YtldcelgbinenbaaW.PrintLast Go.Proofs.YtldcelgbinenbaaW.PrintMore

/-! ### which is above which -/
def cmpN (m n : Nat) : Int := if m < n then -1 else if n < m then 1 else 0
theorem V_take_succ {l : List Int} {n : Nat} (h : n < l.length) : V (l.take (n + 1)) = V (l.take n) + 4294967296 ^ n * (l.getD n 0).toNat := by
  rw [List.take_succ_eq_append_getElem h, V_append]
  simp [Nat.min_eq_left (Nat.le_of_lt h), h]
theorem top_lt {p q P d e : Nat} (hp : p < P) (h : d < e) : p + P * d < q + P * e := by
  have : P * (d + 1) ≤ P * e := Nat.mul_le_mul_left _ h
  rw [Nat.mul_add] at this
  omega
theorem V_take_lt {l : List Int} (h : Dg l) {n : Nat} (hn : n ≤ l.length) : V (l.take n) < 4294967296 ^ n := by
  have := V_lt (h.take n); rwa [List.length_take, Nat.min_eq_left hn] at this
theorem cmp_top {x y : List Int} (hx : Dg x) (hy : Dg y) {n : Nat} (h1 : n < x.length) (h2 : n < y.length) :
    cmpN (V (x.take (n + 1))) (V (y.take (n + 1))) = if x.getD n 0 = y.getD n 0 then cmpN (V (x.take n)) (V (y.take n)) else if x.getD n 0 < y.getD n 0 then -1 else 1 := by
  rw [V_take_succ h1, V_take_succ h2]
  have a := hx.getD n
  have b := hy.getD n
  have p := V_take_lt hx (Nat.le_of_lt h1)
  have q := V_take_lt hy (Nat.le_of_lt h2)
  by_cases e : x.getD n 0 = y.getD n 0
  · rw [if_pos e, e]; unfold cmpN; simp
  · rw [if_neg e]
    by_cases c : x.getD n 0 < y.getD n 0
    · rw [if_pos c]
      have := top_lt (q := V (y.take n)) p (show (x.getD n 0).toNat < (y.getD n 0).toNat by omega)
      unfold cmpN; rw [if_pos this]
    · rw [if_neg c]
      have := top_lt (q := V (x.take n)) q (show (y.getD n 0).toNat < (x.getD n 0).toNat by omega)
      unfold cmpN; rw [if_neg (by omega), if_pos this]
theorem w64m {n : Nat} (h : n < 4611686018427387904) : wrap64 ((n : Int) - 1) = (n : Int) - 1 := by unfold wrap64; omega
theorem cmp_l0 {x y : List Int} (hx : Dg x) (hy : Dg y) (hb : x.length < 4611686018427387904) : ∀ (n : Nat), n ≤ x.length → n ≤ y.length → Ev (fun k => nat_cmp.l0 k x y ((n : Int) - 1)) (cmpN (V (x.take n)) (V (y.take n)))
  | 0, _, _ => by
    refine ev_step ?_
    simp only [nat_cmp.l0]
    exact ev_neg (by omega) (Ev.now _)
  | n + 1, h1, h2 => by
    refine ev_step ?_
    simp only [nat_cmp.l0]
    have e : ((n + 1 : Nat) : Int) - 1 = (n : Int) := by omega
    rw [e, w64m (n := n) (by omega)]
    refine ev_pos (by omega) (ev_pos (by omega) (ev_pos (by omega) (ev_pos (by omega) ?_)))
    rw [cmp_top hx hy (by omega) (by omega), rdn, rdn]
    by_cases c : x.getD n 0 = y.getD n 0
    · refine ev_pos c ?_
      rw [if_pos c]
      exact cmp_l0 hx hy hb n (by omega) (by omega)
    · refine ev_neg c ?_
      rw [if_neg c]
      by_cases c2 : x.getD n 0 < y.getD n 0
      · refine ev_pos c2 ?_
        rw [if_pos c2]; exact Ev.now _
      · refine ev_neg c2 ?_
        rw [if_neg c2]; exact Ev.now _
theorem nat_cmp_ev {x y : List Int} (hx : Nm x) (hy : Nm y) (hb : x.length < 4611686018427387904) : Ev (fun k => nat_cmp.f k x y) (cmpN (V x) (V y)) := by
  unfold nat_cmp.f
  by_cases c : x.length < y.length
  · refine ev_pos (by omega) ?_
    unfold cmpN; rw [if_pos (hx.lt_of_len hy c)]; exact Ev.now _
  · refine ev_neg (by omega) ?_
    by_cases c2 : y.length < x.length
    · refine ev_pos (by omega) ?_
      have := hy.lt_of_len hx c2
      unfold cmpN; rw [if_neg (by omega), if_pos this]; exact Ev.now _
    · refine ev_neg (by omega) ?_
      have e : x.length = y.length := by omega
      rw [w64m (by omega)]
      have := cmp_l0 hx.dg hy.dg hb x.length (by omega) (by omega)
      rwa [List.take_length, e, List.take_length, ← e] at this
theorem rcmp_l0 {x y : List Int} (hx : Dg x) (hy : Dg y) (hb : x.length < 4611686018427387904) : ∀ (n : Nat), n ≤ x.length → n ≤ y.length → Ev (fun k => cutplaneref01_Cmp.l0 k x y ((n : Int) - 1)) (cmpN (V (x.take n)) (V (y.take n)))
  | 0, _, _ => by
    refine ev_step ?_
    simp only [cutplaneref01_Cmp.l0]
    exact ev_neg (by omega) (Ev.now _)
  | n + 1, h1, h2 => by
    refine ev_step ?_
    simp only [cutplaneref01_Cmp.l0]
    have e : ((n + 1 : Nat) : Int) - 1 = (n : Int) := by omega
    rw [e, w64m (n := n) (by omega)]
    refine ev_pos (by omega) (ev_pos (by omega) (ev_pos (by omega) (ev_pos (by omega) ?_)))
    rw [cmp_top hx hy (by omega) (by omega), rdn, rdn]
    by_cases c2 : x.getD n 0 < y.getD n 0
    · refine ev_pos c2 ?_
      rw [if_neg (by omega), if_pos c2]; exact Ev.now _
    · refine ev_neg c2 ?_
      by_cases c : x.getD n 0 > y.getD n 0
      · refine ev_pos c ?_
        rw [if_neg (by omega), if_neg c2]; exact Ev.now _
      · refine ev_neg c ?_
        rw [if_pos (by omega)]
        exact rcmp_l0 hx hy hb n (by omega) (by omega)
theorem ref_Cmp_ev {x y : List Int} (hx : Nm x) (hy : Nm y) (hb : x.length < 4611686018427387904) : Ev (fun k => cutplaneref01_Cmp.f k x y) (cmpN (V x) (V y)) := by
  unfold cutplaneref01_Cmp.f
  by_cases e : x.length = y.length
  · refine ev_pos (by omega) ?_
    rw [w64m (by omega)]
    have := rcmp_l0 hx.dg hy.dg hb x.length (by omega) (by omega)
    rwa [List.take_length, e, List.take_length, ← e] at this
  · refine ev_neg (by omega) ?_
    by_cases c : x.length < y.length
    · refine ev_pos (by omega) ?_
      unfold cmpN; rw [if_pos (hx.lt_of_len hy c)]; exact Ev.now _
    · refine ev_neg (by omega) ?_
      have := hy.lt_of_len hx (by omega)
      unfold cmpN; rw [if_neg (by omega), if_pos this]; exact Ev.now _
/-! ### differences -/
theorem half (n : Nat) : n >>> 31 = n / 2147483648 := by rw [Nat.shiftRight_eq_div_pow]
theorem bit_cases {n : Nat} (h : n < 4294967296) : n / 2147483648 = 0 ∨ n / 2147483648 = 1 := by omega
theorem borrow_eq {x y d : Nat} (hx : x < 4294967296) (hy : y < 4294967296) (hd : d < 4294967296) :
    ((((4294967295 ^^^ x) &&& y) ||| ((4294967295 ^^^ (x ^^^ y)) &&& d)) / 2147483648 : Nat) =
      if x / 2147483648 = 0 then (if y / 2147483648 = 0 then d / 2147483648 else 1) else (if y / 2147483648 = 0 then 0 else d / 2147483648) := by
  rw [← half, ← half, ← half, ← half, Nat.shiftRight_or_distrib, Nat.shiftRight_and_distrib, Nat.shiftRight_and_distrib, Nat.shiftRight_xor_distrib, Nat.shiftRight_xor_distrib, Nat.shiftRight_xor_distrib]
  simp only [half]
  have e : 4294967295 / 2147483648 = 1 := by decide
  rw [e]
  rcases bit_cases hx with h1 | h1 <;> rcases bit_cases hy with h2 | h2 <;> rcases bit_cases hd with h3 | h3 <;> rw [h1, h2, h3] <;> decide
theorem sub32_eq {x y c : Int} (hx : 0 ≤ x ∧ x < 4294967296) (hy : 0 ≤ y ∧ y < 4294967296) (hc : 0 ≤ c ∧ c ≤ 1) : bits_Sub32.f x y c = some ((x - y - c) % 4294967296, if x < y + c then 1 else 0) := by
  unfold bits_Sub32.f
  have hd : ((x - y) % 4294967296 - c) % 4294967296 = (x - y - c) % 4294967296 := by omega
  rw [hd]
  obtain ⟨X, rfl⟩ := Int.eq_ofNat_of_zero_le hx.1
  obtain ⟨Y, rfl⟩ := Int.eq_ofNat_of_zero_le hy.1
  obtain ⟨Z, hZ⟩ := Int.eq_ofNat_of_zero_le (show 0 ≤ ((X : Int) - Y - c) % 4294967296 by omega)
  have hZl : Z < 4294967296 := by omega
  have h1 : 4294967295 ^^^ X < 4294967296 := Nat.xor_lt_two_pow (n := 32) (by omega) (by omega)
  have h2 : X ^^^ Y < 4294967296 := Nat.xor_lt_two_pow (n := 32) (by omega) (by omega)
  have h3 : 4294967295 ^^^ (X ^^^ Y) < 4294967296 := Nat.xor_lt_two_pow (n := 32) (by omega) (by omega)
  have h4 : (4294967295 ^^^ X) &&& Y < 4294967296 := Nat.and_lt_two_pow (n := 32) _ (by omega)
  have h5 : (4294967295 ^^^ (X ^^^ Y)) &&& Z < 4294967296 := Nat.and_lt_two_pow (n := 32) _ (by omega)
  have e : (4294967295 : Int) = ((4294967295 : Nat) : Int) := rfl
  rw [hZ, e, u32_xor_nat _ _ (by omega) (by omega), u32_and_nat _ _ h1 (by omega), u32_xor_nat _ _ (by omega) (by omega), u32_xor_nat _ _ (by omega) h2, u32_and_nat _ _ h3 hZl, u32_or_nat _ _ h4 h5]
  have b := borrow_eq (x := X) (y := Y) (d := Z) (by omega) (by omega) hZl
  have : (((((4294967295 ^^^ X) &&& Y ||| (4294967295 ^^^ (X ^^^ Y)) &&& Z : Nat) : Int)) / 2147483648) = (((((4294967295 ^^^ X) &&& Y ||| (4294967295 ^^^ (X ^^^ Y)) &&& Z) / 2147483648 : Nat)) : Int) := by omega
  rw [this, b]
  congr 2
  by_cases c1 : X / 2147483648 = 0 <;> by_cases c2 : Y / 2147483648 = 0 <;> simp only [c1, c2, if_true, if_false] <;> by_cases c3 : (X : Int) < Y + c <;> simp only [c3, if_true, if_false] <;> omega
def subRec : List Int → List Int → Int → List Int
  | [], _, _ => []
  | x :: a, b, c => ((x - b.headD 0 - c) % 4294967296) :: subRec a b.tail (if x < b.headD 0 + c then 1 else 0)
theorem subRec_V {a b : List Int} {c : Int} (ha : Dg a) (hb : Dg b) (hc : 0 ≤ c ∧ c ≤ 1) (hl : b.length ≤ a.length) (h : V b + c.toNat ≤ V a) : V (subRec a b c) = V a - V b - c.toNat ∧ Dg (subRec a b c) := by
  induction a generalizing b c with
  | nil =>
    have : b = [] := List.eq_nil_of_length_eq_zero (by simpa using hl)
    subst this
    exact ⟨by simp [subRec], Dg.nil⟩
  | cons x a ih =>
    have hx := ha.head
    have hy := hb.headD
    rw [V_headtail b, V_cons] at h
    have := ih (b := b.tail) (c := if x < b.headD 0 + c then 1 else 0) ha.tail hb.tl (by split <;> omega) (by simp at hl ⊢; omega) (by split <;> omega)
    refine ⟨?_, Dg.cons (by omega) (by omega) this.2⟩
    rw [subRec, V_cons, this.1, V_headtail b, V_cons]
    split <;> omega
/-! ### the references' sums and differences: appended digit by digit -/
theorem radd_l0 (A Bl : List Int) (hA : Dg A) (hB : Dg Bl) (hl : A.length < 1000000000) (hl2 : Bl.length < 1000000000) : ∀ (d : Nat) (done : List Int) (c : Int), done.length + d = max A.length Bl.length → 0 ≤ c ∧ c ≤ 1 → Dg done →
    V done + 4294967296 ^ done.length * (V (A.drop done.length) + V (Bl.drop done.length) + c.toNat) = V A + V Bl →
    Ev (fun k => cutplaneref01_Add.l0 k A Bl done c done.length) (D (V A + V Bl))
  | 0, done, c, hd, hc, hg, hv => by
    refine ev_step ?_
    simp only [cutplaneref01_Add.l0]
    refine ev_neg (by omega) (ev_step ?_)
    have hf : decide ((done.length : Int) < (Bl.length : Int)) = false := decide_eq_false (by omega)
    simp only [hf, cutplaneref01_Add.j1]
    refine ev_neg (by simp) (ev_pos (by omega) ?_)
    have e : c % 4294967296 = c := by omega
    rw [e]
    refine Ev.bind (ref_Trim_ev (hg.app (Dg.cons hc.1 (by omega) Dg.nil)) (by simp; omega)) ?_
    refine ev_eq (Ev.now _) ?_
    rw [List.drop_eq_nil_of_le (by omega), List.drop_eq_nil_of_le (by omega)] at hv
    rw [V_append, ← hv]; simp
  | d + 1, done, c, hd, hc, hg, hv => by
    have ha := hA.rd (done.length : Int)
    have hb := hB.rd (done.length : Int)
    have hx := V_headtail (A.drop done.length)
    have hy := V_headtail (Bl.drop done.length)
    rw [drop_headD, List.tail_drop] at hx hy
    -- one round, whatever the digits
    have key : ∀ (s : Int), s = A.getD done.length 0 + Bl.getD done.length 0 + c → Ev (fun k => cutplaneref01_Add.l0 k A Bl (done ++ [s % 4294967296]) (s / 4294967296) ((done.length + 1 : Nat) : Int)) (D (V A + V Bl)) := by
      intro s hs
      have ha' := hA.getD done.length
      have hb' := hB.getD done.length
      have := radd_l0 A Bl hA hB hl hl2 d (done ++ [s % 4294967296]) (s / 4294967296) (by simp; omega) (by omega) (hg.app (Dg.cons (by omega) (by omega) Dg.nil)) (by
        rw [V_append, List.length_append, List.length_singleton, Nat.pow_succ, Nat.mul_assoc, Nat.add_assoc, ← Nat.mul_add, ← hv]
        congr 2
        simp only [V_cons, V_nil]
        omega)
      rwa [List.length_append, List.length_singleton] at this
    have hr : ∀ l : List Int, rd l (done.length : Int) = l.getD done.length 0 := fun l => rdn l _
    refine ev_step ?_
    simp only [cutplaneref01_Add.l0]
    by_cases c1 : done.length < A.length
    · refine ev_pos (by omega) (ev_step ?_)
      simp only [cutplaneref01_Add.j1, w64s (n := done.length) (by omega)]
      refine ev_pos trivial (ev_pos (by omega) (ev_pos (by omega) ?_))
      by_cases c2 : done.length < Bl.length
      · refine ev_pos (by omega) (ev_pos (by omega) ?_)
        rw [u64 ha.1 (by omega), u64 hb.1 (by omega), u64 (n := c + rd A (done.length : Int)) (by omega) (by omega), u64 (by omega) (by omega)]
        exact key _ (by rw [hr, hr]; omega)
      · refine ev_neg (by omega) (ev_pos (by omega) ?_)
        rw [u64 ha.1 (by omega), u64 (by omega) (by omega)]
        refine key _ ?_
        have : Bl.getD done.length 0 = 0 := by rw [List.getD_eq_getElem?_getD, List.getElem?_eq_none (by omega)]; rfl
        rw [hr, this]; omega
    · refine ev_neg (by omega) (ev_step ?_)
      have c2 : done.length < Bl.length := by omega
      have ht : decide ((done.length : Int) < (Bl.length : Int)) = true := decide_eq_true (by omega)
      simp only [ht, cutplaneref01_Add.j1, w64s (n := done.length) (by omega)]
      refine ev_pos trivial (ev_neg (by omega) (ev_pos (by omega) (ev_pos (by omega) (ev_pos (by omega) ?_))))
      rw [u64 hb.1 (by omega), u64 (by omega) (by omega)]
      refine key _ ?_
      have : A.getD done.length 0 = 0 := by rw [List.getD_eq_getElem?_getD, List.getElem?_eq_none (by omega)]; rfl
      rw [hr, this]; omega
theorem ref_Add_ev {a b : List Int} (ha : Dg a) (hb : Dg b) (la : a.length < 1000000000) (lb : b.length < 1000000000) : Ev (fun k => cutplaneref01_Add.f k a b) (D (V a + V b)) := by
  unfold cutplaneref01_Add.f
  have := radd_l0 a b ha hb la lb (max a.length b.length) [] 0 (by simp) (by omega) Dg.nil (by simp)
  simpa using this
theorem rsub_l0 (A Bl : List Int) (hA : Dg A) (hB : Dg Bl) (hl : A.length < 1000000000) : ∀ (d : Nat) (done : List Int) (c : Int), done.length + d = A.length → 0 ≤ c ∧ c ≤ 1 → Dg done →
    Ev (fun k => cutplaneref01_Sub.l0 k A Bl done c done.length) (D (V (done ++ subRec (A.drop done.length) (Bl.drop done.length) c)))
  | 0, done, c, hd, hc, hg => by
    refine ev_step ?_
    simp only [cutplaneref01_Sub.l0]
    refine ev_neg (by omega) ?_
    rw [List.drop_eq_nil_of_le (show A.length ≤ done.length by omega)]
    simp only [subRec, List.append_nil]
    refine Ev.bind (ref_Trim_ev hg (by omega)) ?_
    exact Ev.now _
  | d + 1, done, c, hd, hc, hg => by
    have ha := hA.rd (done.length : Int)
    have hb := hB.rd (done.length : Int)
    have hc1 : done.length < A.length := by omega
    have hx : A.drop done.length = A.getD done.length 0 :: A.drop (done.length + 1) := by
      rw [List.drop_eq_getElem_cons hc1]; simp [hc1]
    have key : ∀ (s z : Int), z = Bl.getD done.length 0 → s % 4294967296 = (A.getD done.length 0 - z - c) % 4294967296 → ∀ c', c' = (if A.getD done.length 0 < z + c then 1 else 0) → Ev (fun k => cutplaneref01_Sub.l0 k A Bl (done ++ [s % 4294967296]) c' ((done.length + 1 : Nat) : Int)) (D (V (done ++ subRec (A.drop done.length) (Bl.drop done.length) c))) := by
      rintro s z rfl hs c' rfl
      have := rsub_l0 A Bl hA hB hl d (done ++ [s % 4294967296]) (if A.getD done.length 0 < Bl.getD done.length 0 + c then 1 else 0) (by simp; omega) (by split <;> omega) (hg.app (Dg.cons (by omega) (by omega) Dg.nil))
      rw [List.length_append, List.length_singleton] at this
      refine ev_eq this ?_
      rw [hx, subRec, drop_headD, List.tail_drop, hs]; simp
    have hr : ∀ l : List Int, rd l (done.length : Int) = l.getD done.length 0 := fun l => rdn l _
    refine ev_step ?_
    simp only [cutplaneref01_Sub.l0, w64s (n := done.length) (by omega)]
    refine ev_pos (by omega) ?_
    rw [hr] at ha hb
    by_cases c2 : done.length < Bl.length
    · refine ev_pos (by omega) (ev_pos (by omega) ?_)
      rw [hr, hr, u64 ha.1 (by omega), u64 hb.1 (by omega), u64 (n := c + Bl.getD done.length 0) (by omega) (by omega)]
      by_cases c3 : A.getD done.length 0 < c + Bl.getD done.length 0
      · refine ev_pos c3 (ev_pos (by omega) ?_)
        rw [u64 (n := A.getD done.length 0 + 4294967296) (by omega) (by omega), u64 (by omega) (by omega)]
        exact key _ (Bl.getD done.length 0) rfl (by omega) 1 (by rw [if_pos (by omega)])
      · refine ev_neg c3 (ev_pos (by omega) ?_)
        rw [u64 (by omega) (by omega)]
        exact key _ (Bl.getD done.length 0) rfl (by omega) 0 (by rw [if_neg (by omega)])
    · refine ev_neg (by omega) (ev_pos (by omega) ?_)
      have hz : Bl.getD done.length 0 = 0 := by rw [List.getD_eq_getElem?_getD, List.getElem?_eq_none (by omega)]; rfl
      rw [hr, u64 ha.1 (by omega)]
      by_cases c3 : A.getD done.length 0 < c
      · refine ev_pos c3 (ev_pos (by omega) ?_)
        rw [u64 (n := A.getD done.length 0 + 4294967296) (by omega) (by omega), u64 (by omega) (by omega)]
        exact key _ (Bl.getD done.length 0) rfl (by omega) 1 (by rw [if_pos (by omega)])
      · refine ev_neg c3 (ev_pos (by omega) ?_)
        rw [u64 (by omega) (by omega)]
        exact key _ (Bl.getD done.length 0) rfl (by omega) 0 (by rw [if_neg (by omega)])
theorem ref_Sub_ev {a b : List Int} (ha : Nm a) (hb : Nm b) (la : a.length < 1000000000) (h : V b ≤ V a) : Ev (fun k => cutplaneref01_Sub.f k a b) (D (V a - V b)) := by
  unfold cutplaneref01_Sub.f
  have hl : b.length ≤ a.length := by rw [← ha.len, ← hb.len]; exact D_len_mono h
  have := rsub_l0 a b ha.dg hb.dg la a.length [] 0 (by simp) (by omega) Dg.nil
  refine ev_eq this ?_
  have h2 := subRec_V ha.dg hb.dg (c := 0) (by omega) hl (by simpa using h)
  simp [h2.1]
end Go.Proofs.Ytldcelgbinenbaa.K
