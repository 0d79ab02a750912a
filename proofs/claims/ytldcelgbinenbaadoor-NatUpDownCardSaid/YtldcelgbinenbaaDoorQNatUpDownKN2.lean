/- The first layer's plain functions: comparisons and differences; a number's value. -/
import Derived.Test.YtldcelgbinenbaaDoorQNatUpDownKN1
set_option linter.unusedVariables false
set_option linter.unusedSimpArgs false
namespace Go.Proofs.YtldcelgbinenbaaDoor.K
open Go.RowKit Go.Proofs.YtldcelgbinenbaaDoor.Px Go.Proofs.YtldcelgbinenbaaDoorW.PrintWords Go.Proofs.YtldcelgbinenbaaDoorW.PrintLast Go.Proofs.YtldcelgbinenbaaDoorW.PrintMore

/-! ### which is above which -/
def cmpN (m n : Nat) : Int := if m < n then -1 else if n < m then 1 else 0
theorem V_take_succ {l : List Int} {n : Nat} (h : n < l.length) : V (l.take (n + 1)) = V (l.take n) + 4294967296 ^ n * (l.getD n 0).toNat := by
  rw [List.take_succ_eq_append_getElem h, V_append]
  simp [Nat.min_eq_left (Nat.le_of_lt h), h]
theorem top_lt {p q P d e : Nat} (hp : p < P) (h : d < e) : p + P * d < q + P * e := by
  have : P * (d + 1) ≤ P * e := Nat.mul_le_mul_left _ h
  rw [Nat.mul_add] at this
  omega
theorem V_take_lt {l : List Int} (h : Dg l) {n : Nat} (hn : n ≤ l.length) : V (l.take n) < 4294967296 ^ n := by
  have := V_lt (h.take n); rwa [List.length_take, Nat.min_eq_left hn] at this
theorem cmp_top {x y : List Int} (hx : Dg x) (hy : Dg y) {n : Nat} (h1 : n < x.length) (h2 : n < y.length) :
    cmpN (V (x.take (n + 1))) (V (y.take (n + 1))) = if x.getD n 0 = y.getD n 0 then cmpN (V (x.take n)) (V (y.take n)) else if x.getD n 0 < y.getD n 0 then -1 else 1 := by
  rw [V_take_succ h1, V_take_succ h2]
  have a := hx.getD n
  have b := hy.getD n
  have p := V_take_lt hx (Nat.le_of_lt h1)
  have q := V_take_lt hy (Nat.le_of_lt h2)
  by_cases e : x.getD n 0 = y.getD n 0
  · rw [if_pos e, e]; unfold cmpN; simp
  · rw [if_neg e]
    by_cases c : x.getD n 0 < y.getD n 0
    · rw [if_pos c]
      have := top_lt (q := V (y.take n)) p (show (x.getD n 0).toNat < (y.getD n 0).toNat by omega)
      unfold cmpN; rw [if_pos this]
    · rw [if_neg c]
      have := top_lt (q := V (x.take n)) q (show (y.getD n 0).toNat < (x.getD n 0).toNat by omega)
      unfold cmpN; rw [if_neg (by omega), if_pos this]
theorem w64m {n : Nat} (h : n < 4611686018427387904) : wrap64 ((n : Int) - 1) = (n : Int) - 1 := by unfold wrap64; omega
theorem cmp_l0 {x y : List Int} (hx : Dg x) (hy : Dg y) (hb : x.length < 4611686018427387904) : ∀ (n : Nat), n ≤ x.length → n ≤ y.length → Ev (fun k => nat_cmp.l0 k x y ((n : Int) - 1)) (cmpN (V (x.take n)) (V (y.take n)))
  | 0, _, _ => by
    refine ev_step ?_
    simp only [nat_cmp.l0]
    exact ev_neg (by omega) (Ev.now _)
  | n + 1, h1, h2 => by
    refine ev_step ?_
    simp only [nat_cmp.l0]
    have e : ((n + 1 : Nat) : Int) - 1 = (n : Int) := by omega
    rw [e, w64m (n := n) (by omega)]
    refine ev_pos (by omega) (ev_pos (by omega) (ev_pos (by omega) (ev_pos (by omega) ?_)))
    rw [cmp_top hx hy (by omega) (by omega), rdn, rdn]
    by_cases c : x.getD n 0 = y.getD n 0
    · refine ev_pos c ?_
      rw [if_pos c]
      exact cmp_l0 hx hy hb n (by omega) (by omega)
    · refine ev_neg c ?_
      rw [if_neg c]
      by_cases c2 : x.getD n 0 < y.getD n 0
      · refine ev_pos c2 ?_
        rw [if_pos c2]; exact Ev.now _
      · refine ev_neg c2 ?_
        rw [if_neg c2]; exact Ev.now _
theorem nat_cmp_ev {x y : List Int} (hx : Nm x) (hy : Nm y) (hb : x.length < 4611686018427387904) : Ev (fun k => nat_cmp.f k x y) (cmpN (V x) (V y)) := by
  unfold nat_cmp.f
  by_cases c : x.length < y.length
  · refine ev_pos (by omega) ?_
    unfold cmpN; rw [if_pos (hx.lt_of_len hy c)]; exact Ev.now _
  · refine ev_neg (by omega) ?_
    by_cases c2 : y.length < x.length
    · refine ev_pos (by omega) ?_
      have := hy.lt_of_len hx c2
      unfold cmpN; rw [if_neg (by omega), if_pos this]; exact Ev.now _
    · refine ev_neg (by omega) ?_
      have e : x.length = y.length := by omega
      rw [w64m (by omega)]
      have := cmp_l0 hx.dg hy.dg hb x.length (by omega) (by omega)
      rwa [List.take_length, e, List.take_length, ← e] at this
theorem nat_Cmp_ev {a b : List Int} (ha : Nm a) (hb : Nm b) (la : a.length ≤ 4096) (lb : b.length ≤ 4096) : Ev (fun k => nat_Cmp.f k a b) (cmpN (V a) (V b), 0) := by
  unfold nat_Cmp.f
  refine Ev.bind (all2_ev ha.dg hb.dg (by omega) (by omega)) ?_
  have h1 : may a = true := may_iff.2 ⟨la, ha⟩
  have h2 : may b = true := may_iff.2 ⟨lb, hb⟩
  refine ev_pos (by simp [h1, h2]) (Ev.bind (nat_cmp_ev ha hb (by omega)) ?_)
  exact Ev.now _
/-! ### differences -/
/-! ### the references' sums and differences: appended digit by digit -/
end Go.Proofs.YtldcelgbinenbaaDoor.K
