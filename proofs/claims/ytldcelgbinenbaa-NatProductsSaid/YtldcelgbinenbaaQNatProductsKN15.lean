/- The first layer's long division: one row off, and the divisor back. -/
import Derived.Test.YtldcelgbinenbaaQNatProductsKN14
set_option linter.unusedVariables false
set_option linter.unusedSimpArgs false
namespace Go.Proofs.Ytldcelgbinenbaa.K
open Go Go.RowKit Go.Proofs.Ytldcelgbinenbaa.Px Go.Proofs.YtldcelgbinenbaaW.PrintWords Go.Proofs.YtldcelgbinenbaaW.PrintLast Go.Proofs.YtldcelgbinenbaaW.PrintMore

theorem pow_s (n : Nat) : (4294967296 : Nat) ^ (n + 1) = 4294967296 ^ n * 4294967296 := Nat.pow_succ ..
def bw (x y : Nat) : Nat := if x < y then 1 else 0
def msRec (g : Nat) : List Int → List Int → Nat → Nat → List Int × Nat
  | d :: v, x :: u, c, b =>
    let r := msRec g v u ((c + g * d.toNat) / 4294967296) (bw x.toNat ((c + g * d.toNat) % 4294967296 + b))
    ((x - (((c + g * d.toNat) % 4294967296 : Nat) : Int) - (b : Int)) % 4294967296 :: r.1, r.2)
  | [], x :: u, c, b => ((x - (c : Int) - (b : Int)) % 4294967296 :: u, bw x.toNat (c + b))
  | _, [], c, b => ([], b)
theorem dig_sub {x t b : Nat} (hx : x < 4294967296) (ht : t < 4294967296) (hb : b ≤ 1) : (((x : Int) - (t : Int) - (b : Int)) % 4294967296).toNat + t + b = x + bw x (t + b) * 4294967296 := by
  unfold bw; split <;> omega
theorem carry_lt {g d c : Nat} (hg : g < 4294967296) (hd : d < 4294967296) (hc : c < 4294967296) : (c + g * d) / 4294967296 < 4294967296 := by
  have := mul_lt64 hg hd; omega
theorem bw_le (x y : Nat) : bw x y ≤ 1 := by unfold bw; split <;> omega
theorem msRec_V {g : Nat} (hg : g < 4294967296) : ∀ (v u : List Int) (c b : Nat), Dg v → Dg u → u.length = v.length + 1 → c < 4294967296 → b ≤ 1 →
    V (msRec g v u c b).1 + g * V v + c + b = V u + (msRec g v u c b).2 * 4294967296 ^ (v.length + 1) ∧ Dg (msRec g v u c b).1 ∧ (msRec g v u c b).1.length = u.length ∧ (msRec g v u c b).2 ≤ 1
  | [], x :: u, c, b, hv, hu, hl, hc, hb => by
    have hx := hu.head
    have : u = [] := List.eq_nil_of_length_eq_zero (by simpa using hl)
    subst this
    obtain ⟨X, rfl⟩ := Int.eq_ofNat_of_zero_le hx.1
    have h := dig_sub (x := X) (t := c) (b := b) (by omega) hc hb
    simp only [msRec, V_cons, V_nil, List.length_nil, Int.toNat_natCast, Nat.zero_add, Nat.pow_one]
    refine ⟨by omega, Dg.cons (by omega) (by omega) Dg.nil, rfl, bw_le _ _⟩
  | d :: v, x :: u, c, b, hv, hu, hl, hc, hb => by
    have hx := hu.head; have hd := hv.head
    obtain ⟨X, rfl⟩ := Int.eq_ofNat_of_zero_le hx.1
    obtain ⟨Y, rfl⟩ := Int.eq_ofNat_of_zero_le hd.1
    have hcl := carry_lt (d := Y) hg (by omega) hc
    have h := dig_sub (x := X) (t := (c + g * Y) % 4294967296) (b := b) (by omega) (by omega) hb
    have ih := msRec_V hg v u _ _ hv.tail hu.tail (by simpa using hl) hcl (bw_le X ((c + g * Y) % 4294967296 + b))
    have hdm := Nat.div_add_mod (c + g * Y) 4294967296
    simp only [msRec, V_cons, List.length_cons, Int.toNat_natCast]
    generalize msRec g v u ((c + g * Y) / 4294967296) (bw X ((c + g * Y) % 4294967296 + b)) = r at *
    refine ⟨?_, Dg.cons (by omega) (by omega) ih.2.1, by rw [ih.2.2.1], ih.2.2.2⟩
    have e1 := ih.1
    rw [pow_s (v.length + 1), Nat.mul_add g, Nat.mul_left_comm g]
    generalize 4294967296 ^ (v.length + 1) = p at *
    rw [← Nat.mul_assoc r.2]
    generalize r.2 * p = rp at *
    generalize g * V v = gv at *
    generalize g * Y = gy at *
    generalize bw X ((c + gy) % 4294967296 + b) = o at *
    omega
def abRec : List Int → List Int → Nat → List Int
  | d :: v, x :: u, c => (x + d + (c : Int)) % 4294967296 :: abRec v u ((x.toNat + d.toNat + c) / 4294967296)
  | [], x :: u, c => (x + (c : Int)) % 4294967296 :: u
  | _, [], c => []
theorem abRec_V : ∀ (v u : List Int) (c : Nat), Dg v → Dg u → u.length = v.length + 1 → c ≤ 1 →
    (∃ o : Nat, V (abRec v u c) + o * 4294967296 ^ (v.length + 1) = V u + V v + c) ∧ Dg (abRec v u c) ∧ (abRec v u c).length = u.length
  | [], x :: u, c, hv, hu, hl, hc => by
    have hx := hu.head
    have : u = [] := List.eq_nil_of_length_eq_zero (by simpa using hl)
    subst this
    obtain ⟨X, rfl⟩ := Int.eq_ofNat_of_zero_le hx.1
    simp only [abRec, V_cons, V_nil, List.length_nil, Int.toNat_natCast, Nat.zero_add, Nat.pow_one]
    refine ⟨⟨(X + c) / 4294967296, by omega⟩, Dg.cons (by omega) (by omega) Dg.nil, rfl⟩
  | d :: v, x :: u, c, hv, hu, hl, hc => by
    have hx := hu.head; have hd := hv.head
    obtain ⟨X, rfl⟩ := Int.eq_ofNat_of_zero_le hx.1
    obtain ⟨Y, rfl⟩ := Int.eq_ofNat_of_zero_le hd.1
    have ih := abRec_V v u ((X + Y + c) / 4294967296) hv.tail hu.tail (by simpa using hl) (by omega)
    simp only [abRec, V_cons, List.length_cons, Int.toNat_natCast]
    generalize abRec v u ((X + Y + c) / 4294967296) = r at *
    obtain ⟨⟨o, e1⟩, e2, e3⟩ := ih
    refine ⟨⟨o, ?_⟩, Dg.cons (by omega) (by omega) e2, by rw [e3]⟩
    rw [pow_s (v.length + 1)]
    generalize 4294967296 ^ (v.length + 1) = p at *
    rw [← Nat.mul_assoc o]
    generalize o * p = rp at *
    omega
/-- the loop that puts the divisor back -/
theorem step_l2 (Vl : List Int) (hV : Dg Vl) (hl : Vl.length < 1000000000) (G : Nat) (hG0 : 0 < G) (hG : G < 4294967297) : ∀ (v pv done u : List Int) (c : Nat), Vl = pv ++ v → done.length = pv.length → u.length = v.length + 1 → Dg u → c ≤ 1 →
    Ev (fun k => nat_step.l2 k (done ++ u) Vl.length G c Vl Vl.length pv.length) (((G - 1 : Nat) : Int), done ++ abRec v u c)
  | [], pv, done, u, c, he, hd, hlu, hu, hc => by
    have hlen : Vl.length = pv.length := by rw [he]; simp
    obtain ⟨x, rfl⟩ := List.length_eq_one_iff.1 (show u.length = 1 by simpa using hlu)
    have hx := hu.head
    refine ev_step ?_
    simp only [nat_step.l2]
    refine ev_neg (by omega) (ev_pos nn (ev_pos (by simp; omega) (ev_eq (Ev.now _) ?_)))
    have e3 : IntKind.u64.wrap ((G : Int) - 1) = ((G - 1 : Nat) : Int) := by
      rw [show (G : Int) - 1 = ((G - 1 : Nat) : Int) by omega]; exact u64_n (by omega)
    rw [e3, rd_app (xs := done) (ys := []) (y := x) (by omega), set_app (by omega)]
    simp [abRec]; omega
  | d :: v, pv, done, u, c, he, hd, hlu, hu, hc => by
    have hlen : Vl.length = pv.length + 1 + v.length := by rw [he]; simp; omega
    obtain ⟨x, u, rfl⟩ := List.exists_cons_of_ne_nil (show u ≠ [] by intro e; rw [e] at hlu; simp at hlu)
    have hx := hu.head
    have hdd : 0 ≤ d ∧ d < 4294967296 := by rw [he] at hV; exact hV.right.head
    refine ev_step ?_
    simp only [nat_step.l2, w64s (n := pv.length) (by omega)]
    have h1 : rd Vl (pv.length : Int) = d := by rw [he]; exact rd_app rfl
    have h2 : rd (done ++ x :: u) (pv.length : Int) = x := rd_app (by omega)
    rw [h1, h2]
    refine ev_pos (by omega) (ev_pos nn (ev_pos (by omega) (ev_pos (by simp; omega) (ev_bind (add32_eq hx hdd (by omega)) ?_))))
    rw [set_app (by omega)]
    have := step_l2 Vl hV hl G hG0 hG v (pv ++ [d]) (done ++ [(x + d + (c : Int)) % 4294967296]) u ((x.toNat + d.toNat + c) / 4294967296) (by rw [he]; simp) (by simp [hd]) (by simpa using hlu) hu.tail (by omega)
    rw [List.length_append, List.length_singleton] at this
    have e4 : (x + d + (c : Int)) / 4294967296 = (((x.toNat + d.toNat + c) / 4294967296 : Nat) : Int) := by omega
    simp only [e4]
    refine ev_eq this ?_
    simp [abRec]
end Go.Proofs.Ytldcelgbinenbaa.K
