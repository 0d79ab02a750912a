import Derived.Test.YtnkpmjhlkmlmbaaGreatDoorQCtextPrintsK2
set_option linter.unusedVariables false
set_option linter.unusedSimpArgs false
namespace Go.Proofs.YtnkpmjhlkmlmbaaGreatDoor.Eng.K
open Go.RowKit Go.Proofs.YtnkpmjhlkmlmbaaGreatDoor.Eng
theorem zkX {n : Nat} (hn : n ≤ 100000) : ∀ (j i : Nat), i + j = n → Ev (fun k => zbA.l0 k (n : Int) (bx (List.replicate i 48)) (i : Int)) (bx (List.replicate n 48))
 | 0, i, h => by
  refine zf ?_; simp only [zbA.l0]
  rw [show i = n by omega]
  exact ze (by omega) (Ev.now _)
 | j + 1, i, h => by
  have hz := zA (List.replicate i 48)
  rw [List.length_replicate] at hz
  have ih := zkX hn j (i + 1) (by omega)
  refine zf ?_; simp only [zbA.l0]
  rw [show (⟨#[48]⟩ : ByteArray) = bx [48] from rfl, zx, w64 (n := (i : Int) + 1) (by omega) (by omega)]
  refine zd (by omega) (zd (show (bx (List.replicate i 48)).size + 1 < 9223372036854775808 by omega) ?_)
  rw [show List.replicate i (48 : UInt8) ++ [48] = List.replicate (i + 1) 48 by rw [List.replicate_succ'], show (i : Int) + 1 = ((i + 1 : Nat) : Int) by omega]
  exact ih
theorem zkW {n : Int} (h0 : 0 ≤ n) (h1 : n ≤ 100000) : Ev (fun k => zbA.f k n) (bx (List.replicate n.toNat 48)) := by
 have := zkX (n := n.toNat) (by omega) n.toNat 0 (by omega)
 rw [Int.toNat_of_nonneg h0] at this
 unfold zbA.f
 exact this
theorem zlV {b : UInt8} (hb : b ≠ 48) : ∀ (n : Nat) (r : List UInt8), r.length = n → r.length ≤ 100000 → Ev (fun k => zbB.l0 k (bx (b :: r))) (bx (tr (b :: r)))
 | 0, r, hn, _ => by
  have : r = [] := List.length_eq_zero_iff.1 hn
  subst this
  have : tr [b] = [b] := ze3 [] hb
  rw [this]
  refine zf ?_; simp only [zbB.l0]
  exact ze (by rw [zA]; simp) (Ev.now _)
 | n + 1, r, hn, hl => by
  rcases List.eq_nil_or_concat r with rfl | ⟨a, d, rfl⟩
  ·simp at hn
  rw [List.concat_eq_append] at hn hl ⊢
  have hz := zA (b :: a ++ [d])
  have hlen : (b :: a ++ [d]).length = a.length + 2 := by simp
  rw [List.length_append, List.length_singleton] at hn hl
  have e1 : wrap64 (((bx (b :: a ++ [d])).size : Int) - 1) = ((b :: a).length : Int) := by rw [w64 (by omega) (by omega), List.length_cons]; omega
  have hla : (b :: a).length = a.length + 1 := by simp
  show Ev (fun k => zbB.l0 k (bx (b :: a ++ [d]))) (bx (tr (b :: a ++ [d])))
  refine zf ?_; simp only [zbB.l0]
  rw [e1, zjH, Int.toNat_natCast, zc5, zmn]
  refine zd (by omega) (zd (by omega) (zd (by omega) ?_))
  by_cases c : d = 48
  ·subst c
   rw [zg8]
   exact zd rfl (zd (by omega) (zd (by omega) (zlV hb n a (by omega) (by omega))))
  ·rw [ze3 _ c]
   exact ze (zic c) (Ev.now _)
theorem zqN {n : Nat} (h : n < 1100) : Ev (fun k => zC.f k (D n)) (bx (dtx n)) := by
 obtain ⟨t, ht, ht2⟩ := zqO h
 have : t = bx (dtx n) := zcD.1 (by rw [ht2, zcm])
 subst this
 exact ht
theorem zle {x : Int} (h1 : -1100 < x) (h2 : x < 1100) {t : List UInt8} (ht : t.length ≤ 10000) : Ev (fun k => zR.j2 k x (bx t)) (bx (t ++ 101 :: etx x)) := by
 have hz := zA t
 have hz1 := zA (t ++ [101])
 rw [List.length_append, List.length_singleton] at hz1
 have hd := zgq x
 have j3 : ∀ (y : Int) (u : List UInt8), 0 ≤ y → y < 1100 → u.length ≤ 20000 → Ev (fun k => zR.j3 k y (bx u)) (bx (u ++ dtx y.toNat)) := by
  intro y u h0 h3 hu
  have hs := zA u
  have hs2 := zA (dtx y.toNat)
  have hl : (dtx y.toNat).length ≤ 7 := by
   have := zgq y
   unfold etx at this
   rw [if_neg (by omega), List.nil_append, show y.natAbs = y.toNat by omega] at this
   exact this
  have hO := zeX (n := y) (by omega) (by omega)
  refine zf ?_; simp only [zR.j3]
  rw [u64 (by omega) (by omega)]
  refine Ev.bind hO (Ev.bind (zqN (n := y.toNat) (by omega)) (zd (by omega) ?_))
  rw [zx]
  exact Ev.now _
 refine zf ?_; simp only [zR.j2]
 rw [show (⟨#[101]⟩ : ByteArray) = bx [101] from rfl, zx, show (⟨#[45]⟩ : ByteArray) = bx [45] from rfl, zx]
 refine zd (show (bx t).size + 1 < 9223372036854775808 by omega) ?_
 unfold etx
 by_cases c : x < 0
 ·rw [if_pos c, w64 (n := -x) (by omega) (by omega)]
  refine zd c (zd (show (bx (t ++ [101])).size + 1 < 9223372036854775808 by omega) ?_)
  have := j3 (-x) (t ++ [101] ++ [45]) (by omega) (by omega) (by simp; omega)
  rw [show (-x).toNat = x.natAbs by omega] at this
  rw [show t ++ 101 :: ([45] ++ dtx x.natAbs) = t ++ [101] ++ [45] ++ dtx x.natAbs by simp]
  exact this
 ·rw [if_neg c]
  refine ze c ?_
  have := j3 x (t ++ [101]) (by omega) (by omega) (by simp; omega)
  rw [show x.toNat = x.natAbs by omega] at this
  rw [show t ++ 101 :: ([] ++ dtx x.natAbs) = t ++ [101] ++ dtx x.natAbs by simp]
  exact this
theorem zqj {d r : List UInt8} {b : UInt8} (e : d = b :: r) (hl : d.length ≤ 2000) {x : Int} (h1 : -1100 < x) (h2 : x < 1100) {t : List UInt8} (ht : t.length ≤ 10) :
  Ev (fun k => zR.j1 k (bx d) x (bx t) (decide (x < -5 ∨ x > 20))) (bx (t ++ zbE false d x)) := by
 have hz := zA d
 have hzt := zA t
 have hlen : d.length = r.length + 1 := by rw [e]; simp
 have sz : ∀ u : List UInt8, (bx u).size = u.length := zA
 unfold zbE
 rw [show sgT false = [] from rfl, List.nil_append]
 refine zf ?_; simp only [zR.j1]
 by_cases c1 : x < -5 ∨ x > 20
 ·rw [if_pos c1, decide_eq_true c1, show (1 : Int).toNat = 1 from rfl, zc5, zeF, show (⟨#[46]⟩ : ByteArray) = bx [46] from rfl, zx, zx, zx]
  have l1 : (d.take 1).length ≤ 1 := by rw [List.length_take]; omega
  refine zd rfl (zd (by decide) (zd (by omega) (zd (by rw [sz, sz]; omega) ?_)))
  by_cases c2 : 1 < d.length
  ·have l2 : (d.drop 1).length ≤ 2000 := by rw [List.length_drop]; omega
   rw [if_pos c2]
   refine zd (by omega) (zd (by rw [sz, sz, List.length_append]; simp; omega) (zd (by decide) (zd (by omega) (zd (by rw [sz, sz, List.length_append, List.length_append]; simp; omega) ?_))))
   have := zle (x := x) h1 h2 (t := t ++ d.take 1 ++ [46] ++ d.drop 1) (by simp; omega)
   rw [show t ++ (d.take 1 ++ 46 :: d.drop 1 ++ 101 :: etx x) = t ++ d.take 1 ++ [46] ++ d.drop 1 ++ 101 :: etx x by simp]
   exact this
  ·rw [if_neg c2, List.append_nil]
   refine ze (by omega) ?_
   have := zle (x := x) h1 h2 (t := t ++ d.take 1) (by simp; omega)
   rw [← List.append_assoc]
   exact this
 rw [if_neg c1, decide_eq_false c1]
 refine ze (by simp) ?_
 by_cases c2 : x < 0
 ·rw [if_pos c2, show (⟨#[48, 46]⟩ : ByteArray) = bx [48, 46] from rfl, zx, w64 (n := -x) (by omega) (by omega), w64 (n := -x - 1) (by omega) (by omega)]
  refine zd c2 (zd (by rw [sz, sz]; simp; omega) (Ev.bind (zkW (by omega) (by omega)) ?_))
  rw [zx, zx]
  refine zd (by rw [sz, sz]; simp; omega) (zd (by rw [sz, sz]; simp; omega) (zh (Ev.now _) (by simp)))
 rw [if_neg c2]
 refine ze c2 ?_
 rw [w64 (n := x + 1) (by omega) (by omega)]
 by_cases c3 : x + 1 < (d.length : Int)
 ·rw [if_pos c3, zc5, zeF, show (⟨#[46]⟩ : ByteArray) = bx [46] from rfl, zx, zx, zx]
  have l1 : (d.take (x + 1).toNat).length ≤ 2000 := by rw [List.length_take]; omega
  have l2 : (d.drop (x + 1).toNat).length ≤ 2000 := by rw [List.length_drop]; omega
  refine ze (by omega) (zd (by omega) (zd (by omega) (zd (by rw [sz, sz]; omega) (zd (by rw [sz, sz, List.length_append]; simp; omega) (zd (by omega) (zd (by omega) (zd (by rw [sz, sz, List.length_append, List.length_append]; simp; omega) (zh (Ev.now _) (by rw [zx]; simp)))))))))
 ·rw [if_neg c3, hz, w64 (n := x + 1 - (d.length : Int)) (by omega) (by omega)]
  refine zd (by omega) (zd (by rw [sz]; omega) (Ev.bind (zkW (by omega) (by omega)) ?_))
  rw [zx, zx]
  exact zd (by rw [sz, sz]; simp; omega) (zh (Ev.now _) (by simp))
theorem zqI (s : Bool) {d r : List UInt8} {b : UInt8} (e : d = b :: r) (hl : d.length ≤ 2000) {x : Int} (h1 : -1100 < x) (h2 : x < 1100) : Ev (fun k => zR.f k s (bx d) x) (bx (zbE s d x)) := by
 have j0 : ∀ {t : List UInt8}, t.length ≤ 10 → Ev (fun k => zR.j0 k (bx d) x (bx t)) (bx (t ++ zbE false d x)) := by
  intro t ht
  have := zqj e hl h1 h2 ht
  refine zf ?_; simp only [zR.j0]
  by_cases c : x < -5
  ·rw [decide_eq_true (.inl c)] at this
   exact zd c this
  ·rw [show decide (x < -5 ∨ x > 20) = decide (x > 20) from decide_eq_decide.2 ⟨fun h => h.resolve_left c, .inr⟩] at this
   exact ze c this
 rw [zin]
 unfold zR.f
 cases s with
 | true => exact zd rfl (j0 (t := [45]) (by simp))
 | false => exact ze (by simp) (j0 (t := []) (by simp))
theorem zrl (s : Bool) {q : Nat} (hq : q ≠ 0) (hl : (dx q).length ≤ 2000) {x : Int} (h1 : -1100 < x + ((dx q).length : Int) - 1) (h2 : x + ((dx q).length : Int) - 1 < 1100) : Ev (fun k => zeL.f k s (D q) x) (bx (zaF s q x)) := by
 obtain ⟨b, r, e, hb⟩ := zaM hq
 have hp := zdH hq
 have hDq : (D q).length ≤ 1000 := by
  apply zc0
  have h3 := zef q
  have h4 := zV (Nat.le_of_lt h3)
  have h5 := zbF (dx q).length
  omega
 have ht := zq3 (zv q) (by omega)
 rw [V_D, ziV] at ht
 have hsz := zA (dx q)
 have htr : Ev (fun k => zbB.f k (bx (dx q))) (bx (tr (dx q))) := by
  unfold zbB.f
  rw [e] at hl ⊢
  exact zlV hb _ r rfl (by simp at hl; omega)
 obtain ⟨r', e'⟩ := zb2 e hb
 have hlt := zcE (dx q)
 have hpl := zqI s (d := tr (dx q)) e' (by omega) h1 h2
 unfold zeL.f
 refine Ev.bind ht (Ev.bind htr ?_)
 rw [hsz, w64 (n := x + ((dx q).length : Int)) (by omega) (by omega), w64 (n := x + ((dx q).length : Int) - 1) (by omega) (by omega)]
 exact Ev.bind hpl (Ev.now _)
theorem zru {a : Int} {c : Int} (h : 0 < c) : (a * c).sign = a.sign := by
 rw [Int.sign_mul, Int.sign_eq_one_of_pos h, Int.mul_one]
theorem zgk (z b : Nat) (e : Int) : zaw (z : Int) e (b : Int) 0 = ((exN z e : Int) - ((b * 10 ^ exG e : Nat) : Int)).sign := by
 by_cases c : 0 ≤ e
 ·rw [← zhE (za := (z : Int)) (zb := (b : Int)) (m := 0) c (by omega), zhR z c]
  have e1 : exG e = 0 := by unfold exG; omega
  rw [e1, Nat.pow_zero, Nat.mul_one]
  congr 1
  unfold al
  rw [show (e - 0).toNat = e.toNat by omega, show ((0 : Int) - 0).toNat = 0 by omega]
  simp
 ·have c' : e < 0 := by omega
  have e1 : exG e = (-e).toNat := rfl
  rw [← zhE (za := (z : Int)) (zb := (b : Int)) (m := e) (by omega) (by omega), zhS z c', e1]
  unfold al
  rw [show (e - e).toNat = 0 by omega, show (0 - e).toNat = (-e).toNat by omega]
  have e2 : (10 : Nat) ^ (-e).toNat = 2 ^ (-e).toNat * 5 ^ (-e).toNat := by rw [← Nat.mul_pow]
  have hp : (0 : Int) < ((5 ^ (-e).toNat : Nat) : Int) := by exact_mod_cast Nat.pow_pos (by omega)
  rw [e2, ← Nat.mul_assoc]
  rw [← zru hp (a := (z : Int) * 2 ^ 0 - (b : Int) * 2 ^ (-e).toNat)]
  congr 1
  rw [Int.sub_mul]
  push_cast
  simp
theorem zdy (n : Nat) : bl (n : Int).natAbs = bl n := by rw [Int.natAbs_natCast]
structure Pn (z : Nat) (e : Int) : Prop where
 eq : mk (z : Int) e = (false, D z, e)
 ne : z ≠ 0
 b : bl z ≤ 53
 lo : -1074 ≤ e
 hi : e ≤ 1024
theorem zlh {z : Nat} {e : Int} (h : Pn z e) : Rg (z : Int) e := ⟨by rw [zdy]; have := h.b; omega, by have := h.lo; omega, by have := h.hi; omega⟩
theorem zg5 {Y : Nat} (h : Y ≤ 100000) : Rg ((10 ^ Y : Nat) : Int) 0 := ⟨by rw [zdy]; have := zbF Y; omega, by omega, by omega⟩
theorem zlg {z : Nat} {e : Int} (h : Pn z e) {Y : Nat} (hY : Y ≤ 100000) : Ev (fun k => zbm.f k false (D z) e (mk ((10 ^ Y : Nat) : Int) 0).1 (mk ((10 ^ Y : Nat) : Int) 0).2.1 (mk ((10 ^ Y : Nat) : Int) 0).2.2) (mk ((z * 10 ^ Y : Nat) : Int) e) := by
 have := zgP (zlh h) (zg5 hY)
 rw [h.eq, Int.add_zero] at this
 rw [Int.natCast_mul]
 exact this
theorem zql {z : Nat} {e : Int} (h : Pn z e) {Y : Nat} (hY : Y ≤ 100000) : Rg ((z * 10 ^ Y : Nat) : Int) e := ⟨by rw [zdy]; have := zdx z (10 ^ Y); have := zbF Y; have := h.b; omega, by have := h.lo; omega, by have := h.hi; omega⟩
theorem zgr (z a : Nat) (e : Int) : exN (z * a) e = exN z e * a := by
 unfold exN
 rw [Nat.mul_right_comm z a, Nat.mul_right_comm (z * 2 ^ e.toNat) a]
theorem zlY (a b : Nat) : ((a : Int) - (b : Int)).sign = if a < b then -1 else if b < a then 1 else 0 := by
 by_cases c : a < b
 ·rw [if_pos c, Int.sign_eq_neg_one_of_neg (by omega)]
 ·rw [if_neg c]
  by_cases c2 : b < a
  ·rw [if_pos c2, Int.sign_eq_one_of_pos (by omega)]
  ·rw [if_neg c2, show (a : Int) - (b : Int) = 0 by omega]; rfl
theorem ziQ (a b : Nat) : ((a : Int) - (b : Int)).sign < 0 ↔ a < b := by
 rw [zlY]
 by_cases c : a < b
 ·rw [if_pos c]; exact ⟨fun _ => c, fun _ => by decide⟩
 ·rw [if_neg c]
  constructor
  ·intro h; split at h <;> exact absurd h (by decide)
  ·exact fun h => absurd h c
theorem zgF : Rg ((1 : Nat) : Int) 0 := ⟨by decide, by omega, by omega⟩
theorem zgG {z : Nat} {e : Int} (h : Pn z e) {x : Int} (h1 : -3000 ≤ x) (h2 : x ≤ 3000) : ∃ o, Ev (fun k => zc7.f k false (D z) e x) o ∧
  ∃ c, Ev (fun k => za7.f k o.1 o.2.1 o.2.2 (mk 1 0).1 (mk 1 0).2.1 (mk 1 0).2.2) c ∧ (c < 0 ↔ exN z e * 10 ^ (-x).toNat < 10 ^ (exG e + x.toNat)) := by
 by_cases c : x ≤ 0
 ·have e1 : wrap64 (-x) = (((-x).toNat : Nat) : Int) := by rw [w64 (by omega) (by omega)]; omega
  have ht := zdS (Y := (-x).toNat) (by omega)
  have hm := zlg h (Y := (-x).toNat) (by omega)
  refine ⟨mk ((z * 10 ^ (-x).toNat : Nat) : Int) e, ?_, _, zep (zql h (Y := (-x).toNat) (by omega)) zgF, ?_⟩
  ·unfold zc7.f
   rw [e1]
   exact zd c (Ev.bind ht (Ev.bind hm (Ev.now _)))
  ·show zaw _ e ((1 : Nat) : Int) 0 < 0 ↔ _
   rw [zgk, ziQ, zgr, Nat.one_mul, show x.toNat = 0 by omega, Nat.add_zero]
 ·have hx : x = ((x.toNat : Nat) : Int) := by omega
  have ht := zdS (Y := x.toNat) (by omega)
  rw [← hx] at ht
  have hc := zep (zlh h) (zg5 (Y := x.toNat) (by omega))
  rw [h.eq, zgk] at hc
  have e2 : (10 : Nat) ^ x.toNat * 10 ^ exG e = 10 ^ (exG e + x.toNat) := by rw [Nat.add_comm, Nat.pow_add]
  rw [e2] at hc
  have e3 : (-x).toNat = 0 := by omega
  rw [e3, Nat.pow_zero, Nat.mul_one]
  by_cases cl : exN z e < 10 ^ (exG e + x.toNat)
  ·refine ⟨mk 1 (-1), ?_, _, zep (za := ((1 : Nat) : Int)) ⟨by decide, by omega, by omega⟩ zgF, ?_⟩
   ·unfold zc7.f
    exact ze c (Ev.bind ht (Ev.bind hc (zd ((ziQ _ _).2 cl) (zi (ziB (-1)) (Ev.now _)))))
   ·exact ⟨fun _ => cl, fun _ => by decide⟩
  ·refine ⟨mk 1 0, ?_, _, zep zgF zgF, ?_⟩
   ·unfold zc7.f
    exact ze c (Ev.bind ht (Ev.bind hc (ze (fun hh => cl ((ziQ _ _).1 hh)) (Ev.bind (zeW (n := 1) (by omega) (by omega)) (Ev.now _)))))
   ·exact ⟨fun hh => absurd hh (by decide), fun hh => absurd hh cl⟩
theorem zgJ {N G : Nat} (hN : N ≠ 0) (x : Int) : N * 10 ^ (-x).toNat < 10 ^ (G + x.toNat) ↔ ((dx N).length : Int) - G ≤ x := by
 have h1 := zef N
 have h2 := zhM hN
 have h3 := zdH hN
 constructor
 ·intro hlt
  apply Int.le_of_not_gt
  intro hc
  have h4 : 10 ^ ((dx N).length - 1) * 10 ^ (-x).toNat ≤ N * 10 ^ (-x).toNat := Nat.mul_le_mul_right _ h2
  rw [← Nat.pow_add] at h4
  have h5 : 10 ^ (G + x.toNat) ≤ 10 ^ ((dx N).length - 1 + (-x).toNat) := Nat.pow_le_pow_right (by omega) (by omega)
  omega
 ·intro hc
  have h4 : N * 10 ^ (-x).toNat < 10 ^ (dx N).length * 10 ^ (-x).toNat := Nat.mul_lt_mul_of_pos_right h1 (Nat.pow_pos (by omega))
  rw [← Nat.pow_add] at h4
  exact Nat.lt_of_lt_of_le h4 (Nat.pow_le_pow_right (by omega) (by omega))
theorem zlc {z : Nat} {e : Int} (h : Pn z e) {P : Int} (hP : P = ((dx (exN z e)).length : Int) - 1 - (exG e : Int)) (hP1 : -2000 ≤ P) (hP2 : P ≤ 2000) : ∀ (j : Nat) (x : Int), x + j = P → -2500 ≤ x →
  Ev (fun k => zaA.l1 k false (D z) e x) P
 | 0, x, hj, hx => by
  obtain ⟨o, ho, c, hc, hcl⟩ := zgG h (x := x + 1) (by omega) (by omega)
  rw [zgJ (zcu h.ne e)] at hcl
  have hlt := hcl.2 (by omega)
  refine zf ?_; simp only [zaA.l1]
  rw [w64 (n := x + 1) (by omega) (by omega)]
  refine Ev.bind ho (Ev.bind (zeW (n := 1) (by omega) (by omega)) (Ev.bind hc (ze (by omega) (zh (Ev.now _) (by omega)))))
 | j + 1, x, hj, hx => by
  obtain ⟨o, ho, c, hc, hcl⟩ := zgG h (x := x + 1) (by omega) (by omega)
  rw [zgJ (zcu h.ne e)] at hcl
  have hlt : ¬ c < 0 := fun hh => by have := hcl.1 hh; omega
  have ih := zlc h hP hP1 hP2 j (x + 1) (by omega) (by omega)
  refine zf ?_; simp only [zaA.l1]
  rw [w64 (n := x + 1) (by omega) (by omega)]
  exact Ev.bind ho (Ev.bind (zeW (n := 1) (by omega) (by omega)) (Ev.bind hc (zd (by omega) ih)))
theorem zlb {z : Nat} {e : Int} (h : Pn z e) {P : Int} (hP : P = ((dx (exN z e)).length : Int) - 1 - (exG e : Int)) (hP1 : -2000 ≤ P) (hP2 : P ≤ 2000) : ∀ (j : Nat) (x : Int), (x = P + j ∨ (j = 0 ∧ x ≤ P)) → -2500 ≤ x → x ≤ 2500 →
  Ev (fun k => zaA.l0 k false (D z) e x) P
 | 0, x, hj, h1, h2 => by
  obtain ⟨o, ho, c, hc, hcl⟩ := zgG h (x := x) (by omega) (by omega)
  rw [zgJ (zcu h.ne e)] at hcl
  have hlt : ¬ c < 0 := fun hh => by have := hcl.1 hh; omega
  have hl1 := zlc h hP hP1 hP2 (P - x).toNat x (by omega) h1
  refine zf ?_; simp only [zaA.l0]
  exact Ev.bind ho (Ev.bind (zeW (n := 1) (by omega) (by omega)) (Ev.bind hc (ze hlt hl1)))
 | j + 1, x, hj, h1, h2 => by
  obtain ⟨o, ho, c, hc, hcl⟩ := zgG h (x := x) (by omega) (by omega)
  rw [zgJ (zcu h.ne e)] at hcl
  have hlt := hcl.2 (by omega)
  have ih := zlb h hP hP1 hP2 j (x - 1) (by omega) (by omega) (by omega)
  refine zf ?_; simp only [zaA.l0]
  rw [w64 (n := x - 1) (by omega) (by omega)]
  exact Ev.bind ho (Ev.bind (zeW (n := 1) (by omega) (by omega)) (Ev.bind hc (zd hlt ih)))
theorem zrJ {a : Int} (h1 : -40000000 ≤ a) (h2 : a ≤ 40000000) : -400 ≤ Int.tdiv a 100000 ∧ Int.tdiv a 100000 ≤ 400 := by
 by_cases c : 0 ≤ a
 ·rw [Int.tdiv_eq_ediv_of_nonneg c]; omega
 ·have : Int.tdiv a 100000 = -(Int.tdiv (-a) 100000) := by rw [Int.neg_tdiv, Int.neg_neg]
  rw [this, Int.tdiv_eq_ediv_of_nonneg (by omega)]; omega
theorem zm1 {z : Nat} {e : Int} (h : Pn z e) : Ev (fun k => zaA.f k false (D z) e) (((dx (exN z e)).length : Int) - 1 - (exG e : Int)) := by
 have hl := zhT h.b h.lo h.hi
 have hg : exG e ≤ 1074 := by have := h.lo; unfold exG; omega
 have hp := zdH (zcu h.ne e)
 have hb := h.b
 have h1 := h.lo
 have h2 := h.hi
 have hd : Dy false (D z) e := by have := zY (z : Int) e; rw [h.eq] at this; exact this
 have hT := zfO hd (by have : (D z).length ≤ 2 := zc0 (by omega); omega) (by omega) (by omega)
 have ht : top (sv false (V (D z))) e = e + (bl z : Nat) := by
  unfold top
  rw [V_D, if_neg (fun hh => h.ne (za3.1 hh)), zT]
 rw [ht] at hT
 obtain ⟨t, htt⟩ : ∃ t, t = e + ((bl z : Nat) : Int) := ⟨_, rfl⟩
 rw [← htt] at hT
 have b1 := zrJ (a := (t - 1) * 30103) (by omega) (by omega)
 unfold zaA.f
 refine Ev.bind hT ?_
 rw [w64 (n := t - 1) (by omega) (by omega), w64 (n := (t - 1) * 30103) (by omega) (by omega), w64 (n := Int.tdiv ((t - 1) * 30103) 100000) (by omega) (by omega)]
 generalize Int.tdiv ((t - 1) * 30103) 100000 = x at b1 ⊢
 exact zlb h rfl (by omega) (by omega) (x - (((dx (exN z e)).length : Int) - 1 - (exG e : Int))).toNat x (by omega) (by omega) (by omega)
theorem zoN {A B A' B' : Nat} (hB : 0 < B) (hB' : 0 < B') (h : A * B' = A' * B) : A / B = A' / B' ∧ (A % B = 0 ↔ A' % B' = 0) := by
 have e1 : A / B = A * B' / (B * B') := (Nat.mul_div_mul_right A B hB').symm
 have e2 : A' / B' = A' * B / (B' * B) := (Nat.mul_div_mul_right A' B' hB).symm
 have e3 : A % B * B' = A * B' % (B * B') := (Nat.mul_mod_mul_right B' A B).symm
 have e4 : A' % B' * B = A' * B % (B' * B) := (Nat.mul_mod_mul_right B A' B').symm
 rw [h, Nat.mul_comm B B'] at e1 e3
 refine ⟨by rw [e1, e2], ?_⟩
 have e5 : A % B * B' = A' % B' * B := by rw [e3, e4]
 constructor
 ·intro hz
  rw [hz, Nat.zero_mul] at e5
  rcases Nat.mul_eq_zero.1 e5.symm with hh | hh
  ·exact hh
  ·omega
 ·intro hz
  rw [hz, Nat.zero_mul] at e5
  rcases Nat.mul_eq_zero.1 e5 with hh | hh
  ·exact hh
  ·omega
def MM (z : Nat) (e x : Int) : Nat := exN z e * 10 ^ (-x).toNat
def DD (e x : Int) : Nat := 10 ^ (exG e + x.toNat)
theorem zjb (e x : Int) : 0 < DD e x := Nat.pow_pos (by omega)
theorem zjA {A B : Nat} (hA : A ≠ 0) (hB : B ≠ 0) {ea : Int} (bA : bl A ≤ 100000) (bB : bl B ≤ 100000) (h1 : -2000 ≤ ea) (h2 : ea ≤ 2000) {M K : Nat} (hK : 0 < K) (hf : A * 2 ^ ea.toNat * K = M * (B * 2 ^ (-ea).toNat)) :
  Ev (fun k => zaP.j0 k (mk (A : Int) ea).1 (mk (A : Int) ea).2.1 (mk (A : Int) ea).2.2 (mk (B : Int) 0).1 (mk (B : Int) 0).2.1 (mk (B : Int) 0).2.2) (D (M / K), decide (M % K ≠ 0)) := by
 obtain ⟨j, j1, j2, _, j3⟩ := zbr (z := (A : Int)) (by omega) ea
 obtain ⟨i, i1, i2, _, i3⟩ := zbr (z := (B : Int)) (by omega) 0
 have na := (zY (A : Int) ea).nm
 have nb := (zY (B : Int) 0).nm
 have la := zcx (A : Int) ea
 have lb := zcx (B : Int) 0
 rw [Int.natAbs_natCast] at j1 i1 la lb
 have hj : j ≤ bl A := by
  have h3 := zaj (v := V (mk (A : Int) ea).2.1) j3 j
  rw [← j1] at h3; omega
 have hi : i ≤ bl B := by
  have h3 := zaj (v := V (mk (B : Int) 0).2.1) i3 i
  rw [← i1] at h3; omega
 revert j1 j2 j3 i1 i2 i3 na nb la lb
 generalize mk (A : Int) ea = p
 generalize mk (B : Int) 0 = q
 obtain ⟨s, l, x⟩ := p
 obtain ⟨s', l', y⟩ := q
 intro j1 j2 j3 i1 i2 i3 na nb la lb
 dsimp only at *
 have u1 := zcT na.dg (by omega) 0 (by omega)
 have u2 := zcT nb.dg (by omega) 0 (by omega)
 rw [Nat.pow_zero, Nat.mul_one, na] at u1
 rw [Nat.pow_zero, Nat.mul_one, nb] at u2
 have fin : ∀ {a b : Nat}, bl a ≤ 300000 → bl b ≤ 300000 → b ≠ 0 → a * K = M * b → Ev (fun k => zaP.j1 k (D a) (D b)) (D (M / K), decide (M % K ≠ 0)) := by
  intro a b ba bb b0 hab
  obtain ⟨f1, f2⟩ := zoN (A := a) (B := b) (A' := M) (B' := K) (by omega) hK hab
  have hla : (D a).length ≤ 10000 := zc0 (by omega)
  have hlb : (D b).length ≤ 10000 := zc0 (by omega)
  have hq := zlA (zv a) (zv b) (by omega) (by omega) (fun hh => b0 (by have := V_D b; rw [hh] at this; exact this.symm))
  rw [V_D, V_D, f1] at hq
  refine zf ?_; simp only [zaP.j1]
  refine Ev.bind hq (zh (Ev.now _) ?_)
  dsimp only
  congr 1
  apply decide_eq_decide.2
  refine Iff.trans ?_ (not_congr f2)
  by_cases c : a % b = 0
  ·rw [c, zy]; simp
  ·have := zbW (a % b)
   have : (D (a % b)).length ≠ 0 := fun hh => by rw [hh, Nat.pow_zero] at this; omega
   constructor
   ·intro _; exact c
   ·intro _; omega
 rw [j1, i1] at hf
 have hf' : V l * K * 2 ^ (j + ea.toNat) = M * V l' * 2 ^ (i + (-ea).toNat) := by
  have e1 : V l * K * (2 ^ j * 2 ^ ea.toNat) = V l * 2 ^ j * 2 ^ ea.toNat * K := by ac_rfl
  have e2 : M * V l' * (2 ^ i * 2 ^ (-ea).toNat) = M * (V l' * 2 ^ i * 2 ^ (-ea).toNat) := by ac_rfl
  rw [Nat.pow_add, Nat.pow_add, e1, e2, hf]
 have bl1 : bl (V l) ≤ bl A := zV (by rw [j1]; exact Nat.le_mul_of_pos_right _ (zj j))
 have bl2 : bl (V l') ≤ bl B := zV (by rw [i1]; exact Nat.le_mul_of_pos_right _ (zj i))
 refine zf ?_; simp only [zaP.j0]
 refine Ev.bind u1 (Ev.bind u2 ?_)
 by_cases c : x > y
 ·have hn := zcT na.dg (by omega) (x - y).toNat (by omega)
  rw [Int.toNat_of_nonneg (by omega)] at hn
  rw [w64 (n := x - y) (by omega) (by omega)]
  refine zd c (Ev.bind hn ?_)
  have h5 := zcp (V l) (x - y).toNat
  have := fin (a := V l * 2 ^ (x - y).toNat) (b := V l') (by omega) (by omega) i3 (by
   rw [show j + ea.toNat = (x - y).toNat + (i + (-ea).toNat) by omega, Nat.pow_add _ (x - y).toNat, ← Nat.mul_assoc] at hf'
   have h6 := Nat.eq_of_mul_eq_mul_right (zj _) hf'
   rw [← h6]; ac_rfl)
  rw [nb] at this
  exact this
 ·have hn := zcT nb.dg (by omega) (y - x).toNat (by omega)
  rw [Int.toNat_of_nonneg (by omega)] at hn
  rw [w64 (n := y - x) (by omega) (by omega)]
  refine ze c (Ev.bind hn ?_)
  have h5 := zcp (V l') (y - x).toNat
  have := fin (a := V l) (b := V l' * 2 ^ (y - x).toNat) (by omega) (by omega) (Nat.mul_ne_zero i3 (Nat.ne_of_gt (zj _))) (by
   rw [show i + (-ea).toNat = (y - x).toNat + (j + ea.toNat) by omega, Nat.pow_add _ (y - x).toNat, ← Nat.mul_assoc] at hf'
   have h6 := Nat.eq_of_mul_eq_mul_right (zj _) hf'
   rw [h6]; ac_rfl)
  rw [na] at this
  exact this
theorem zmQ {z : Nat} {e : Int} (h : Pn z e) {x : Int} (h1 : -3000 ≤ x) (h2 : x ≤ 3000) : Ev (fun k => zaP.f k false (D z) e x) (D (MM z e x / DD e x), decide (MM z e x % DD e x ≠ 0)) := by
 have hb := h.b
 have hlo := h.lo
 have hhi := h.hi
 have hN := zcu h.ne e
 unfold zaP.f
 refine Ev.bind (zeW (n := 1) (by omega) (by omega)) ?_
 have key : ∀ Y : Nat, z * 10 ^ Y * 2 ^ e.toNat * 10 ^ exG e = exN z e * 10 ^ Y * 2 ^ (-e).toNat := by
  intro Y
  have e2 : (10 : Nat) ^ exG e = 2 ^ (-e).toNat * 5 ^ (-e).toNat := by rw [← Nat.mul_pow]; rfl
  unfold exN
  rw [e2]; ac_rfl
 by_cases c : x < 0
 ·have e1 : wrap64 (-x) = (((-x).toNat : Nat) : Int) := by rw [w64 (by omega) (by omega)]; omega
  have ht := zdS (Y := (-x).toNat) (by omega)
  have hm := zlg h (Y := (-x).toNat) (by omega)
  have h3 := zdx z (10 ^ (-x).toNat)
  have h4 := zbF (-x).toNat
  rw [e1]
  refine zd c (Ev.bind ht (Ev.bind hm ?_))
  refine zjA (A := z * 10 ^ (-x).toNat) (B := 1) (Nat.mul_ne_zero h.ne (Nat.ne_of_gt (zbv _))) (by omega) (by omega) (by decide) (by omega) (by omega) (zjb e x) ?_
  unfold MM DD
  rw [show x.toNat = 0 by omega, Nat.add_zero, key, Nat.one_mul]
 ·have hx : x = ((x.toNat : Nat) : Int) := by omega
  have ht := zdS (Y := x.toNat) (by omega)
  rw [← hx] at ht
  have h4 := zbF x.toNat
  refine ze c (Ev.bind ht ?_)
  have := zjA (A := z) (B := 10 ^ x.toNat) h.ne (Nat.ne_of_gt (zbv _)) (ea := e) (M := MM z e x) (K := DD e x) (by omega) (by omega) (by omega) (by omega) (zjb e x) (by
   unfold MM DD
   have := key 0
   rw [Nat.pow_zero, Nat.mul_one, Nat.mul_one] at this
   rw [show (-x).toNat = 0 by omega, Nat.pow_zero, Nat.mul_one, Nat.pow_add, ← Nat.mul_assoc, this]; ac_rfl)
  rw [h.eq] at this
  exact this
theorem zpB (z : Nat) (e : Int) : mk (z : Int) (e + 1) = mk ((2 * z : Nat) : Int) e := by
 have := zbX (z : Int) e 1
 rw [show ((2 * z : Nat) : Int) = (z : Int) * 2 ^ 1 by push_cast; omega, this]; rfl
theorem zoY (M K : Nat) : ((2 * M : Nat) : Int) - (((2 * (M / K) + 1) * K : Nat) : Int) = ((2 * (M % K) : Nat) : Int) - (K : Int) := by
 have h := Nat.div_add_mod M K
 have e : (2 * (M / K) + 1) * K = 2 * (K * (M / K)) + K := by rw [Nat.add_mul, Nat.one_mul, Nat.mul_assoc, Nat.mul_comm (M / K)]
 rw [e]; omega
theorem zoS {z : Nat} {e : Int} (h : Pn z e) {x : Int} (h1 : -3000 ≤ x) (h2 : x ≤ 3000) (hq : (D (MM z e x / DD e x)).length ≤ 1000) : Ev (fun k => zeK.f k false (D z) e (D (MM z e x / DD e x)) x) (hlf (MM z e x % DD e x) (DD e x)) := by
 have hb := h.b
 have hlo := h.lo
 have hhi := h.hi
 obtain ⟨q, hqq⟩ : ∃ q, q = MM z e x / DD e x := ⟨_, rfl⟩
 have hhl : hlf (MM z e x % DD e x) (DD e x) = (((2 * MM z e x : Nat) : Int) - (((2 * q + 1) * DD e x : Nat) : Int)).sign := by
  rw [hqq, zoY, zlY]; rfl
 rw [hhl, ← hqq]
 rw [← hqq] at hq
 have hs := zfK (z : Int) (e := e) (n := 1) (by rw [zdy]; omega) (by omega) (by omega) (by omega) (by omega)
 rw [h.eq, zpB] at hs
 have hu := zcT (zM q) (by omega) 1 (by omega)
 rw [V_D, Nat.pow_one, Nat.mul_comm] at hu
 have hbq := zaV (zM q)
 rw [V_D] at hbq
 have hb2 : bl (2 * q) ≤ 32001 := by
  have := zcp q 1
  rw [Nat.pow_one, Nat.mul_comm] at this
  omega
 have l2q : (D (2 * q)).length ≤ 1001 := zc0 (by omega)
 have ha := zfM (zM (2 * q)) (zM 1) (by omega) (by rw [zdt]; simp)
 rw [V_D, V_D, zdt] at ha
 have hb3 : bl (2 * q + 1) ≤ 32002 := Nat.le_trans (zgf _) (by omega)
 have hf := zbH false (zv (2 * q + 1)) (by have : (D (2 * q + 1)).length ≤ 1001 := zc0 (by omega); omega) (e := 0) (by omega) (by omega)
 rw [V_D, show sv false (2 * q + 1) = ((2 * q + 1 : Nat) : Int) from rfl] at hf
 have r2 : Rg ((2 * z : Nat) : Int) e := ⟨by rw [zdy]; have := zcp z 1; rw [Nat.pow_one, Nat.mul_comm] at this; omega, by omega, by omega⟩
 have rq' : Rg ((2 * q + 1 : Nat) : Int) 0 := ⟨by rw [zdy]; omega, by omega, by omega⟩
 unfold zeK.f
 refine zi hs (Ev.bind hu (Ev.bind ha (Ev.bind hf ?_)))
 by_cases c : x < 0
 ·have e1 : wrap64 (-x) = (((-x).toNat : Nat) : Int) := by rw [w64 (by omega) (by omega)]; omega
  have ht := zdS (Y := (-x).toNat) (by omega)
  have h3 := zdx (2 * z) (10 ^ (-x).toNat)
  have h4 := zbF (-x).toNat
  have h5 := zcp z 1
  rw [Nat.pow_one, Nat.mul_comm] at h5
  have hm := zgP r2 (zg5 (Y := (-x).toNat) (by omega))
  rw [Int.add_zero, ← Int.natCast_mul] at hm
  have hc := zep (za := ((2 * z * 10 ^ (-x).toNat : Nat) : Int)) (ea := e) ⟨by rw [zdy]; omega, by omega, by omega⟩ rq'
  rw [zgk, zgr, Nat.mul_comm 2 z, zgr, show exN z e * 2 * 10 ^ (-x).toNat = 2 * MM z e x by unfold MM; ac_rfl, show (10 : Nat) ^ exG e = DD e x by unfold DD; rw [show x.toNat = 0 by omega, Nat.add_zero]] at hc
  rw [e1]
  rw [Nat.mul_comm 2 z] at hm ⊢
  refine zd c (Ev.bind ht (Ev.bind hm (Ev.bind hc (Ev.now _))))
 ·have hx : x = ((x.toNat : Nat) : Int) := by omega
  have ht := zdS (Y := x.toNat) (by omega)
  rw [← hx] at ht
  have h3 := zdx (2 * q + 1) (10 ^ x.toNat)
  have h4 := zbF x.toNat
  have hm := zgP rq' (zg5 (Y := x.toNat) (by omega))
  rw [Int.add_zero, ← Int.natCast_mul] at hm
  have hc := zep r2 (zb := (((2 * q + 1) * 10 ^ x.toNat : Nat) : Int)) (eb := 0) ⟨by rw [zdy]; omega, by omega, by omega⟩
  rw [zgk, Nat.mul_comm 2 z, zgr, show exN z e * 2 = 2 * MM z e x by unfold MM; rw [show (-x).toNat = 0 by omega]; omega, Nat.mul_assoc, show (10 : Nat) ^ x.toNat * 10 ^ exG e = DD e x by unfold DD; rw [Nat.add_comm, Nat.pow_add]] at hc
  refine ze c (Ev.bind ht (Ev.bind hm ?_))
  rw [Nat.mul_comm 2 z]
  exact Ev.bind hc (Ev.now _)
theorem zoX (r p : Nat) {c : Nat} (hc : 0 < c) : hlf (r * c) (p * c) = hlf r p := by
 unfold hlf
 have e : 2 * (r * c) = 2 * r * c := by ac_rfl
 rw [e]
 by_cases c1 : 2 * r < p
 ·rw [if_pos c1, if_pos (Nat.mul_lt_mul_of_pos_right c1 hc)]
 ·rw [if_neg c1, if_neg (fun h => c1 (Nat.lt_of_mul_lt_mul_right h))]
  by_cases c2 : p < 2 * r
  ·rw [if_pos c2, if_pos (Nat.mul_lt_mul_of_pos_right c2 hc)]
  ·rw [if_neg c2, if_neg (fun h => c2 (Nat.lt_of_mul_lt_mul_right h))]
theorem zkk (r p : Nat) : hlf r p = -1 ∨ hlf r p = 0 ∨ hlf r p = 1 := by unfold hlf; split <;> (try split) <;> simp
theorem zpF {z : Nat} {e : Int} (n : Nat) (h : n ≤ (dx (exN z e)).length) : ∃ c, 0 < c ∧
  MM z e (((dx (exN z e)).length : Int) - (exG e : Int) - (n : Int)) = exN z e * c ∧ DD e (((dx (exN z e)).length : Int) - (exG e : Int) - (n : Int)) = 10 ^ ((dx (exN z e)).length - n) * c := by
 refine ⟨10 ^ (-(((dx (exN z e)).length : Int) - (exG e : Int) - (n : Int))).toNat, zbv _, rfl, ?_⟩
 unfold DD
 rw [← Nat.pow_add]
 congr 1; omega
theorem qgw {N n : Nat} (hN : N ≠ 0) (h1 : 1 ≤ n) (h2 : n < (tr (dx N)).length) : ∃ (A : List UInt8) (c : UInt8) (B : List UInt8), tr (dx N) = A ++ c :: B ∧ A.length = n ∧ dx (N / 10 ^ ((dx N).length - n)) = A ∧
  hlf (N % 10 ^ ((dx N).length - n)) (10 ^ ((dx N).length - n)) = (if c.toNat < 53 then -1 else if 53 < c.toNat then 1 else if B ≠ [] then 1 else 0) ∧ N % 10 ^ ((dx N).length - n) ≠ 0 := by
 obtain ⟨j, hj⟩ := zdX (dx N)
 have hall := zcg N
 cases hd : (tr (dx N)).drop n with
 | nil =>
  have := congrArg List.length hd
  rw [List.length_drop] at this
  simp at this; omega
 | cons c B =>
  have e1 : tr (dx N) = (tr (dx N)).take n ++ c :: B := by rw [← hd, List.take_append_drop]
  have hlA : ((tr (dx N)).take n).length = n := by rw [List.length_take]; omega
  generalize hA : (tr (dx N)).take n = A at e1 hlA
  have e2 : dx N = A ++ (c :: (B ++ List.replicate j 48)) := by
   conv => lhs; rw [hj, e1]
   simp
  have e3 : (c :: (B ++ List.replicate j 48)).length = (dx N).length - n := by
   have := congrArg List.length e2
   rw [List.length_append] at this
   omega
  obtain ⟨p1, p2⟩ := zgp hN e2 (fun h => by rw [h] at hlA; simp at hlA; omega)
  rw [e3] at p1 p2
  have hR : (c :: (B ++ List.replicate j 48)).all isD = true := by rw [e2] at hall; exact (zc1 hall).2
  have hne : zl (B ++ List.replicate j 48) 0 ≠ 0 ↔ B ≠ [] := by
   rw [zhJ hall (A := A ++ [c]) (B := B ++ List.replicate j 48) (by rw [e2]; simp), e1]
   rw [List.length_append, List.length_append, List.length_singleton, List.length_cons]
   constructor
   ·intro h hB; rw [hB] at h; simp at h
   ·intro h; have := List.length_pos_iff.2 h; omega
  refine ⟨A, c, B, e1, hlA, p1, ?_, ?_⟩
  ·rw [p2, ← e3, zoW hR]
   by_cases d1 : c.toNat < 53
   ·rw [if_pos d1, if_pos d1]
   rw [if_neg d1, if_neg d1]
   by_cases d2 : 53 < c.toNat
   ·rw [if_pos d2, if_pos d2]
   rw [if_neg d2, if_neg d2]
   by_cases c1 : B = []
   ·rw [if_neg (fun h => hne.1 h c1), if_neg (fun h => h c1)]
   ·rw [if_pos (hne.2 c1), if_pos c1]
  ·rw [p2]
   exact (zhJ hall e2).2 (by rw [hlA]; exact h2)
def upS (m : Int) (s : Bool) (c : Int) (o : Bool) : Bool := if m = 4 then !s else if m = 5 then s else if m = 2 then decide (0 ≤ c) else if m = 1 then (decide (0 < c) || (decide (c = 0) && o)) else false
theorem zn3 {N n : Nat} {A : List UInt8} (h1 : 1 ≤ n) (hA : A.length = n) (h : dx (N / 10 ^ ((dx N).length - n)) = A) (hh : ∀ b r, A = b :: r → b ≠ 48) : N / 10 ^ ((dx N).length - n) ≠ 0 := by
 intro hz
 rw [hz] at h
 have : dx 0 = [48] := by decide
 rw [this] at h
 exact hh 48 [] h.symm rfl
theorem zrG {l A B : List UInt8} (e : l = A ++ B) : l.take A.length = A := by rw [e]; simp
theorem zoh {N : Nat} (hN : N ≠ 0) {A R : List UInt8} (e : tr (dx N) = A ++ R) : ∀ b r, A = b :: r → b ≠ 48 := by
 intro b r hb
 obtain ⟨b0, r0, e0, h0⟩ := zaM hN
 obtain ⟨r1, h1⟩ := zb2 e0 h0
 rw [h1, hb] at e
 rw [← (List.cons.inj e).1]; exact h0
theorem zsn {f : Int} (h : isF f) {w : Nat} (c1 : cls f w ≠ 1) (c4 : cls f w < 4) : Pn (dz f w) (we f w) := by
 have W := zdZ h c1 c4
 have hd : Dy false (D (dz f w)) (we f w) := ⟨W.my.dy.nm, fun hh => ⟨rfl, (W.my.dy.none hh).2⟩, W.my.dy.odd⟩
 have e := zfC hd
 rw [V_D, show sv false (dz f w) = ((dz f w : Nat) : Int) from rfl] at e
 have h4 := W.hi
 exact ⟨e, W.ne, W.b, W.lo, by omega⟩
theorem znq {z : Nat} {e : Int} (n : Nat) (h : n ≤ (dx (exN z e)).length) :
  MM z e (((dx (exN z e)).length : Int) - (exG e : Int) - (n : Int)) / DD e (((dx (exN z e)).length : Int) - (exG e : Int) - (n : Int)) = exN z e / 10 ^ ((dx (exN z e)).length - n) ∧
  (MM z e (((dx (exN z e)).length : Int) - (exG e : Int) - (n : Int)) % DD e (((dx (exN z e)).length : Int) - (exG e : Int) - (n : Int)) ≠ 0 ↔ exN z e % 10 ^ ((dx (exN z e)).length - n) ≠ 0) ∧
  hlf (MM z e (((dx (exN z e)).length : Int) - (exG e : Int) - (n : Int)) % DD e (((dx (exN z e)).length : Int) - (exG e : Int) - (n : Int))) (DD e (((dx (exN z e)).length : Int) - (exG e : Int) - (n : Int))) =
   hlf (exN z e % 10 ^ ((dx (exN z e)).length - n)) (10 ^ ((dx (exN z e)).length - n)) := by
 obtain ⟨c, hc, h1, h2⟩ := zpF n h
 generalize MM z e _ = M at h1 ⊢
 generalize DD e _ = K at h2 ⊢
 subst h1; subst h2
 rw [Nat.mul_div_mul_right _ _ hc, Nat.mul_mod_mul_right, zoX _ _ hc]
 refine ⟨rfl, ?_, rfl⟩
 constructor
 ·intro hh hz; exact hh (by rw [hz, Nat.zero_mul])
 ·intro hh; exact Nat.mul_ne_zero hh (by omega)
theorem zmU {q n : Nat} (h : (dx q).length ≤ n) (hn : n ≤ 7000) : (D q).length ≤ 1000 := by
 apply zc0
 have h3 := zef q
 have h4 := zV (Nat.le_of_lt h3)
 have h5 := zbF (dx q).length
 omega
theorem zqb {N n : Nat} (hN : N ≠ 0) (h1 : 1 ≤ n) (h2 : n ≤ (dx N).length) (h3 : ¬ n < (tr (dx N)).length) : tr (dx (N / 10 ^ ((dx N).length - n))) = tr (dx N) := by
 obtain ⟨j, hj⟩ := zdX (dx N)
 have hlj := congrArg List.length hj
 rw [List.length_append, List.length_replicate] at hlj
 have e2 : dx N = (tr (dx N) ++ List.replicate (n - (tr (dx N)).length) 48) ++ List.replicate ((dx N).length - n) 48 := by
  rw [List.append_assoc, List.replicate_append_replicate, show n - (tr (dx N)).length + ((dx N).length - n) = j by omega]
  exact hj
 obtain ⟨p1, p2⟩ := zgp hN e2 (by
  intro hh
  have := congrArg List.length hh
  rw [List.length_append, List.length_replicate] at this
  simp only [List.length_nil] at this
  omega)
 rw [List.length_replicate] at p1
 rw [p1, zg9, zr0]
theorem zgI {N n : Nat} (hN : N ≠ 0) (h1 : 1 ≤ n) (h2 : n ≤ (dx N).length) : (dx (N / 10 ^ ((dx N).length - n))).length = n ∧ N / 10 ^ ((dx N).length - n) ≠ 0 := by
 have e2 : dx N = (dx N).take n ++ (dx N).drop n := (List.take_append_drop n _).symm
 have hl : ((dx N).take n).length = n := by rw [List.length_take]; omega
 obtain ⟨p1, p2⟩ := zgp hN e2 (fun hh => by rw [hh] at hl; simp at hl; omega)
 rw [List.length_drop] at p1
 refine ⟨by rw [p1, hl], fun hz => ?_⟩
 obtain ⟨b, r, hb, hb0⟩ := zaM hN
 obtain ⟨t, ht⟩ := zmm hb h1
 rw [hz, ht] at p1
 have h0 : dx 0 = [48] := by decide
 rw [h0] at p1
 exact hb0 (List.cons.inj p1).1.symm
theorem zhN {q n : Nat} (h : (dx q).length = n) (hq : q ≠ 0) : (dx (q + 1)).length ≤ n + 1 ∧ n ≤ (dx (q + 1)).length := by
 have hp := zdH hq
 have k0 := zef q
 have k1 := zhM hq
 rw [h] at k0 k1 hp
 constructor
 ·apply zka _ (by omega)
  rw [Nat.pow_succ]; omega
 ·apply Nat.le_of_not_lt
  intro hlt
  have k2 := zef (q + 1)
  have k3 : 10 ^ (dx (q + 1)).length ≤ 10 ^ (n - 1) := Nat.pow_le_pow_right (by omega) (by omega)
  omega
theorem zoo {d r : List UInt8} {b : UInt8} (hd : d.all isD = true) (e : d = b :: r) (hb : b ≠ 48) : zl d 0 ≠ 0 := by
 subst e
 rw [zc9]
 have h1 := zie (zez hd).1 hb
 have hp : 0 < 10 ^ r.length := Nat.pow_pos (by omega)
 have : 1 * 10 ^ r.length ≤ (b.toNat - 48) * 10 ^ r.length := Nat.mul_le_mul_right _ (by omega)
 omega
theorem zo4 {f : Int} (h : isF f) (s : Bool) {d r : List UInt8} {b : UInt8} (hd : d.all isD = true) (e : d = b :: r) (hb : b ≠ 48) (hl : d.length ≤ 1200) {x : Int} (hx : -100000 ≤ x ∧ x ≤ 100000) (w : Int) :
  Ev (fun k => zdF.f k s (bx d) x f w) (decide ((zq f 1 s (zl d 0) (x - (d.length : Int) + 1)).1 = w)) := by
 have hz := zA d
 have e1 : tz0 d = b :: r := by
  subst e
  unfold tz0
  rw [List.dropWhile_cons, if_neg (by simpa using hb)]
 have hT := zkn hd e1
 rw [← e] at hT
 have hp := zpN (s := bx d) (by omega)
 rw [zqa hT hd (by omega)] at hp
 have hr := zof h (m := 1) (by decide) s (zoo hd e hb) (p := d.length) hl (zfr hd) (x - (d.length : Int) + 1)
 have hw : Ev (fun k => zeO.f k s (bx d) x f 1) ((zq f 1 s (zl d 0) (x - (d.length : Int) + 1)).1, (zq f 1 s (zl d 0) (x - (d.length : Int) + 1)).2, 0) := by
  unfold zeO.f
  rw [hz, w64 (n := x - (d.length : Int)) (by omega) (by omega), w64 (n := x - (d.length : Int) + 1) (by omega) (by omega)]
  exact Ev.bind hp (Ev.bind hr (Ev.now _))
 unfold zdF.f
 exact Ev.bind hw (Ev.now _)
theorem zoa {f m : Int} (h : isF f) (s : Bool) {q : Nat} (hq : q ≠ 0) (x : Int) : zq f m s (zl (tr (dx q)) 0) (x + ((dx q).length : Int) - ((tr (dx q)).length : Int)) = zq f m s q x := by
 have h1 := zop (dx q)
 have h2 := zcE (dx q)
 rw [zda] at h1
 have h3 : zl (tr (dx q)) 0 ≠ 0 := fun hz => hq (by rw [h1, hz, Nat.zero_mul])
 have := zj3 (m := m) h s h3 ((dx q).length - (tr (dx q)).length) x
 rw [← h1] at this
 rw [this]
 congr 1; omega
theorem zkp {f : Int} (h : isF f) (s : Bool) {q : Nat} (hq : q ≠ 0) (hl : (dx q).length ≤ 1200) {x : Int} (hx : -50000 ≤ x ∧ x ≤ 50000) (w : Int) :
  Ev (fun k => zdF.f k s (bx (tr (dx q))) (x + ((dx q).length : Int) - 1) f w) (decide ((zq f 1 s q x).1 = w)) := by
 obtain ⟨b, r, e, hb⟩ := zaM hq
 obtain ⟨r', e'⟩ := zb2 e hb
 have h2 := zcE (dx q)
 have := zo4 h s (zfW (zcg q)) e' hb (by omega) (x := x + ((dx q).length : Int) - 1) (by omega) w
 rw [show x + ((dx q).length : Int) - 1 - ((tr (dx q)).length : Int) + 1 = x + ((dx q).length : Int) - ((tr (dx q)).length : Int) by omega, zoa h s hq] at this
 exact this
def srt (f w : Int) (s : Bool) (N G : Nat) : Nat → Nat → List UInt8
 | 0, n => zbE s (tr (dx N)) (((dx N).length : Int) - 1 - G)
 | j + 1, n =>
  if (zq f 1 s (N / 10 ^ ((dx N).length - n)) (((dx N).length : Int) - G - n)).1 = w ∧ ¬ ((zq f 1 s (N / 10 ^ ((dx N).length - n) + 1) (((dx N).length : Int) - G - n)).1 = w ∧ upS 1 s (hlf (N % 10 ^ ((dx N).length - n)) (10 ^ ((dx N).length - n))) (decide (N / 10 ^ ((dx N).length - n) % 2 = 1)) = true) then
   zaF s (N / 10 ^ ((dx N).length - n)) (((dx N).length : Int) - G - n)
  else if (zq f 1 s (N / 10 ^ ((dx N).length - n) + 1) (((dx N).length : Int) - G - n)).1 = w then zaF s (N / 10 ^ ((dx N).length - n) + 1) (((dx N).length : Int) - G - n)
  else srt f w s N G j (n + 1)
theorem zsi {s : Bool} {c : Int} {o : Bool} : upS 1 s c o = (decide (0 < c) || (decide (c = 0) && o)) := rfl
theorem zl2 {f : Int} (h : isF f) (s : Bool) {N G : Nat} (hN : N ≠ 0) (hl : (dx N).length ≤ 800) (hg : G ≤ 1074) (w : Int) : ∀ (j n : Nat), 1 ≤ n → n + j = (tr (dx N)).length →
  Ev (fun k => zF.l0 k s (bx (tr (dx N))) (((dx N).length : Int) - 1 - G) f w (n : Int)) (bx (srt f w s N G j n), 0)
 | 0, n, h1, hj => by
  obtain ⟨b, r, e, hb⟩ := zaM hN
  obtain ⟨r', e'⟩ := zb2 e hb
  have htl := zcE (dx N)
  have hz := zA (tr (dx N))
  have hpos := zdH hN
  refine zf ?_; simp only [zF.l0]
  exact ze (by omega) (Ev.bind (zim s e' (by omega) (by omega) (by omega)) (Ev.now _))
 | j + 1, n, h1, hj => by
  obtain ⟨b, r, e, hb⟩ := zaM hN
  obtain ⟨r', e'⟩ := zb2 e hb
  have htl := zcE (dx N)
  have hz := zA (tr (dx N))
  have hpos := zdH hN
  have ih := zl2 h s hN hl hg w j (n + 1) (by omega) (by omega)
  have hct : n < (tr (dx N)).length := by omega
  obtain ⟨A, d, B, t1, t2, t3, t4, t5⟩ := qgw hN h1 hct
  have hhead := zoh hN t1
  have hq := zn3 h1 t2 t3 hhead
  have hDall := zfW (zcg N)
  have hrest := zq4 s (A := A) (B := B) (c := d) (((dx N).length : Int) - 1 - G) (by rw [← t1]; omega)
  rw [← t1, t2, ← t4] at hrest
  have hA0 : A ≠ [] := fun hh => by rw [hh] at t2; simp at t2; omega
  have hodd : zee.f s (bx (tr (dx N))) (((dx N).length : Int) - 1 - G) (n : Int) = some (decide (N / 10 ^ ((dx N).length - n) % 2 = 1)) := by
   rcases List.eq_nil_or_concat A with hh | ⟨A', c', hh⟩
   ·exact absurd hh hA0
   ·rw [List.concat_eq_append] at hh
    have := zpY s (A := A') (B := d :: B) (c := c') hDall (((dx N).length : Int) - 1 - G) (by omega) (by rw [t1, hh]; simp)
    rw [← hh] at this
    have hl2 : n = A'.length + 1 := by rw [← t2, hh]; simp
    rw [hl2, this, ← hl2, ← t3, zda]
  have htk : (tr (dx N)).take n = A := by rw [← t2]; exact zrG t1
  have hv : zl ((tr (dx N)).take n) 0 = N / 10 ^ ((dx N).length - n) := by rw [htk, ← t3, zda]
  have hmore := zpI s hDall e' hb (by omega) (x := ((dx N).length : Int) - 1 - G) (by omega) h1 (by omega)
  have hless := zph s (d := tr (dx N)) (by omega) (((dx N).length : Int) - 1 - G) (n := n) (by omega)
  rw [hv] at hmore
  rw [htk] at hless
  unfold srt
  generalize hc : hlf (N % 10 ^ ((dx N).length - n)) (10 ^ ((dx N).length - n)) = c at hrest ⊢
  have hcr : c = -1 ∨ c = 0 ∨ c = 1 := hc ▸ zkk _ _
  generalize hqq : N / 10 ^ ((dx N).length - n) = q at hmore hodd hq t3 ⊢
  have hlq : (dx q).length = n := by rw [t3, t2]
  obtain ⟨u1, u2⟩ := zhN hlq hq
  have exx : ((dx N).length : Int) - 1 - G = ((dx N).length : Int) - G - n + ((dx q).length : Int) - 1 := by rw [hlq]; omega
  have exu : ((dx N).length : Int) - 1 - G + ((dx (q + 1)).length : Int) - n = ((dx N).length : Int) - G - n + ((dx (q + 1)).length : Int) - 1 := by omega
  rw [exu] at hmore
  rw [← t3] at hless
  have i1 := zkp h s hq (by omega) (x := ((dx N).length : Int) - G - n) (by omega) w
  rw [← exx] at i1
  have i2 := zkp h s (q := q + 1) (Nat.succ_ne_zero q) (by omega) (x := ((dx N).length : Int) - G - n) (by omega) w
  have hp1 : Ev (fun k => zap.f k s (bx (tr (dx q))) (((dx N).length : Int) - 1 - G)) (bx (zaF s q (((dx N).length : Int) - G - n))) := by
   obtain ⟨b2, r2, e2, hb2⟩ := zaM hq
   obtain ⟨r3, e3⟩ := zb2 e2 hb2
   have hl3 := zcE (dx q)
   have := zim s e3 (x := ((dx N).length : Int) - 1 - G) (by omega) (by omega) (by omega)
   unfold zaF
   rw [← exx]
   exact this
  have hp2 : Ev (fun k => zap.f k s (bx (tr (dx (q + 1)))) (((dx N).length : Int) - G - n + ((dx (q + 1)).length : Int) - 1)) (bx (zaF s (q + 1) (((dx N).length : Int) - G - n))) := by
   obtain ⟨b2, r2, e2, hb2⟩ := zaM (n := q + 1) (Nat.succ_ne_zero q)
   obtain ⟨r3, e3⟩ := zb2 e2 hb2
   have hl3 := zcE (dx (q + 1))
   exact zim s e3 (by omega) (by omega) (by omega)
  generalize hx : ((dx N).length : Int) - G - n + ((dx (q + 1)).length : Int) - 1 = xu at hmore i2 hp2
  generalize hP : ((dx N).length : Int) - 1 - G = P at *
  have j5 : ∀ (a b : Bool) {r : ByteArray}, (a = true → r = bx (zaF s q (((dx N).length : Int) - G - n))) → (a = false → b = true → r = bx (zaF s (q + 1) (((dx N).length : Int) - G - n))) →
    (a = false → b = false → r = bx (srt f w s N G j (n + 1))) →
    Ev (fun k => zF.j5 k s (bx (tr (dx N))) P f w (n : Int) s (bx (tr (dx q))) P s (bx (tr (dx (q + 1)))) xu a b) (r, 0) := by
   intro a b r ha hb' hc'
   refine zf ?_; simp only [zF.j5]
   cases a with
   | true => rw [ha rfl]; exact zd rfl (Ev.bind hp1 (Ev.now _))
   | false =>
    refine ze (by simp) ?_
    cases b with
    | true => rw [hb' rfl rfl]; exact zd rfl (Ev.bind hp2 (Ev.now _))
    | false =>
     rw [hc' rfl rfl, w64 (n := (n : Int) + 1) (by omega) (by omega)]
     exact ze (by simp) ih
  refine zf ?_; simp only [zF.l0]
  refine zd (by omega) (Ev.bind hless (Ev.bind hmore (Ev.bind i1 (Ev.bind i2 ?_))))
  dsimp only
  by_cases ca : (zq f 1 s q (((dx N).length : Int) - G - n)).1 = w
  ·rw [decide_eq_true ca]
   refine zd rfl ?_
   by_cases cb : (zq f 1 s (q + 1) (((dx N).length : Int) - G - n)).1 = w
   ·rw [decide_eq_true cb]
    refine zf ?_; simp only [zF.j3]
    refine zd trivial (zi hrest ?_)
    rw [zsi]
    rcases hcr with rfl | rfl | rfl
    ·refine zd (by decide) (j5 _ _ (fun _ => ?_) (fun hh => by cases hh) (fun hh => by cases hh))
     rw [if_pos ⟨ca, fun hh => by revert hh; simp⟩]
    ·generalize decide (q % 2 = 1) = o at hodd ⊢
     refine ze (by decide) (zd rfl (zi hodd ?_))
     cases o with
     | false => exact j5 _ _ (fun _ => by rw [if_pos ⟨ca, fun hh => absurd hh.2 (by decide)⟩]) (fun hh => by cases hh) (fun hh => by cases hh)
     | true => exact j5 _ _ (fun hh => by cases hh) (fun _ _ => by rw [if_neg (fun hh => hh.2 ⟨cb, by decide⟩), if_pos cb]) (fun _ hh => by cases hh)
    ·refine ze (by decide) (ze (by decide) (j5 _ _ (fun hh => by cases hh) (fun _ _ => ?_) (fun _ hh => by cases hh)))
     rw [if_neg (fun hh2 => hh2.2 ⟨cb, by simp⟩), if_pos cb]
   ·rw [decide_eq_false cb]
    refine zf ?_; simp only [zF.j3]
    refine ze (by simp) (j5 _ _ (fun _ => ?_) (fun hh => by cases hh) (fun hh => by cases hh))
    rw [if_pos ⟨ca, fun hh => cb hh.1⟩]
  ·rw [decide_eq_false ca]
   refine ze (by simp) ?_
   refine zf ?_; simp only [zF.j3]
   refine ze (by simp) (j5 _ _ (fun hh => by cases hh) (fun _ hh => ?_) (fun _ hh => ?_))
   ·rw [if_neg (fun hh2 => ca hh2.1), if_pos (of_decide_eq_true hh)]
   ·rw [if_neg (fun hh2 => ca hh2.1), if_neg (of_decide_eq_false hh)]
def soS (f : Int) (w : Nat) : List UInt8 := if zaN f w = true then nmT f w else srt f (w : Int) (zk f w) (nN f w) (nG f w) ((tr (dx (nN f w))).length - 1) 1
theorem zji {f : Int} (h : isF f) {w : Nat} (hw : w < 2 * sg f) : Ev (fun k => zF.f k f (w : Int)) (bx (soS f w), 0) := by
 unfold zF.f soS
 refine Ev.bind (zpM h hw) ?_
 by_cases hn : zaN f w = true
 ·rw [if_pos hn]
  refine zd hn ?_
  refine zf ?_; simp only [zF.j0]
  exact zd trivial (Ev.now _)
 ·rw [if_neg hn]
  obtain ⟨c5, c4, c1⟩ := zgt (by simpa using hn)
  have hf := zgs h c5 c4
  obtain ⟨hN, hl, hg⟩ := zfI h c1 hf
  obtain ⟨b, r, e, hb⟩ := zaM hN
  obtain ⟨r', e'⟩ := zb2 e hb
  have hp : 1 ≤ (tr (dx (nN f w))).length := by rw [e']; simp
  refine ze hn ?_
  rw [show decide (¬ (0 : Int) = 0) = false from rfl]
  refine zf ?_; simp only [zF.j0]
  refine ze (by simp) (Ev.bind (zoc h hw c1 hf) ?_)
  exact zl2 h (zk f w) hN hl hg (w : Int) ((tr (dx (nN f w))).length - 1) 1 (by omega) (by omega)
theorem zn9 {f : Int} (h : isF f) (s : Bool) (n : Nat) (x : Int) : (zq f 1 s n x).1 = (zq f 1 false n x).1 + (sgn f s : Nat) := zri h s 0
theorem zgZ {f : Int} (h : isF f) {w : Nat} (hw : w < 2 * sg f) (n : Nat) (x : Int) : (zq f 1 (zk f w) n x).1 = (w : Int) ↔ (zq f 1 false n x).1 = ((w % sg f : Nat) : Int) := by
 have h1 := zn9 h (zk f w) n x
 have h2 := zi9 h hw
 omega
theorem zoF {f : Int} (h : isF f) {w : Nat} (hw : w < 2 * sg f) (c1 : cls f w ≠ 1) (c4 : cls f w < 4) : (zq f 1 false (nN f w) (-(nG f w : Int))).1 = ((w % sg f : Nat) : Int) := by
 have W := zdZ h c1 c4
 have h1 := zlL h (m := 1) hw c1 c4
 rw [W.eq, V_D] at h1
 have h2 := zjZ (m := 1) h (zk f w) W.ne (we f w)
 rw [h1] at h2
 exact (zgZ h hw _ _).1 (by rw [show nN f w = exN (dz f w) (we f w) from rfl, show nG f w = exG (we f w) from rfl, h2])
theorem zpt {q n : Nat} (h : q < 10 ^ n) : q + 1 < 10 ^ (n + 1) := by rw [Nat.pow_succ]; omega
theorem zlP (s : Bool) (l : List Int) (e0 : Int) {q : Nat} (hq : q ≠ 0) {n : Nat} (hl : (dx q).length ≤ n + 1) (hn : n ≤ 900) {x : Int} (h1 : -1099 < x + (n : Int) - 1) (h2 : x + (n : Int) - 1 < 1000) (h3 : n ≤ (dx q).length) : Ev (fun k => zp.j7 k s l e0 x (D q)) (bx (zaF s q x)) := by
 refine zf ?_; simp only [zp.j7]
 exact Ev.bind (zrl s hq (by omega) (by omega) (by omega)) (Ev.now _)
theorem zlQ {f : Int} (h : isF f) {w : Nat} (hw : w < 2 * sg f) {z : Nat} {e : Int} (P : Pn z e) (hl : (dx (exN z e)).length ≤ 800) (hg : exG e ≤ 1074) (hex : (zq f 1 false (exN z e) (-(exG e : Int))).1 = ((w % sg f : Nat) : Int)) : ∀ (j n : Nat), 1 ≤ n → n + j = (tr (dx (exN z e))).length →
  Ev (fun k => zp.l0 k f (zk f w) (D z) e false (D z) e ((w % sg f : Nat) : Int) (((dx (exN z e)).length : Int) - 1 - (exG e : Int)) (n : Int)) (bx (srt f (w : Int) (zk f w) (exN z e) (exG e) j n)) := by
 intro j n h1 hj
 have hN := zcu P.ne e
 have hpos := zdH hN
 have htl := zcE (dx (exN z e))
 have hx : wrap64 (wrap64 (((dx (exN z e)).length : Int) - 1 - (exG e : Int) - (n : Int)) + 1) = ((dx (exN z e)).length : Int) - (exG e : Int) - (n : Int) := by
  rw [w64 (n := ((dx (exN z e)).length : Int) - 1 - (exG e : Int) - (n : Int)) (by omega) (by omega), w64 (by omega) (by omega)]; omega
 have hB := zmQ P (x := ((dx (exN z e)).length : Int) - (exG e : Int) - (n : Int)) (by omega) (by omega)
 have hH := zoS P (x := ((dx (exN z e)).length : Int) - (exG e : Int) - (n : Int)) (by omega) (by omega)
 obtain ⟨b1, b2, b3⟩ := znq (z := z) (e := e) n (by omega)
 obtain ⟨q1, q2⟩ := zgI hN h1 (by omega)
 obtain ⟨u1, u2⟩ := zhN q1 q2
 have hlq := zmU (Nat.le_of_eq q1) (by omega)
 rw [b1] at hH hB
 have hH' := hH hlq
 rw [b3] at hH'
 clear hH
 have ha := zfM (zM (exN z e / 10 ^ ((dx (exN z e)).length - n))) (zM 1) (by omega) (by rw [zdt]; simp)
 rw [V_D, V_D, zdt] at ha
 have d1 := zjc h (m := 1) (by decide) false q2 (p := n) (by omega) (by have := zef (exN z e / 10 ^ ((dx (exN z e)).length - n)); rw [q1] at this; exact this) (((dx (exN z e)).length : Int) - (exG e : Int) - (n : Int))
 have d2 := zjc h (m := 1) (by decide) false (n := exN z e / 10 ^ ((dx (exN z e)).length - n) + 1) (Nat.succ_ne_zero _) (p := n + 1) (by omega) (by
  have := zef (exN z e / 10 ^ ((dx (exN z e)).length - n)); rw [q1] at this
  exact zpt this) (((dx (exN z e)).length : Int) - (exG e : Int) - (n : Int))
 have hbit := zgS (zM (exN z e / 10 ^ ((dx (exN z e)).length - n))) (by omega) 0 (by omega)
 rw [V_D, Nat.pow_zero, Nat.div_one] at hbit
 have hDne : decide (((D (exN z e / 10 ^ ((dx (exN z e)).length - n))).length : Int) > 0) = true := by
  apply decide_eq_true
  have := zbW (exN z e / 10 ^ ((dx (exN z e)).length - n))
  rcases Nat.eq_zero_or_pos (D (exN z e / 10 ^ ((dx (exN z e)).length - n))).length with hh | hh
  ·rw [hh, Nat.pow_zero] at this; exact absurd (Nat.lt_one_iff.1 this) q2
  ·omega
 have hgo : ∀ {r : ByteArray}, (∀ (lost : Bool), decide (MM z e (((dx (exN z e)).length : Int) - (exG e : Int) - (n : Int)) % DD e (((dx (exN z e)).length : Int) - (exG e : Int) - (n : Int)) ≠ 0) = lost →
   Ev (fun k => zp.j2 k f (zk f w) (D z) e false (D z) e ((w % sg f : Nat) : Int) (((dx (exN z e)).length : Int) - 1 - (exG e : Int)) (n : Int) (((dx (exN z e)).length : Int) - (exG e : Int) - (n : Int)) (D (exN z e / 10 ^ ((dx (exN z e)).length - n))) (D (exN z e / 10 ^ ((dx (exN z e)).length - n) + 1))
    (decide ((zq f 1 false (exN z e / 10 ^ ((dx (exN z e)).length - n)) (((dx (exN z e)).length : Int) - (exG e : Int) - (n : Int))).1 = ((w % sg f : Nat) : Int)))
    (decide ((zq f 1 false (exN z e / 10 ^ ((dx (exN z e)).length - n) + 1) (((dx (exN z e)).length : Int) - (exG e : Int) - (n : Int))).1 = ((w % sg f : Nat) : Int)) && lost)) r) →
   Ev (fun k => zp.l0 k f (zk f w) (D z) e false (D z) e ((w % sg f : Nat) : Int) (((dx (exN z e)).length : Int) - 1 - (exG e : Int)) (n : Int)) r := by
  intro r hr
  have hr := hr _ rfl
  generalize decide (MM z e _ % DD e _ ≠ 0) = lost at hr hB
  refine zf ?_; simp only [zp.l0]
  rw [hx]
  refine Ev.bind hB (Ev.bind ha (Ev.bind d1 (Ev.bind d2 ?_)))
  dsimp only
  rw [hDne]
  have j1 : ∀ a : Bool, decide ((zq f 1 false (exN z e / 10 ^ ((dx (exN z e)).length - n)) (((dx (exN z e)).length : Int) - (exG e : Int) - (n : Int))).1 = ((w % sg f : Nat) : Int)) = a →
    Ev (fun k => zp.j1 k f (zk f w) (D z) e false (D z) e ((w % sg f : Nat) : Int) (((dx (exN z e)).length : Int) - 1 - (exG e : Int)) (n : Int) (((dx (exN z e)).length : Int) - (exG e : Int) - (n : Int)) (D (exN z e / 10 ^ ((dx (exN z e)).length - n))) lost (D (exN z e / 10 ^ ((dx (exN z e)).length - n) + 1)) (zq f 1 false (exN z e / 10 ^ ((dx (exN z e)).length - n) + 1) (((dx (exN z e)).length : Int) - (exG e : Int) - (n : Int))).1 a) r := by
   intro a ha
   rw [ha] at hr
   refine zf ?_; simp only [zp.j1]
   by_cases cb : (zq f 1 false (exN z e / 10 ^ ((dx (exN z e)).length - n) + 1) (((dx (exN z e)).length : Int) - (exG e : Int) - (n : Int))).1 = ((w % sg f : Nat) : Int)
   ·rw [decide_eq_true cb, Bool.true_and] at hr
    exact zd cb hr
   ·rw [decide_eq_false cb, Bool.false_and] at hr
    exact ze cb hr
  by_cases ca : (zq f 1 false (exN z e / 10 ^ ((dx (exN z e)).length - n)) (((dx (exN z e)).length : Int) - (exG e : Int) - (n : Int))).1 = ((w % sg f : Nat) : Int)
  ·exact zd ca (j1 true (decide_eq_true ca))
  ·exact ze ca (j1 false (decide_eq_false ca))
 clear hB d1 d2 ha
 have t1 : Ev (fun k => zp.j7 k (zk f w) (D z) e (((dx (exN z e)).length : Int) - (exG e : Int) - (n : Int)) (D (exN z e / 10 ^ ((dx (exN z e)).length - n)))) (bx (zaF (zk f w) (exN z e / 10 ^ ((dx (exN z e)).length - n)) (((dx (exN z e)).length : Int) - (exG e : Int) - (n : Int)))) := zlP _ _ _ q2 (n := n) (by omega) (by omega) (by omega) (by omega) (by omega)
 have t2 : Ev (fun k => zp.j7 k (zk f w) (D z) e (((dx (exN z e)).length : Int) - (exG e : Int) - (n : Int)) (D (exN z e / 10 ^ ((dx (exN z e)).length - n) + 1))) (bx (zaF (zk f w) (exN z e / 10 ^ ((dx (exN z e)).length - n) + 1) (((dx (exN z e)).length : Int) - (exG e : Int) - (n : Int)))) := zlP _ _ _ (Nat.succ_ne_zero _) (n := n) (by omega) (by omega) (by omega) (by omega) (by omega)
 have j6 : ∀ (u : Bool), Ev (fun k => zp.j6 k (zk f w) (D z) e (((dx (exN z e)).length : Int) - (exG e : Int) - (n : Int)) (D (exN z e / 10 ^ ((dx (exN z e)).length - n))) (D (exN z e / 10 ^ ((dx (exN z e)).length - n) + 1)) u) (bx (if u = true then zaF (zk f w) (exN z e / 10 ^ ((dx (exN z e)).length - n) + 1) (((dx (exN z e)).length : Int) - (exG e : Int) - (n : Int)) else zaF (zk f w) (exN z e / 10 ^ ((dx (exN z e)).length - n)) (((dx (exN z e)).length : Int) - (exG e : Int) - (n : Int)))) := by
  intro u
  refine zf ?_; simp only [zp.j6]
  cases u with
  | true => exact zd rfl t2
  | false => exact ze (by simp) t1
 match j, hj with
 | 0, hj =>
  have hz : exN z e % 10 ^ ((dx (exN z e)).length - n) = 0 := by
   have hd := (zgp hN (List.take_append_drop n (dx (exN z e))).symm (fun hh => by
    have := congrArg List.length hh
    rw [List.length_take] at this
    simp only [List.length_nil] at this; omega)).2
   rw [List.length_drop] at hd
   rw [hd]
   have hdd := zhJ (zcg (exN z e)) (List.take_append_drop n (dx (exN z e))).symm
   rw [List.length_take] at hdd
   by_cases hx : zl ((dx (exN z e)).drop n) 0 = 0
   ·exact hx
   ·exact absurd (hdd.1 hx) (by omega)
  have hlow : (zq f 1 false (exN z e / 10 ^ ((dx (exN z e)).length - n)) (((dx (exN z e)).length : Int) - (exG e : Int) - (n : Int))).1 = ((w % sg f : Nat) : Int) := by
   have hsh := zj3 (m := 1) h false q2 ((dx (exN z e)).length - n) (-(exG e : Int))
   rw [Nat.div_mul_cancel (Nat.dvd_of_mod_eq_zero hz)] at hsh
   rw [show ((dx (exN z e)).length : Int) - (exG e : Int) - (n : Int) = -(exG e : Int) + (((dx (exN z e)).length - n : Nat) : Int) by omega, ← hsh, hex]
  refine hgo fun lost hlost => ?_
  have : lost = false := by rw [← hlost]; exact decide_eq_false (fun hh => b2.1 hh hz)
  subst this
  rw [decide_eq_true hlow, Bool.and_false]
  have hfin := j6 false
  rw [if_neg (by simp)] at hfin
  have hres : srt f (w : Int) (zk f w) (exN z e) (exG e) 0 n = zaF (zk f w) (exN z e / 10 ^ ((dx (exN z e)).length - n)) (((dx (exN z e)).length : Int) - (exG e : Int) - (n : Int)) := by
   unfold srt zaF
   rw [q1, zqb hN h1 (by omega) (by omega), show ((dx (exN z e)).length : Int) - (exG e : Int) - (n : Int) + (n : Int) - 1 = ((dx (exN z e)).length : Int) - 1 - (exG e : Int) by omega]
  rw [hres]
  refine zf ?_; simp only [zp.j2]
  refine ze (by simp) (zd trivial ?_)
  refine zf ?_; simp only [zp.j5]
  exact ze (by simp) hfin
 | j + 1, hj =>
  have ih := zlQ h hw P hl hg hex j (n + 1) (by omega) (by omega)
  have ct : n < (tr (dx (exN z e))).length := by omega
  have hne := (b2.2 (by
   obtain ⟨_, _, _, _, _, _, _, hh⟩ := qgw hN h1 ct
   exact hh))
  refine hgo fun lost hlost => ?_
  have : lost = true := by rw [← hlost]; exact decide_eq_true hne
  subst this
  rw [Bool.and_true]
  have s1 := zgZ h hw (exN z e / 10 ^ ((dx (exN z e)).length - n)) (((dx (exN z e)).length : Int) - (exG e : Int) - (n : Int))
  have s2 := zgZ h hw (exN z e / 10 ^ ((dx (exN z e)).length - n) + 1) (((dx (exN z e)).length : Int) - (exG e : Int) - (n : Int))
  unfold srt
  have hcr := zkk (exN z e % 10 ^ ((dx (exN z e)).length - n)) (10 ^ ((dx (exN z e)).length - n))
  generalize hlf (exN z e % 10 ^ ((dx (exN z e)).length - n)) (10 ^ ((dx (exN z e)).length - n)) = c at hH' hcr ⊢
  rw [decide_eq_decide.2 s1.symm, decide_eq_decide.2 s2.symm]
  by_cases ca : (zq f 1 (zk f w) (exN z e / 10 ^ ((dx (exN z e)).length - n)) (((dx (exN z e)).length : Int) - (exG e : Int) - (n : Int))).1 = (w : Int)
  ·rw [decide_eq_true ca]
   by_cases cb : (zq f 1 (zk f w) (exN z e / 10 ^ ((dx (exN z e)).length - n) + 1) (((dx (exN z e)).length : Int) - (exG e : Int) - (n : Int))).1 = (w : Int)
   ·rw [decide_eq_true cb]
    refine zf ?_; simp only [zp.j2]
    refine ze (by simp) (zd trivial ?_)
    refine zf ?_; simp only [zp.j5]
    refine zd trivial (Ev.bind hH' ?_)
    rcases hcr with rfl | rfl | rfl
    ·have := j6 false
     rw [if_neg (by simp)] at this
     rw [if_pos ⟨ca, fun hh => absurd hh.2 (by simp [upS])⟩]
     exact ze (by decide) (ze (by decide) this)
    ·refine ze (by decide) (zd rfl (zi hbit ?_))
     have e0 : decide (((exN z e / 10 ^ ((dx (exN z e)).length - n) % 2 : Nat) : Int) = 1) = decide (exN z e / 10 ^ ((dx (exN z e)).length - n) % 2 = 1) := decide_eq_decide.2 (by omega)
     rw [e0]
     generalize decide (exN z e / 10 ^ ((dx (exN z e)).length - n) % 2 = 1) = o
     have := j6 o
     cases o with
     | false =>
      rw [if_neg (by simp)] at this
      rw [if_pos ⟨ca, fun hh => absurd hh.2 (by simp [upS])⟩]
      exact this
     | true =>
      rw [if_pos rfl] at this
      rw [if_neg (fun hh => hh.2 ⟨cb, by simp [upS]⟩), if_pos cb]
      exact this
    ·have := j6 true
     rw [if_pos rfl] at this
     rw [if_neg (fun hh => hh.2 ⟨cb, by simp [upS]⟩), if_pos cb]
     exact zd (by decide) this
   ·rw [decide_eq_false cb]
    have := j6 false
    rw [if_neg (by simp)] at this
    rw [if_pos ⟨ca, fun hh => cb hh.1⟩]
    refine zf ?_; simp only [zp.j2]
    refine ze (by simp) (zd trivial ?_)
    refine zf ?_; simp only [zp.j5]
    exact ze (by simp) this
  ·rw [decide_eq_false ca, if_neg (fun hh => ca hh.1)]
   by_cases cb : (zq f 1 (zk f w) (exN z e / 10 ^ ((dx (exN z e)).length - n) + 1) (((dx (exN z e)).length : Int) - (exG e : Int) - (n : Int))).1 = (w : Int)
   ·rw [decide_eq_true cb, if_pos cb]
    have := j6 true
    rw [if_pos rfl] at this
    refine zf ?_; simp only [zp.j2]
    refine zd rfl (ze (by simp) (ze (by simp) ?_))
    refine zf ?_; simp only [zp.j5]
    exact ze (by simp) this
   ·rw [decide_eq_false cb, if_neg cb]
    refine zf ?_; simp only [zp.j2]
    refine zd rfl (zd rfl ?_)
    rw [w64 (n := (n : Int) + 1) (by omega) (by omega)]
    exact ih
termination_by j => j
theorem zlr {f : Int} (h : isF f) {w : Nat} (hw : w < 2 * sg f) : Ev (fun k => zp.f k f (w : Int)) (bx (soS f w)) := by
 unfold zp.f soS
 refine Ev.bind (zqC h w) ?_
 by_cases hnm : zaN f w = true
 ·rw [if_pos hnm]
  exact zd hnm (Ev.now _)
 rw [if_neg hnm]
 obtain ⟨c5, c4, c1⟩ := zgt (by simpa using hnm)
 have hf := zgs h c5 c4
 have P := zsn h c1 hf
 obtain ⟨hN, hl, hg⟩ := zfI h c1 hf
 have hex := zoF h hw c1 hf
 obtain ⟨b, r, e, hb⟩ := zaM hN
 obtain ⟨r', e'⟩ := zb2 e hb
 have hp : 1 ≤ (tr (dx (nN f w))).length := by rw [e']; simp
 have hsg := ziz h w false
 rw [show sgn f false = 0 from rfl, Nat.add_zero] at hsg
 refine ze hnm (Ev.bind (zrn h c1 hf) (zi (a := (false, D (dz f w), we f w)) rfl (zi hsg (Ev.bind (zm1 P) ?_))))
 exact zlQ h hw P hl hg hex _ 1 (by omega) (by show 1 + ((tr (dx (nN f w))).length - 1) = (tr (dx (nN f w))).length; omega)
theorem zhB {f : Int} {w : Nat} (c5 : cls f w ≠ 5) : zb7 f w = w := by unfold zb7; rw [if_neg c5]
theorem zod {f m : Int} (h : isF f) {w : Nat} (hw : w < 2 * sg f) (c1 : cls f w ≠ 1) (c4 : cls f w < 4) : zq f m (zk f w) (nN f w) (-(nG f w : Int)) = ((w : Int), 0) := by
 have W := zdZ h c1 c4
 have h1 := zlL h (m := m) hw c1 c4
 rw [W.eq, V_D] at h1
 have h2 := zjZ (m := m) h (zk f w) W.ne (we f w)
 rw [h1] at h2
 exact h2
theorem znX {f : Int} (h : isF f) {w : Nat} (c1 : cls f w ≠ 1) (c4 : cls f w < 4) : zb8 f 1 false (zm f w) (wex f w) = w % sg f := by
 obtain ⟨b1, b2, b3⟩ := zmN h c1 c4
 have e := congrArg Prod.fst (zlJ (m := 1) h false (zeG h c1 c4) b1 b2 b3)
 rw [zeY, zkd h c1 c4] at e
 dsimp only at e
 omega
theorem zrp {f : Int} {a b : Nat} (e : a % sg f = b % sg f) : zm f a = zm f b ∧ wex f a = wex f b := by
 have e1 : zB f a = zB f b := by unfold zB; rw [e]
 have e2 : zU f a = zU f b := by unfold zU; rw [e]
 unfold zm wex
 rw [e1, e2]
 exact ⟨rfl, rfl⟩
def dg (t : List UInt8) : List UInt8 := (t.takeWhile (· != 101)).filter isD
theorem zqr (B : List UInt8) : zdn.f (bx B) (⟨#[45]⟩ : ByteArray) = some (decide (B.head? = some 45)) := by
 rw [zro]
 congr 1
 apply decide_eq_decide.2
 show (tl (bx B)).take 1 = [45] ↔ _
 rw [zcm]
 cases B with
 | nil => simp
 | cons x r => simp
open Go.RowKit Go.Proofs Go.Proofs.YtnkpmjhlkmlmbaaGreatDoor.Eng
set_option maxRecDepth 100000
theorem znJ (k : Nat) : zaH.f (k + 140) 1 1069547520 3221225472 = some ((⟨#[49, 46, 53, 45, 50, 105]⟩ : ByteArray), 0) := by kernel_rfl
theorem znK (k : Nat) : zc6.f (k + 60) 1 1 (⟨#[49, 101, 43, 50, 105]⟩ : ByteArray) = some (0, 1120403456, 0, 0, 0) := by kernel_rfl
theorem znL : Ev (fun k => zdz.f k) true := by
 unfold zdz.f
 refine Ev.bind (zke znJ) (Ev.bind (zke znK) ?_)
 exact zd rfl (zd rfl (zd rfl (zh (Ev.now _) (by simp))))
theorem zhD : Ev (fun k => (zdz.f k).bind fun t => some t) true := Ev.bind znL (Ev.now _)
theorem zlH (s : Bool) {Q k : Nat} (hQ : 1 ≤ Q) (hk : 2 ≤ k) : rnd 1 s (Q * 2 ^ k - 1) k = Q := by
 have hp : 4 ≤ 2 ^ k := by
  have : 2 ^ 2 ≤ 2 ^ k := Nat.pow_le_pow_right (by omega) hk
  omega
 obtain ⟨q, rfl⟩ : ∃ q, Q = q + 1 := ⟨Q - 1, by omega⟩
 unfold rnd
 generalize 2 ^ k = p at *
 have e : (q + 1) * p - 1 = (p - 1) + q * p := by rw [Nat.add_mul]; omega
 have h1 : ((q + 1) * p - 1) / p = q := by
  rw [e, Nat.add_mul_div_right _ _ (by omega), Nat.div_eq_of_lt (by omega)]; omega
 have h2 : ((q + 1) * p - 1) % p = p - 1 := by
  rw [e, Nat.add_mul_mod_self_right, Nat.mod_eq_of_lt (by omega)]
 have h3 : 2 * (p - 1) % p = p - 2 := by
  rw [Nat.mod_eq_sub_mod (by omega), Nat.mod_eq_of_lt (by omega)]; omega
 rw [h1, h2, h3]
 unfold upB
 rw [if_pos rfl, decide_eq_true (show p ≤ 2 * (p - 1) by omega), decide_eq_true (show p - 2 ≠ 0 by omega)]
 simp
theorem zoT {a b z : Nat} (h : a ≤ b) (ha : 0 < a) (hz : 0 < z) : a * z ≤ b * (z * 2) - 1 := by
 have h1 : a * z ≤ b * z := Nat.mul_le_mul_right _ h
 have h2 : 1 * 1 ≤ a * z := Nat.mul_le_mul ha hz
 rw [← Nat.mul_assoc]
 omega
theorem znU {f : Int} (h : isF f) (s : Bool) {M : Nat} {u : Int} (hM : M ≠ 0) (hp : M < 2 ^ pr f) (hu : lo f ≤ u) (hn : u = lo f ∨ 2 ^ fb f ≤ M) :
  zby f 1 s (M * 2 ^ 64 - 1) (u - 64) = (u - lo f).toNat * 2 ^ fb f + M := by
 have hpr := zL h
 have p64 := zj 64
 have hM1 : 1 * 2 ^ 64 ≤ M * 2 ^ 64 := Nat.mul_le_mul_right _ (by omega)
 have hne : M * 2 ^ 64 - 1 ≠ 0 := by omega
 have b1 : bl (M * 2 ^ 64 - 1) ≤ pr f + 64 := by
  apply zI
  rw [Nat.pow_add]
  have : M * 2 ^ 64 ≤ 2 ^ pr f * 2 ^ 64 := Nat.mul_le_mul_right _ (by omega)
  omega
 obtain ⟨b, hb⟩ : ∃ b, b = bl (M * 2 ^ 64 - 1) := ⟨_, rfl⟩
 have A : zg f (M * 2 ^ 64 - 1) (u - 64) = u → zby f 1 s (M * 2 ^ 64 - 1) (u - 64) = (u - lo f).toNat * 2 ^ fb f + M := by
  intro hU
  unfold zby R
  rw [hU, show (u - 64 - u).toNat = 0 by omega, show (u - (u - 64)).toNat = 64 by omega, Nat.pow_zero, Nat.mul_one, zlH s (by omega) (by omega)]
 by_cases cu : u = lo f
 ·refine A ?_
  unfold zg
  omega
 have hfb := hn.resolve_left cu
 have hbM : pr f ≤ bl M := by
  have h1 := zV hfb
  have h2 := zaj (v := 1) (by omega) (fb f)
  rw [Nat.one_mul, show bl 1 = 1 by decide] at h2
  omega
 have b2 : pr f + 63 ≤ bl (M * 2 ^ 64 - 1) := by
  have h1 : 2 ^ fb f * 2 ^ 63 ≤ M * 2 ^ 64 - 1 := by
   rw [Nat.pow_succ 2 63]
   exact zoT hfb (zj _) (zj _)
  have h2 := zV h1
  have h3 := zaj (v := 1) (by omega) (fb f + 63)
  rw [Nat.one_mul, show bl 1 = 1 by decide, Nat.pow_add] at h3
  omega
 by_cases cb : bl (M * 2 ^ 64 - 1) = pr f + 64
 ·refine A ?_
  unfold zg
  rw [cb]
  omega
 have cb : bl (M * 2 ^ 64 - 1) = pr f + 63 := by omega
 have hU : zg f (M * 2 ^ 64 - 1) (u - 64) = u - 1 := by
  unfold zg
  rw [cb]
  omega
 have hMe : M = 2 ^ fb f := by
  have h1 := zP (M * 2 ^ 64 - 1)
  rw [cb, hpr, show fb f + 1 + 63 = fb f + 64 by omega, Nat.pow_add] at h1
  have h2 : M * 2 ^ 64 < (2 ^ fb f + 1) * 2 ^ 64 := by rw [Nat.add_mul]; omega
  have h3 := Nat.lt_of_mul_lt_mul_right h2
  omega
 unfold zby R
 rw [hU, show (u - 64 - (u - 1)).toNat = 0 by omega, show (u - 1 - (u - 64)).toNat = 63 by omega, Nat.pow_zero, Nat.mul_one, show M * 2 ^ 64 = M * 2 * 2 ^ 63 by rw [Nat.mul_assoc], zlH s (by omega) (by omega)]
 have h4 : (u - lo f).toNat = (u - 1 - lo f).toNat + 1 := by omega
 rw [h4, Nat.add_mul, ← hMe]
 omega
theorem znV {f : Int} (h : isF f) (s : Bool) {M : Nat} {u : Int} (hM : M ≠ 0) (hp : M < 2 ^ pr f) (hu : lo f ≤ u) (hn : u = lo f ∨ 2 ^ fb f ≤ M) :
  zby f 1 s M u = (u - lo f).toNat * 2 ^ fb f + M := by
 have hpr := zL h
 have hb : bl M ≤ pr f := zI hp
 have hU : zg f M u = u := by
  unfold zg
  rcases hn with hn | hn
  ·omega
  ·have h1 := zV hn
   have h2 := zaj (v := 1) (by omega) (fb f)
   rw [Nat.one_mul, show bl 1 = 1 by decide] at h2
   omega
 unfold zby R
 rw [hU, show (u - u).toNat = 0 by omega, Nat.pow_zero, Nat.mul_one]
 congr 1
 unfold rnd
 rw [Nat.pow_zero, Nat.div_one, Nat.mod_one]
 unfold upB
 simp
theorem zpV {f : Int} (h : isF f) (s : Bool) {w : Nat} (c1 : cls f w ≠ 1) (c4 : cls f w < 4) : zb8 f 1 s (zm f w * 2 ^ 64 - 1) (wex f w - 64) = w % sg f := by
 have hM := zeG h c1 c4
 have hp : zm f w < 2 ^ pr f := Nat.lt_of_lt_of_le (zP _) (Nat.pow_le_pow_right (by omega) (zf0 h w))
 have hu : lo f ≤ wex f w := by unfold wex; split <;> omega
 have hn : wex f w = lo f ∨ 2 ^ fb f ≤ zm f w := by
  unfold wex zm
  by_cases c : zB f w = 0
  ·left; rw [if_pos c]; omega
  ·right; rw [if_neg c]; omega
 have hne : zm f w * 2 ^ 64 - 1 ≠ 0 := by
  have : 1 * 2 ^ 64 ≤ zm f w * 2 ^ 64 := Nat.mul_le_mul_right _ (by omega)
  omega
 have h1 := zgl (m := 1) h s hne (wex f w - 64)
 have h2 := zgl (m := 1) h s hM (wex f w)
 rw [znU h s hM hp hu hn] at h1
 rw [znV h s hM hp hu hn, zjT, znX h c1 c4] at h2
 rw [h1, h2]
theorem zpU {f : Int} (h : isF f) (s : Bool) {K z j : Nat} {e : Int} (hK : K ≠ 0) (hz : z ≠ 0) : rq f 1 s (K * exN z e) (z * 2 ^ j * 10 ^ exG e) 0 = zu f 1 s K (e - j) := by
 unfold exN exG
 have e1 : K * (z * 2 ^ e.toNat * 5 ^ (-e).toNat) = (K * 2 ^ e.toNat) * (z * 5 ^ (-e).toNat) := by
  rw [Nat.mul_assoc z, Nat.mul_left_comm K z, ← Nat.mul_assoc K, Nat.mul_left_comm z]
 have e2 : z * 2 ^ j * 10 ^ (-e).toNat = (1 * 2 ^ (j + (-e).toNat)) * (z * 5 ^ (-e).toNat) := by
  rw [show (10 : Nat) = 2 * 5 from rfl, Nat.mul_pow, Nat.one_mul, Nat.pow_add, Nat.mul_assoc z, Nat.mul_left_comm (2 ^ j * 2 ^ (-e).toNat) z, Nat.mul_assoc (2 ^ j)]
 have hA : K * 2 ^ e.toNat ≠ 0 := Nat.mul_ne_zero hK (Nat.ne_of_gt (zj _))
 rw [e1, e2, zfR h s hA (by rw [Nat.one_mul]; exact zj _) (Nat.mul_pos (Nat.pos_of_ne_zero hz) (Nat.pow_pos (by omega))), ziN h s hA (by omega), zfS h s hK (by omega), zgW h s hK]
 congr 1
 omega
theorem zn5 {K N D q a b G : Nat} (hD : 0 < D) (hq : q = N / D) (hK : K * D ≤ N) (hT : 10 ^ a * 10 ^ G = D * 10 ^ b) : (K - 1) * N * 10 ^ b ≤ q * 10 ^ a * (K * 10 ^ G) := by
 have e := Nat.div_add_mod N D
 have hr := Nat.mod_lt N hD
 rw [← hq] at e
 have e1 : q * 10 ^ a * (K * 10 ^ G) = q * K * D * 10 ^ b := by
  rw [Nat.mul_mul_mul_comm, hT]
  simp only [Nat.mul_assoc]
 rw [e1]
 refine Nat.mul_le_mul_right _ ?_
 by_cases hK0 : K = 0
 ·subst hK0; simp
 have h1 : (K - 1) * N + N = K * N := by rw [← Nat.succ_mul]; congr 1; omega
 have h2 : K * N = K * (D * q) + K * (N % D) := by rw [← Nat.mul_add, e]
 have h3 : K * (N % D) ≤ K * D := Nat.mul_le_mul_left _ (by omega)
 have h4 : q * K * D = K * (D * q) := by rw [Nat.mul_comm q K, Nat.mul_assoc, Nat.mul_comm q D]
 omega
theorem zn6 {f : Int} (h : isF f) {w : Nat} (hw : w < 2 * sg f) (c1 : cls f w ≠ 1) (c4 : cls f w < 4) {n : Nat} (hn : 60 ≤ n) (hl : n ≤ (dx (nN f w)).length) :
  (zq f 1 (zk f w) (nN f w / 10 ^ ((dx (nN f w)).length - n)) (((dx (nN f w)).length : Int) - (nG f w : Int) - (n : Int))).1 = (w : Int) := by
 have hM := zeG h c1 c4
 have hz : sv (zk f w) (zm f w) ≠ 0 := by unfold sv; split <;> omega
 obtain ⟨j, j1, j2, _, j4⟩ := zbr hz (wex f w)
 have hab : (sv (zk f w) (zm f w)).natAbs = zm f w := by unfold sv; split <;> omega
 rw [hab] at j1
 have j1 : zm f w = dz f w * 2 ^ j := j1
 have j2 : we f w = wex f w + j := j2
 have j4 : dz f w ≠ 0 := j4
 have hN : nN f w ≠ 0 := zcu j4 _
 have hb := zf0 h w
 have hpr : pr f ≤ 53 := by rcases h with rfl | rfl <;> decide
 have hMl : zm f w < 2 ^ 53 := Nat.lt_of_lt_of_le (zP _) (Nat.pow_le_pow_right (by omega) (by omega))
 obtain ⟨_, q0⟩ := zgI hN (by omega) hl
 have hge := zhM hN
 obtain ⟨K, hK⟩ : ∃ K, K = zm f w * 2 ^ 64 := ⟨_, rfl⟩
 have hK1 : 2 ≤ K := by
  have : 1 * 2 ≤ zm f w * 2 ^ 64 := Nat.mul_le_mul (by omega) (by decide)
  omega
 obtain ⟨T, hT9, hKl⟩ : ∃ T, T = 59 ∧ K ≤ 10 ^ T := by
  refine ⟨59, rfl, ?_⟩
  have : zm f w * 2 ^ 64 ≤ 2 ^ 53 * 2 ^ 64 := Nat.mul_le_mul_right _ (by omega)
  exact Nat.le_trans (by omega) (Nat.le_trans this (by decide))
 have hlow := zpU h (zk f w) (K := K - 1) (z := dz f w) (j := j + 64) (e := we f w) (by omega) j4
 have hKe : dz f w * 2 ^ (j + 64) = K := by rw [Nat.pow_add, ← Nat.mul_assoc, ← j1, hK]
 rw [hKe, show we f w - ((j + 64 : Nat) : Int) = wex f w - 64 by omega] at hlow
 have hlow1 := congrArg Prod.fst hlow
 rw [zeY, hK, zpV h (zk f w) c1 c4, zi9 h hw, ← hK] at hlow1
 have hup := congrArg Prod.fst (zod (m := 1) h hw c1 c4)
 have hlow1 : (rq f 1 (zk f w) ((K - 1) * nN f w) (K * 10 ^ nG f w) 0).1 = (w : Int) := hlow1
 have hup : (rq f 1 (zk f w) (nN f w * 10 ^ (-(nG f w : Int)).toNat) (10 ^ (- -(nG f w : Int)).toNat) 0).1 = (w : Int) := hup
 rw [show (-(nG f w : Int)).toNat = 0 by omega, show (- -(nG f w : Int)).toNat = nG f w by omega, Nat.pow_zero, Nat.mul_one] at hup
 unfold zq
 generalize hx : (((dx (nN f w)).length : Int) - (nG f w : Int) - (n : Int)) = x
 have hD : 0 < 10 ^ ((dx (nN f w)).length - n) := zbv _
 have hT : 10 ^ x.toNat * 10 ^ nG f w = 10 ^ ((dx (nN f w)).length - n) * 10 ^ (-x).toNat := by
  rw [← Nat.pow_add, ← Nat.pow_add, show x.toNat + nG f w = (dx (nN f w)).length - n + (-x).toNat by omega]
 have hKD : K * 10 ^ ((dx (nN f w)).length - n) ≤ nN f w := by
  have h1 : K * 10 ^ ((dx (nN f w)).length - n) ≤ 10 ^ T * 10 ^ ((dx (nN f w)).length - n) := Nat.mul_le_mul_right _ hKl
  have h2 : 10 ^ (T + ((dx (nN f w)).length - n)) ≤ 10 ^ ((dx (nN f w)).length - 1) := Nat.pow_le_pow_right (by omega) (by omega)
  rw [Nat.pow_add] at h2
  exact Nat.le_trans h1 (Nat.le_trans h2 hge)
 have hA := zn5 hD (q := nN f w / 10 ^ ((dx (nN f w)).length - n)) rfl hKD hT
 have q1 : nN f w / 10 ^ ((dx (nN f w)).length - n) * 10 ^ x.toNat ≠ 0 := Nat.mul_ne_zero q0 (Nat.ne_of_gt (zbv _))
 have hB : nN f w / 10 ^ ((dx (nN f w)).length - n) * 10 ^ x.toNat * 10 ^ nG f w ≤ nN f w * 10 ^ (-x).toNat := by
  rw [Nat.mul_assoc, hT, ← Nat.mul_assoc]
  exact Nat.mul_le_mul_right _ (Nat.div_mul_le_self _ _)
 obtain ⟨a, b, r1, r2, r3, _⟩ := zlN (m := 1) h (zk f w) (A := (K - 1) * nN f w) (B := K * 10 ^ nG f w) (B' := 10 ^ (-x).toNat) (Nat.mul_ne_zero (by omega) hN) q1 (Nat.mul_pos (by omega) (zbv _)) (zbv _) hA 0
 obtain ⟨a', b', r1', r2', r3', _⟩ := zlN (m := 1) h (zk f w) (A' := nN f w) (B := 10 ^ (-x).toNat) (B' := 10 ^ nG f w) q1 hN (zbv _) (zbv _) hB 0
 rw [hlow1] at r1
 rw [hup] at r2'
 rw [r2] at r1' ⊢
 omega
theorem zmv (s : Bool) (q : Nat) (x : Int) : (zaF s q x).length ≤ (dx q).length + 31 := by
 unfold zaF
 rw [zin, List.length_append]
 have h1 := zgX s
 have h2 := zlf (tr (dx q)) (x + ((dx q).length : Nat) - 1)
 have h3 := zcE (dx q)
 omega
theorem zmd {f w : Int} {s : Bool} {N G : Nat} (hN : N ≠ 0) (hc : ∀ n, 60 ≤ n → n ≤ (dx N).length → (zq f 1 s (N / 10 ^ ((dx N).length - n)) (((dx N).length : Int) - (G : Int) - (n : Int))).1 = w) :
  ∀ j n : Nat, 1 ≤ n → n + j = (tr (dx N)).length → n ≤ 60 → (srt f w s N G j n).length ≤ 100
 | 0, n, h1, hj, hn => by
  unfold srt
  rw [zin, List.length_append]
  have h1 := zgX s
  have h2 := zlf (tr (dx N)) (((dx N).length : Int) - 1 - G)
  omega
 | j + 1, n, h1, hj, hn => by
  have htl := zcE (dx N)
  obtain ⟨q1, q2⟩ := zgI hN h1 (by omega)
  obtain ⟨u1, u2⟩ := zhN q1 q2
  have t1 := zmv s (N / 10 ^ ((dx N).length - n)) (((dx N).length : Int) - G - n)
  have t2 := zmv s (N / 10 ^ ((dx N).length - n) + 1) (((dx N).length : Int) - G - n)
  unfold srt
  split
  ·omega
  ·rename_i k1
   split
   ·omega
   ·rename_i k2
    by_cases c : n = 60
    ·have := hc n (by omega) (by omega)
     exact absurd ⟨this, fun hh => k2 hh.1⟩ k1
    ·exact zmd hN hc j (n + 1) (by omega) (by omega) (by omega)
theorem zg0 {f : Int} (h : isF f) {w : Nat} (hw : w < 2 * sg f) : (soS f w).length ≤ 100 := by
 have hs := zgX (zk f w)
 unfold soS
 by_cases hn : zaN f w = true
 ·rw [if_pos hn]
  unfold nmT
  split
  ·simp
  ·split
   ·rw [List.length_append]; simp; omega
   ·split
    ·rw [List.length_append]; simp; omega
    ·simp
 rw [if_neg hn]
 obtain ⟨c5, c4, c1⟩ := zgt (by simpa using hn)
 have hf := zgs h c5 c4
 obtain ⟨hN, hl, hg⟩ := zfI h c1 hf
 obtain ⟨b, r, e, hb⟩ := zaM hN
 obtain ⟨r', e'⟩ := zb2 e hb
 have hp : 1 ≤ (tr (dx (nN f w))).length := by rw [e']; simp
 exact zmd hN (fun n n1 n2 => zn6 h hw c1 hf n1 n2) _ 1 (by omega) (by omega) (by omega)
theorem zh4 {f : Int} (h : isF f) (w : Nat) : w % sg f < sg f := Nat.mod_lt _ (zbh h).1
theorem znN (f : Int) (w : Nat) : cls f (w % sg f) = cls f w := by unfold cls; rw [Nat.mod_mod]
theorem zsu {f : Int} (h : isF f) (w : Nat) : zk f (w % sg f) = false := by
 have := zh4 h w
 unfold zk
 exact decide_eq_false (by omega)
theorem zkF (s : Bool) (n : Nat) (e : Int) : (mk (sv s n) e).2 = (mk (n : Int) e).2 := by
 cases s with
 | false => rfl
 | true =>
  show (mk (-(n : Int)) e).2 = _
  unfold mk
  rw [Int.natAbs_neg]
  by_cases hn : n = 0
  ·subst hn; rfl
  ·rw [if_neg (by omega), if_neg (by omega)]
theorem zou {f : Int} (h : isF f) (w : Nat) : dz f (w % sg f) = dz f w ∧ we f (w % sg f) = we f w := by
 obtain ⟨e1, e2⟩ := zrp (f := f) (a := w % sg f) (b := w) (Nat.mod_mod _ _)
 unfold dz we wv
 rw [e1, e2, zkF, zkF]
 exact ⟨rfl, rfl⟩
theorem zpL {f : Int} (h : isF f) (w : Nat) : nN f (w % sg f) = nN f w ∧ nG f (w % sg f) = nG f w := by
 obtain ⟨e1, e2⟩ := zou h w
 unfold nN nG
 rw [e1, e2]
 exact ⟨rfl, rfl⟩
theorem zmw (s : Bool) (q : Nat) (x : Int) : zaF s q x = sgT s ++ zaF false q x := rfl
theorem zme {f : Int} (h : isF f) {w : Nat} (hw : w < 2 * sg f) (N G : Nat) : ∀ j n : Nat, srt f (w : Int) (zk f w) N G j n = sgT (zk f w) ++ srt f ((w % sg f : Nat) : Int) false N G j n
 | 0, n => rfl
 | j + 1, n => by
  have hu : ∀ c o, upS 1 (zk f w) c o = upS 1 false c o := fun c o => rfl
  unfold srt
  rw [zme h hw N G j (n + 1)]
  simp only [zgZ h hw, hu]
  rw [zmw (zk f w), zmw (zk f w) (_ + 1)]
  split
  ·rfl
  ·split <;> rfl
theorem zma {f : Int} (h : isF f) {w : Nat} (hw : w < 2 * sg f) (c5 : cls f w ≠ 5) : soS f w = sgT (zk f w) ++ soS f (w % sg f) := by
 obtain ⟨e1, e2⟩ := zpL h w
 have hwn := zsu h w
 have hc := znN f w
 unfold soS zaN nmT
 rw [e1, e2, hwn, hc, zme h hw]
 by_cases c4 : cls f w = 4
 ·rw [if_pos (decide_eq_true (.inr (.inl c4))), if_pos (decide_eq_true (.inr (.inl c4))), if_neg c5, if_neg c5, if_pos c4, if_pos c4]; rfl
 by_cases c1 : cls f w = 1
 ·rw [if_pos (decide_eq_true (.inr (.inr c1))), if_pos (decide_eq_true (.inr (.inr c1))), if_neg c5, if_neg c5, if_neg c4, if_neg c4, if_pos c1, if_pos c1]; rfl
 have hn : ¬ decide (cls f w = 5 ∨ cls f w = 4 ∨ cls f w = 1) = true := by simp [c5, c4, c1]
 rw [if_neg hn, if_neg hn]
theorem zmu (q : Nat) (hq : q ≠ 0) (x : Int) : ∃ c t, zaF false q x = c :: t ∧ isD c = true := by
 obtain ⟨b, r, e, hb⟩ := zaM hq
 obtain ⟨r', e'⟩ := zb2 e hb
 exact zld (zfW (zcg q)) e' _
theorem zmc {f w : Int} {N G : Nat} (hN : N ≠ 0) : ∀ j n : Nat, 1 ≤ n → n + j = (tr (dx N)).length → ∃ c t, srt f w false N G j n = c :: t ∧ isD c = true
 | 0, n, h1, hj => by
  obtain ⟨b, r, e, hb⟩ := zaM hN
  obtain ⟨r', e'⟩ := zb2 e hb
  exact zld (zfW (zcg N)) e' _
 | j + 1, n, h1, hj => by
  have htl := zcE (dx N)
  obtain ⟨q1, q2⟩ := zgI hN h1 (by omega)
  unfold srt
  split
  ·exact zmu _ q2 _
  ·split
   ·exact zmu _ (Nat.succ_ne_zero _) _
   ·exact zmc hN j (n + 1) (by omega) (by omega)
theorem zl8 {f : Int} (h : isF f) {w : Nat} (hn : zk f w = false ∨ cls f w = 5) : (soS f w).head? ≠ some 45 := by
 unfold soS
 by_cases hnm : zaN f w = true
 ·rw [if_pos hnm]
  unfold nmT
  by_cases c5 : cls f w = 5
  ·rw [if_pos c5]; decide
  rw [if_neg c5, hn.resolve_right c5]
  split
  ·decide
  ·split <;> decide
 rw [if_neg hnm]
 obtain ⟨c5, c4, c1⟩ := zgt (by simpa using hnm)
 rw [hn.resolve_right c5]
 have hf := zgs h c5 c4
 obtain ⟨hN, hl, hg⟩ := zfI h c1 hf
 obtain ⟨b, r, e, hb⟩ := zaM hN
 obtain ⟨r', e'⟩ := zb2 e hb
 have hp : 1 ≤ (tr (dx (nN f w))).length := by rw [e']; simp
 obtain ⟨c, t, k1, k2⟩ := zmc (f := f) (w := (w : Int)) (G := nG f w) hN ((tr (dx (nN f w))).length - 1) 1 (by omega) (by omega)
 rw [k1]
 have h1 := zej k2
 intro hh
 have : c = 45 := by simpa using hh
 rw [this] at h1
 revert h1; decide
def imT (f : Int) (b : Nat) : List UInt8 := if cls f b = 5 then [110, 97, 110] else soS f (b % sg f)
def sgC (f : Int) (b : Nat) : UInt8 := if cls f b ≠ 5 ∧ zk f b = true then 45 else 43
def ctT (f : Int) (a b : Nat) : List UInt8 := soS f a ++ (sgC f b :: (imT f b ++ [105]))
theorem zl9 {f : Int} {b : Nat} (c : cls f b = 5) : soS f b = [110, 97, 110] := by
 unfold soS zaN nmT
 rw [if_pos (decide_eq_true (.inl c)), if_pos c]
theorem zoZ {f : Int} (h : isF f) (b : Nat) : (imT f b).length ≤ 100 := by
 unfold imT
 split
 ·simp
 ·exact zg0 h (by have := zh4 h b; omega)
theorem zo0 {f : Int} (h : isF f) {b : Nat} (hb : b < 2 * sg f) : (if (soS f b).head? = some 45 then soS f b else 43 :: soS f b) = sgC f b :: imT f b := by
 unfold sgC imT
 by_cases c5 : cls f b = 5
 ·rw [if_neg (zl8 h (.inr c5)), if_neg (fun hh => hh.1 c5), if_pos c5, zl9 c5]
 rw [if_neg c5]
 cases hn : zk f b with
 | true =>
  rw [if_pos (⟨c5, rfl⟩ : cls f b ≠ 5 ∧ true = true), zma h hb c5, hn]
  exact if_pos rfl
 | false =>
  rw [if_neg (fun hh => by cases hh.2 : ¬ (cls f b ≠ 5 ∧ false = true)), if_neg (zl8 h (.inl hn)), zma h hb c5, hn]
  rfl
theorem zmL {f : Int} (h : isF f) (w : Nat) : Ev (fun k => zdq.f k f (w : Int)) (zbV f w) := by
 unfold zdq.f
 exact Ev.bind (zhg h w) (Ev.now _)
theorem zsk {f : Int} (h : ¬ isF f) (w : Int) : Ev (fun k => zdq.f k f w) 4 := by
 unfold zdq.f
 exact Ev.bind (zsE h _) (Ev.now _)
theorem zk4 {f : Int} (h : isF f) (a b : Nat) : Ev (fun k => zdO.f k f (a : Int) (b : Int)) (if a < 2 * sg f ∧ b < 2 * sg f then 0 else 6) := by
 unfold zdO.f
 have ha := zmL h a
 have hb := zmL h b
 unfold zbV at ha hb
 by_cases c : a < 2 * sg f
 ·rw [if_pos c] at ha
  refine Ev.bind ha (ze (by simp) (Ev.bind hb ?_))
  by_cases d : b < 2 * sg f
  ·rw [if_pos d, if_pos ⟨c, d⟩]; exact Ev.now _
  ·rw [if_neg d, if_neg (fun hh => d hh.2)]; exact Ev.now _
 ·rw [if_neg c] at ha
  rw [if_neg (fun hh => c hh.1)]
  exact Ev.bind ha (zd (by simp) (Ev.now _))
theorem zp7 {f : Int} (h : ¬ isF f) (a b : Int) : Ev (fun k => zdO.f k f a b) 4 := by
 unfold zdO.f
 exact Ev.bind (zsk h a) (zd (by simp) (Ev.now _))
theorem zlM {f : Int} (h : isF f) (l : List (Nat × Nat)) (hl : l.length ≤ 1000) (hw : ∀ p ∈ l, p.1 < 18446744073709551616 ∧ p.2 < 18446744073709551616) : ∀ n i : Nat, i + n = l.length →
  Ev (fun k => zba.l0 k f (l.map fun p => ((p.1 : Int), (p.2 : Int))) (i : Int)) (if ∀ p ∈ l.drop i, p.1 < 2 * sg f ∧ p.2 < 2 * sg f then 0 else 6)
 | 0, i, hi => by
  refine zf ?_; simp only [zba.l0]
  rw [List.drop_eq_nil_of_le (by omega), if_pos (fun p hp => by cases hp)]
  exact ze (by rw [List.length_map]; omega) (Ev.now _)
 | n + 1, i, hi => by
  have hd : l.drop i = l[i] :: l.drop (i + 1) := List.drop_eq_getElem_cons (by omega)
  have hr : rdT [.i .u64, .i .u64] (l.map fun p => ((p.1 : Int), (p.2 : Int))) (i : Int) = ((l[i].1 : Int), (l[i].2 : Int)) := by
   unfold rdT
   rw [Int.toNat_natCast, List.getD_eq_getElem?_getD, List.getElem?_map, List.getElem?_eq_getElem (by omega)]
   rfl
  obtain ⟨b1, b2⟩ := hw l[i] (List.getElem_mem _)
  have e1 : wrap64 ((i : Int) + 1) = ((i + 1 : Nat) : Int) := by rw [w64 (by omega) (by omega)]; omega
  have ih := zlM h l hl hw n (i + 1) (by omega)
  refine zf ?_; simp only [zba.l0]
  rw [hr, e1, hd]
  refine zd (by rw [List.length_map]; omega) (zd (by omega) (zd (by rw [List.length_map]; omega) (zi (zlo h b1) ?_)))
  by_cases c : l[i].1 < 2 * sg f
  ·refine ze (by unfold zbV; rw [if_pos c]; simp) (zd (by omega) (zd (by rw [List.length_map]; omega) (zi (zlo h b2) ?_)))
   by_cases d : l[i].2 < 2 * sg f
   ·refine ze (by unfold zbV; rw [if_pos d]; simp) ?_
    refine zh ih ?_
    by_cases e : ∀ p ∈ l.drop (i + 1), p.1 < 2 * sg f ∧ p.2 < 2 * sg f
    ·rw [if_pos e, if_pos (fun p hp => by
      rcases List.mem_cons.1 hp with rfl | hp
      ·exact ⟨c, d⟩
      ·exact e p hp)]
    ·rw [if_neg e, if_neg (fun hh => e (fun p hp => hh p (List.mem_cons_of_mem _ hp)))]
   ·refine zd (by unfold zbV; rw [if_neg d]; simp) ?_
    rw [if_neg (fun hh => d (hh _ (List.mem_cons_self)).2)]
    exact Ev.now _
  ·refine zd (by unfold zbV; rw [if_neg c]; simp) ?_
   rw [if_neg (fun hh => c (hh _ (List.mem_cons_self)).1)]
   exact Ev.now _
theorem zre {f : Int} (h : isF f) (l : List (Nat × Nat)) (hl : l.length ≤ 1000) (hw : ∀ p ∈ l, p.1 < 18446744073709551616 ∧ p.2 < 18446744073709551616) :
  Ev (fun k => zba.f k f (l.map fun p => ((p.1 : Int), (p.2 : Int)))) (if ∀ p ∈ l, p.1 < 2 * sg f ∧ p.2 < 2 * sg f then 0 else 6) := by
 unfold zba.f
 refine zi (ziu f) ?_
 rw [decide_eq_true h]
 exact ze (by simp) (zlM h l hl hw l.length 0 (by omega))
theorem zrd {f : Int} (h : ¬ isF f) (l : List (Int × Int)) : Ev (fun k => zba.f k f l) 4 := by
 unfold zba.f
 refine zi (ziu f) ?_
 rw [decide_eq_false h]
 exact zd rfl (Ev.now _)
theorem znH {f : Int} (h : isF f) {a b : Nat} (ha : a < 2 * sg f) (hb : b < 2 * sg f) : Ev (fun k => zaH.f k f (a : Int) (b : Int)) (bx (ctT f a b), 0) := by
 have hg := zk4 h a b
 rw [if_pos ⟨ha, hb⟩] at hg
 have l1 := zg0 h ha
 have l2 := zg0 h hb
 have j1 : ∀ T : List UInt8, T.length ≤ 101 → Ev (fun k => zaH.j1 k (bx (soS f a)) (bx T)) (bx (soS f a ++ T ++ [105]), 0) := by
  intro T hT
  have z1 := zA (soS f a)
  have z2 := zA T
  have z3 := zA (soS f a ++ T)
  have e : (⟨#[105]⟩ : ByteArray) = bx [105] := rfl
  rw [List.length_append] at z3
  refine zf ?_; simp only [zaH.j1]
  rw [zx, e, zx]
  have z4 : (bx [105]).size = 1 := rfl
  exact zd (by omega) (zd (by omega) (Ev.now _))
 have hT := zo0 h hb
 have e43 : (⟨#[43]⟩ : ByteArray) = bx [43] := rfl
 have hf : ctT f a b = soS f a ++ (sgC f b :: imT f b) ++ [105] := by unfold ctT; simp
 unfold zaH.f
 rw [hf, ← hT]
 refine Ev.bind hg (ze (by simp) (Ev.bind (zji h ha) (Ev.bind (zji h hb) (zi (zqr (soS f b)) ?_))))
 by_cases c : (soS f b).head? = some 45
 ·rw [decide_eq_true c, if_pos c]
  exact ze (by simp) (j1 _ (by omega))
 ·rw [decide_eq_false c, if_neg c]
  have z2 := zA (soS f b)
  have z4 : (bx [43]).size = 1 := rfl
  refine zd rfl ?_
  rw [e43]
  dsimp only
  refine zd (by omega) ?_
  rw [zx]
  exact j1 (43 :: soS f b) (by rw [List.length_cons]; omega)
theorem znF {f : Int} (h : isF f) {a b : Nat} (hg : ¬ (a < 2 * sg f ∧ b < 2 * sg f)) : Ev (fun k => zaH.f k f (a : Int) (b : Int)) ((⟨#[]⟩ : ByteArray), 6) := by
 have hp := zk4 h a b
 rw [if_neg hg] at hp
 unfold zaH.f
 exact Ev.bind hp (zd (by simp) (Ev.now _))
theorem znG {f : Int} (h : ¬ isF f) (a b : Int) : Ev (fun k => zaH.f k f a b) ((⟨#[]⟩ : ByteArray), 4) := by
 unfold zaH.f
 exact Ev.bind (zp7 h a b) (zd (by simp) (Ev.now _))
theorem zkN {f : Int} (h : isF f) : cls f (zgD f) = 5 ∧ zgD f < 2 * sg f := by rcases h with rfl | rfl <;> decide +kernel
theorem zqQ {f : Int} (h : isF f) {a b : Nat} (ha : a < 2 * sg f) (hb : b < 2 * sg f) : Ev (fun k => zaL.f k f (a : Int) (b : Int)) (bx (ctT f a b)) := by
 have l1 := zg0 h ha
 have l2 := zoZ h b
 have hcc : cls f (zb7 f b) = cls f b := by
  unfold zb7
  by_cases c : cls f b = 5
  ·rw [if_pos c, (zkN h).1, c]
  ·rw [if_neg c]
 have j2 : ∀ (x : Nat) (c : UInt8), x < 2 * sg f → soS f x = imT f b → c = sgC f b → Ev (fun k => zaL.j2 k f (a : Int) (b : Int) (x : Int) (bx [c])) (bx (ctT f a b)) := by
  intro x c hx hs hc
  have z1 := zA (soS f a)
  have z2 := zA (imT f b)
  have e : (⟨#[105]⟩ : ByteArray) = bx [105] := rfl
  have hr := zlr h hx
  rw [hs] at hr
  have hf : ctT f a b = soS f a ++ [c] ++ imT f b ++ [105] := by unfold ctT; rw [hc]; simp
  have zc : (bx [c]).size = 1 := rfl
  have z4 : (bx [105]).size = 1 := rfl
  have z3 := zA (soS f a ++ [c])
  have z5 := zA (soS f a ++ [c] ++ imT f b)
  rw [List.length_append, List.length_singleton] at z3
  rw [List.length_append, List.length_append, List.length_singleton] at z5
  refine zf ?_; simp only [zaL.j2]
  rw [hf]
  refine Ev.bind (zlr h ha) (zd (by omega) (Ev.bind hr ?_))
  rw [zx, zx, e, zx]
  exact zd (by omega) (zd (by omega) (Ev.now _))
 have j1 : ∀ c : UInt8, c = sgC f b → Ev (fun k => zaL.j1 k f (a : Int) (b : Int) (zb7 f b : Int) (bx [c])) (bx (ctT f a b)) := by
  intro c hc
  refine zf ?_; simp only [zaL.j1]
  refine zi (zgO h (zb7 f b)) ?_
  rw [hcc]
  by_cases c5 : cls f b = 5
  ·refine ze (fun hh => hh c5) (j2 _ c ?_ ?_ hc)
   ·unfold zb7; rw [if_pos c5]; exact (zkN h).2
   ·unfold imT; rw [zl9 (by rw [hcc]; exact c5), if_pos c5]
  ·have hs := ziz h (zb7 f b) false
   refine zd c5 (zi hs ?_)
   rw [zhB c5, show sgn f false = 0 from rfl, Nat.add_zero]
   have := zh4 h b
   exact j2 _ c (by omega) (by unfold imT; rw [if_neg c5]) hc
 unfold zaL.f
 refine zi (zqA h b) (zi (zgO h (zb7 f b)) ?_)
 rw [hcc]
 by_cases c5 : cls f b = 5
 ·exact ze (fun hh => hh c5) (j1 43 (by unfold sgC; rw [if_neg (fun hh => hh.1 c5)]))
 ·refine zd c5 (zi (zgQ h (zb7 f b)) ?_)
  rw [zhB c5]
  have j1 := j1
  rw [zhB c5] at j1
  cases hn : zk f b with
  | true => exact zd rfl (j1 45 (by unfold sgC; rw [if_pos ⟨c5, hn⟩]))
  | false => exact ze (by simp) (j1 43 (by unfold sgC; rw [if_neg (fun hh => by rw [hn] at hh; cases hh.2)]))
theorem zmR (f a b : Int) (ha : IntKind.u64.min ≤ a ∧ a ≤ IntKind.u64.max) (hb : IntKind.u64.min ≤ b ∧ b ≤ IntKind.u64.max) : Ev (fun k => zfn.f k f a b) true := by
 obtain ⟨a, rfl, hla⟩ := zmC ha
 obtain ⟨b, rfl, hlb⟩ := zmC hb
 unfold zfn.f
 by_cases h : isF f
 rotate_left
 ·exact Ev.bind (znG h _ _) (Ev.bind (zrd h _) (zd (by simp) (zd rfl (zd rfl zhD))))
 have hg := zre h [(a, b)] (by simp) (fun p hp => by
  rw [List.mem_singleton] at hp
  rw [hp]; exact ⟨hla, hlb⟩)
 have hg : Ev (fun k => zba.f k f [((a : Int), (b : Int))]) (if ∀ p ∈ [(a, b)], p.1 < 2 * sg f ∧ p.2 < 2 * sg f then 0 else 6) := hg
 by_cases c : a < 2 * sg f ∧ b < 2 * sg f
 ·rw [if_pos (fun p hp => by rw [List.mem_singleton] at hp; rw [hp]; exact c)] at hg
  exact Ev.bind (znH h c.1 c.2) (Ev.bind hg (ze (by simp) (Ev.bind (zqQ h c.1 c.2) (zd rfl (zd rfl zhD)))))
 ·rw [if_neg (fun hh => c (hh (a, b) (List.mem_singleton.2 rfl)))] at hg
  exact Ev.bind (znF h c) (Ev.bind hg (zd (by simp) (zd rfl (zd rfl zhD))))
end Go.Proofs.YtnkpmjhlkmlmbaaGreatDoor.Eng.K
