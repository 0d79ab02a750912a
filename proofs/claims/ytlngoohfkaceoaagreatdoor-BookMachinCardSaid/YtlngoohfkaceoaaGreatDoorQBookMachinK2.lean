import Derived.Test.YtlngoohfkaceoaaGreatDoorQBookMachinK1
set_option linter.unusedVariables false
set_option linter.unusedSimpArgs false
set_option maxRecDepth 100000
namespace Go.Proofs.YtlngoohfkaceoaaGreatDoor.Eng.K
open Go.RowKit Go.Proofs.YtlngoohfkaceoaaGreatDoor.Eng
theorem zds {b n : Nat} (hb1 : 1 ≤ b) (hb : b < 256) (hn : n ≤ 200) : Ev (fun k => zu.f k (b : Int) (n : Int)) (D (b ^ n)) := by
 refine zh6 (K := 200) (by omega) (by omega) (by omega) (by omega) ?_
 have e : max 1 b = b := by omega
 rw [e]
 have h1 : b ^ n ≤ (2 ^ 8) ^ n := Nat.pow_le_pow_left (by omega) n
 have h2 : (2 ^ 8) ^ n ≤ (2 ^ 8) ^ 200 := Nat.pow_le_pow_right (by omega) hn
 have h3 : ((2 : Nat) ^ 8) ^ 200 < 4294967296 ^ 200 := Nat.pow_lt_pow_left (by omega) (by omega)
 omega
theorem zb7 {b n : Nat} (hb : b < 256) : bl (b ^ n) ≤ 8 * n + 1 := by
 have h1 : b ^ n ≤ (2 ^ 8) ^ n := Nat.pow_le_pow_left (by omega) n
 rw [← Nat.pow_mul] at h1
 have h2 := zS h1
 rw [zcz] at h2; omega
def od : Nat → Nat
 | 0 => 1
 | n + 1 => od n * (2 * (n + 1) + 1)
theorem ze6 : ∀ n, 0 < od n
 | 0 => by decide
 | n + 1 => by unfold od; exact Nat.mul_pos (ze6 n) (by omega)
theorem zcL : ∀ n, n ≤ 60 → bl (od n) ≤ 7 * n + 1
 | 0, _ => by decide
 | n + 1, h => by
  unfold od
  have h1 := zcL n (by omega)
  have h2 := zaf (od n) (2 * (n + 1) + 1)
  have h3 : bl (2 * (n + 1) + 1) ≤ 7 := z9 (by omega)
  omega
def aS (A y : Nat) : Nat → Int
 | 0 => 0
 | k + 1 => aS A y k + sv (decide (k % 2 = 1)) (A / ((2 * k + 1) * y ^ (2 * k + 1)))
theorem zd7 (A y : Nat) : ∀ k, (aS A y k).natAbs ≤ k * A
 | 0 => by unfold aS; omega
 | k + 1 => by
  unfold aS
  have ih := zd7 A y k
  have h1 : (sv (decide (k % 2 = 1)) (A / ((2 * k + 1) * y ^ (2 * k + 1)))).natAbs ≤ A := by rw [zbm]; exact Nat.div_le_self _ _
  have h2 : (k + 1) * A = k * A + A := by rw [Nat.add_mul, Nat.one_mul]
  omega
theorem zb1 {A : Nat} (hA : bl A ≤ 10000) {y k : Nat} (hk : k ≤ 60) : bl (aS A y k).natAbs ≤ 10100 := by
 have h1 := zd7 A y k
 have h2 : k * A ≤ 2 ^ 6 * A := Nat.mul_le_mul_right _ (by omega)
 have h3 := zS (Nat.le_trans h1 h2)
 have h4 := zaf (2 ^ 6) A
 have h5 := zcz 6
 omega
theorem w2k {k : Nat} (h : k ≤ 1000) : wrap64 (wrap64 (2 * (k : Int)) + 1) = ((2 * k + 1 : Nat) : Int) := by unfold wrap64; omega
theorem wk1 {k : Nat} (h : k ≤ 1000) : wrap64 ((k : Int) + 1) = ((k + 1 : Nat) : Int) := by unfold wrap64; omega
theorem tm2 (k : Nat) : decide (Int.tmod (k : Int) 2 = 1) = decide (k % 2 = 1) := by
 rw [Int.tmod_eq_emod_of_nonneg (by omega)]
 exact decide_eq_decide.2 (by omega)
theorem zek {A y n : Nat} (hA : bl A ≤ 10000) (hy1 : 1 ≤ y) (hy : y < 256) (hn : n ≤ 60) {a : Bool} {b : List Int} {c : Int} : ∀ d k : Nat, k + d = n →
  Ev (fun j => zap.l0 j (D A) y n a b c (mk (aS A y k) 0).1 (mk (aS A y k) 0).2.1 (mk (aS A y k) 0).2.2 (k : Int)) (mk (aS A y n) 0)
 | 0, k, h => by
  have : k = n := by omega
  subst this
  refine ze ?_
  simp only [zap.l0]
  exact zg (by omega) (Ev.now _)
 | d + 1, k, h => by
  refine ze ?_
  simp only [zap.l0]
  have e1 : IntKind.u64.wrap ((2 * k + 1 : Nat) : Int) = ((2 * k + 1 : Nat) : Int) := by rw [zaK]; omega
  rw [w2k (by omega), e1, wk1 (by omega), tm2]
  clear e1
  have h1 := zb7 (b := y) (n := 2 * k + 1) hy
  have h2 := zaf (2 * k + 1) (y ^ (2 * k + 1))
  have h3 : bl (2 * k + 1) ≤ 64 := zbo (by omega)
  have h4 : (2 * k + 1) * y ^ (2 * k + 1) ≠ 0 := by
   have := Nat.mul_pos (show 0 < 2 * k + 1 by omega) (Nat.pow_pos (n := 2 * k + 1) (show 0 < y by omega)); omega
  have h5 : bl (A / ((2 * k + 1) * y ^ (2 * k + 1))) ≤ bl A := zS (Nat.div_le_self _ _)
  have h6 := zb1 hA (y := y) (k := k) (by omega)
  have h7 : bl (sv (decide (k % 2 = 1)) (A / ((2 * k + 1) * y ^ (2 * k + 1)))).natAbs ≤ 10000 := by rw [zbm]; omega
  have ih := zek hA hy1 hy hn (a := a) (b := b) (c := c) d (k + 1) (by omega)
  have ad := zdq (zZ (z := aS A y k) (e := 0) (by omega) (by omega) (by omega)) (zZ (z := sv (decide (k % 2 = 1)) (A / ((2 * k + 1) * y ^ (2 * k + 1)))) (e := 0) (by omega) (by omega) (by omega))
  rw [zbB] at ad
  refine zd (by omega) (Ev.bind (rOf (by omega)) (Ev.bind (zds hy1 hy (by omega)) (Ev.bind (zbV (by omega) (by omega)) (Ev.bind (zff (by omega) (by omega) h4) (Ev.bind (zdr _ (by omega)) (Ev.bind ad ih))))))
theorem zej {A y n : Nat} (hA : bl A ≤ 10000) (hy1 : 1 ≤ y) (hy : y < 256) (hn : n ≤ 60) : Ev (fun j => zap.f j (D A) y n) (mk (aS A y n) 0) := by
 unfold zap.f
 exact zek hA hy1 hy hn n 0 (by omega)
def aA (n : Nat) : Nat := od n * 5 ^ (2 * n + 1) * 239 ^ (2 * n + 1)
def aN (n : Nat) : Nat := aA n / ((2 * n + 1) * 5 ^ (2 * n + 1))
def aT (n : Nat) : Int := 16 * aS (aA n) 5 n + -(4 * aS (aA n) 239 n)
theorem zd6 {n : Nat} (hn : n ≤ 60) : bl (aA n) ≤ 3000 := by
 unfold aA
 have h1 := zcL n hn
 have h2 := zb7 (b := 5) (n := 2 * n + 1) (by omega)
 have h3 := zb7 (b := 239) (n := 2 * n + 1) (by omega)
 have h4 := zaf (od n) (5 ^ (2 * n + 1))
 have h5 := zaf (od n * 5 ^ (2 * n + 1)) (239 ^ (2 * n + 1))
 omega
theorem zgf (n : Nat) : 0 < aA n := Nat.mul_pos (Nat.mul_pos (ze6 n) (Nat.pow_pos (by omega))) (Nat.pow_pos (by omega))
def hOk (n : Nat) : Bool := decide ((aT n + -((17 * aN n : Nat) : Int)) * ((2 ^ 8320 : Nat) : Int) ≤ ((aA n * pL : Nat) : Int)) && decide (((aA n * pL : Nat) : Int) < (aT n + ((17 * aN n : Nat) : Int)) * ((2 ^ 8320 : Nat) : Int))
theorem zg8 : (List.range 60).all (fun i => hOk (i + 1)) = true := by kernel_rfl
def pC (b : Nat) : Nat := pL / 2 ^ (8322 - b)
theorem zhO {b : Nat} (hb : b ≤ 8322) : bl (pC b) = b := by
 unfold pC
 rw [zbF, zdm]; omega
theorem zhT {b : Nat} (h1 : 1 ≤ b) (h2 : b ≤ 8192) : zaR pZ nE b = mk (pC b : Nat) (2 - (b : Int)) := by
 unfold zaR
 rw [zdn, zcM, Int.natAbs_natCast, decide_eq_false (by omega)]
 have e1 : nE + ((8322 - b : Nat) : Int) = 2 - (b : Int) := by have := zhB; omega
 rw [e1]; rfl
theorem zg9 {n : Nat} (h1 : 1 ≤ n) (h2 : n ≤ 60) : (aT n + -((17 * aN n : Nat) : Int)) * ((2 ^ 8320 : Nat) : Int) ≤ ((aA n * pL : Nat) : Int) ∧ ((aA n * pL : Nat) : Int) < (aT n + ((17 * aN n : Nat) : Int)) * ((2 ^ 8320 : Nat) : Int) := by
 have h := List.all_eq_true.1 zg8 (n - 1) (List.mem_range.2 (by omega))
 have e : n - 1 + 1 = n := by omega
 rw [e] at h
 unfold hOk at h
 rw [Bool.and_eq_true] at h
 exact ⟨of_decide_eq_true h.1, of_decide_eq_true h.2⟩
theorem zhb {S : Int} {A l b N : Nat} (hA : 0 < A) (h : S * ((2 ^ N : Nat) : Int) ≤ ((A * l : Nat) : Int)) (hb : b ≤ N) : S * 2 ^ b < ((A * (l / 2 ^ (N + 2 - b) + 1) * 4 : Nat) : Int) := by
 have h1 : l < (l / 2 ^ (N + 2 - b) + 1) * 2 ^ (N + 2 - b) := by
  have := Nat.lt_mul_div_succ l (zn (N + 2 - b))
  rwa [Nat.mul_comm] at this
 generalize l / 2 ^ (N + 2 - b) + 1 = q at *
 have h2 : A * l < A * (q * 2 ^ (N + 2 - b)) := Nat.mul_lt_mul_of_pos_left h1 hA
 have e1 : A * (q * 2 ^ (N + 2 - b)) = A * q * 4 * 2 ^ (N - b) := by
  have : 2 ^ (N + 2 - b) = 4 * 2 ^ (N - b) := by rw [show N + 2 - b = 2 + (N - b) by omega, Nat.pow_add]
  rw [this]; simp only [Nat.mul_assoc]
 rw [e1] at h2
 have e2 : (2 ^ N : Nat) = 2 ^ b * 2 ^ (N - b) := by rw [← Nat.pow_add]; congr 1; omega
 rw [e2, Int.natCast_mul (2 ^ b), ← Int.mul_assoc] at h
 have h3 : S * ((2 ^ b : Nat) : Int) * ((2 ^ (N - b) : Nat) : Int) < ((A * q * 4 : Nat) : Int) * ((2 ^ (N - b) : Nat) : Int) := by
  rw [← Int.natCast_mul]
  exact Int.lt_of_le_of_lt h (Int.ofNat_lt.2 h2)
 have := Int.lt_of_mul_lt_mul_right h3 (Int.natCast_nonneg _)
 rwa [Int.natCast_pow] at this
theorem zha {H : Int} {A l b N : Nat} (h : ((A * l : Nat) : Int) < H * ((2 ^ N : Nat) : Int)) (hb : b ≤ N) : ((A * (l / 2 ^ (N + 2 - b)) * 4 : Nat) : Int) < H * 2 ^ b := by
 have h1 : l / 2 ^ (N + 2 - b) * 2 ^ (N + 2 - b) ≤ l := Nat.div_mul_le_self _ _
 generalize l / 2 ^ (N + 2 - b) = q at *
 have h2 : A * (q * 2 ^ (N + 2 - b)) ≤ A * l := Nat.mul_le_mul_left _ h1
 have e1 : A * (q * 2 ^ (N + 2 - b)) = A * q * 4 * 2 ^ (N - b) := by
  have : 2 ^ (N + 2 - b) = 4 * 2 ^ (N - b) := by rw [show N + 2 - b = 2 + (N - b) by omega, Nat.pow_add]
  rw [this]; simp only [Nat.mul_assoc]
 rw [e1] at h2
 have e2 : (2 ^ N : Nat) = 2 ^ b * 2 ^ (N - b) := by rw [← Nat.pow_add]; congr 1; omega
 rw [e2, Int.natCast_mul (2 ^ b), ← Int.mul_assoc] at h
 have h3 : ((A * q * 4 : Nat) : Int) * ((2 ^ (N - b) : Nat) : Int) < H * ((2 ^ b : Nat) : Int) * ((2 ^ (N - b) : Nat) : Int) := by
  rw [← Int.natCast_mul]
  exact Int.lt_of_le_of_lt (Int.ofNat_le.2 h2) h
 have := Int.lt_of_mul_lt_mul_right h3 (Int.natCast_nonneg _)
 rwa [Int.natCast_pow] at this
theorem al4 (z : Int) (b : Nat) : al z (2 - (b : Int)) (-(b : Int)) = z * 4 := by
 unfold al
 have e : (2 - (b : Int) - -(b : Int)).toNat = 2 := by omega
 rw [e]; rfl
theorem zee (z : Int) (b : Nat) : al z 0 (-(b : Int)) = z * 2 ^ b := by unfold al; congr 2; omega
theorem zgC {a b : Int} {n : Nat} (h : a * 2 ^ n < b * 4) : zN a 0 b (2 - (n : Int)) < 0 := by
 rw [← zc7 (m := -(n : Int)) (by omega) (by omega), al4, zee, Int.sign_eq_neg_one_of_neg (by omega)]; omega
theorem zgB {a b : Int} {n : Nat} (h : b * 4 < a * 2 ^ n) : zN b (2 - (n : Int)) a 0 < 0 := by
 rw [← zc7 (m := -(n : Int)) (by omega) (by omega), al4, zee, Int.sign_eq_neg_one_of_neg (by omega)]; omega
theorem zgg {n : Nat} (hn : n ≤ 60) : bl (aT n).natAbs ≤ 11000 := by
 unfold aT
 have h0 := zd6 hn
 have h1 := zb1 (A := aA n) (by omega) (y := 5) (k := n) hn
 have h2 := zb1 (A := aA n) (by omega) (y := 239) (k := n) hn
 have h3 : (16 * aS (aA n) 5 n + -(4 * aS (aA n) 239 n)).natAbs ≤ 16 * (aS (aA n) 5 n).natAbs + 4 * (aS (aA n) 239 n).natAbs := by omega
 have h4 := zS h3
 have h5 := zb6 (16 * (aS (aA n) 5 n).natAbs) (4 * (aS (aA n) 239 n).natAbs)
 have h6 := zaf 16 (aS (aA n) 5 n).natAbs
 have h7 := zaf 4 (aS (aA n) 239 n).natAbs
 have h8 : bl 16 = 5 := by decide
 have h9 : bl 4 = 3 := by decide
 omega
theorem zeT {bits n : Nat} (hn : 1 ≤ n) (hn2 : n ≤ 60) {x : Bool} {y : List Int} {z g : Int} {r : Bool}
  (fin : Ev (fun k => zao.l0 k bits n x y z g (D (od n)) ((n + 1 : Nat) : Int)) r) :
  ∀ d i : Nat, i + d = n → Ev (fun k => zao.l0 k bits n x y z g (D (od i)) ((i + 1 : Nat) : Int)) r
 | 0, i, h => by
  have : i = n := by omega
  subst this; exact fin
 | d + 1, i, h => by
  refine ze ?_
  simp only [zao.l0]
  have hF := zcL i (by omega)
  have e1 : IntKind.u64.wrap ((2 * (i + 1) + 1 : Nat) : Int) = ((2 * (i + 1) + 1 : Nat) : Int) := by rw [zaK]; omega
  rw [w2k (by omega), e1, wk1 (by omega)]
  clear e1
  have hi1 : bl (2 * (i + 1) + 1) ≤ 64 := zbo (by omega)
  refine zd (by omega) (Ev.bind (rOf (by omega)) (Ev.bind (zbV (by omega) (by omega)) ?_))
  exact zeT hn hn2 fin d (i + 1) (by omega)
attribute [local irreducible] pL pC aS od aA aN aT in
theorem zhs {bits n : Nat} (hb1 : 1 ≤ bits) (hb2 : bits ≤ 200) (hn : 1 ≤ n) (hn2 : n ≤ 60) :
    Ev (fun k => zao.l0 k bits n (mk (pC bits : Nat) (2 - (bits : Int))).1 (mk (pC bits : Nat) (2 - (bits : Int))).2.1 (mk (pC bits : Nat) (2 - (bits : Int))).2.2 0 (D (od n)) ((n + 1 : Nat) : Int)) true := by
  refine ze ?_
  simp only [zao.l0]
  have hO := zcL n hn2
  have hA := zd6 hn2
  have hA0 := zgf n
  have hT := zgg hn2
  have hc := zhO (b := bits) (by omega)
  obtain ⟨k1, k2⟩ := zg9 hn hn2
  have c1 := zhb (b := bits) hA0 k1 (by omega)
  have c2 := zha (b := bits) k2 (by omega)
  have ec : pL / 2 ^ (8320 + 2 - bits) = pC bits := by unfold pC; rfl
  rw [ec] at c1 c2
  clear k1 k2 ec
  have e1 : IntKind.u64.wrap ((2 * n + 1 : Nat) : Int) = ((2 * n + 1 : Nat) : Int) := by rw [zaK]; omega
  rw [w2k (k := n) (by omega), e1]
  clear e1
  have b5 := zb7 (b := 5) (n := 2 * n + 1) (by omega)
  have b239 := zb7 (b := 239) (n := 2 * n + 1) (by omega)
  have bo5 := zaf (od n) (5 ^ (2 * n + 1))
  have bn5 := zaf (2 * n + 1) (5 ^ (2 * n + 1))
  have hn64 : bl (2 * n + 1) ≤ 64 := zbo (by omega)
  have hd0 : (2 * n + 1) * 5 ^ (2 * n + 1) ≠ 0 := by
    have := Nat.mul_pos (show 0 < 2 * n + 1 by omega) (Nat.pow_pos (n := 2 * n + 1) (show 0 < 5 by omega)); omega
  have eA : od n * 5 ^ (2 * n + 1) * 239 ^ (2 * n + 1) = aA n := by unfold aA; rfl
  have eN : aA n / ((2 * n + 1) * 5 ^ (2 * n + 1)) = aN n := by unfold aN; rfl
  have hN : bl (aN n) ≤ 3000 := by rw [← eN]; exact Nat.le_trans (zS (Nat.div_le_self _ _)) hA
  have hsl : bl (17 * aN n) ≤ 3100 := by have := zaf 17 (aN n); have h : bl 17 = 5 := by decide
                                         omega
  have m1 := zbV (a := od n) (b := 5 ^ (2 * n + 1)) (by omega) (by omega)
  have m2 := zbV (a := od n * 5 ^ (2 * n + 1)) (b := 239 ^ (2 * n + 1)) (by omega) (by omega)
  rw [eA] at m2
  have ar5 := zej (A := aA n) (y := 5) (n := n) (by omega) (by omega) (by omega) hn2
  have ar239 := zej (A := aA n) (y := 239) (n := n) (by omega) (by omega) (by omega) hn2
  have s5 := zb1 (A := aA n) (by omega) (y := 5) (k := n) hn2
  have s239 := zb1 (A := aA n) (by omega) (y := 239) (k := n) hn2
  have i16 : bl (16 : Int).natAbs = 5 := by decide
  have i4 : bl (4 : Int).natAbs = 3 := by decide
  have x16 := zcN (zZ (z := 16) (e := 0) (by omega) (by omega) (by omega)) (zZ (z := aS (aA n) 5 n) (e := 0) (by omega) (by omega) (by omega))
  have x4 := zcN (zZ (z := 4) (e := 0) (by omega) (by omega) (by omega)) (zZ (z := aS (aA n) 239 n) (e := 0) (by omega) (by omega) (by omega))
  have ez : (0 : Int) + 0 = 0 := by omega
  rw [ez] at x16 x4
  have y16 : bl (16 * aS (aA n) 5 n).natAbs ≤ 11000 := by rw [Int.natAbs_mul]; have := zaf (16 : Int).natAbs (aS (aA n) 5 n).natAbs; omega
  have y4 : bl (4 * aS (aA n) 239 n).natAbs ≤ 11000 := by rw [Int.natAbs_mul]; have := zaf (4 : Int).natAbs (aS (aA n) 239 n).natAbs; omega
  have sb := zfh (zZ (z := 16 * aS (aA n) 5 n) (e := 0) (by omega) (by omega) (by omega)) (zZ (z := 4 * aS (aA n) 239 n) (e := 0) (by omega) (by omega) (by omega))
  rw [zbB] at sb
  have eT : 16 * aS (aA n) 5 n + -(4 * aS (aA n) 239 n) = aT n := by unfold aT; rfl
  rw [eT] at sb
  have q1 := zff (a := aA n) (b := (2 * n + 1) * 5 ^ (2 * n + 1)) (by omega) (by omega) hd0
  rw [eN] at q1
  have o17 : Ev (fun k => zU.f k 17) (D 17) := rOf (n := 17) (by omega)
  have m17 := zbV (a := 17) (b := aN n) (by decide) (by omega)
  have f1 := zdr false (a := 17 * aN n) (by omega)
  have f2 := zdr false (a := aA n) (by omega)
  rw [ziw] at f1 f2
  generalize pC bits = c at *
  have et : top (c : Nat) (2 - (bits : Int)) = 2 := by
    unfold top
    have : c ≠ 0 := by intro h; rw [h, zb8] at hc; omega
    rw [if_neg (by omega), Int.natAbs_natCast]; omega
  have hcn : bl ((c : Nat) : Int).natAbs ≤ 200 := by rw [Int.natAbs_natCast]; omega
  have rc : Rg (c : Nat) (2 - (bits : Int)) := zZ (by omega) (by omega) (by omega)
  have r1 : Rg 1 (2 - (bits : Int)) := zZ (by decide) (by omega) (by omega)
  have hc1 : bl ((c : Int) + 1).natAbs ≤ 300 := by
    have e : ((c : Int) + 1).natAbs = c + 1 := by omega
    have := zb6 c 1
    have h1 : bl 1 = 1 := by decide
    rw [e]; omega
  have ra : Rg ((aA n : Nat) : Int) 0 := zZ (by rw [Int.natAbs_natCast]; omega) (by omega) (by omega)
  have rT : Rg (aT n) 0 := zZ (by omega) (by omega) (by omega)
  have rs : Rg ((17 * aN n : Nat) : Int) 0 := zZ (by rw [Int.natAbs_natCast]; omega) (by omega) (by omega)
  have rc1 : Rg ((c : Int) + 1) (2 - (bits : Int)) := zZ (by omega) (by omega) (by omega)
  have b1 : bl (((aA n : Nat) : Int) * ((c : Int) + 1)).natAbs ≤ 100000 := by
    rw [Int.natAbs_mul, Int.natAbs_natCast]
    have := zaf (aA n) ((c : Int) + 1).natAbs
    omega
  have b2 : bl (((aA n : Nat) : Int) * (c : Int)).natAbs ≤ 100000 := by
    rw [Int.natAbs_mul, Int.natAbs_natCast]
    have := zaf (aA n) ((c : Nat) : Int).natAbs
    omega
  have ez2 : (0 : Int) + (2 - (bits : Int)) = 2 - (bits : Int) := by omega
  have p1 := zcN ra rc1
  have p2 := zcN ra rc
  rw [ez2] at p1 p2
  have lo := zfh rT rs
  have hi := zdq rT rs
  rw [zbB] at lo hi
  have bd : ∀ z : Int, z.natAbs ≤ (aT n).natAbs + 17 * aN n → bl z.natAbs ≤ 100000 := by
    intro z hz
    have h1 := zS hz
    have h2 := zb6 (aT n).natAbs (17 * aN n)
    omega
  have rlo : Rg (aT n + -((17 * aN n : Nat) : Int)) 0 := zZ (by have := bd (aT n + -((17 * aN n : Nat) : Int)) (by omega); omega) (by omega) (by omega)
  have rhi : Rg (aT n + ((17 * aN n : Nat) : Int)) 0 := zZ (by have := bd (aT n + ((17 * aN n : Nat) : Int)) (by omega); omega) (by omega) (by omega)
  have g1 := zfe rlo (zZ (z := ((aA n : Nat) : Int) * ((c : Int) + 1)) (e := 2 - (bits : Int)) (by omega) (by omega) (by omega))
  have g2 := zfe (zZ (z := ((aA n : Nat) : Int) * (c : Int)) (e := 2 - (bits : Int)) (by omega) (by omega) (by omega)) rhi
  have l1 : zN (aT n + -((17 * aN n : Nat) : Int)) 0 (((aA n : Nat) : Int) * ((c : Int) + 1)) (2 - (bits : Int)) < 0 := zgC (by
    rw [Int.natCast_mul (aA n * (c + 1)), Int.natCast_mul (aA n) (c + 1)] at c1
    exact c1)
  have l2 : zN (((aA n : Nat) : Int) * (c : Int)) (2 - (bits : Int)) (aT n + ((17 * aN n : Nat) : Int)) 0 < 0 := zgB (by
    rw [Int.natCast_mul (aA n * c), Int.natCast_mul (aA n) c] at c2
    exact c2)
  have ad := zdq rc r1
  rw [zbB] at ad
  have tp := zhW rc
  rw [et] at tp
  have ew : wrap64 (2 - (bits : Int)) = 2 - (bits : Int) := by unfold wrap64; omega
  have p5 : Ev (fun k => zu.f k 5 ((2 * n + 1 : Nat) : Int)) (D (5 ^ (2 * n + 1))) := zds (b := 5) (by omega) (by omega) (by omega)
  have p239 : Ev (fun k => zu.f k 239 ((2 * n + 1 : Nat) : Int)) (D (239 ^ (2 * n + 1))) := zds (b := 239) (by omega) (by omega) (by omega)
  refine zg (by omega) (Ev.bind p5 (Ev.bind m1 (Ev.bind p239 (Ev.bind m2 (Ev.bind (zdv (by omega) (by omega)) (Ev.bind ar5 (Ev.bind x16 (Ev.bind (zdv (by omega) (by omega)) (Ev.bind ar239 (Ev.bind x4 (Ev.bind sb (Ev.bind (rOf (by omega)) (Ev.bind p5 (Ev.bind (zbV (by omega) (by omega)) (Ev.bind q1 (Ev.bind o17 (Ev.bind m17 (Ev.bind f1 (Ev.bind f2 (Ev.bind tp ?_))))))))))))))))))))
  rw [ew]
  clear ew
  refine zj (zfi _) (zd trivial (Ev.bind lo (Ev.bind ad (Ev.bind p1 (Ev.bind g1 (zd l1 (Ev.bind p2 (Ev.bind hi (Ev.bind g2 (zd l2 (Ev.bind zce (Ev.now _))))))))))))
theorem zf6 (bits n : Int) : Ev (fun k => zao.f k bits n) true := by
 unfold zao.f
 by_cases c1 : bits < 1
 ·exact zd c1 (Ev.bind zce (Ev.now _))
 refine zg c1 ?_
 by_cases c2 : bits > 200
 ·exact zd c2 (Ev.bind zce (Ev.now _))
 refine zg c2 ?_
 by_cases c3 : n < 1
 ·exact zd c3 (Ev.bind zce (Ev.now _))
 refine zg c3 ?_
 by_cases c4 : n > 60
 ·exact zd c4 (Ev.bind zce (Ev.now _))
 refine zg c4 ?_
 obtain ⟨b, rfl⟩ : ∃ m : Nat, bits = m := ⟨bits.toNat, by omega⟩
 obtain ⟨m, rfl⟩ : ∃ k : Nat, n = k := ⟨n.toNat, by omega⟩
 have hp := zfc b
 rw [zgs _ (by omega) (by omega), zhT (by omega) (by omega)] at hp
 refine zj (a := (0, 0, 0, false, [], 0, false, [], 0)) rfl (Ev.bind hp ?_)
 have h := zeT (by omega) (by omega) (zhs (bits := b) (n := m) (by omega) (by omega) (by omega) (by omega)) m 0 (by omega)
 have e1 : D (od 0) = [1] := zdT
 rw [e1] at h
 exact h
end Go.Proofs.YtlngoohfkaceoaaGreatDoor.Eng.K
