import Derived.Test.YtlngoohfkaceoaaGreatDoorQBookMercatorK1
set_option linter.unusedVariables false
set_option linter.unusedSimpArgs false
set_option maxRecDepth 100000
namespace Go.Proofs.YtlngoohfkaceoaaGreatDoor.Eng.K
open Go.RowKit Go.Proofs.YtlngoohfkaceoaaGreatDoor.Eng
theorem zhd {S A l b N : Nat} (hA : 0 < A) (h : S * 2 ^ N ≤ A * l) (hb : b ≤ N) : S * 2 ^ b < A * (l / 2 ^ (N - b) + 1) := by
 have h1 : l < (l / 2 ^ (N - b) + 1) * 2 ^ (N - b) := by
  have := Nat.lt_mul_div_succ l (zm (N - b))
  rwa [Nat.mul_comm] at this
 have h2 : A * l < A * ((l / 2 ^ (N - b) + 1) * 2 ^ (N - b)) := Nat.mul_lt_mul_of_pos_left h1 hA
 have h3 : S * 2 ^ N = S * 2 ^ b * 2 ^ (N - b) := by rw [Nat.mul_assoc, ← Nat.pow_add]; congr 2; omega
 rw [h3] at h
 rw [← Nat.mul_assoc] at h2
 exact Nat.lt_of_mul_lt_mul_right (Nat.lt_of_le_of_lt h h2)
theorem zhc {H A l b N : Nat} (h : A * l < H * 2 ^ N) (hb : b ≤ N) : A * (l / 2 ^ (N - b)) < H * 2 ^ b := by
 have h1 : l / 2 ^ (N - b) * 2 ^ (N - b) ≤ l := Nat.div_mul_le_self _ _
 have h2 : A * (l / 2 ^ (N - b) * 2 ^ (N - b)) ≤ A * l := Nat.mul_le_mul_left _ h1
 have h3 : H * 2 ^ N = H * 2 ^ b * 2 ^ (N - b) := by rw [Nat.mul_assoc, ← Nat.pow_add]; congr 2; omega
 rw [h3] at h
 rw [← Nat.mul_assoc] at h2
 exact Nat.lt_of_mul_lt_mul_right (Nat.lt_of_le_of_lt h2 h)
theorem zgm {a b : Int} {n : Nat} (h : a * 2 ^ n < b) : zO a 0 b (-(n : Int)) < 0 := by
 rw [← zcZ (m := -(n : Int)) (by omega) (by omega)]
 have e1 : al a 0 (-(n : Int)) = a * 2 ^ n := by unfold al; congr 2; omega
 have e2 : al b (-(n : Int)) (-(n : Int)) = b := by unfold al; rw [Int.sub_self]; simp
 rw [e1, e2, Int.sign_eq_neg_one_of_neg (by omega)]; omega
theorem zgl {a b : Int} {n : Nat} (h : b < a * 2 ^ n) : zO b (-(n : Int)) a 0 < 0 := by
 rw [← zcZ (m := -(n : Int)) (by omega) (by omega)]
 have e1 : al a 0 (-(n : Int)) = a * 2 ^ n := by unfold al; congr 2; omega
 have e2 : al b (-(n : Int)) (-(n : Int)) = b := by unfold al; rw [Int.sub_self]; simp
 rw [e1, e2, Int.sign_eq_neg_one_of_neg (by omega)]; omega
def lC (b : Nat) : Nat := lL / 2 ^ (8320 - b)
theorem zgU {b : Nat} (hb : b ≤ 8320) : bl (lC b) = b := by
 unfold lC
 rw [zbA, zc2]; omega
theorem zgZ {b : Nat} (h1 : 1 ≤ b) (h2 : b ≤ 8192) : zaO lZ nE b = mk (lC b : Nat) (-(b : Int)) := by
 unfold zaO
 rw [zc3, zcx, Int.natAbs_natCast, decide_eq_false (by omega)]
 have e1 : nE + ((8320 - b : Nat) : Int) = -(b : Int) := by have := zhn; omega
 rw [e1]; rfl
theorem zbj {z : Int} {e : Int} (h : bl z.natAbs ≤ 1000000) (h1 : -1000000 ≤ e) (h2 : e ≤ 1000000) : Rg z e := ⟨by omega, by omega, by omega⟩
theorem zdz (n : Nat) : sv false n = (n : Int) := rfl
theorem zhb {n : Nat} (h1 : 1 ≤ n) (h2 : n ≤ 100) : mS n (fac n) n * 2 ^ 8320 ≤ fac n * 2 ^ n * lL ∧ fac n * 2 ^ n * lL < (mS n (fac n) n + fac n / n) * 2 ^ 8320 := by
 have h := List.all_eq_true.1 zha (n - 1) (List.mem_range.2 (by omega))
 have e : n - 1 + 1 = n := by omega
 rw [e] at h
 unfold mOk at h
 rw [Bool.and_eq_true] at h
 exact ⟨Nat.le_of_ble_eq_true h.1, Nat.le_of_ble_eq_true h.2⟩
attribute [local irreducible] lL lC mS fac in
theorem zhe {bits n : Nat} (hb1 : 1 ≤ bits) (hb2 : bits ≤ 200) (hn : 1 ≤ n) (hn2 : n ≤ 100) :
  Ev (fun k => zz.l1 k bits n (mk (lC bits : Nat) (-(bits : Int))).1 (mk (lC bits : Nat) (-(bits : Int))).2.1 (mk (lC bits : Nat) (-(bits : Int))).2.2 0 (D (fac n)) (D (mS n (fac n) n)) ((n + 1 : Nat) : Int)) true := by
 refine ze ?_
 simp only [zz.l1]
 have hF := zb7 n hn2
 have hM := zeD hn2 (i := n) (by omega)
 have hF0 := zet n
 have hc := zgU (b := bits) (by omega)
 obtain ⟨k1, k2⟩ := zhb hn hn2
 have c1 := zhd (b := bits) (Nat.mul_pos hF0 (zm n)) k1 (by omega)
 have c2 := zhc (b := bits) k2 (by omega)
 have ec : lL / 2 ^ (8320 - bits) = lC bits := by unfold lC; rfl
 rw [ec] at c1 c2
 clear k1 k2 ec
 generalize mS n (fac n) n = S at *
 generalize fac n = F at *
 generalize lC bits = c at *
 have hq : bl (F / n) ≤ bl F := zaa (Nat.div_le_self _ _)
 have hu : bl (F * 2 ^ n) ≤ 10000 := by
  have h1 := za7 F (2 ^ n)
  have h2 := zbB n
  omega
 have hs : bl (S + F / n) ≤ 10000 := by have := zcp S (F / n); omega
 have hn64 : bl n ≤ 64 := zbk (by omega)
 have e1 : IntKind.u64.wrap (n : Int) = (n : Int) := by rw [zaG]; omega
 rw [e1]
 clear e1
 have et : top (c : Nat) (-(bits : Int)) = 0 := by
  unfold top
  have : c ≠ 0 := by intro h; rw [h, zb1] at hc; omega
  rw [if_neg (by omega), Int.natAbs_natCast]; omega
 have hcn : bl ((c : Nat) : Int).natAbs ≤ 200 := by rw [Int.natAbs_natCast]; omega
 have rc : Rg (c : Nat) (-(bits : Int)) := zbj (by omega) (by omega) (by omega)
 have r1 : Rg 1 (-(bits : Int)) := zbj (by decide) (by omega) (by omega)
 have hc1 : bl ((c : Int) + 1).natAbs ≤ 300 := by
  have e : ((c : Int) + 1).natAbs = c + 1 := by omega
  have := zcp c 1
  have h1 : bl 1 = 1 := by decide
  rw [e]; omega
 have ra : Rg ((F * 2 ^ n : Nat) : Int) 0 := zbj (by rw [Int.natAbs_natCast]; omega) (by omega) (by omega)
 have rl : Rg ((S : Nat) : Int) 0 := zbj (by rw [Int.natAbs_natCast]; omega) (by omega) (by omega)
 have rh : Rg ((S + F / n : Nat) : Int) 0 := zbj (by rw [Int.natAbs_natCast]; omega) (by omega) (by omega)
 have rc1 : Rg ((c : Int) + 1) (-(bits : Int)) := zbj (by omega) (by omega) (by omega)
 have b1 : bl (((F * 2 ^ n : Nat) : Int) * ((c : Int) + 1)).natAbs ≤ 100000 := by
  rw [Int.natAbs_mul, Int.natAbs_natCast]
  have := za7 (F * 2 ^ n) ((c : Int) + 1).natAbs
  omega
 have b2 : bl (((F * 2 ^ n : Nat) : Int) * (c : Int)).natAbs ≤ 100000 := by
  rw [Int.natAbs_mul, Int.natAbs_natCast]
  have := za7 (F * 2 ^ n) ((c : Nat) : Int).natAbs
  omega
 have ez : (0 : Int) + -(bits : Int) = -(bits : Int) := by omega
 have p1 := ze0 ra rc1
 have p2 := ze0 ra rc
 rw [ez] at p1 p2
 have q1 := zeZ rl (zbj (z := ((F * 2 ^ n : Nat) : Int) * ((c : Int) + 1)) (e := -(bits : Int)) (by omega) (by omega) (by omega))
 have q2 := zeZ (zbj (z := ((F * 2 ^ n : Nat) : Int) * (c : Int)) (e := -(bits : Int)) (by omega) (by omega) (by omega)) rh
 have l1 : zO (S : Int) 0 (((F * 2 ^ n : Nat) : Int) * ((c : Int) + 1)) (-(bits : Int)) < 0 := zgm (by
  have : ((S * 2 ^ bits : Nat) : Int) < ((F * 2 ^ n * (c + 1) : Nat) : Int) := by omega
  rw [Int.natCast_mul, Int.natCast_mul (F * 2 ^ n), Int.natCast_pow] at this
  exact this)
 have l2 : zO (((F * 2 ^ n : Nat) : Int) * (c : Int)) (-(bits : Int)) ((S + F / n : Nat) : Int) 0 < 0 := zgl (by
  have : ((F * 2 ^ n * c : Nat) : Int) < (((S + F / n) * 2 ^ bits : Nat) : Int) := by omega
  rw [Int.natCast_mul, Int.natCast_mul (S + F / n), Int.natCast_pow] at this
  exact this)
 have ad := zhH rc r1
 rw [zcU] at ad
 have tp := zhJ rc
 rw [et] at tp
 have ew : wrap64 (0 - (bits : Int)) = -(bits : Int) := by unfold wrap64; omega
 refine zg (by omega) (Ev.bind (rOf (by omega)) (Ev.bind (ze1 (by omega) (by omega) (by omega)) (Ev.bind (ze4 (by omega) (by omega)) (Ev.bind (zdi false (by omega)) (Ev.bind (zdi false (by omega)) (Ev.bind (zeY (by omega) (by omega)) (Ev.bind (zdi false (by omega)) (Ev.bind tp ?_))))))))
 rw [ew]
 clear ew
 rw [zdz, zdz, zdz]
 refine zi (ze3 _) (zd trivial (Ev.bind ad (Ev.bind p1 (Ev.bind q1 (zd l1 (Ev.bind p2 (Ev.bind q2 (zd l2 (Ev.bind zb8 (Ev.now _))))))))))
theorem zfT (bits n : Int) : Ev (fun k => zz.f k bits n) true := by
 unfold zz.f
 by_cases c1 : bits < 1
 ·exact zd c1 (Ev.bind zb8 (Ev.now _))
 refine zg c1 ?_
 by_cases c2 : bits > 200
 ·exact zd c2 (Ev.bind zb8 (Ev.now _))
 refine zg c2 ?_
 by_cases c3 : n < 1
 ·exact zd c3 (Ev.bind zb8 (Ev.now _))
 refine zg c3 ?_
 by_cases c4 : n > 100
 ·exact zd c4 (Ev.bind zb8 (Ev.now _))
 refine zg c4 ?_
 obtain ⟨b, rfl⟩ : ∃ m : Nat, bits = m := ⟨bits.toNat, by omega⟩
 obtain ⟨m, rfl⟩ : ∃ k : Nat, n = k := ⟨n.toNat, by omega⟩
 have hl := zg0 b
 rw [zgc _ (by omega) (by omega), zgZ (by omega) (by omega)] at hl
 refine zi (a := (0, 0, 0, false, [], 0, false, [], 0)) rfl (Ev.bind hl ?_)
 have h := zeF (by omega) (by omega) (zhe (bits := b) (n := m) (by omega) (by omega) (by omega) (by omega)) (m - 1) 1 (by omega) (by omega)
 have e1 : D (fac 1) = [1] := by show D 1 = [1]; rw [zaK (by omega)]; simp [zt]
 rw [e1] at h
 exact h
end Go.Proofs.YtlngoohfkaceoaaGreatDoor.Eng.K
