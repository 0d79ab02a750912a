import Derived.Test.YtnkpmjhlkmlmbaaGreatDoorQDeciBackK1
import Derived.Lib.Atoi
set_option linter.unusedVariables false
set_option linter.unusedSimpArgs false
namespace Go.Proofs.YtnkpmjhlkmlmbaaGreatDoor.Eng.K
open Go.RowKit Go.Proofs.YtnkpmjhlkmlmbaaGreatDoor.Eng
theorem ze0 (b : Bool) : bN b < 2 := by cases b <;> decide
theorem zgA (b : Bool) : bN b = 0 ↔ b = false := by cases b <;> decide
def stk (Q : Nat) (b : Bool) : Nat := 2 * Q + bN b
theorem zd8 {Q : Nat} (h : Q ≠ 0) (b : Bool) : bl (stk Q b) = bl Q + 1 := by
 have hb := ze0 b
 have : stk Q b / 2 ^ 1 = Q := by unfold stk; omega
 have h2 := zbs (stk Q b) 1
 rw [this] at h2
 have h3 := zaQ h
 have h4 : bl (stk Q b) ≠ 0 := fun e => by rw [e] at h2; omega
 omega
theorem zjL {H r j : Nat} (h : H ≠ 0) (hr : r < 2 ^ j) : bl (H * 2 ^ j + r) = bl H + j := by
 have h1 : (H * 2 ^ j + r) / 2 ^ j = H := by
  rw [Nat.mul_comm, Nat.mul_add_div (zi j), Nat.div_eq_of_lt hr, Nat.add_zero]
 have h2 := zbs (H * 2 ^ j + r) j
 rw [h1] at h2
 have := zaQ h
 omega
theorem zij {f m : Int} (h : isF f) (s : Bool) {H r j : Nat} (hH : pr f + 1 ≤ bl H) (hr : r < 2 ^ j) (e : Int) : zo f m s (H * 2 ^ j + r) e = zo f m s (stk H (decide (r ≠ 0))) (e + j - 1) := by
 have hpr := zY h
 have h0 : H ≠ 0 := fun c => by rw [c, zbu] at hH; omega
 have hb1 := zjL h0 hr
 have hb2 := zd8 h0 (decide (r ≠ 0))
 rw [← zeD, ← zeD]
 have hT : e + j - 1 + (bl (stk H (decide (r ≠ 0))) : Nat) = e + (bl (H * 2 ^ j + r) : Nat) := by omega
 rw [hT]
 refine zfT fun E hE => ?_
 obtain ⟨d, hd⟩ : ∃ d : Nat, (E - e).toNat = d + j ∧ 1 ≤ d := ⟨(E - e).toNat - j, by omega, by omega⟩
 have e1 : (e - E).toNat = 0 := by omega
 have e2 : (e + j - 1 - E).toNat = 0 := by omega
 have e3 : (E - (e + j - 1)).toNat = d + 1 := by omega
 unfold R exR stk
 rw [e1, e2, e3, hd.1, Nat.pow_zero, Nat.mul_one, Nat.mul_one]
 exact ⟨zii m s hr hd.2, decide_eq_decide.2 (zhi hr)⟩
theorem zkJ (X Y j : Nat) (hY : 0 < Y) : ∃ r, r < 2 ^ j ∧ X * 2 ^ j / Y = X / Y * 2 ^ j + r ∧ (X % Y = 0 ↔ r = 0 ∧ X * 2 ^ j % Y = 0) := by
 have h1 := Nat.div_add_mod X Y
 have h2 := Nat.mod_lt X hY
 have e : X * 2 ^ j = Y * (X / Y * 2 ^ j) + X % Y * 2 ^ j := by
  conv => lhs; rw [← h1, Nat.add_mul, Nat.mul_assoc]
 refine ⟨X % Y * 2 ^ j / Y, ?_, ?_, ?_⟩
 ·rw [Nat.div_lt_iff_lt_mul hY, Nat.mul_comm]
  exact Nat.mul_lt_mul_of_pos_left h2 (zi j)
 ·rw [e, Nat.mul_add_div hY]
 ·rw [e, Nat.mul_add_mod]
  constructor
  ·intro c; rw [c]; simp
  ·intro ⟨c1, c2⟩
   have h3 := Nat.div_add_mod (X % Y * 2 ^ j) Y
   rw [c1, c2] at h3
   have h4 : X % Y * 2 ^ j = 0 := by rw [← h3]; simp
   rcases Nat.mul_eq_zero.1 h4 with h5 | h5
   ·exact h5
   ·have := zi j; omega
theorem zin {f m : Int} (h : isF f) (s : Bool) {A B N : Nat} (hB : 0 < B) (hn : pr f + 1 ≤ bl (A * 2 ^ N / B)) (e : Int) (j : Nat) :
  zo f m s (stk (A * 2 ^ (N + j) / B) (decide (A * 2 ^ (N + j) % B ≠ 0))) (e - (N + j : Nat) - 1) = zo f m s (stk (A * 2 ^ N / B) (decide (A * 2 ^ N % B ≠ 0))) (e - N - 1) := by
 obtain ⟨r, hr, hq, hz⟩ := zkJ (A * 2 ^ N) B j hB
 rw [Nat.pow_add, ← Nat.mul_assoc]
 rw [hq]
 have hb := ze0 (decide (A * 2 ^ N * 2 ^ j % B ≠ 0))
 have hs : stk (A * 2 ^ N / B * 2 ^ j + r) (decide (A * 2 ^ N * 2 ^ j % B ≠ 0)) = A * 2 ^ N / B * 2 ^ (j + 1) + (2 * r + bN (decide (A * 2 ^ N * 2 ^ j % B ≠ 0))) := by
  unfold stk
  rw [Nat.pow_succ, ← Nat.mul_assoc]; omega
 rw [hs, zij h s hn (by rw [Nat.pow_succ]; omega)]
 have hd : decide (2 * r + bN (decide (A * 2 ^ N * 2 ^ j % B ≠ 0)) ≠ 0) = decide (A * 2 ^ N % B ≠ 0) := by
  apply decide_eq_decide.2
  have := zgA (decide (A * 2 ^ N * 2 ^ j % B ≠ 0))
  have h3 : bN (decide (A * 2 ^ N * 2 ^ j % B ≠ 0)) = 0 ↔ A * 2 ^ N * 2 ^ j % B = 0 := by rw [this]; simp
  constructor
  ·intro c c2
   have := hz.1 c2
   exact c (by rw [h3.2 this.2, this.1])
  ·intro c c2
   exact c (hz.2 ⟨by omega, h3.1 (by omega)⟩)
 rw [hd]
 congr 1
 omega
def rq (f m : Int) (s : Bool) (A B : Nat) (e : Int) : Int × Int :=
 zo f m s (stk (A * 2 ^ (bl B + 64) / B) (decide (A * 2 ^ (bl B + 64) % B ≠ 0))) (e - (bl B + 64 : Nat) - 1)
theorem zeE {A B : Nat} (hA : A ≠ 0) (hB : 0 < B) : 64 + 1 ≤ bl (A * 2 ^ (bl B + 64) / B) := by
 have := (zie hA (Nat.ne_of_gt hB) (bl B + 64) (by omega)).1
 have := zaQ hA
 omega
theorem zfW {f m : Int} (h : isF f) (s : Bool) {A B : Nat} (hA : A ≠ 0) (hB : 0 < B) (e : Int) (N : Nat) (hn : pr f + 1 ≤ bl (A * 2 ^ N / B)) :
  zo f m s (stk (A * 2 ^ N / B) (decide (A * 2 ^ N % B ≠ 0))) (e - N - 1) = rq f m s A B e := by
 have hpr := zY h
 have hfb := z7 h
 have hb := zeE hA hB
 unfold rq
 have h1 := zin (m := m) h s hB hn e (bl B + 64)
 have h2 := zin (m := m) h s (A := A) (N := bl B + 64) hB (by omega) e N
 rw [← h1, ← h2, Nat.add_comm N]
theorem zeF {f m : Int} (h : isF f) (s : Bool) {A B c : Nat} (hA : A ≠ 0) (hB : 0 < B) (hc : 0 < c) (e : Int) : rq f m s (A * c) (B * c) e = rq f m s A B e := by
 have hAc : A * c ≠ 0 := Nat.mul_ne_zero hA (by omega)
 have hBc : 0 < B * c := Nat.mul_pos hB hc
 have hpr := zY h
 have hfb := z7 h
 have hb := zeE hAc hBc
 have e1 : A * c * 2 ^ (bl (B * c) + 64) = A * 2 ^ (bl (B * c) + 64) * c := Nat.mul_right_comm _ _ _
 have e2 : A * c * 2 ^ (bl (B * c) + 64) / (B * c) = A * 2 ^ (bl (B * c) + 64) / B := by rw [e1, Nat.mul_div_mul_right _ _ hc]
 have e3 : A * c * 2 ^ (bl (B * c) + 64) % (B * c) = A * 2 ^ (bl (B * c) + 64) % B * c := by rw [e1, Nat.mul_mod_mul_right]
 rw [e2] at hb
 rw [← zfW h s hA hB e (bl (B * c) + 64) (by omega)]
 unfold rq
 rw [e2, e3]
 have hd : decide (A * 2 ^ (bl (B * c) + 64) % B * c ≠ 0) = decide (A * 2 ^ (bl (B * c) + 64) % B ≠ 0) := by
  apply decide_eq_decide.2
  rw [Ne, Nat.mul_eq_zero]
  omega
 rw [hd]
theorem zeG {f m : Int} (h : isF f) (s : Bool) {A B : Nat} (hA : A ≠ 0) (hB : 0 < B) (e : Int) (j : Nat) : rq f m s (A * 2 ^ j) B e = rq f m s A B (e + j) := by
 have hAj : A * 2 ^ j ≠ 0 := Nat.mul_ne_zero hA (Nat.ne_of_gt (zi j))
 have hpr := zY h
 have hfb := z7 h
 have hb := zeE hAj hB
 have e1 : A * 2 ^ j * 2 ^ (bl B + 64) = A * 2 ^ (bl B + 64 + j) := by rw [Nat.mul_assoc, ← Nat.pow_add, Nat.add_comm j]
 rw [e1] at hb
 rw [← zfW h s hA hB (e + j) (bl B + 64 + j) (by omega)]
 have e2 : e + (j : Int) - ((bl B + 64 + j : Nat) : Int) - 1 = e - ((bl B + 64 : Nat) : Int) - 1 := by omega
 rw [e2]
 unfold rq
 rw [e1]
theorem zmI {f m : Int} (s : Bool) {A : Nat} (hA : A ≠ 0) (e : Int) (N : Nat) : zo f m s (stk (A * 2 ^ N / 1) (decide (A * 2 ^ N % 1 ≠ 0))) (e - N - 1) = zo f m s A e := by
 have e2 : stk (A * 2 ^ N / 1) (decide (A * 2 ^ N % 1 ≠ 0)) = A * 2 ^ (N + 1) := by
  have e3 : bN (decide (A * 2 ^ N % 1 ≠ 0)) = 0 := by rw [zgA, decide_eq_false_iff_not]; simp [Nat.mod_one]
  unfold stk
  rw [e3, Nat.div_one, Nat.pow_succ, Nat.add_zero, ← Nat.mul_assoc A, Nat.mul_comm 2]
 rw [e2, zfU f m s hA]
 congr 1
 omega
theorem zio {f m : Int} (h : isF f) (s : Bool) {A : Nat} (hA : A ≠ 0) (e : Int) : rq f m s A 1 e = zo f m s A e := zmI s hA e (bl 1 + 64)
theorem zmv {f m : Int} (h : isF f) (s : Bool) {A B A' B' : Nat} (hA : A ≠ 0) (hA' : A' ≠ 0) (hB : 0 < B) (hB' : 0 < B') (hx : A * B' = A' * B) (e : Int) : rq f m s A B e = rq f m s A' B' e := by
 rw [← zeF h s hA hB hB' e, ← zeF h s hA' hB' hB e, hx, Nat.mul_comm B B']
theorem zmu {f m : Int} (h : isF f) (s : Bool) {A B : Nat} (hB : 0 < B) {e : Int} {k : Nat} (hk : B * 2 ^ k ≤ A) (he : wd f ≤ e + k) : rq f m s A B e = ((zcB f m s : Int), 20) := by
 have hA : A ≠ 0 := fun c => by have := Nat.mul_pos hB (zi k); omega
 have hQ : 2 ^ (k + (bl B + 64)) ≤ A * 2 ^ (bl B + 64) / B := by
  rw [Nat.le_div_iff_mul_le hB, Nat.pow_add, Nat.mul_right_comm, Nat.mul_comm (2 ^ k)]
  exact Nat.mul_le_mul_right _ hk
 have hQ0 : A * 2 ^ (bl B + 64) / B ≠ 0 := Nat.ne_of_gt (Nat.lt_of_lt_of_le (zi _) hQ)
 have hbl := za3 hQ
 have h2 := zbt (v := 1) (by omega) (k + (bl B + 64))
 rw [Nat.one_mul, show bl 1 = 1 by decide] at h2
 have hst := zd8 hQ0 (decide (A * 2 ^ (bl B + 64) % B ≠ 0))
 unfold rq
 refine zmt h (fun c => ?_) ?_
 ·rw [c, zbu] at hst; omega
 ·omega
theorem zmw {f m : Int} (h : isF f) (s : Bool) {A B : Nat} (hA : A ≠ 0) (hB : 0 < B) {e : Int} {k : Nat} (hk : A * 2 ^ k < B) (he : e - k < lo f) :
  rq f m s A B e = zo f m s 1 (lo f - 2) := by
 have hQ : A * 2 ^ (bl B + 64) / B < 2 ^ (bl B + 64 - k) := by
  have hkB : k < bl B := by
   have h1 := zN B
   have h2 : 1 * 2 ^ k ≤ A * 2 ^ k := Nat.mul_le_mul_right _ (by omega)
   exact (Nat.pow_lt_pow_iff_right (by omega)).1 (show 2 ^ k < 2 ^ bl B by omega)
  rw [Nat.div_lt_iff_lt_mul hB]
  have e1 : A * 2 ^ (bl B + 64) = 2 ^ (bl B + 64 - k) * (A * 2 ^ k) := by
   rw [Nat.mul_left_comm, ← Nat.pow_add, show bl B + 64 - k + k = bl B + 64 by omega]
  rw [e1]
  exact Nat.mul_lt_mul_of_pos_left hk (zi _)
 have hb := zeE hA hB
 have hQ0 : A * 2 ^ (bl B + 64) / B ≠ 0 := fun c => by rw [c, zbu] at hb; omega
 have h2 := zK hQ
 have hst := zd8 hQ0 (decide (A * 2 ^ (bl B + 64) % B ≠ 0))
 have hs0 : stk (A * 2 ^ (bl B + 64) / B) (decide (A * 2 ^ (bl B + 64) % B ≠ 0)) ≠ 0 := fun c => by rw [c, zbu] at hst; omega
 unfold rq
 rw [zik h hs0 (by omega), zik h (by omega) (by rw [show bl 1 = 1 by decide]; omega)]
theorem zlO {f m : Int} (h : isF f) (hm : isM m) {s s' : Bool} {l l' : List Int} {e e' : Int} (hd : My s l e) (hd' : My s' l' e') : Ev (fun k => zJ.f k f m [(s, l, e), (s', l', e')]) ((pr f : Int), lo f, wd f, 0) := by
 unfold zJ.f
 unfold isM at hm
 refine zk (zfn h) ?_; try dsimp only
 refine ze (by simp) (ze (by omega) (ze (by omega) ?_))
 have e1 : wrap64 (0 + 1) = 1 := by rw [zag (by omega) (by omega)]; rfl
 have e2 : wrap64 (1 + 1) = 2 := by rw [zag (by omega) (by omega)]; rfl
 have el : (([(s, l, e), (s', l', e')] : List (Bool × List Int × Int)).length : Int) = 2 := rfl
 have r0 : rdT [.b, .is .u32, .i .i64] [(s, l, e), (s', l', e')] 0 = (s, l, e) := rfl
 have r1 : rdT [.b, .is .u32, .i .i64] [(s, l, e), (s', l', e')] 1 = (s', l', e') := rfl
 refine zf ?_
 simp only [zJ.l0, el, e1, r0]
 refine zd (by decide) (zd (by decide) (zd (by decide) ?_))
 refine zk (zca hd) ?_; try dsimp only
 refine ze (by simp) (zf ?_)
 simp only [zJ.l0, el, e2, r1]
 refine zd (by decide) (zd (by decide) (zd (by decide) ?_))
 refine zk (zca hd') ?_; try dsimp only
 refine ze (by simp) (zf ?_)
 simp only [zJ.l0]
 exact ze (by decide) (Ev.now _)
theorem zkP {n j : Nat} (h : bl n + j = 64) : zG n = n * 2 ^ j ∧ zaM n = false := by
 unfold zG zaM
 have e1 : 64 - bl n = j := by omega
 have e2 : bl n - 64 = 0 := by omega
 rw [e1, e2, Nat.pow_zero, Nat.div_one, Nat.mod_one]
 exact ⟨rfl, rfl⟩
def qN (A B : Nat) : Nat := 65 + bl B - bl A
def qC (A B : Nat) : Nat := bl (A * 2 ^ qN A B / B) - 64
def qH (A B : Nat) : Nat := A * 2 ^ qN A B / B / 2 ^ qC A B
def qL (A B : Nat) : Bool := decide (A * 2 ^ qN A B / B % 2 ^ qC A B ≠ 0) || decide (A * 2 ^ qN A B % B ≠ 0)
theorem zfN {A B : Nat} (hA : A ≠ 0) (hB : B ≠ 0) : 65 ≤ bl (A * 2 ^ qN A B / B) ∧ bl (A * 2 ^ qN A B / B) ≤ bl A + 66 ∧ bl (qH A B) = 64 := by
 have h1 : qN A B = 65 + bl B - bl A := rfl
 have h2 : qC A B = bl (A * 2 ^ qN A B / B) - 64 := rfl
 have := zie hA hB (qN A B) (by omega)
 have hp := zaQ hA
 have hd : bl (qH A B) = bl (A * 2 ^ qN A B / B) - qC A B := zbs _ _
 refine ⟨by omega, by omega, by omega⟩
theorem zlq {x c n : Nat} (l : Bool) (hx : bl x ≤ 33000) (hc : c = bl x - 64) (h64 : 64 ≤ bl x) (hn : n ≤ 1000000) : Ev (fun k => zbL.f k false (D x) (0 - (n : Int)) l 64) ((mk ((x / 2 ^ c : Nat) : Int) (0 - (n : Int) + (c : Int))).1, (mk ((x / 2 ^ c : Nat) : Int) (0 - (n : Int) + (c : Int))).2.1, (mk ((x / 2 ^ c : Nat) : Int) (0 - (n : Int) + (c : Int))).2.2, (decide (x % 2 ^ c ≠ 0) || l), 0) := by
 have lx := zaL (x := x) (k := 2100) (by omega)
 have hl := zc4 (z3 x) (by omega)
 have hs2 := zdF (z3 x) (by omega) (-(c : Int))
 rw [V_D] at hl hs2
 rw [zf0 (by omega) (by omega)] at hs2
 have hm := zb9 false (z3 (x / 2 ^ c)) (by
  have h1 := zbs x c
  have := zaL (x := x / 2 ^ c) (k := 2100) (by omega)
  omega) (0 - (n : Int) + (c : Int))
 rw [V_D, zcf (by omega) (by have := zbs x c; omega)] at hm
 rw [show sv false (x / 2 ^ c) = ((x / 2 ^ c : Nat) : Int) from rfl] at hm
 have w4 : mx 0 (wrap64 (((bl x : Nat) : Int) - 64)) = (c : Int) := by
  rw [zeu, zdj (by omega) (by omega) (by omega) (by omega)]; omega
 have w5 : wrap64 (-(c : Int)) = -(c : Int) := zeO (by omega) (by omega)
 have w6 : wrap64 (0 - (n : Int) + (c : Int)) = 0 - (n : Int) + (c : Int) := zbI (by omega) (by omega) (by omega) (by omega)
 unfold zbL.f
 refine Ev.bind (hl) ?_; try dsimp only
 rw [w4, w5, w6]
 clear w4 w5 w6
 refine Ev.bind (hs2) ?_; try dsimp only
 refine Ev.bind (hm) ?_; try dsimp only
 refine ze (by unfold ok3; simp) ?_
 by_cases c1 : x % 2 ^ c ≠ 0
 ·refine zd (decide_eq_true c1) (zh (Ev.now _) ?_)
  rw [decide_eq_true c1, Bool.true_or]; rfl
 ·refine ze (by simpa using c1) (zh (Ev.now _) ?_)
  rw [decide_eq_false c1, Bool.false_or]; rfl
theorem znB {n x y : Nat} (hn : n = 65 + x - y) (h1 : x ≤ 1000000) (h2 : y ≤ 1000000) : mx 0 (wrap64 (wrap64 (wrap64 (64 + 1) + (x : Int)) - (y : Int))) = (n : Int) := by
 have e : wrap64 (wrap64 (wrap64 (64 + 1) + (x : Int)) - (y : Int)) = 65 + (x : Int) - (y : Int) := by unfold wrap64; omega
 rw [zeu, e]
 clear e
 omega
theorem znD {n : Nat} (h : n ≤ 1000000) : wrap64 (wrap64 (0 - 0) - (n : Int)) = 0 - (n : Int) := by unfold wrap64; omega
theorem zks {la lb : List Int} (ha : Nm la) (hb : Nm lb) (ma : My false la 0) (mb : My false lb 0) (A0 : V la ≠ 0) (B0 : V lb ≠ 0) (l1 : bl (V la) ≤ 32000) (l2 : bl (V lb) ≤ 32000) :
  Ev (fun k => zbg.f k false la 0 false lb 0 64) ((mk (qH (V la) (V lb)) (0 - (qN (V la) (V lb) : Nat) + (qC (V la) (V lb) : Nat))).1, (mk (qH (V la) (V lb)) (0 - (qN (V la) (V lb) : Nat) + (qC (V la) (V lb) : Nat))).2.1, (mk (qH (V la) (V lb)) (0 - (qN (V la) (V lb) : Nat) + (qC (V la) (V lb) : Nat))).2.2, qL (V la) (V lb), 0) := by
 have lla := ma.len
 have llb := mb.len
 have ane : la ≠ [] := fun h => A0 (by rw [h]; rfl)
 have lne : lb ≠ [] := fun h => B0 (by rw [h]; rfl)
 have hN : qN (V la) (V lb) = 65 + bl (V lb) - bl (V la) := rfl
 have hC : qC (V la) (V lb) = bl (V la * 2 ^ qN (V la) (V lb) / V lb) - 64 := rfl
 have hH : qH (V la) (V lb) = V la * 2 ^ qN (V la) (V lb) / V lb / 2 ^ qC (V la) (V lb) := rfl
 have hL : qL (V la) (V lb) = (decide (V la * 2 ^ qN (V la) (V lb) / V lb % 2 ^ qC (V la) (V lb) ≠ 0) || decide (V la * 2 ^ qN (V la) (V lb) % V lb ≠ 0)) := rfl
 obtain ⟨b1, b2, b3⟩ := zfN A0 B0
 have hs := zdF ha lla (qN (V la) (V lb) : Nat)
 rw [zf1 (by omega)] at hs
 have hup := ze3 (V la) (qN (V la) (V lb))
 have hll := zaL (x := V la * 2 ^ qN (V la) (V lb)) (k := 2100) (by omega)
 have hq := zlz (z3 (V la * 2 ^ qN (V la) (V lb))) hb (by omega) llb
 rw [V_D] at hq
 unfold zfO at hq
 rw [if_neg B0] at hq
 have hn6 : qN (V la) (V lb) ≤ 1000000 := by omega
 have w2 : wrap64 (131072 - ((bl (V la) : Nat) : Int)) = 131072 - ((bl (V la) : Nat) : Int) := zdj (by omega) (by omega) (by omega) (by omega)
 have w3 := znD hn6
 have w1 := znB hN (Nat.le_trans l2 (by decide)) (Nat.le_trans l1 (by decide))
 unfold zbg.f
 refine Ev.bind (zhc ma mb) ?_; try dsimp only
 refine ze (by simp) ?_
 rw [show decide ((64 : Int) < 1) = false from rfl]
 refine zf ?_
 simp only [zbg.j0]
 refine ze (by simp) ?_
 have ask : zdx.f 64 = some 0 := rfl
 refine zk (ask) ?_; try dsimp only
 refine ze (by simp) (ze (fun h => lne (zex.1 h)) (ze (fun h => ane (zex.1 h)) ?_))
 refine Ev.bind (zc4 hb llb) ?_; try dsimp only
 refine Ev.bind (zc4 ha lla) ?_; try dsimp only
 refine Ev.bind (zc4 ha lla) ?_; try dsimp only
 rw [w1, w2, w3]
 clear w1 w2 w3
 refine ze (by omega) ?_
 refine Ev.bind (hs) ?_; try dsimp only
 refine Ev.bind (hq) ?_; try dsimp only
 rw [hL, hH]
 generalize qN (V la) (V lb) = n at *
 generalize qC (V la) (V lb) = c at *
 have hdz : decide (((D (V la * 2 ^ n % V lb)).length : Int) > 0) = decide (V la * 2 ^ n % V lb ≠ 0) := by
  generalize V la * 2 ^ n % V lb = y
  exact decide_eq_decide.2 (by
   constructor
   ·intro h h2; rw [h2, zH] at h; simp at h
   ·intro h
    have : (D y) ≠ [] := fun h2 => h (by rw [← V_D y, h2]; rfl)
    exact zhA this)
 rw [hdz]
 clear hdz
 have hlen := za3 (Nat.div_le_self (V la * 2 ^ n) (V lb))
 generalize V la * 2 ^ n % V lb = y at *
 generalize V la * 2 ^ n / V lb = x at *
 have hmd := zlq (x := x) (c := c) (n := n) (decide (y ≠ 0)) (by omega) hC (by omega) (by omega)
 refine Ev.bind (hmd) ?_; try dsimp only
 exact Ev.now _
theorem zlg (x y : Nat) : (decide (x ≠ 0) || decide (y ≠ 0)) = decide (2 * x + bN (decide (y ≠ 0)) ≠ 0) := by
 by_cases c1 : x = 0
 ·subst c1
  by_cases c2 : y = 0
  ·subst c2; rfl
  ·have e : decide (y ≠ 0) = true := decide_eq_true c2
   rw [e]; rfl
 ·have e : decide (x ≠ 0) = true := decide_eq_true c1
  rw [e, Bool.true_or]
  exact (decide_eq_true (by omega)).symm
theorem zmc {f m : Int} (h : isF f) (s : Bool) {A B : Nat} (hA : A ≠ 0) (hB : B ≠ 0) (e : Int) :
  zo f m s (stk (qH A B) (qL A B)) (e - (qN A B : Nat) + (qC A B : Nat) - 1) = rq f m s A B e := by
 have hpr := zY h
 have hfb := z7 h
 obtain ⟨b1, b2, b3⟩ := zfN hA hB
 have hn := zfW (m := m) h s hA (Nat.pos_of_ne_zero hB) e (qN A B) (by omega)
 rw [← hn]
 have hH : qH A B = A * 2 ^ qN A B / B / 2 ^ qC A B := rfl
 have hL : qL A B = (decide (A * 2 ^ qN A B / B % 2 ^ qC A B ≠ 0) || decide (A * 2 ^ qN A B % B ≠ 0)) := rfl
 rw [hL]
 rw [hH] at b3 ⊢
 generalize qN A B = n at *
 generalize qC A B = c at *
 generalize A * 2 ^ n % B = y at *
 generalize A * 2 ^ n / B = x at *
 have hr := Nat.mod_lt x (zi c)
 have hx := Nat.div_add_mod x (2 ^ c)
 have hb := ze0 (decide (y ≠ 0))
 have hs : stk x (decide (y ≠ 0)) = x / 2 ^ c * 2 ^ (c + 1) + (2 * (x % 2 ^ c) + bN (decide (y ≠ 0))) := by
  unfold stk
  conv => lhs; rw [← hx]
  rw [Nat.pow_succ, Nat.mul_comm (2 ^ c), ← Nat.mul_assoc]; omega
 rw [hs, zij h s (by omega) (by rw [Nat.pow_succ]; omega)]
 have hd := zlg (x % 2 ^ c) y
 rw [hd]
 congr 1
 omega
theorem zjs {f m : Int} (h : isF f) (s : Bool) {H : Nat} (hH : bl H = 64) (T : Int) (b : Bool) : zbQ f m s T (UP m s H T b) (XP H T b) = zo f m s (stk H b) (T - 65) := by
 have hpr := zY h
 have hfb := z7 h
 have h0 : H ≠ 0 := fun c => by rw [c, zbu] at hH; omega
 have hb := zd8 h0 b
 rw [← zeD]
 have hT : T - 65 + (bl (stk H b) : Nat) = T := by omega
 rw [hT]
 refine zfT fun E hE => ?_
 unfold UP XP R exR stk
 have e1 : (T - 65 - E).toNat = 0 := by omega
 have e2 : (E - (T - 65)).toNat = (E - T + 64).toNat + 1 := by omega
 rw [e1, e2, Nat.pow_zero, Nat.mul_one]
 exact ⟨rfl, rfl⟩
theorem zjk {f m : Int} (h : isF f) (hm : isM m) {sa sb : Bool} {la lb : List Int} {ea eb : Int} (ha : My sa la ea) (hb : My sb lb eb) (A0 : V la ≠ 0) (B0 : V lb ≠ 0) (l1 : bl (V la) ≤ 32000) (l2 : bl (V lb) ≤ 32000) :
    Ev (fun k => za9.f k f m sa la ea sb lb eb) ((rq f m (decide (¬ sa = sb)) (V la) (V lb) (ea - eb)).1, (rq f m (decide (¬ sa = sb)) (V la) (V lb) (ea - eb)).2, 0) := by
  have ma : My false la 0 := ⟨⟨ha.dy.nm, fun h => ⟨rfl, rfl⟩, ha.dy.odd⟩, ha.len, by omega, by omega⟩
  have mb : My false lb 0 := ⟨⟨hb.dy.nm, fun h => ⟨rfl, rfl⟩, hb.dy.odd⟩, hb.len, by omega, by omega⟩
  have h1 := ha.lo
  have h2 := ha.hi
  have h3 := hb.lo
  have h4 := hb.hi
  have hq := zks ha.dy.nm hb.dy.nm ma mb A0 B0 l1 l2
  have hr := zmc (m := m) h (decide (¬ sa = sb)) A0 B0 (ea - eb)
  obtain ⟨b1, b2, b3⟩ := zfN A0 B0
  have hN : qN (V la) (V lb) = 65 + bl (V lb) - bl (V la) := rfl
  have hC : qC (V la) (V lb) = bl (V la * 2 ^ qN (V la) (V lb) / V lb) - 64 := rfl
  rw [← hr]
  clear hr
  generalize qN (V la) (V lb) = n at *
  generalize qC (V la) (V lb) = c at *
  generalize qH (V la) (V lb) = H at *
  generalize qL (V la) (V lb) = L at *
  have H0 : (H : Int) ≠ 0 := fun h => by have : H = 0 := by omega
                                         rw [this, zbu] at b3; omega
  obtain ⟨j, j1, j2, j3, j4⟩ := zcg H0 (0 - (n : Int) + (c : Int))
  rw [Int.natAbs_natCast] at j1
  have hj : bl (V (mk (H : Int) (0 - (n : Int) + (c : Int))).2.1) + j = 64 := by
    have := zbt j4 j
    rw [← j1] at this; omega
  have hd := zd1 (H : Int) (0 - (n : Int) + (c : Int))
  generalize (mk (H : Int) (0 - (n : Int) + (c : Int))) = g at *
  obtain ⟨g1, g2, g3⟩ := g
  dsimp only at *
  have hl := hd.nm.len
  have hlb := zaL (x := V g2) (k := 2) (by omega)
  have hmy : My g1 g2 g3 := ⟨hd, by omega, by omega, by omega⟩
  have hp := zh5 hmy j4
  obtain ⟨k1, k2⟩ := zkP hj
  rw [k1, k2, ← j1] at hp
  have hT : ∀ b, zbQ f m (decide (¬ sa = sb)) (g3 + (bl (V g2) : Nat) + (ea - eb)) (UP m (decide (¬ sa = sb)) H (g3 + (bl (V g2) : Nat) + (ea - eb)) b) (XP H (g3 + (bl (V g2) : Nat) + (ea - eb)) b) = zo f m (decide (¬ sa = sb)) (stk H b) (ea - eb - (n : Int) + (c : Int) - 1) := by
    intro b
    rw [zjs h _ b3]
    congr 1
    omega
  have HH : 2 ^ 63 ≤ H ∧ H < 2 ^ 64 := by
    have hne : H ≠ 0 := fun h => H0 (by omega)
    have u1 := zcP hne
    have u2 := zN H
    rw [b3] at u1 u2
    exact ⟨u1, u2⟩
  have w1 : wrap64 (ea - eb) = ea - eb := zdj (by omega) (by omega) (by omega) (by omega)
  have w2 : wrap64 (g3 + ((bl (V g2) : Nat) : Int) + (ea - eb)) = g3 + ((bl (V g2) : Nat) : Int) + (ea - eb) := zbI (by omega) (by omega) (by omega) (by omega)
  have hw := fun b => zh7 h hm (decide (¬ sa = sb)) HH (T := g3 + (bl (V g2) : Nat) + (ea - eb)) b (by omega) (by omega)
  have last : ∀ b : Bool, Ev (fun k => za9.j1 k f m sa la ea sb lb eb (pr f : Int) (lo f) (wd f) (decide (¬ sa = sb)) (H : Int) (g3 + ((bl (V g2) : Nat) : Int)) b) ((zo f m (decide (¬ sa = sb)) (stk H b) (ea - eb - (n : Int) + (c : Int) - 1)).1, (zo f m (decide (¬ sa = sb)) (stk H b) (ea - eb - (n : Int) + (c : Int) - 1)).2, 0) := by
    intro b
    refine zf ?_
    simp only [za9.j1, w1, w2]
    refine Ev.bind (hw b) ?_
    rw [hT b]
    exact Ev.now _
  clear w1 w2
  unfold za9.f
  refine Ev.bind (zlO h hm ha hb) ?_; try dsimp only
  refine ze (by simp) ?_
  refine Ev.bind (zfg hb) ?_; try dsimp only
  refine ze (by rw [zeH B0]; split <;> omega) ?_
  refine Ev.bind (zfg ha) ?_; try dsimp only
  refine ze (by rw [zeH A0]; split <;> omega) ?_
  refine Ev.bind (hq) ?_; try dsimp only
  refine Ev.bind (hp) ?_; try dsimp only
  refine ze (by simp) ?_
  exact last L
theorem zkr {sa sb : Bool} {la lb : List Int} {ea eb : Int} (ha : My sa la ea) (hb : My sb lb eb) (hl : bl (V la) + bl (V lb) ≤ 131000) (h1 : -16000000 ≤ ea + eb) (h2 : ea + eb ≤ 16000000) : Ev (fun k => zcz.f k sa la ea sb lb eb) (ok3 (mk (sv sa (V la) * sv sb (V lb)) (ea + eb))) := by
 have a1 := ha.lo
 have a2 := ha.hi
 have b1 := hb.lo
 have b2 := hb.hi
 have hbl := ze2 (V la) (V lb)
 have hlen := zaL (x := V la * V lb) (k := 4096) (by omega)
 have e : wrap64 (ea + eb) = ea + eb := zbI (by omega) (by omega) (by omega) (by omega)
 have m1 := zhN ha.dy.nm hb.dy.nm ha.len hb.len
 rw [zdp (by omega)] at m1
 have k1 := zb9 (sa != sb) (z3 (V la * V lb)) (by omega) (ea + eb)
 rw [V_D, zcf (by omega) (by omega), ← ziD] at k1
 have hne : (decide (¬ sa = sb)) = (sa != sb) := by cases sa <;> cases sb <;> rfl
 unfold zcz.f
 refine Ev.bind (zhc ha hb) ?_; try dsimp only
 refine ze (by simp) ?_
 refine Ev.bind (m1) ?_; try dsimp only
 refine ze (by simp) ?_
 rw [e, hne]
 clear e
 refine Ev.bind (k1) ?_; try dsimp only
 exact Ev.now _
theorem zdD {z e : Int} (hb : bl z.natAbs ≤ 131072) (h1 : -16777216 ≤ e) (h2 : e + (bl z.natAbs : Nat) ≤ 16777216) : My (mk z e).1 (mk z e).2.1 (mk z e).2.2 := by
 have a1 := zlt z e
 have a2 := zfu z e
 have e1 : (mk z e).2.2 = me z e := rfl
 exact ⟨zd1 z e, by omega, by omega, by omega⟩
theorem zlu (za ea zb eb : Int) : mk (mz za ea * mz zb eb) (me za ea + me zb eb) = mk (za * zb) (ea + eb) := by
 by_cases c : za = 0
 ·subst c; rw [zhJ, Int.zero_mul, Int.zero_mul]; rfl
 by_cases c2 : zb = 0
 ·subst c2; rw [zhJ, Int.mul_zero, Int.mul_zero]; rfl
 obtain ⟨j, p1, p2, _, _⟩ := zdC c ea
 obtain ⟨i, q1, q2, _, _⟩ := zdC c2 eb
 have e3 : za * zb = mz za ea * mz zb eb * 2 ^ (j + i) := by
  conv => lhs; rw [p1, q1]
  rw [Int.pow_add, Int.mul_assoc, Int.mul_assoc]
  congr 1
  rw [Int.mul_left_comm]
 rw [e3, zfv, p2, q2]
 congr 1
 omega
theorem zd3 (z e : Int) : bl (V (mk z e).2.1) ≤ bl z.natAbs := by
 by_cases c : z = 0
 ·subst c; exact Nat.zero_le _
 ·obtain ⟨j, j1, _⟩ := zcg c e
  rw [j1]
  have h := ze3 (V (mk z e).2.1) j
  have hp : V (mk z e).2.1 ≤ V (mk z e).2.1 * 2 ^ j := Nat.le_mul_of_pos_right _ (zi j)
  exact za3 hp
theorem zlR {za ea zb eb : Int} (hb : bl za.natAbs + bl zb.natAbs ≤ 131000) (h1 : -8000000 ≤ ea) (h2 : ea ≤ 7000000) (h3 : -8000000 ≤ eb) (h4 : eb ≤ 7000000) : Ev (fun k => zcz.f k (mk za ea).1 (mk za ea).2.1 (mk za ea).2.2 (mk zb eb).1 (mk zb eb).2.1 (mk zb eb).2.2) (ok3 (mk (za * zb) (ea + eb))) := by
 have a2 := zfu za ea
 have b2 := zfu zb eb
 have a3 := zd3 za ea
 have b3 := zd3 zb eb
 have e1 : (mk za ea).2.2 = me za ea := rfl
 have e2 : (mk zb eb).2.2 = me zb eb := rfl
 refine zh (zkr (zdD (z := za) (e := ea) (by omega) (by omega) (by omega)) (zdD (z := zb) (e := eb) (by omega) (by omega) (by omega)) (by omega) (by omega) (by omega)) ?_
 show ok3 (mk (mz za ea * mz zb eb) (me za ea + me zb eb)) = _
 rw [zlu]
theorem zim {f m : Int} (h : isF f) (s : Bool) {A B : Nat} (hA : A ≠ 0) (hB : 0 < B) (e : Int) (j : Nat) : rq f m s A (B * 2 ^ j) e = rq f m s A B (e - j) := by
 have h1 := zeG (m := m) h s hA (Nat.mul_pos hB (zi j)) (e - j) j
 rw [show e - (j : Int) + j = e by omega] at h1
 rw [← h1, zeF h s hA hB (zi j)]
def zt (f m : Int) (s : Bool) (n : Nat) (x : Int) : Int × Int := rq f m s (n * 10 ^ x.toNat) (10 ^ (-x).toNat) 0
theorem zeJ (n : Nat) : 0 < 10 ^ n := Nat.pow_pos (by omega)
theorem zgQ {f m : Int} (h : isF f) (s : Bool) {n : Nat} (hn : n ≠ 0) {x : Int} (hx : 400 ≤ x) : zt f m s n x = ((zcB f m s : Int), 20) := by
 have hw := zcJ h
 unfold zt
 obtain ⟨K, hK⟩ : ∃ K : Nat, K = 1024 := ⟨_, rfl⟩
 refine zmu h s (zeJ _) (k := K) ?_ (by omega)
 have e1 : (-x).toNat = 0 := by omega
 rw [e1, Nat.pow_zero, Nat.one_mul]
 have h1 : 8 ^ x.toNat ≤ 10 ^ x.toNat := Nat.pow_le_pow_left (by omega) _
 have h2 : (2 : Nat) ^ K ≤ 2 ^ (3 * x.toNat) := Nat.pow_le_pow_right (by omega) (by omega)
 rw [Nat.pow_mul, show (2 : Nat) ^ 3 = 8 from rfl] at h2
 have h3 : 1 * 10 ^ x.toNat ≤ n * 10 ^ x.toNat := Nat.mul_le_mul_right _ (by omega)
 generalize (2 : Nat) ^ K = a at *
 generalize 8 ^ x.toNat = b at *
 omega
theorem zgR {f m : Int} (h : isF f) (s : Bool) {n p : Nat} (hn : n ≠ 0) (hb : n < 10 ^ p) {x : Int} (hx : x + p ≤ -500) : zt f m s n x = zo f m s 1 (lo f - 2) := by
 have hw := zbj h
 have e1 : x.toNat = 0 := by omega
 unfold zt
 rw [e1, Nat.pow_zero, Nat.mul_one]
 obtain ⟨K, hK⟩ : ∃ K : Nat, K = 1080 := ⟨_, rfl⟩
 refine zmw h s hn (zeJ _) (k := K) ?_ (by omega)
 obtain ⟨c, hc⟩ : ∃ c : Nat, (-x).toNat = p + c ∧ 500 ≤ c := ⟨(-x).toNat - p, by omega, by omega⟩
 rw [hc.1, Nat.pow_add]
 have h2 : (2 : Nat) ^ K ≤ 10 ^ c := by
  have h3 : (2 : Nat) ^ K ≤ 2 ^ (3 * c) := Nat.pow_le_pow_right (by omega) (by omega)
  rw [Nat.pow_mul] at h3
  exact Nat.le_trans h3 (Nat.pow_le_pow_left (by omega) _)
 exact Nat.mul_lt_mul_of_lt_of_le hb h2 (zeJ c)
theorem zj3 {f m : Int} (h : isF f) (s : Bool) {n p : Nat} (hn : n ≠ 0) (hb : n < 10 ^ p) {a b : Int} (ha : 400 ≤ a) (hB : b + p ≤ -500) (x : Int) : zt f m s n (if x > a then a else if x < b then b else x) = zt f m s n x := by
 by_cases c1 : x > a
 ·rw [if_pos c1, zgQ h s hn ha, zgQ h s hn (by omega)]
 ·rw [if_neg c1]
  by_cases c2 : x < b
  ·rw [if_pos c2, zgR h s hn hb hB, zgR h s hn hb (by omega)]
  ·rw [if_neg c2]
theorem zj4 {f m : Int} (h : isF f) (s : Bool) {n : Nat} (hn : n ≠ 0) (X : Nat) : zo f m s (n * 5 ^ X) X = zt f m s n X := by
 have h5 : n * 5 ^ X ≠ 0 := Nat.mul_ne_zero hn (Nat.ne_of_gt (Nat.pow_pos (by omega)))
 have h1 := zeG (m := m) h s h5 (B := 1) (by omega) 0 X
 rw [Int.zero_add] at h1
 unfold zt
 rw [← zio h s h5, ← h1, Nat.mul_assoc, ← Nat.mul_pow]
 have e1 : (X : Int).toNat = X := Int.toNat_natCast X
 have e2 : (-(X : Int)).toNat = 0 := by omega
 rw [e1, e2]
theorem zgP {f m : Int} (h : isF f) (s : Bool) {n : Nat} (hn : n ≠ 0) (Y : Nat) : rq f m s n (5 ^ Y) (-(Y : Int)) = zt f m s n (-(Y : Int)) := by
 have h1 := zim (m := m) h s hn (B := 5 ^ Y) (Nat.pow_pos (by omega)) 0 Y
 rw [← Nat.mul_pow, Int.zero_sub] at h1
 unfold zt
 rw [← h1]
 have e1 : (-(Y : Int)).toNat = 0 := by omega
 have e2 : (-(-(Y : Int))).toNat = Y := by omega
 rw [e1, e2, Nat.pow_zero, Nat.mul_one]
theorem zjn {f m : Int} (h : isF f) (hm : isM m) (s : Bool) {n : Nat} (hn : n ≠ 0) {e : Int} (hb : bl n ≤ 100000) (h1 : -1000000 ≤ e) (h2 : e ≤ 1000000) : Ev (fun k => zcD.f k f m (mk (sv s n) e).1 (mk (sv s n) e).2.1 (mk (sv s n) e).2.2) ((zo f m s n e).1, (zo f m s n e).2, 0) := by
 have z0 : sv s n ≠ 0 := fun h => hn (zcF.1 h)
 obtain ⟨j, j1, j2, j3, j4⟩ := zcg z0 e
 have hm1 := zdD (z := sv s n) (e := e) (by rw [zaP]; omega) (by omega) (by rw [zaP]; omega)
 have hr := zjm h hm hm1 j4
 rw [zdN hn] at j3
 rw [zaP] at j1
 have e1 := zfU f m s j4 e j
 rw [← j1, ← j2] at e1
 have e2 : zo f m (mk (sv s n) e).1 (V (mk (sv s n) e).2.1) (mk (sv s n) e).2.2 = zo f m s n e := by rw [j3, ← e1]
 rwa [e2] at hr
theorem zeA (n : Nat) : bl (5 ^ n) ≤ 3 * n + 1 := by
 refine zK ?_
 have h1 : 5 ^ n ≤ 8 ^ n := Nat.pow_le_pow_left (by omega) n
 rw [Nat.pow_succ, Nat.pow_mul]
 have : (2 : Nat) ^ 3 = 8 := rfl
 rw [this]
 have := Nat.pow_pos (n := n) (show 0 < 8 by omega)
 omega
theorem zfI (n : Nat) : bl (10 ^ n) ≤ 4 * n + 1 := by
 refine zK ?_
 have h1 : 10 ^ n ≤ 16 ^ n := Nat.pow_le_pow_left (by omega) n
 rw [Nat.pow_succ, Nat.pow_mul]
 have : (2 : Nat) ^ 4 = 16 := rfl
 rw [this]
 have := Nat.pow_pos (n := n) (show 0 < 16 by omega)
 omega
theorem zlF (s : Bool) : decide (¬ s = false) = s := by cases s <;> rfl
theorem zmd {f m : Int} (h : isF f) (s : Bool) {n N : Nat} {e e' : Int} (hn : n ≠ 0) (hN : N ≠ 0) : rq f m s (V (mk (sv s n) e).2.1) (V (mk (N : Int) e').2.1) ((mk (sv s n) e).2.2 - (mk (N : Int) e').2.2) = rq f m s n N (e - e') := by
 have z0 : sv s n ≠ 0 := fun h => hn (zcF.1 h)
 have z1 : (N : Int) ≠ 0 := by omega
 obtain ⟨j, j1, j2, j3, j4⟩ := zcg z0 e
 obtain ⟨i, i1, i2, i3, i4⟩ := zcg z1 e'
 rw [zaP] at j1
 rw [Int.natAbs_natCast] at i1
 rw [i2, j2]
 have h1 := zeG (m := m) h s j4 (Nat.pos_of_ne_zero i4) (e - (e' + (i : Int))) j
 have h2 := zim (m := m) h s hn (Nat.pos_of_ne_zero i4) (e - e') i
 rw [← j1] at h1
 rw [← i1] at h2
 rw [h2, show e - e' - (i : Int) = e - (e' + (i : Int)) by omega, h1]
 congr 1
 omega
theorem zgW {f m : Int} (h : isF f) (hm : isM m) (s : Bool) {n : Nat} (hn : n ≠ 0) {p : Nat} (hp : p ≤ 1200) (hb : n < 10 ^ p) (x : Int) : Ev (fun k => zb7.f k f m s (D n) x) ((zt f m s n x).1, (zt f m s n x).2, 0) := by
 have hx := zj3 (m := m) h s hn hb (a := 3000) (b := -3000) (by omega) (by omega) x
 have ex : mn 3000 (mx (-3000) x) = (if x > 3000 then 3000 else if x < -3000 then -3000 else x) := by unfold mn mx; split <;> split <;> split <;> (try split) <;> omega
 rw [← hx]
 unfold zb7.f
 rw [ex]
 have hr : -3000 ≤ (if x > 3000 then 3000 else if x < -3000 then -3000 else x) ∧ (if x > 3000 then 3000 else if x < -3000 then -3000 else x) ≤ 3000 := by split <;> (try split) <;> omega
 clear ex hx
 generalize (if x > 3000 then 3000 else if x < -3000 then -3000 else x) = y at *
 have hbn : bl n ≤ 4801 := by
  have h1 := za3 (Nat.le_of_lt hb)
  have h2 := zfI p
  omega
 have lenn := zaL (x := n) (k := 200) (by omega)
 have hmk := zb9 s (z3 n) (by omega) y
 rw [V_D, zcf (by omega) (by omega)] at hmk
 refine Ev.bind (hmk) ?_; try dsimp only
 by_cases c : y ≥ 0
 ·refine zd c ?_
  obtain ⟨Y, rfl⟩ := Int.eq_ofNat_of_zero_le c
  have b5 := zeA Y
  have l5 := zaL (x := 5 ^ Y) (k := 400) (by omega)
  have hpw := zfB (b := 5) (n := Y) (by omega) (by omega)
  rw [zdp (by omega)] at hpw
  have hm5 := zb9 false (z3 (5 ^ Y)) (by omega) 0
  rw [V_D, zcf (by omega) (by omega)] at hm5
  refine Ev.bind (hpw) ?_; try dsimp only
  refine Ev.bind (hm5) ?_; try dsimp only
  have hmul := zlR (za := sv s n) (ea := (Y : Int)) (zb := sv false (5 ^ Y)) (eb := 0) (by rw [zaP, zaP]; omega) (by omega) (by omega) (by omega) (by omega)
  rw [ziD, Bool.bne_false, Int.add_zero] at hmul
  have h50 : n * 5 ^ Y ≠ 0 := Nat.mul_ne_zero hn (Nat.ne_of_gt (Nat.pow_pos (by omega)))
  have hro := zjn h hm s h50 (e := (Y : Int)) (by have := ze2 n (5 ^ Y); omega) (by omega) (by omega)
  rw [zj4 h s hn Y] at hro
  refine Ev.bind (hmul) ?_; try dsimp only
  refine Ev.bind (hro) ?_; try dsimp only
  exact Ev.now _
 ·refine ze c ?_
  obtain ⟨Y, hY⟩ : ∃ Y : Nat, y = -(Y : Int) := ⟨(-y).toNat, by omega⟩
  subst hY
  have b5 := zeA Y
  have l5 := zaL (x := 5 ^ Y) (k := 400) (by omega)
  have hpw := zfB (b := 5) (n := Y) (by omega) (by omega)
  rw [zdp (by omega)] at hpw
  have hm5 := zb9 false (z3 (5 ^ Y)) (by omega) 0
  rw [V_D, zcf (by omega) (by omega)] at hm5
  rw [show wrap64 (-(-(Y : Int))) = (Y : Int) by rw [zeO (by omega) (by omega)]; omega]
  refine Ev.bind (hpw) ?_; try dsimp only
  refine Ev.bind (hm5) ?_; try dsimp only
  have z0 : sv s n ≠ 0 := fun h => hn (zcF.1 h)
  have h50 : 5 ^ Y ≠ 0 := Nat.ne_of_gt (Nat.pow_pos (by omega))
  have z1 : sv false (5 ^ Y) ≠ 0 := fun h => h50 (zcF.1 h)
  have m1 := zdD (z := sv s n) (e := -(Y : Int)) (by rw [zaP]; omega) (by omega) (by rw [zaP]; omega)
  have m2 := zdD (z := sv false (5 ^ Y)) (e := 0) (by rw [zaP]; omega) (by omega) (by rw [zaP]; omega)
  obtain ⟨j, j1, j2, j3, j4⟩ := zcg z0 (-(Y : Int))
  obtain ⟨i, i1, i2, i3, i4⟩ := zcg z1 0
  have v1 := zd3 (sv s n) (-(Y : Int))
  have v2 := zd3 (sv false (5 ^ Y)) 0
  rw [zaP] at v1 v2
  have hq := zjk h hm m1 m2 j4 i4 (by omega) (by omega)
  have hsg : decide (¬ (mk (sv s n) (-(Y : Int))).1 = (mk (sv false (5 ^ Y)) 0).1) = s := by
   rw [j3, i3, zdN hn, zdN h50]; exact zlF s
  rw [hsg] at hq
  have hpt := zmd (m := m) h s (e := -(Y : Int)) (e' := 0) hn h50
  rw [Int.sub_zero, zgP h s hn Y] at hpt
  rw [show sv false (5 ^ Y) = ((5 ^ Y : Nat) : Int) from rfl] at *
  rw [hpt] at hq
  refine Ev.bind (hq) ?_; try dsimp only
  exact Ev.now _
def bx (l : List UInt8) : ByteArray := ⟨l.toArray⟩
theorem zaf (l : List UInt8) : tl (bx l) = l := rfl
theorem zjU (s : ByteArray) : bx (tl s) = s := zaY.1 rfl
theorem zz (l : List UInt8) : (bx l).size = l.length := by rw [zdQ, zaf]
theorem zax {l : List UInt8} : bx l = (⟨#[]⟩ : ByteArray) ↔ l = [] := by rw [← ziM, zaf]
theorem zfl {s : ByteArray} {A B C : List UInt8} (h : tl s = A ++ (B ++ C)) : s.extract A.length (A.length + B.length) = bx B := by
 apply zaY.1
 rw [zeK, zaf, h, ← List.append_assoc, List.take_append_of_le_length (by simp), List.take_of_length_le (by simp), List.drop_left]
theorem zhk {s : ByteArray} {A B : List UInt8} (h : tl s = A ++ B) : s.extract A.length s.size = bx B := by
 have hz := zbm h
 have := zfl (s := s) (A := A) (B := B) (C := []) (by simpa using h)
 rw [hz]; exact this
def zae (d : List UInt8) (x : Int) (l : List UInt8) : Option (List UInt8 × Int) :=
 if l = [] then some (d, x) else if l.head? = some 101 ∧ zaB l.tail = true then some (d, x + zcc l.tail) else none
def zav (l : List UInt8) : Option (List UInt8 × Int) :=
 if l.takeWhile isD = [] then none
 else if (l.dropWhile isD).head? = some 46 then
  if (l.dropWhile isD).tail.takeWhile isD = [] then none
  else zae (l.takeWhile isD ++ (l.dropWhile isD).tail.takeWhile isD) (-(((l.dropWhile isD).tail.takeWhile isD).length : Int)) ((l.dropWhile isD).tail.dropWhile isD)
 else zae (l.takeWhile isD) 0 (l.dropWhile isD)
def zb5 (f m : Int) (s : Bool) (n : Nat) (x : Int) : Int × Int × Int := if n = 0 then ((sgn f s : Int), 0, 0) else ((zt f m s n x).1, (zt f m s n x).2, 0)
def zj2 (f m : Int) (s : Bool) : Option (List UInt8 × Int) → Int × Int × Int
 | some x => zb5 f m s (zg x.1 0) x.2
 | none => (0, 0, 12)
def zed (f m : Int) (s : Bool) (l : List UInt8) : Int × Int × Int :=
 if l = [105, 110, 102] then (((mo f * 2 ^ fb f + sgn f s : Nat) : Int), 0, 0) else zj2 f m s (zav l)
def zaI (f m : Int) (l : List UInt8) : Int × Int × Int :=
 if 1200 < l.length then (0, 0, 3) else if l = [110, 97, 110] then ((zc3 f : Int), 0, 0) else zed f m (zcj l) (zbY l)
theorem zce {b : UInt8} : isD b = true ↔ 48 ≤ (b.toNat : Int) ∧ (b.toNat : Int) ≤ 57 := by unfold isD; rw [decide_eq_true_iff]; omega
section
variable {s : ByteArray} (hs : s.size ≤ 1000000)
include hs
theorem zip (A0 : List UInt8) : ∀ (B C : List UInt8), tl s = A0 ++ (C ++ B) →
  Ev (fun k => zay.l0 k s ((A0.length + C.length : Nat) : Int) (A0.length : Int)) (bx (C ++ B.takeWhile isD), s, ((A0.length + (C ++ B.takeWhile isD).length : Nat) : Int))
 | [], C, he => by
  have hz := zbm (A := A0 ++ C) (B := []) (by simpa using he)
  simp only [List.length_append, List.length_nil] at hz
  have hx := zfl (s := s) (A := A0) (B := C) (C := []) (by simpa using he)
  refine zf ?_; simp only [zay.l0]
  refine ze (by omega) (zd (by omega) (zd (by omega) (zd (by omega) ?_)))
  rw [Int.toNat_natCast, Int.toNat_natCast, hx]
  exact zh (Ev.now _) (by simp)
 | b :: B, C, he => by
  have he2 : tl s = (A0 ++ C) ++ b :: B := by rw [he]; simp
  have hz := zbm he2
  simp only [List.length_append, List.length_cons] at hz
  have hb := zbZ he2
  rw [List.length_append] at hb
  have hx := zfl (s := s) (A := A0) (B := C) (C := b :: B) he
  have stop : Ev (fun k => (if 0 ≤ ((A0.length : Nat) : Int) then (if ((A0.length : Nat) : Int) ≤ ((A0.length + C.length : Nat) : Int) then (if ((A0.length + C.length : Nat) : Int) ≤ (s.size : Int) then (some (s.extract ((A0.length : Nat) : Int).toNat (((A0.length + C.length : Nat) : Int)).toNat, s, ((A0.length + C.length : Nat) : Int))) else (none)) else (none)) else (none))) (bx C, s, ((A0.length + C.length : Nat) : Int)) := by
   refine zd (by omega) (zd (by omega) (zd (by omega) ?_))
   rw [Int.toNat_natCast, Int.toNat_natCast, hx]
   exact Ev.now _
  refine zf ?_; simp only [zay.l0]
  rw [hb]
  refine zd (by omega) (zd (by omega) (zd (by omega) ?_))
  by_cases c1 : 48 ≤ (b.toNat : Int)
  ·refine zd c1 (zd (by omega) (zd (by omega) ?_))
   by_cases c2 : (b.toNat : Int) ≤ 57
   ·refine zd c2 ?_
    have e1 : wrap64 (((A0.length + C.length : Nat) : Int) + 1) = ((A0.length + (C ++ [b]).length : Nat) : Int) := by
     rw [List.length_append, List.length_singleton, w64 (by omega) (by omega)]; omega
    rw [e1]
    clear e1
    have := zip A0 B (C ++ [b]) (by rw [he]; simp)
    rw [List.append_assoc, List.singleton_append] at this
    rw [List.takeWhile_cons, zce.2 ⟨c1, c2⟩]
    simpa using this
   ·refine ze c2 ?_
    have : isD b = false := by rw [Bool.eq_false_iff]; intro h; exact c2 (zce.1 h).2
    rw [List.takeWhile_cons, this]
    simpa using stop
  ·refine ze c1 ?_
   have : isD b = false := by rw [Bool.eq_false_iff]; intro h; exact c1 (zce.1 h).1
   rw [List.takeWhile_cons, this]
   simpa using stop
theorem zfX {A B : List UInt8} (he : tl s = A ++ B) : Ev (fun k => zay.f k s (A.length : Int)) (bx (B.takeWhile isD), s, (((A ++ B.takeWhile isD).length : Nat) : Int)) := by
 unfold zay.f
 have := zip hs A B [] (by simpa using he)
 simpa using this
theorem zdO {A r : List UInt8} {x : UInt8} (he : tl s = A ++ x :: r) {c : ByteArray} (hc : x ∈ tl c) : Ev (fun k => zR.f k s (A.length : Int) c) ((x.toNat : Int), true, s, (((A ++ [x]).length : Nat) : Int)) := by
 have hz := zbm he
 simp only [List.length_cons] at hz
 have hb := zbZ he
 have hi : zcl.f c (x.toNat : Int) = some (Lib.indexByte (tl c) x) := by
  unfold zcl.f zbi.f
  have : ((x.toNat : Int)).toNat.toUInt8 = x := by rw [Int.toNat_natCast]; exact UInt8.ofNat_toNat
  rw [this]; rfl
 have h0 : decide (Lib.indexByte (tl c) x ≥ 0) = true := by
  rcases zho (tl c) x with ⟨_, h2⟩ | ⟨P, Q, _, _, h3⟩
  ·exact absurd hc h2
  ·rw [h3]; exact decide_eq_true (by omega)
 have e1 : wrap64 ((A.length : Int) + 1) = ((A.length + 1 : Nat) : Int) := by rw [w64 (by omega) (by omega)]; omega
 have e2 : wrap64 (((A.length + 1 : Nat) : Int) - 1) = (A.length : Int) := by clear e1; rw [w64 (by omega) (by omega)]; omega
 unfold zR.f
 rw [hb]
 refine zd (by omega) (zd (by omega) (zd (by omega) (zk hi ?_)))
 rw [h0]
 refine zf ?_; simp only [zR.j0]
 rw [e1, e2, hb]
 clear e1 e2
 refine zd trivial (zd (by omega) (zd (by omega) (zh (Ev.now _) ?_)))
 rw [List.length_append]; rfl
theorem zdP {A B : List UInt8} (he : tl s = A ++ B) {c : ByteArray} (hc : ∀ x r, B = x :: r → x ∉ tl c) : Ev (fun k => zR.f k s (A.length : Int) c) (0, false, s, (A.length : Int)) := by
 have hs' := hs
 have hz := zbm he
 have no : Ev (fun k => zR.j0 k s (A.length : Int) false) (0, false, s, (A.length : Int)) := by
  refine zf ?_; simp only [zR.j0]
  exact ze (by simp) (Ev.now _)
 unfold zR.f
 cases B with
 | nil =>
  simp only [List.length_nil] at hz
  exact ze (by omega) no
 | cons x r =>
  simp only [List.length_cons] at hz
  have hb := zbZ he
  have hi : zcl.f c (x.toNat : Int) = some (Lib.indexByte (tl c) x) := by
   unfold zcl.f zbi.f
   have : ((x.toNat : Int)).toNat.toUInt8 = x := by rw [Int.toNat_natCast]; exact UInt8.ofNat_toNat
   rw [this]; rfl
  have h0 : decide (Lib.indexByte (tl c) x ≥ 0) = false := by
   rcases zho (tl c) x with ⟨h2, _⟩ | ⟨P, Q, h3, _, _⟩
   ·rw [h2]; rfl
   ·exact absurd (by rw [h3]; simp) (hc x r rfl)
  rw [hb]
  refine zd (by omega) (zd (by omega) (zd (by omega) (zk hi ?_)))
  rw [h0]
  exact no
end
theorem zgO : ∀ (l : List UInt8) (a : Nat), l.all isD = true → Lib.decFrom a l = some (zg l a)
 | [], a, _ => rfl
 | b :: l, a, h => by
  simp only [List.all_cons, Bool.and_eq_true] at h
  have hb := zce.1 h.1
  unfold Lib.decFrom
  have hd : Lib.digitVal b = some (b.toNat - 48) := by unfold Lib.digitVal; rw [if_pos (by omega)]
  rw [hd]
  show Lib.decFrom (a * 10 + (b.toNat - 48)) l = _
  rw [zgO l _ h.2]
  show _ = some (zg l (10 * a + (b.toNat - 48)))
  rw [Nat.mul_comm]
theorem zjG {l : List UInt8} (h : l.all isD = true) (h0 : l ≠ []) : Lib.atoi l = some ((zg l 0 : Nat) : Int) := by
 cases l with
 | nil => exact absurd rfl h0
 | cons b r =>
  have hb : isD b = true := by simp only [List.all_cons, Bool.and_eq_true] at h; exact h.1
  have hb := zce.1 hb
  have n1 : (b == 45) = false := by rw [beq_eq_false_iff_ne]; intro h; rw [h] at hb; exact absurd hb.1 (by decide)
  have n2 : (b == 43) = false := by rw [beq_eq_false_iff_ne]; intro h; rw [h] at hb; exact absurd hb.1 (by decide)
  unfold Lib.atoi
  simp only [n1, n2, Bool.false_eq_true, if_false]
  have : Lib.decNat (b :: r) = some (zg (b :: r) 0) := by
   unfold Lib.decNat
   simp only [List.isEmpty_cons, Bool.false_eq_true, if_false]
   exact zgO _ 0 h
  rw [this]; rfl
theorem zkF (E : List UInt8) : (∃ r, E = 45 :: r ∧ zv E = r ∧ zcb E = true) ∨ (∃ r, E = 43 :: r ∧ zv E = r ∧ zcb E = false) ∨ ((∀ x r, E = x :: r → x ≠ 45 ∧ x ≠ 43) ∧ zv E = E ∧ zcb E = false) := by
 cases E with
 | nil => exact .inr (.inr ⟨by simp, rfl, rfl⟩)
 | cons x r =>
  by_cases c1 : x = 45
  ·subst c1; exact .inl ⟨r, rfl, rfl, rfl⟩
  by_cases c2 : x = 43
  ·subst c2; exact .inr (.inl ⟨r, rfl, rfl, rfl⟩)
  obtain ⟨h1, h2⟩ := zkE (l := x :: r) (by simpa using c1) (by simpa using c2)
  refine .inr (.inr ⟨?_, h2, h1⟩)
  intro y t h
  rw [← (List.cons.inj h).1]
  exact ⟨c1, c2⟩
theorem zm0 {l : List UInt8} {p : UInt8 → Bool} (h : l.dropWhile p = []) : l.all p = true ∧ l.takeWhile p = l := by
 have h1 := zcH p l
 rw [h, List.append_nil] at h1
 have h2 := zdb p l
 rw [h1] at h2
 exact ⟨h2, h1⟩
theorem zg6 {l : List UInt8} {p : UInt8 → Bool} (h : l.all p = true) : l.dropWhile p = [] ∧ l.takeWhile p = l := by
 induction l with
 | nil => exact ⟨rfl, rfl⟩
 | cons a l ih =>
  simp only [List.all_cons, Bool.and_eq_true] at h
  obtain ⟨h1, h2⟩ := ih h.2
  simp [h.1, h1, h2]
def zeU (s : ByteArray) (o : Option (List UInt8 × Int)) (r : ByteArray × Int × Bool × ByteArray × Int) : Prop :=
 match o with
 | some (d, x) => r.1 = bx d ∧ r.2.1 = x ∧ r.2.2.1 = true
 | none => r.2.2.1 = false
theorem zgX {s : ByteArray} (hs : s.size ≤ 1000000) {A B d : List UInt8} (he : tl s = A ++ B) {x : Int} (hx : -1000000 ≤ x ∧ x ≤ 1000000) :
  ∃ r, Ev (fun k => zF.j2 k s (A.length : Int) (bx d) x) r ∧ zeU s (zae d x B) r := by
 have hz := zbm he
 have last : ∀ (a : Int) (y : Int), Ev (fun k => zF.j6 k s a (bx d) y) (bx d, y, decide (a = (s.size : Int)), s, a) := by
  intro a y
  refine zf ?_; simp only [zF.j6]
  exact Ev.now _
 by_cases c0 : B.head? = some 101
 ·obtain ⟨E, hB⟩ : ∃ E, B = 101 :: E := by
   cases B with
   | nil => simp at c0
   | cons y E => simp at c0; exact ⟨E, by rw [c0]⟩
  subst hB
  have he2 : tl s = (A ++ [101]) ++ E := by rw [he]; simp
  have ht := zdO hs he (c := (⟨#[101]⟩ : ByteArray)) (by simp [tl])
  have hT : zae d x (101 :: E) = if zaB E = true then some (d, x + zcc E) else none := by
   unfold zae
   rw [if_neg (by simp)]
   simp
  rw [hT]
  obtain ⟨A2, b, ok, hA2, hsg, hbn⟩ : ∃ (A2 : List UInt8) (b : Int) (ok : Bool), tl s = A2 ++ zv E ∧ Ev (fun k => zR.f k s (((A ++ [101]).length : Nat) : Int) (⟨#[43, 45]⟩ : ByteArray)) (b, ok, s, (A2.length : Int)) ∧ (b = 45 ↔ zcb E = true) := by
   rcases zkF E with ⟨r, h1, h2, h3⟩ | ⟨r, h1, h2, h3⟩ | ⟨h1, h2, h3⟩
   ·subst h1
    refine ⟨A ++ [101] ++ [45], 45, true, by rw [he2, h2]; simp, ?_, by simp [h3]⟩
    exact zdO hs he2 (c := (⟨#[43, 45]⟩ : ByteArray)) (by simp [tl])
   ·subst h1
    refine ⟨A ++ [101] ++ [43], 43, true, by rw [he2, h2]; simp, ?_, by simp [h3]⟩
    exact zdO hs he2 (c := (⟨#[43, 45]⟩ : ByteArray)) (by simp [tl])
   ·refine ⟨A ++ [101], 0, false, by rw [he2, h2], ?_, by simp [h3]⟩
    refine zdP hs he2 (c := (⟨#[43, 45]⟩ : ByteArray)) ?_
    intro y t h
    have := h1 y t h
    simp [tl, this.1, this.2]
  have hd := zfX hs hA2
  have htw := zcH isD (zv E)
  have hz2 := zbm (s := s) (A := A2 ++ (zv E).takeWhile isD) (B := (zv E).dropWhile isD) (by rw [hA2, List.append_assoc, htw])
  by_cases k1 : (zv E).takeWhile isD = []
  ·have hno : zaB E = false := by
    unfold zaB
    by_cases c : zv E = []
    ·simp [c]
    ·cases hE : zv E with
     | nil => exact absurd hE c
     | cons y t =>
      rw [hE] at k1
      have : isD y = false := by
       by_cases hy : isD y = true
       ·rw [List.takeWhile_cons, hy] at k1; simp at k1
       ·simpa using hy
      simp [this]
   rw [if_neg (by rw [hno]; simp)]
   refine ⟨((⟨#[]⟩ : ByteArray), 0, false, s, (((A2 ++ (zv E).takeWhile isD).length : Nat) : Int)), ?_, rfl⟩
   refine zf ?_; simp only [zF.j2]
   refine Ev.bind (ht) ?_; try dsimp only
   refine zd rfl ?_
   refine Ev.bind (hsg) ?_; try dsimp only
   refine Ev.bind (hd) ?_; try dsimp only
   exact zd (zax.2 k1) (Ev.now _)
  by_cases k2 : 6 < ((zv E).takeWhile isD).length
  ·have hno : zaB E = false := by
    unfold zaB
    have h1 := congrArg List.length htw
    rw [List.length_append] at h1
    have : decide ((zv E).length ≤ 6) = false := decide_eq_false (by omega)
    rw [this]; simp
   rw [if_neg (by rw [hno]; simp)]
   refine ⟨((⟨#[]⟩ : ByteArray), 0, false, s, (((A2 ++ (zv E).takeWhile isD).length : Nat) : Int)), ?_, rfl⟩
   refine zf ?_; simp only [zF.j2]
   refine Ev.bind (ht) ?_; try dsimp only
   refine zd rfl ?_
   refine Ev.bind (hsg) ?_; try dsimp only
   refine Ev.bind (hd) ?_; try dsimp only
   refine ze (fun h => k1 (zax.1 h)) (zd ?_ (Ev.now _))
   rw [zz]; omega
  ·have hat := zjG (zdb isD (zv E)) k1
   have hv := zg4 (zdb isD (zv E)) (by omega)
   have hsc : zaW.f (bx ((zv E).takeWhile isD)) = some ((zg ((zv E).takeWhile isD) 0 : Nat) : Int) := by
    unfold zaW.f
    rw [if_pos (by rw [zz]; omega)]
    exact hat
   have main : ∃ y : Int, Ev (fun k => zF.j2 k s (A.length : Int) (bx d) x) (bx d, y, decide ((((A2 ++ (zv E).takeWhile isD).length : Nat) : Int) = (s.size : Int)), s, (((A2 ++ (zv E).takeWhile isD).length : Nat) : Int)) ∧ (zaB E = true → y = x + zcc E) := by
    refine ⟨x + (if zcb E = true then -((zg ((zv E).takeWhile isD) 0 : Nat) : Int) else ((zg ((zv E).takeWhile isD) 0 : Nat) : Int)), ?_, ?_⟩
    ·refine zf ?_; simp only [zF.j2]
     refine Ev.bind (ht) ?_; try dsimp only
     refine zd rfl ?_
     refine Ev.bind (hsg) ?_; try dsimp only
     refine Ev.bind (hd) ?_; try dsimp only
     refine ze (fun h => k1 (zax.1 h)) (ze (by rw [zz]; omega) ?_)
     refine zk (hsc) ?_; try dsimp only
     by_cases c : b = 45
     ·rw [if_pos (hbn.1 c)]
      refine zd c ?_
      have w : wrap64 (x + wrap64 (-((zg ((zv E).takeWhile isD) 0 : Nat) : Int))) = x + -((zg ((zv E).takeWhile isD) 0 : Nat) : Int) := by
       rw [zeO (by omega) (by omega), zbI (by omega) (by omega) (by omega) (by omega)]
      rw [w]
      exact last _ _
     ·rw [if_neg (fun h => c (hbn.2 h))]
      refine ze c ?_
      rw [zbI (by omega) (by omega) (by omega) (by omega)]
      exact last _ _
    ·intro hok
     unfold zaB at hok
     simp only [Bool.and_eq_true, decide_eq_true_eq] at hok
     rw [(zg6 hok.2).2]
     rfl
   obtain ⟨y, hy, hyv⟩ := main
   refine ⟨_, hy, ?_⟩
   by_cases hok : zaB E = true
   ·rw [if_pos hok]
    refine ⟨rfl, hyv hok, ?_⟩
    unfold zaB at hok
    simp only [Bool.and_eq_true, decide_eq_true_eq] at hok
    rw [(zg6 hok.2).1, List.length_nil] at hz2
    exact decide_eq_true (by omega)
   ·rw [if_neg hok]
    refine decide_eq_false ?_
    intro h
    have h3 : (zv E).dropWhile isD = [] := List.eq_nil_of_length_eq_zero (by omega)
    obtain ⟨h4, h5⟩ := zm0 h3
    refine hok ?_
    unfold zaB
    rw [h5] at k1 k2
    rw [h4, decide_eq_true (show zv E ≠ [] from k1), decide_eq_true (show (zv E).length ≤ 6 by omega)]; rfl
 ·have ht := zdP hs he (c := (⟨#[101]⟩ : ByteArray)) (by intro y t h; rw [h] at c0; simpa [tl] using c0)
  refine ⟨(bx d, x, decide ((A.length : Int) = (s.size : Int)), s, (A.length : Int)), ?_, ?_⟩
  ·refine zf ?_; simp only [zF.j2]
   refine Ev.bind (ht) ?_; try dsimp only
   exact ze (by simp) (last _ _)
  ·unfold zae
   by_cases c1 : B = []
   ·rw [if_pos c1]
    subst c1
    exact ⟨rfl, rfl, decide_eq_true (by rw [List.length_nil] at hz; omega)⟩
   ·rw [if_neg c1, if_neg (fun h => c0 h.1)]
    have : 0 < B.length := by cases B with | nil => exact absurd rfl c1 | cons _ _ => simp
    exact decide_eq_false (by omega)
theorem zj8 {s : ByteArray} (hs : s.size ≤ 1000000) {A B : List UInt8} (he : tl s = A ++ B) :
  ∃ r, Ev (fun k => zF.f k s (A.length : Int)) r ∧ zeU s (zav B) r := by
 have hz := zbm he
 have hd := zfX hs he
 have htw := zcH isD B
 unfold zav
 by_cases c0 : B.takeWhile isD = []
 ·rw [if_pos c0]
  refine ⟨((⟨#[]⟩ : ByteArray), 0, false, s, (((A ++ B.takeWhile isD).length : Nat) : Int)), ?_, rfl⟩
  unfold zF.f
  refine Ev.bind (hd) ?_; try dsimp only
  exact zd (zax.2 c0) (Ev.now _)
 rw [if_neg c0]
 have he2 : tl s = (A ++ B.takeWhile isD) ++ B.dropWhile isD := by rw [he, List.append_assoc, htw]
 have hz2 := zbm he2
 by_cases c1 : (B.dropWhile isD).head? = some 46
 ·rw [if_pos c1]
  obtain ⟨r, hr⟩ : ∃ r, B.dropWhile isD = 46 :: r := by
   cases hB : B.dropWhile isD with
   | nil => rw [hB] at c1; simp at c1
   | cons y E => rw [hB] at c1; simp at c1; exact ⟨E, by rw [c1]⟩
  rw [hr] at he2 ⊢
  have ht := zdO hs he2 (c := (⟨#[46]⟩ : ByteArray)) (by simp [tl])
  have he3 : tl s = (A ++ B.takeWhile isD ++ [46]) ++ r := by rw [he2]; simp
  have hz3 := zbm he3
  have hd2 := zfX hs he3
  have htw2 := zcH isD r
  have hl2 := congrArg List.length htw2
  rw [List.length_append] at hl2
  simp only [List.length_append, List.length_singleton] at hz3
  show ∃ r_1, _ ∧ zeU s (if r.takeWhile isD = [] then none else zae (B.takeWhile isD ++ r.takeWhile isD) (-((r.takeWhile isD).length : Int)) (r.dropWhile isD)) r_1
  by_cases c2 : r.takeWhile isD = []
  ·rw [if_pos c2]
   refine ⟨((⟨#[]⟩ : ByteArray), 0, false, s, (((A ++ B.takeWhile isD ++ [46] ++ r.takeWhile isD).length : Nat) : Int)), ?_, rfl⟩
   unfold zF.f
   refine Ev.bind (hd) ?_; try dsimp only
   refine ze (fun h => c0 (zax.1 h)) ?_
   refine Ev.bind (ht) ?_; try dsimp only
   refine zd rfl ?_
   refine Ev.bind (hd2) ?_; try dsimp only
   exact zd (zax.2 c2) (Ev.now _)
  rw [if_neg c2]
  have he4 : tl s = (A ++ B.takeWhile isD ++ [46] ++ r.takeWhile isD) ++ r.dropWhile isD := by rw [he3]; simp [htw2]
  obtain ⟨q, hq, hok⟩ := zgX hs he4 (d := B.takeWhile isD ++ r.takeWhile isD) (x := -((r.takeWhile isD).length : Int)) (by omega)
  refine ⟨q, ?_, hok⟩
  unfold zF.f
  refine Ev.bind (hd) ?_; try dsimp only
  refine ze (fun h => c0 (zax.1 h)) ?_
  refine Ev.bind (ht) ?_; try dsimp only
  refine zd rfl ?_
  refine Ev.bind (hd2) ?_; try dsimp only
  refine ze (fun h => c2 (zax.1 h)) (zd (by rw [zz, zz]; omega) ?_)
  have e1 : bx (B.takeWhile isD) ++ bx (r.takeWhile isD) = bx (B.takeWhile isD ++ r.takeWhile isD) := zaY.1 (by rw [ziK, zaf, zaf, zaf])
  rw [e1, zz, zeO (by omega) (by omega)]
  exact hq
 ·rw [if_neg c1]
  have ht := zdP hs he2 (c := (⟨#[46]⟩ : ByteArray)) (by intro y t h; rw [h] at c1; simpa [tl] using c1)
  obtain ⟨q, hq, hok⟩ := zgX hs he2 (d := B.takeWhile isD) (x := 0) (by omega)
  refine ⟨q, ?_, hok⟩
  unfold zF.f
  refine Ev.bind (hd) ?_; try dsimp only
  refine ze (fun h => c0 (zax.1 h)) ?_
  refine Ev.bind (ht) ?_; try dsimp only
  exact ze (by simp) hq
theorem zcv (l : List UInt8) : qcB (bx l) = l.map fun b => (b.toNat : Int) := rfl
theorem zfJ : ∀ (l : List UInt8) (a : Nat), pvA a (l.map fun b => (b.toNat : Int)) = zg l a
 | [], a => rfl
 | b :: l, a => by
  have e : ((b.toNat : Int) - 48).toNat = b.toNat - 48 := by omega
  rw [List.map_cons, pvA, e, zfJ l]
  rfl
theorem zdI (l : List UInt8) : pv (qcB (bx l)) = zg l 0 := zfJ l 0
theorem zfc {l : List UInt8} (h : l.all isD = true) : zaT (qcB (bx l)) := by
 intro x hx
 rw [zcv, List.mem_map] at hx
 obtain ⟨b, hb, rfl⟩ := hx
 exact zce.1 (List.all_eq_true.1 h b hb)
theorem zcy {l : List UInt8} (h : l.all isD = true) : zg l 0 < 10 ^ l.length := by
 have := zic (zfc h)
 rw [zdI, zcv, List.length_map] at this
 exact this
def tz0 (l : List UInt8) : List UInt8 := l.dropWhile (· == 48)
theorem zeg (l : List UInt8) : zg (tz0 l) 0 = zg l 0 := by
 induction l with
 | nil => rfl
 | cons b l ih =>
  unfold tz0 at *
  by_cases c : b = 48
  ·subst c; rw [List.dropWhile_cons]; simp only [beq_self_eq_true, if_true]; rw [ih]; rfl
  ·rw [List.dropWhile_cons, if_neg (by simpa using c)]
theorem zgb {l : List UInt8} (h : l.all isD = true) : (tz0 l).all isD = true := by
 induction l with
 | nil => rfl
 | cons b l ih =>
  have h' := h
  simp only [List.all_cons, Bool.and_eq_true] at h
  unfold tz0 at *
  by_cases c : b = 48
  ·subst c; rw [List.dropWhile_cons]; simpa using ih h.2
  ·rw [List.dropWhile_cons, if_neg (by simpa using c)]; exact h'
theorem zm5 (l : List UInt8) : (tz0 l).length ≤ l.length := by
 have h := congrArg List.length (zcH (· == 48) l)
 rw [List.length_append] at h
 unfold tz0; omega
theorem zgc {l : List UInt8} {b : UInt8} {r : List UInt8} (h : tz0 l = b :: r) : b ≠ 48 := by
 have := zg5 _ l h
 simpa using this
theorem zfr {l : List UInt8} {b : UInt8} {r : List UInt8} (h : l.all isD = true) (e : tz0 l = b :: r) : isT (qcB (bx (b :: r))) = true := by
 have h1 := zgb h
 rw [e] at h1
 have h2 := zgc e
 have hd : decide (zaT (qcB (bx (b :: r)))) = true := decide_eq_true (zfc h1)
 unfold isT
 rw [hd, zcv]
 have h3 : (b.toNat : Int) ≠ 48 := fun c => h2 (UInt8.toNat_inj.1 (by show _ = 48; omega))
 cases r with
 | nil => rfl
 | cons c t => simp [h3]
theorem zeN {l : List UInt8} (h : l.all isD = true) : tz0 l = [] ↔ zg l 0 = 0 := by
 constructor
 ·intro e; rw [← zeg, e]; rfl
 ·intro e
  cases ht : tz0 l with
  | nil => rfl
  | cons b r =>
   have h1 := zgb h
   have h2 := zgc ht
   have h3 := zeg l
   rw [ht] at h1 h3
   have h4 := zfL (l := qcB (bx (b :: r))) (zfc h1) (by
    rw [zcv]; show ((b.toNat : Int)) ≠ 48
    exact fun c => h2 (UInt8.toNat_inj.1 (by show _ = 48; omega))) (by rw [zcv]; simp)
   rw [zdI] at h4
   have := zeJ ((qcB (bx (b :: r))).length - 1)
   omega
theorem zlU {l : List UInt8} (h : l.all isD = true) (hl : l.length ≤ 1200) (h0 : zg l 0 ≠ 0) : zbP (qcB (bx (tz0 l))) = (D (zg l 0), 0) := by
 cases ht : tz0 l with
 | nil => exact absurd ((zeN h).1 ht) h0
 | cons b r =>
  have h3 := zeg l
  rw [ht] at h3
  unfold zbP
  rw [if_pos (zfr h ht), zdI, h3, zdp]
  have h5 := za3 (Nat.le_of_lt (zcy h))
  have h6 := zfI l.length
  omega
theorem ziR : ∀ (l : List UInt8), l.length ≤ 1000000 → Ev (fun k => zba.l0 k (bx l) 48) (bx (tz0 l))
 | [], _ => by
  refine zf ?_; simp only [zba.l0]
  exact ze (by decide) (Ev.now _)
 | b :: l, hl => by
  have hz := zz (b :: l)
  simp only [List.length_cons] at hz hl
  have hb := zbZ (s := bx (b :: l)) (A := []) (B := l) (b := b) (by rw [zaf]; rfl)
  rw [List.length_nil, show ((0 : Nat) : Int) = 0 from rfl] at hb
  refine zf ?_; simp only [zba.l0]
  rw [hb]
  refine zd (by omega) (zd (by omega) ?_)
  by_cases c : b = 48
  ·subst c
   refine zd rfl (zd (by decide) (zd (by omega) ?_))
   have hx := zhk (s := bx (48 :: l)) (A := [48]) (B := l) (by rw [zaf]; rfl)
   have e1 : (1 : Int).toNat = ([48] : List UInt8).length := rfl
   rw [e1, hx]
   have ih := ziR l (by omega)
   have e2 : tz0 (48 :: l) = tz0 l := by unfold tz0; rw [List.dropWhile_cons]; simp
   rw [e2]
   exact ih
  ·refine ze (fun h => c (UInt8.toNat_inj.1 (by show _ = 48; omega))) ?_
   have e2 : tz0 (b :: l) = b :: l := by unfold tz0; rw [List.dropWhile_cons, if_neg (by simpa using c)]
   rw [e2]
   exact Ev.now _
theorem zmZ {l : List UInt8} (hl : l.length ≤ 1000000) : Ev (fun k => zbn.f k (bx l) (⟨#[48]⟩ : ByteArray)) (bx (tz0 l)) := by
 unfold zbn.f
 by_cases c : l = []
 ·subst c
  exact zd rfl (Ev.now _)
 ·refine ze (fun h => c (zax.1 h)) (ze (by decide) (zd (by decide) (zd (by decide) ?_)))
  have e : decide (bt (⟨#[48]⟩ : ByteArray) 0 < 128) = true := by decide
  have e2 : bt (⟨#[48]⟩ : ByteArray) 0 = 48 := by decide
  rw [e]
  refine zf ?_; simp only [zbn.j2]
  rw [e2]
  refine zd trivial (zd (by decide) ?_)
  unfold zba.f
  exact Ev.bind (ziR l hl) (Ev.now _)
theorem zkC {E : List UInt8} (h : zaB E = true) : -1000000 < zcc E ∧ zcc E < 1000000 := by
 unfold zaB at h
 simp only [Bool.and_eq_true, decide_eq_true_eq] at h
 have := zg4 h.2 h.1.2
 unfold zcc
 split <;> omega
theorem ziF {d : List UInt8} {x : Int} {l : List UInt8} {y : List UInt8 × Int} (h : zae d x l = some y) : y.1 = d ∧ x - 1000000 < y.2 ∧ y.2 < x + 1000000 := by
 unfold zae at h
 split at h
 ·cases h; exact ⟨rfl, by omega, by omega⟩
 ·split at h
  ·rename_i h2
   cases h
   have := zkC h2.2
   exact ⟨rfl, by omega, by omega⟩
  ·cases h
theorem zmm {l : List UInt8} {y : List UInt8 × Int} (h : zav l = some y) : y.1.all isD = true ∧ y.1 ≠ [] ∧ y.1.length ≤ l.length ∧ -(l.length : Int) - 1000000 < y.2 ∧ y.2 < 1000000 := by
 have h1 := congrArg List.length (zcH isD l)
 rw [List.length_append] at h1
 unfold zav at h
 split at h
 ·cases h
 rename_i c0
 split at h
 ·rename_i c1
  obtain ⟨r, hr⟩ : ∃ r, l.dropWhile isD = 46 :: r := by
   cases hB : l.dropWhile isD with
   | nil => rw [hB] at c1; simp at c1
   | cons y E => rw [hB] at c1; simp at c1; exact ⟨E, by rw [c1]⟩
  rw [hr] at h h1
  rw [List.tail_cons] at h
  simp only [List.length_cons] at h1
  have h2 := congrArg List.length (zcH isD r)
  rw [List.length_append] at h2
  split at h
  ·cases h
  obtain ⟨h3, h4, h5⟩ := ziF h
  rw [h3]
  refine ⟨by rw [List.all_append, zdb, zdb]; rfl, fun h => c0 (List.append_eq_nil_iff.1 h).1, ?_, by omega, by omega⟩
  rw [List.length_append]; omega
 ·obtain ⟨h3, h4, h5⟩ := ziF h
  rw [h3]
  exact ⟨zdb _ _, c0, by omega, by omega, by omega⟩
theorem zgn {f m : Int} (h : isF f) (hm : isM m) (s : ByteArray) : Ev (fun k => zbx.f k f m s) (zaI f m (tl s)) := by
 unfold zbx.f zaI
 refine Ev.bind (zgm h hm false) (ze (by simp) ?_)
 by_cases c0 : 1200 < (tl s).length
 ·rw [if_pos c0]
  exact zd (by rw [zdQ]; omega) (Ev.now _)
 rw [if_neg c0]
 refine ze (by rw [zdQ]; omega) ?_
 by_cases c1 : s = (⟨#[110, 97, 110]⟩ : ByteArray)
 ·rw [if_pos (by rw [c1]; rfl)]
  exact zd c1 (Ev.bind (znt h) (Ev.now _))
 rw [if_neg (fun h => c1 (zaY.1 (by rw [h]; rfl)))]
 refine ze c1 ?_
 have hs : s.size ≤ 1200 := by rw [zdQ]; omega
 obtain ⟨A, b, hA, ht⟩ : ∃ (A : List UInt8) (b : Int), tl s = A ++ zbY (tl s) ∧ Ev (fun k => zR.f k s 0 (⟨#[45]⟩ : ByteArray)) (b, zcj (tl s), s, (A.length : Int)) := by
  cases hl : tl s with
  | nil =>
   refine ⟨[], 0, rfl, ?_⟩
   exact zdP (A := []) (B := []) (by omega) (by rw [hl]; rfl) (by simp)
  | cons x r =>
   by_cases c2 : x = 45
   ·subst c2
    refine ⟨[45], 45, rfl, ?_⟩
    exact zdO (A := []) (r := r) (x := 45) (by omega) (by rw [hl]; rfl) (by simp [tl])
   ·have n1 : zcj (x :: r) = false := by
     unfold zcj; split
     ·rename_i h; exact absurd (List.cons.inj h).1 c2
     ·rfl
    have n2 : zbY (x :: r) = x :: r := by
     unfold zbY; split
     ·rename_i h; exact absurd (List.cons.inj h).1 c2
     ·rfl
    rw [n1, n2]
    refine ⟨[], 0, rfl, ?_⟩
    exact zdP (A := []) (B := x :: r) (by omega) (by rw [hl]; rfl) (by intro y t h; rw [← (List.cons.inj h).1]; simpa [tl] using c2)
 refine Ev.bind (ht) ?_; try dsimp only
 have hz := zbm hA
 refine zd (by omega) (zd (by omega) ?_)
 rw [Int.toNat_natCast, zhk hA]
 unfold zed
 by_cases c2 : zbY (tl s) = [105, 110, 102]
 ·rw [if_pos c2]
  exact zd (by rw [c2]; rfl) (Ev.bind (zi6 h _) (Ev.now _))
 rw [if_neg c2]
 refine ze (fun h => c2 (zaY.2 h)) ?_
 obtain ⟨q, hq, hok⟩ := zj8 (by omega) hA
 refine Ev.bind (hq) ?_; try dsimp only
 cases ho : zav (zbY (tl s)) with
 | none =>
  rw [ho] at hok
  have hok : q.2.2.1 = false := hok
  rw [hok]
  exact zd rfl (Ev.now _)
 | some y =>
  rw [ho] at hok
  obtain ⟨k1, k2, k3⟩ : q.1 = bx y.1 ∧ q.2.1 = y.2 ∧ q.2.2.1 = true := hok
  obtain ⟨b1, b2, b3, b4, b5⟩ := zmm ho
  rw [k1, k2, k3]
  refine ze (by simp) ?_
  have hl : y.1.length ≤ 1200 := by omega
  refine Ev.bind (zmZ (l := y.1) (by omega)) ?_; try dsimp only
  show Ev _ (zb5 f m (zcj (tl s)) (zg y.1 0) y.2)
  unfold zb5
  by_cases c3 : zg y.1 0 = 0
  ·rw [if_pos c3]
   refine zd (zax.2 ((zeN b1).2 c3)) ?_
   refine Ev.bind (zi7 h _) ?_; try dsimp only
   exact Ev.now _
  ·rw [if_neg c3]
   refine ze (fun h => c3 ((zeN b1).1 (zax.1 h))) ?_
   have hp := zhO (s := bx (tz0 y.1)) (by rw [zz]; have := zm5 y.1; omega)
   rw [zlU b1 hl c3] at hp
   refine Ev.bind (hp) ?_; try dsimp only
   have hr := zgW h hm (zcj (tl s)) c3 (p := y.1.length) hl (zcy b1) y.2
   refine Ev.bind (hr) ?_; try dsimp only
   exact Ev.now _
theorem zlT {l : List UInt8} (h : isT (qcB (bx l)) = true) (hd : l.all isD = true) (hl : l.length ≤ 20000) : zbP (qcB (bx l)) = (D (zg l 0), 0) := by
 unfold zbP
 rw [if_pos h, zdI, zdp]
 have h5 := za3 (Nat.le_of_lt (zcy hd))
 have h6 := zfI l.length
 omega
section
variable {s : ByteArray} (hs : s.size ≤ 1200) (a : Bool) (b : ByteArray) (c : List Int) (d : Int)
include hs
end
open Go.RowKit Go.Proofs Go.Proofs.YtnkpmjhlkmlmbaaGreatDoor.Eng
set_option maxRecDepth 100000
theorem zkb (k : Nat) : zr.f (k + 140) 2 4591870180066957722 = some ((⟨#[48, 46, 49]⟩ : ByteArray), 0) := by kernel_rfl
theorem zkc (k : Nat) : zbx.f (k + 60) 1 1 (⟨#[49, 54, 55, 55, 55, 50, 49, 55]⟩ : ByteArray) = some (1266679808, 16, 0) := by kernel_rfl
theorem zkd : Ev (fun k => zb1.f k) true := by
 unfold zb1.f
 refine Ev.bind (zhe zkb) (Ev.bind (zhe zkc) ?_)
 exact zd rfl (zd rfl (zd rfl (zd rfl (zh (Ev.now _) (by simp)))))
theorem zfd : Ev (fun k => (zb1.f k).bind fun t => some t) true := Ev.bind zkd (Ev.now _)
theorem zke {f m : Int} (h : fmE f m ≠ 0) (l : List Int) : Ev (fun k => zaH.f k f m l) (fmE f m) := by
 unfold zaH.f
 unfold fmE at *
 refine zk (zfP f) ?_
 by_cases c : isF f
 ·rw [if_pos c] at h ⊢
  have hm : ¬ isM m := fun k => h (by rw [if_pos k])
  rw [if_neg hm, decide_eq_true c]
  refine ze (by simp) (zk (zif m) ?_)
  rw [decide_eq_false hm]
  exact zd rfl (Ev.now _)
 ·rw [if_neg c, decide_eq_false c]
  exact zd rfl (Ev.now _)
theorem zkH {f m : Int} (h : fmE f m = 0) : isF f ∧ isM m := by
 unfold fmE at h
 by_cases c : isF f
 ·rw [if_pos c] at h
  by_cases c2 : isM m
  ·exact ⟨c, c2⟩
  ·rw [if_neg c2] at h; omega
 ·rw [if_neg c] at h; omega
def dx (n : Nat) : List UInt8 := tl (qfL (txt n))
theorem ziB (n : Nat) : qfL (txt n) = bx (dx n) := (zjU _).symm
theorem zeh (n : Nat) : (dx n).map (fun b => (b.toNat : Int)) = txt n := zjR n
theorem zbf (n : Nat) : (dx n).all isD = true := by
 rw [List.all_eq_true]
 intro b hb
 have : ((b.toNat : Int)) ∈ txt n := by rw [← zeh]; exact List.mem_map.2 ⟨b, hb, rfl⟩
 exact zce.2 (ziV n _ this)
theorem zbz (n : Nat) : zg (dx n) 0 = n := by rw [← zfJ, zeh]; exact zmb n
theorem ziN {a b : UInt8} (h : (a.toNat : Int) = (b.toNat : Int)) : a = b := UInt8.toNat_inj.1 (by omega)
theorem zdv {l r : List UInt8} {b : UInt8} (h : l.all isD = true) (e : l = b :: r) (hb : b ≠ 48) : dx (zg l 0) = l := by
 have e1 : tz0 l = b :: r := by
  subst e
  unfold tz0
  rw [List.dropWhile_cons, if_neg (by simpa using hb)]
 have h1 := zm4 (zfr h e1)
 rw [← e, zdI] at h1
 have h2 := (zeh (zg l 0)).trans h1
 rw [zcv] at h2
 exact (List.map_inj_right (fun x y hxy => ziN hxy)).1 h2
theorem zaz {n : Nat} (h : n ≠ 0) : ∃ b r, dx n = b :: r ∧ b ≠ 48 := by
 cases e : tz0 (dx n) with
 | nil => exact absurd ((zeN (zbf n)).1 e) (by rw [zbz]; exact h)
 | cons b r =>
  have hb := zgc e
  have h1 := zgb (zbf n)
  have h2 := zeg (dx n)
  rw [e] at h1 h2
  rw [zbz] at h2
  have h3 := zdv h1 rfl hb
  rw [h2] at h3
  exact ⟨b, r, h3, hb⟩
theorem zdw {n : Nat} (h : n ≠ 0) : 0 < (dx n).length := by
 obtain ⟨b, r, e, _⟩ := zaz h
 rw [e]; simp
theorem zg7 {n k : Nat} (h : n < 10 ^ k) (hk : 1 ≤ k) : (dx n).length ≤ k := by
 have := zm3 h hk
 rw [← zeh, List.length_map] at this
 exact this
theorem zg8 (n : Nat) : n < 10 ^ (dx n).length := by
 have := zcy (zbf n)
 rwa [zbz] at this
theorem zcA {b : UInt8} (h : isD b = true) : 48 ≤ b.toNat ∧ b.toNat ≤ 57 := by
 have := zce.1 h
 omega
theorem zby (b : UInt8) (r : List UInt8) : zg (b :: r) 0 = (b.toNat - 48) * 10 ^ r.length + zg r 0 := by
 have e : zg (b :: r) 0 = zg r (10 * 0 + (b.toNat - 48)) := rfl
 rw [e, zg3]; simp
theorem zbW {b : UInt8} {r : List UInt8} (h : (b :: r).all isD = true) : isD b = true ∧ r.all isD = true := by
 simpa only [List.all_cons, Bool.and_eq_true] using h
theorem zbq {a b : List UInt8} (h : (a ++ b).all isD = true) : a.all isD = true ∧ b.all isD = true := by
 simpa only [List.all_append, Bool.and_eq_true] using h
theorem zew {b : UInt8} (h : isD b = true) (hb : b ≠ 48) : 49 ≤ b.toNat := by
 have h1 := zcA h
 have h2 : b.toNat ≠ 48 := fun c => hb (UInt8.toNat_inj.1 (by rw [c]; rfl))
 omega
theorem zko {n : Nat} (h : n ≠ 0) : 10 ^ ((dx n).length - 1) ≤ n := by
 obtain ⟨b, r, e, hb⟩ := zaz h
 have h1 := zbf n
 have h2 := zbz n
 rw [e] at h1 h2 ⊢
 rw [zby] at h2
 have h3 := zew (zbW h1).1 hb
 have h4 : 1 * 10 ^ r.length ≤ (b.toNat - 48) * 10 ^ r.length := Nat.mul_le_mul_right _ (by omega)
 have h5 : (b :: r).length - 1 = r.length := by simp
 rw [h5]
 omega
theorem za5 (a b : List UInt8) : zg (a ++ b) 0 = zg a 0 * 10 ^ b.length + zg b 0 := by rw [zkk, zg3]
theorem zb8 : ∀ j : Nat, zg (List.replicate j 48) 0 = 0
 | 0 => rfl
 | j + 1 => by rw [List.replicate_succ, zby, zb8 j, show (48 : UInt8).toNat - 48 = 0 from rfl, Nat.zero_mul]
theorem zg9 {n : Nat} (h : n ≠ 0) {A B : List UInt8} (e : dx n = A ++ B) (hA : A ≠ []) : dx (n / 10 ^ B.length) = A ∧ n % 10 ^ B.length = zg B 0 := by
 have h1 := zbf n
 have h2 := zbz n
 obtain ⟨b, r, e2, hb⟩ := zaz h
 rw [e] at h1 h2 e2
 rw [za5] at h2
 have h3 := zcy (zbq h1).2
 have hd : n / 10 ^ B.length = zg A 0 := by
  rw [← h2, Nat.mul_comm, Nat.mul_add_div (Nat.pow_pos (by omega)), Nat.div_eq_of_lt h3]; omega
 have hm : n % 10 ^ B.length = zg B 0 := by
  rw [← h2, Nat.mul_comm, Nat.mul_add_mod, Nat.mod_eq_of_lt h3]
 refine ⟨?_, hm⟩
 cases A with
 | nil => exact absurd rfl hA
 | cons a A =>
  rw [hd]
  have : a = b := (List.cons.inj e2).1
  exact zdv (zbq h1).1 rfl (this ▸ hb)
theorem zd6 (j : Nat) : (List.replicate j (48 : UInt8)).all isD = true := by
 rw [List.all_eq_true]
 intro x hx
 rw [(List.mem_replicate.1 hx).2]; decide
theorem zhb {n : Nat} (h : n ≠ 0) (j : Nat) : dx (n * 10 ^ j) = dx n ++ List.replicate j 48 := by
 obtain ⟨b, r, e, hb⟩ := zaz h
 have h1 : (dx n ++ List.replicate j 48).all isD = true := by rw [List.all_append, zbf, zd6]; rfl
 have h2 := zdv (b := b) (r := r ++ List.replicate j 48) h1 (by rw [e]; rfl) hb
 rw [za5, zbz, zb8, List.length_replicate] at h2
 exact h2
def tr (l : List UInt8) : List UInt8 := (l.reverse.dropWhile (· == 48)).reverse
theorem zf6 (l : List UInt8) : tr (l ++ [48]) = tr l := by unfold tr; rw [List.reverse_append]; rfl
theorem zf8 (l : List UInt8) {d : UInt8} (h : d ≠ 48) : tr (l ++ [d]) = l ++ [d] := by
 unfold tr
 rw [List.reverse_append]
 show ((d :: l.reverse).dropWhile (· == 48)).reverse = _
 rw [List.dropWhile_cons, if_neg (by simpa using h)]
 simp
theorem zf7 (l : List UInt8) : ∀ j : Nat, tr (l ++ List.replicate j 48) = tr l
 | 0 => by simp
 | j + 1 => by rw [List.replicate_succ', ← List.append_assoc, zf6, zf7 l j]
theorem zcG (l : List UInt8) : ∃ j, l = tr l ++ List.replicate j 48 := by
 rcases List.eq_nil_or_concat l with rfl | ⟨a, d, rfl⟩
 ·exact ⟨0, rfl⟩
 ·rw [List.concat_eq_append]
  by_cases c : d = 48
  ·subst c
   rw [zf6]
   obtain ⟨j, hj⟩ := zcG a
   refine ⟨j + 1, ?_⟩
   rw [List.replicate_succ', ← List.append_assoc, ← hj]
  ·exact ⟨0, by rw [zf8 _ c]; simp⟩
termination_by l.length
decreasing_by subst_vars; simp
theorem zmY {l A : List UInt8} {d : UInt8} (h : tr l = A ++ [d]) : d ≠ 48 := by
 have h1 : l.reverse.dropWhile (· == 48) = d :: A.reverse := by
  have := congrArg List.reverse h
  unfold tr at this
  rw [List.reverse_reverse, List.reverse_append] at this
  exact this
 have := zg5 _ _ h1
 simpa using this
theorem zbT {l r : List UInt8} {b : UInt8} (e : l = b :: r) (hb : b ≠ 48) : ∃ r', tr l = b :: r' := by
 obtain ⟨j, hj⟩ := zcG l
 cases h : tr l with
 | nil =>
  rw [h, e] at hj
  cases j with
  | zero => cases hj
  | succ j => rw [List.replicate_succ] at hj; exact absurd (List.cons.inj hj).1 hb
 | cons c r' =>
  rw [h, e] at hj
  exact ⟨r', by rw [(List.cons.inj hj).1]⟩
theorem zcn (l : List UInt8) : (tr l).length ≤ l.length := by
 obtain ⟨j, hj⟩ := zcG l
 have := congrArg List.length hj
 rw [List.length_append] at this
 omega
theorem zeM {l : List UInt8} (h : l.all isD = true) : (tr l).all isD = true := by
 obtain ⟨j, hj⟩ := zcG l
 rw [hj] at h
 exact (zbq h).1
theorem zkn (l : List UInt8) : zg l 0 = zg (tr l) 0 * 10 ^ (l.length - (tr l).length) := by
 obtain ⟨j, hj⟩ := zcG l
 have h1 := congrArg List.length hj
 rw [List.length_append, List.length_replicate] at h1
 have h2 := congrArg (fun x => zg x 0) hj
 simp only [za5, zb8, List.length_replicate] at h2
 rw [show l.length - (tr l).length = j by omega, h2]; rfl
theorem zg2 {l : List UInt8} (h : l.all isD = true) {A B : List UInt8} (e : l = A ++ B) : zg B 0 ≠ 0 ↔ A.length < (tr l).length := by
 obtain ⟨j, hj⟩ := zcG l
 constructor
 ·intro hB
  apply Nat.lt_of_not_le
  intro hle
  apply hB
  have e1 : A ++ B = tr l ++ List.replicate j 48 := e ▸ hj
  obtain ⟨C, hC⟩ : ∃ C, A = tr l ++ C := by
   refine ⟨A.drop (tr l).length, ?_⟩
   have h2 := congrArg (List.take (tr l).length) e1
   rw [List.take_append_of_le_length hle, List.take_append_of_le_length (Nat.le_refl _), List.take_length] at h2
   rw [← h2]
   exact (by
    have := List.take_append_drop (tr l).length A
    rw [h2] at this ⊢
    exact this.symm)
  rw [hC, List.append_assoc] at e1
  have e2 := List.append_cancel_left e1
  have h3 : ∀ x ∈ B, x = 48 := fun x hx => (List.mem_replicate.1 (e2 ▸ List.mem_append_right C hx)).2
  rw [List.eq_replicate_of_mem h3, zb8]
 ·intro hlt hB
  rcases List.eq_nil_or_concat (tr l) with h0 | ⟨a, d, h0⟩
  ·rw [h0] at hlt; simp at hlt
  ·rw [List.concat_eq_append] at h0
   have hd := zmY h0
   rw [h0] at hlt hj
   have e1 : A ++ B = a ++ ([d] ++ List.replicate j 48) := by rw [← e, hj, List.append_assoc]
   have hla : A.length ≤ a.length := by simp at hlt; omega
   obtain ⟨C, hC⟩ : ∃ C, a = A ++ C := by
    refine ⟨a.drop A.length, ?_⟩
    have h2 := congrArg (List.take A.length) e1
    rw [List.take_append_of_le_length (Nat.le_refl _), List.take_length, List.take_append_of_le_length hla] at h2
    have := List.take_append_drop A.length a
    rw [← h2] at this
    exact this.symm
   rw [hC, List.append_assoc] at e1
   have e2 := List.append_cancel_left e1
   have hdd : isD d = true := by
    have := zeM h
    rw [h0] at this
    simpa using (zbq this).2
   have hd1 := zew hdd hd
   rw [e2, ← List.append_assoc, za5, zb8, za5, zby] at hB
   have hp : 0 < 10 ^ (List.replicate j (48 : UInt8)).length := Nat.pow_pos (by omega)
   have : 0 < (zg C 0 * 10 ^ [d].length + ((d.toNat - 48) * 10 ^ ([] : List UInt8).length + zg [] 0)) * 10 ^ (List.replicate j (48 : UInt8)).length := by
    apply Nat.mul_pos _ hp
    have : zg ([] : List UInt8) 0 = 0 := rfl
    simp only [List.length_nil, Nat.pow_zero, Nat.mul_one]
    omega
   omega
theorem zff : ∀ j : Nat, zg (List.replicate j 57) 0 + 1 = 10 ^ j
 | 0 => rfl
 | j + 1 => by
  have := zff j
  rw [List.replicate_succ, zby, List.length_replicate, Nat.pow_succ, show (57 : UInt8).toNat - 48 = 9 from rfl]
  omega
theorem zhp {d : UInt8} (h : isD d = true) (hd : d ≠ 57) : isD (d + 1) = true ∧ (d + 1).toNat = d.toNat + 1 ∧ d + 1 ≠ 48 := by
 have h1 := zcA h
 have h2 : d.toNat ≠ 57 := fun c => hd (UInt8.toNat_inj.1 (by rw [c]; rfl))
 have e : (d + 1).toNat = d.toNat + 1 := by rw [UInt8.toNat_add]; show (d.toNat + 1) % 256 = _; omega
 refine ⟨decide_eq_true (by omega), e, fun c => ?_⟩
 rw [c] at e
 have : (48 : UInt8).toNat = 48 := rfl
 omega
theorem zkp {A : List UInt8} {d : UInt8} {j : Nat} (hA : (A ++ [d]).all isD = true) (hd : d ≠ 57) (h0 : ∀ b r, A ++ [d] = b :: r → b ≠ 48) :
  dx (zg (A ++ [d] ++ List.replicate j 57) 0 + 1) = A ++ [d + 1] ++ List.replicate j 48 ∧ tr (dx (zg (A ++ [d] ++ List.replicate j 57) 0 + 1)) = A ++ [d + 1] := by
 obtain ⟨a1, a2⟩ := zbq hA
 have hdd : isD d = true := by simpa using a2
 obtain ⟨u1, u2, u3⟩ := zhp hdd hd
 have l1 := zcA hdd
 have e1 : zg (A ++ [d + 1]) 0 = zg (A ++ [d]) 0 + 1 := by
  rw [za5, za5, zby, zby, u2]
  show _ * 10 ^ 1 + ((d.toNat + 1 - 48) * 10 ^ 0 + 0) = _ * 10 ^ 1 + ((d.toNat - 48) * 10 ^ 0 + 0) + 1
  omega
 have e2 : zg (A ++ [d] ++ List.replicate j 57) 0 + 1 = zg (A ++ [d + 1]) 0 * 10 ^ j := by
  rw [za5, List.length_replicate, Nat.add_assoc, zff, e1, Nat.add_mul]; omega
 have h2 : (A ++ [d + 1]).all isD = true := by rw [List.all_append, a1]; simpa using u1
 obtain ⟨b, r, hb, hb0⟩ : ∃ b r, A ++ [d + 1] = b :: r ∧ b ≠ 48 := by
  cases A with
  | nil => exact ⟨d + 1, [], rfl, u3⟩
  | cons b r => exact ⟨b, r ++ [d + 1], rfl, h0 b (r ++ [d]) rfl⟩
 have h3 : dx (zg (A ++ [d + 1]) 0) = A ++ [d + 1] := zdv h2 hb hb0
 have h4 : zg (A ++ [d + 1]) 0 ≠ 0 := by rw [e1]; omega
 have h5 : dx (zg (A ++ [d] ++ List.replicate j 57) 0 + 1) = A ++ [d + 1] ++ List.replicate j 48 := by rw [e2, zhb h4, h3]
 exact ⟨h5, by rw [h5, zf7, zf8 _ u3]⟩
theorem zkq {j : Nat} (hj : 0 < j) : dx (zg (List.replicate j 57) 0 + 1) = 49 :: List.replicate j 48 ∧ tr (dx (zg (List.replicate j 57) 0 + 1)) = [49] := by
 have h1 : dx 1 = [49] := zdv (l := [49]) (r := []) (b := 49) (by decide) rfl (by decide)
 have h5 : dx (zg (List.replicate j 57) 0 + 1) = [49] ++ List.replicate j 48 := by
  rw [zff, ← Nat.one_mul (10 ^ j), zhb (by omega), h1]
 exact ⟨h5, by rw [h5, zf7]; rfl⟩
def hlf (r p : Nat) : Int := if 2 * r < p then -1 else if p < 2 * r then 1 else 0
theorem zkQ {d : UInt8} {Rr : List UInt8} (h : (d :: Rr).all isD = true) : hlf (zg (d :: Rr) 0) (10 ^ (d :: Rr).length) =
  if d.toNat < 53 then -1 else if 53 < d.toNat then 1 else if zg Rr 0 ≠ 0 then 1 else 0 := by
 obtain ⟨h1, h2⟩ := zbW h
 have l1 := zcA h1
 have l2 := zcy h2
 have e : 10 ^ (d :: Rr).length = 10 * 10 ^ Rr.length := by rw [List.length_cons, Nat.pow_succ]; omega
 rw [zby, e]
 obtain ⟨p, hp⟩ : ∃ p, p = 10 ^ Rr.length := ⟨_, rfl⟩
 obtain ⟨v, hv⟩ : ∃ v, v = zg Rr 0 := ⟨_, rfl⟩
 rw [← hp, ← hv] at l2 ⊢
 unfold hlf
 by_cases c1 : d.toNat < 53
 ·have : (d.toNat - 48) * p ≤ 4 * p := Nat.mul_le_mul_right _ (by omega)
  rw [if_pos c1, if_pos (by omega)]
 ·rw [if_neg c1]
  by_cases c2 : 53 < d.toNat
  ·have : 6 * p ≤ (d.toNat - 48) * p := Nat.mul_le_mul_right _ (by omega)
   rw [if_pos c2, if_neg (by omega), if_pos (by omega)]
  ·have e5 : d.toNat - 48 = 5 := by omega
   rw [if_neg c2, e5, if_neg (by omega)]
   by_cases c3 : v ≠ 0
   ·rw [if_pos c3, if_pos (by omega)]
   ·rw [if_neg c3, if_neg (by omega)]
def zaN (s : Bool) (d : List UInt8) (x : Int) : List UInt8 := sgT s ++
  (if x < -5 ∨ x > 20 then d.take 1 ++ (if 1 < d.length then 46 :: d.drop 1 else []) ++ 101 :: etx x
   else if x < 0 then 48 :: 46 :: (List.replicate (-x - 1).toNat 48 ++ d)
   else if x + 1 < (d.length : Int) then d.take (x + 1).toNat ++ 46 :: d.drop (x + 1).toNat
   else d ++ List.replicate (x + 1 - (d.length : Int)).toNat 48)
def zbS (s : Bool) (q : Nat) (x : Int) : List UInt8 := zaN s (tr (dx q)) (x + ((dx q).length : Nat) - 1)
theorem zf9 {A T : List UInt8} (hA : A.all isD = true) (hT : ∀ c r, T = c :: r → isD c = false) : (A ++ T).takeWhile isD = A ∧ (A ++ T).dropWhile isD = T := by
 have h := fun a ha => List.all_eq_true.1 hA a ha
 rw [List.takeWhile_append_of_pos h, List.dropWhile_append_of_pos h]
 cases T with
 | nil => simp
 | cons c r => rw [List.takeWhile_cons, List.dropWhile_cons, hT c r rfl]; simp
theorem zfQ {A T : List UInt8} (hA : A.all isD = true) (h0 : A ≠ []) (hT : ∀ c r, T = c :: r → isD c = false ∧ c ≠ 46) : zav (A ++ T) = zae A 0 T := by
 obtain ⟨e1, e2⟩ := zf9 hA fun c r e => (hT c r e).1
 unfold zav
 rw [e1, e2, if_neg h0, if_neg]
 cases T with
 | nil => simp
 | cons c r => simpa using (hT c r rfl).2
theorem zeC {A B T : List UInt8} (hA : A.all isD = true) (h0 : A ≠ []) (hB : B.all isD = true) (h1 : B ≠ []) (hT : ∀ c r, T = c :: r → isD c = false) : zav (A ++ 46 :: (B ++ T)) = zae (A ++ B) (-(B.length : Int)) T := by
 obtain ⟨e1, e2⟩ := zf9 (T := 46 :: (B ++ T)) hA fun c r e => by rw [← (List.cons.inj e).1]; decide
 obtain ⟨e3, e4⟩ := zf9 hB hT
 unfold zav
 rw [e1, e2, if_neg h0, if_pos (show (46 :: (B ++ T)).head? = some 46 from rfl), List.tail_cons, e3, e4, if_neg h1]
theorem ziG (d : List UInt8) (y : Int) {x : Int} (h1 : -1100 ≤ x) (h2 : x < 1100) : zae d y (101 :: etx x) = some (d, y + x) := by
 obtain ⟨h3, h4⟩ := zkx h1 h2
 unfold zae
 rw [if_neg (by simp), if_pos ⟨rfl, h3⟩, List.tail_cons, h4]
theorem zd7 {l : List UInt8} (h : l.all isD = true) (n : Nat) : (l.take n).all isD = true := by
 rw [List.all_eq_true] at *
 exact fun x hx => h x (List.mem_of_mem_take hx)
theorem zgw {l : List UInt8} (h : l.all isD = true) (n : Nat) : (l.drop n).all isD = true := by
 rw [List.all_eq_true] at *
 exact fun x hx => h x (List.mem_of_mem_drop hx)
theorem zmn {d r : List UInt8} {b : UInt8} (hd : d.all isD = true) (e : d = b :: r) {x : Int} (h1 : -1100 ≤ x) (h2 : x < 1100) :
  ∃ (E : List UInt8) (X : Int) (i : Nat), zav (zaN false d x) = some (E, X) ∧ zg E 0 = zg d 0 * 10 ^ i ∧ X + i = x - (d.length : Int) + 1 := by
 have hlen : d.length = r.length + 1 := by rw [e]; simp
 unfold zaN
 rw [show sgT false = [] from rfl, List.nil_append]
 by_cases c1 : x < -5 ∨ x > 20
 ·rw [if_pos c1]
  by_cases c2 : 1 < d.length
  ·rw [if_pos c2, List.append_assoc, List.cons_append, zeC (zd7 hd 1) (by rw [e]; simp) (zgw hd 1) (by rw [e, List.drop_one, List.tail_cons]; intro c; rw [c] at hlen; simp at hlen; omega) (fun c r hc => by rw [← (List.cons.inj hc).1]; decide), ziG _ _ h1 h2, List.take_append_drop]
   refine ⟨_, _, 0, rfl, by simp, ?_⟩
   rw [List.length_drop]; omega
  ·rw [if_neg c2, List.append_nil, zfQ (zd7 hd 1) (by rw [e]; simp) (fun c r hc => by rw [← (List.cons.inj hc).1]; decide), ziG _ _ h1 h2, List.take_of_length_le (by omega)]
   exact ⟨_, _, 0, rfl, by simp, by omega⟩
 rw [if_neg c1]
 by_cases c2 : x < 0
 ·rw [if_pos c2]
  have := zeC (A := [48]) (B := List.replicate (-x - 1).toNat 48 ++ d) (T := []) (by decide) (by simp) (by rw [List.all_append, zd6, hd]; rfl) (by rw [e]; simp) (by simp)
  rw [List.append_nil] at this
  rw [show (48 : UInt8) :: 46 :: (List.replicate (-x - 1).toNat 48 ++ d) = [48] ++ 46 :: (List.replicate (-x - 1).toNat 48 ++ d) from rfl, this]
  refine ⟨_, _, 0, by unfold zae; rw [if_pos rfl], ?_, ?_⟩
  ·rw [show [48] ++ (List.replicate (-x - 1).toNat 48 ++ d) = List.replicate ((-x - 1).toNat + 1) 48 ++ d by rw [List.replicate_succ]; rfl, za5, zb8]; simp
  ·rw [List.length_append, List.length_replicate]; omega
 rw [if_neg c2]
 by_cases c3 : x + 1 < (d.length : Int)
 ·rw [if_pos c3]
  have := zeC (A := d.take (x + 1).toNat) (B := d.drop (x + 1).toNat) (T := []) (zd7 hd _) (by rw [e, show (x + 1).toNat = x.toNat + 1 by omega]; simp) (zgw hd _) (by intro c; have := congrArg List.length c; rw [List.length_drop] at this; simp at this; omega) (by simp)
  rw [List.append_nil] at this
  rw [this, List.take_append_drop]
  refine ⟨_, _, 0, by unfold zae; rw [if_pos rfl], by simp, ?_⟩
  rw [List.length_drop]; omega
 ·rw [if_neg c3]
  have := zfQ (A := d ++ List.replicate (x + 1 - (d.length : Int)).toNat 48) (T := []) (by rw [List.all_append, zd6, hd]; rfl) (by rw [e]; simp) (by simp)
  rw [List.append_nil] at this
  rw [this]
  refine ⟨_, _, (x + 1 - (d.length : Int)).toNat, by unfold zae; rw [if_pos rfl], ?_, by omega⟩
  rw [za5, zb8, List.length_replicate]; simp
theorem zgS {f m : Int} (h : isF f) (s : Bool) {n : Nat} (hn : n ≠ 0) (i : Nat) (x : Int) : zt f m s (n * 10 ^ i) x = zt f m s n (x + i) := by
 unfold zt
 have hp : ∀ j : Nat, 0 < 10 ^ j := fun j => Nat.pow_pos (by omega)
 refine zmv h s (Nat.mul_ne_zero (Nat.mul_ne_zero hn (Nat.ne_of_gt (hp _))) (Nat.ne_of_gt (hp _))) (Nat.mul_ne_zero hn (Nat.ne_of_gt (hp _))) (hp _) (hp _) ?_ 0
 rw [Nat.mul_assoc n, Nat.mul_assoc n, Nat.mul_assoc n, ← Nat.pow_add, ← Nat.pow_add, ← Nat.pow_add]
 congr 2; omega
theorem zl2 (s : Bool) (d : List UInt8) (x : Int) : zaN s d x = sgT s ++ zaN false d x := rfl
theorem zlZ {d r : List UInt8} {b : UInt8} (hd : d.all isD = true) (e : d = b :: r) (x : Int) : ∃ c t, zaN false d x = c :: t ∧ isD c = true := by
 have hb : isD b = true := by rw [e] at hd; exact (zbW hd).1
 subst e
 unfold zaN
 rw [show sgT false = [] from rfl, List.nil_append]
 by_cases c1 : x < -5 ∨ x > 20
 ·rw [if_pos c1]; exact ⟨b, _, rfl, hb⟩
 rw [if_neg c1]
 by_cases c2 : x < 0
 ·rw [if_pos c2]; exact ⟨48, _, rfl, by decide⟩
 rw [if_neg c2]
 by_cases c3 : x + 1 < ((b :: r).length : Int)
 ·rw [if_pos c3, show (x + 1).toNat = x.toNat + 1 by omega]; exact ⟨b, _, rfl, hb⟩
 ·rw [if_neg c3]; exact ⟨b, _, rfl, hb⟩
theorem zee {f m : Int} {s : Bool} {c : UInt8} {t : List UInt8} (hc : isD c = true) (hl : (c :: t).length ≤ 1199) {E : List UInt8} {X : Int} (hr : zav (c :: t) = some (E, X)) : zaI f m (sgT s ++ c :: t) = zb5 f m s (zg E 0) X := by
 have hb := zcA hc
 have c45 : c ≠ 45 := fun h => by rw [h] at hb; revert hb; decide
 have c110 : c ≠ 110 := fun h => by rw [h] at hb; revert hb; decide
 have c105 : c ≠ 105 := fun h => by rw [h] at hb; revert hb; decide
 obtain ⟨e1, e2⟩ := zhT (s := s) (r := t) c45
 have hs := zfY s
 unfold zaI zed
 rw [if_neg (by rw [List.length_append]; omega), if_neg (zhV c110), e1, e2, if_neg (fun h => c105 (List.cons.inj h).1), hr]
 rfl
theorem zj7 {f m : Int} (h : isF f) (s : Bool) {d r : List UInt8} {b : UInt8} (hd : d.all isD = true) (e : d = b :: r) (hb : b ≠ 48) {x : Int} (h1 : -1100 ≤ x) (h2 : x < 1100) (hl : (zaN false d x).length ≤ 1199) :
  zaI f m (zaN s d x) = ((zt f m s (zg d 0) (x - (d.length : Int) + 1)).1, (zt f m s (zg d 0) (x - (d.length : Int) + 1)).2, 0) := by
 obtain ⟨c, t, h3, h4⟩ := zlZ hd e x
 obtain ⟨E, X, i, h5, h6, h7⟩ := zmn hd e h1 h2
 have h0 : zg d 0 ≠ 0 := by
  have := hd
  rw [e] at this ⊢
  rw [zby]
  have := zew (zbW this).1 hb
  have hp : 0 < 10 ^ r.length := Nat.pow_pos (by omega)
  have : 1 * 10 ^ r.length ≤ (b.toNat - 48) * 10 ^ r.length := Nat.mul_le_mul_right _ (by omega)
  omega
 rw [h3] at h5 hl
 rw [zl2, h3, zee h4 hl h5, h6]
 unfold zb5
 have hp : 0 < 10 ^ i := Nat.pow_pos (by omega)
 rw [if_neg (Nat.mul_ne_zero h0 (Nat.ne_of_gt hp)), zgS h s h0, h7]
theorem zl0 (d : List UInt8) (x : Int) : (zaN false d x).length ≤ d.length + 30 := by
 unfold zaN
 rw [show sgT false = [] from rfl, List.nil_append]
 have := zhd x
 by_cases c1 : x < -5 ∨ x > 20
 ·rw [if_pos c1]; split <;> simp <;> omega
 rw [if_neg c1]
 by_cases c2 : x < 0
 ·rw [if_pos c2]; simp; omega
 rw [if_neg c2]
 by_cases c3 : x + 1 < (d.length : Int)
 ·rw [if_pos c3]; simp; omega
 ·rw [if_neg c3]; simp; omega
def exN (z : Nat) (e : Int) : Nat := z * 2 ^ e.toNat * 5 ^ (-e).toNat
def exG (e : Int) : Nat := (-e).toNat
theorem zei {z : Nat} (h : z ≠ 0) (e : Int) : exN z e ≠ 0 := Nat.mul_ne_zero (Nat.mul_ne_zero h (Nat.ne_of_gt (zi _))) (Nat.ne_of_gt (Nat.pow_pos (by omega)))
theorem zfa {f m : Int} (h : isF f) (s : Bool) {z : Nat} (hz : z ≠ 0) (e : Int) : zt f m s (exN z e) (-(exG e : Int)) = zo f m s z e := by
 have h5 := zei hz e
 rw [← zgP h s h5]
 unfold exN exG
 have e1 := zeF (m := m) h s (A := z * 2 ^ e.toNat) (B := 1) (c := 5 ^ (-e).toNat) (Nat.mul_ne_zero hz (Nat.ne_of_gt (zi _))) (by omega) (Nat.pow_pos (by omega)) (-(((-e).toNat : Nat) : Int))
 rw [Nat.one_mul] at e1
 rw [e1, zeG h s hz (by omega), zio h s hz]
 congr 1
 omega
def zbE (g : Nat) (t : List UInt8) : List UInt8 := List.replicate (g + 1 - t.length) 48 ++ t
theorem zdH (g : Nat) (t : List UInt8) : g + 1 ≤ (zbE g t).length ∧ (zbE g t).length = max (g + 1) t.length := by
 unfold zbE
 rw [List.length_append, List.length_replicate]; omega
def exW (z : Nat) (e : Int) : List UInt8 := if 0 ≤ e then dx (exN z e) else (zbE (exG e) (dx (exN z e))).take ((zbE (exG e) (dx (exN z e))).length - exG e)
def exP (z : Nat) (e : Int) : List UInt8 := if 0 ≤ e then [] else (zbE (exG e) (dx (exN z e))).drop ((zbE (exG e) (dx (exN z e))).length - exG e)
def exT (s : Bool) (z : Nat) (e : Int) : List UInt8 := sgT s ++ (exW z e ++ if exP z e = [] then [] else 46 :: exP z e)
theorem zfh (z : Nat) (e : Int) : (exP z e).length = exG e := by
 unfold exP
 by_cases c : 0 ≤ e
 ·rw [if_pos c]; unfold exG; simp; omega
 ·rw [if_neg c, List.length_drop]
  have := (zdH (exG e) (dx (exN z e))).1
  omega
theorem zfj {z : Nat} (hz : z ≠ 0) (e : Int) : 0 < (exW z e).length ∧ (exW z e).length ≤ (dx (exN z e)).length + 1 := by
 unfold exW
 have := zdw (zei hz e)
 by_cases c : 0 ≤ e
 ·rw [if_pos c]; omega
 ·rw [if_neg c, List.length_take]
  have := (zdH (exG e) (dx (exN z e)))
  omega
theorem zfi (z : Nat) (e : Int) : ∃ j, exW z e ++ exP z e = List.replicate j 48 ++ dx (exN z e) ∧ j = (exW z e).length + exG e - (dx (exN z e)).length := by
 unfold exW exP
 by_cases c : 0 ≤ e
 ·rw [if_pos c, if_pos c]
  exact ⟨0, by simp, by unfold exG; omega⟩
 ·rw [if_neg c, if_neg c, List.take_append_drop]
  refine ⟨_, rfl, ?_⟩
  have := (zdH (exG e) (dx (exN z e)))
  rw [List.length_take]
  omega
theorem zkz (z : Nat) (e : Int) : (exW z e).all isD = true ∧ (exP z e).all isD = true := by
 obtain ⟨j, h, _⟩ := zfi z e
 exact zbq (by rw [h, List.all_append, zd6, zbf]; rfl)
theorem zap {f m : Int} (h : isF f) (s : Bool) {z : Nat} (hz : z ≠ 0) {e : Int} (hl : (dx (exN z e)).length ≤ 1000) (hg : exG e ≤ 1100) (hlg : (dx (exN z e)).length + exG e ≤ 1190 ∨ (exW z e).length + exG e ≤ 1190) : zaI f m (exT s z e) = ((zo f m s z e).1, (zo f m s z e).2, 0) := by
 obtain ⟨w1, w2⟩ := zfj hz e
 obtain ⟨a1, a2⟩ := zkz z e
 obtain ⟨j, hj, hj2⟩ := zfi z e
 have hp := zfh z e
 have hN := zei hz e
 cases hw : exW z e with
 | nil => rw [hw] at w1; simp at w1
 | cons c t =>
  have hc : isD c = true := by rw [hw] at a1; exact (zbW a1).1
  have hd : zg (exW z e ++ exP z e) 0 = exN z e := by rw [hj, za5, zb8, zbz]; simp
  have hsum : (exW z e).length + exG e ≤ 1191 := by omega
  rw [hw] at a1 hd hsum
  unfold exT
  rw [hw]
  by_cases c0 : exP z e = []
  ·rw [if_pos c0, List.append_nil]
   rw [c0, List.append_nil] at hd
   have hg0 : exG e = 0 := by rw [← hp, c0]; rfl
   have hr := zfQ (A := c :: t) (T := []) a1 (by simp) (by simp)
   rw [List.append_nil] at hr
   have h1 : zav (c :: t) = some (c :: t, 0) := by rw [hr]; unfold zae; rw [if_pos rfl]
   rw [zee hc (by omega) h1, hd]
   have := zfa (m := m) h s hz e
   rw [hg0] at this
   unfold zb5
   rw [if_neg hN, show (0 : Int) = -((0 : Nat) : Int) from rfl, this]
  ·rw [if_neg c0]
   have hr := zeC (A := c :: t) (B := exP z e) (T := []) a1 (by simp) a2 c0 (by simp)
   rw [List.append_nil] at hr
   have h1 : zav (c :: (t ++ 46 :: exP z e)) = some (c :: t ++ exP z e, -((exP z e).length : Int)) := by
    show zav (c :: t ++ 46 :: exP z e) = _
    rw [hr]; unfold zae; rw [if_pos rfl]
   show zaI f m (sgT s ++ c :: (t ++ 46 :: exP z e)) = _
   rw [zee hc (by simp only [List.length_cons, List.length_append] at hsum ⊢; omega) h1, hd, hp]
   unfold zb5
   rw [if_neg hN, zfa (m := m) h s hz e]
theorem zl4 (n : Nat) : 5 ^ n ≤ 10 ^ (7 * (n / 10 + 1)) := by
 have h1 : 5 ^ n ≤ 5 ^ (10 * (n / 10 + 1)) := Nat.pow_le_pow_right (by omega) (by omega)
 have h2 : (5 ^ 10) ^ (n / 10 + 1) ≤ (10 ^ 7) ^ (n / 10 + 1) := Nat.pow_le_pow_left (by decide) _
 rw [← Nat.pow_mul, ← Nat.pow_mul] at h2
 omega
theorem zl3 (n : Nat) : 2 ^ n ≤ 10 ^ (3 * (n / 8 + 1)) := by
 have h1 : 2 ^ n ≤ 2 ^ (8 * (n / 8 + 1)) := Nat.pow_le_pow_right (by omega) (by omega)
 have h2 : (2 ^ 8) ^ (n / 8 + 1) ≤ (10 ^ 3) ^ (n / 8 + 1) := Nat.pow_le_pow_left (by decide) _
 rw [← Nat.pow_mul, ← Nat.pow_mul] at h2
 omega
theorem zhz {z y p K : Nat} (hz : z < 10 ^ 16) (hy : y ≤ 10 ^ p) (hp : 16 + p ≤ K) : z * y < 10 ^ K := by
 have h5 : z * y ≤ z * 10 ^ p := Nat.mul_le_mul_left _ hy
 have h6 : z * 10 ^ p < 10 ^ 16 * 10 ^ p := Nat.mul_lt_mul_of_pos_right hz (Nat.pow_pos (by omega))
 rw [← Nat.pow_add] at h6
 exact Nat.lt_of_le_of_lt h5 (Nat.lt_of_lt_of_le h6 (Nat.pow_le_pow_right (by omega) hp))
theorem zfk {z : Nat} {e : Int} (hb : bl z ≤ 53) (h1 : -1074 ≤ e) (h2 : e ≤ 1024) : (dx (exN z e)).length ≤ 800 := by
 obtain ⟨K, hK⟩ : ∃ K : Nat, K = 800 := ⟨_, rfl⟩
 rw [← hK]
 apply zg7 _ (by omega)
 unfold exN
 have hz : z < 2 ^ bl z := zN z
 have hz2 : 2 ^ bl z ≤ 2 ^ 53 := Nat.pow_le_pow_right (by omega) hb
 have hz3 : z < 10 ^ 16 := Nat.lt_of_lt_of_le (Nat.lt_of_lt_of_le hz hz2) (by decide)
 by_cases c : 0 ≤ e
 ·rw [show (-e).toNat = 0 by omega, Nat.pow_zero, Nat.mul_one]
  exact zhz hz3 (zl3 e.toNat) (by omega)
 ·rw [show e.toNat = 0 by omega, Nat.pow_zero, Nat.mul_one]
  exact zhz hz3 (zl4 (-e).toNat) (by omega)
theorem zP (a b : List UInt8) : bx a ++ bx b = bx (a ++ b) := zaY.1 (by rw [ziK]; rfl)
theorem zcR (T : List UInt8) (n : Nat) : (bx T).extract 0 n = bx (T.take n) := zaY.1 (by rw [zeK]; rfl)
theorem zd9 (T : List UInt8) (n : Nat) : (bx T).extract n (bx T).size = bx (T.drop n) := zaY.1 (by rw [zeK, zz, zaf, zaf, List.take_length])
theorem zjT (T : List UInt8) (i j : Nat) : (bx T).extract i j = bx ((T.take j).drop i) := zaY.1 (by rw [zeK]; rfl)
theorem zfR {n : Int} (h0 : 0 ≤ n) (h1 : n ≤ 1000000) : zad.f (⟨#[48]⟩ : ByteArray) n = some (bx (List.replicate n.toNat 48)) := by
 unfold zad.f
 have hs : (⟨#[48]⟩ : ByteArray).size = 1 := rfl
 rw [if_pos ⟨h0, by rw [hs]; omega, by omega⟩]
 have : Lib.repeatL (⟨#[48]⟩ : ByteArray).data.toList n.toNat = List.replicate n.toNat 48 := zig 48 _
 rw [this]; rfl
def nmT (f : Int) (w : Nat) : List UInt8 := if cls f w = 5 then [110, 97, 110] else if cls f w = 4 then sgT (zn f w) ++ [105, 110, 102] else if cls f w = 1 then sgT (zn f w) ++ [48] else []
def zbA (f : Int) (w : Nat) : Bool := decide (cls f w = 5 ∨ cls f w = 4 ∨ cls f w = 1)
theorem zek {f : Int} {w : Nat} (h : zbA f w = false) : cls f w ≠ 5 ∧ cls f w ≠ 4 ∧ cls f w ≠ 1 := by
 have := of_decide_eq_false h
 exact ⟨fun c => this (.inl c), fun c => this (.inr (.inl c)), fun c => this (.inr (.inr c))⟩
theorem zhL (s : Bool) (a b : Int) {t : List UInt8} (ht : t.length ≤ 10) : Ev (fun k => zaJ.j1 k s a b (bx t)) (bx (sgT s ++ t), true, 0) := by
 refine zf ?_; simp only [zaJ.j1]
 have hs := zz t
 cases s with
 | true => exact zd rfl (zd (show 1 + (bx t).size < 35184372088832 by omega) (zh (Ev.now _) (by rw [show (⟨#[45]⟩ : ByteArray) = bx [45] from rfl, zP]; rfl)))
 | false => exact ze (by simp) (Ev.now _)
theorem zhK {f : Int} (h : isF f) {w : Nat} (hw : w < 2 * sg f) : Ev (fun k => zaJ.f k f (w : Int)) (bx (nmT f w), zbA f w, 0) := by
 unfold zaJ.f
 refine Ev.bind (znr h hw) (ze (by simp) (Ev.bind (znw h hw) ?_))
 unfold nmT zbA
 by_cases c5 : cls f w = 5
 ·rw [if_pos c5, decide_eq_true (.inl c5)]
  exact zd c5 (Ev.now _)
 rw [if_neg c5]
 by_cases c4 : cls f w = 4
 ·rw [if_pos c4, decide_eq_true (.inr (.inl c4))]
  exact ze c5 (zd c4 (zhL (t := [105, 110, 102]) _ _ _ (by decide)))
 rw [if_neg c4]
 by_cases c1 : cls f w = 1
 ·rw [if_pos c1, decide_eq_true (.inr (.inr c1))]
  exact ze c5 (ze c4 (zd c1 (zhL (t := [48]) _ _ _ (by decide))))
 ·rw [if_neg c1, decide_eq_false (by rintro (c | c | c); exact c5 c; exact c4 c; exact c1 c)]
  exact ze c5 (ze c4 (ze c1 (Ev.now _)))
theorem zhf (z : Nat) {e : Int} (h : 0 ≤ e) : exN z e = z * 2 ^ e.toNat := by unfold exN; rw [show (-e).toNat = 0 by omega, Nat.pow_zero, Nat.mul_one]
theorem zhg (z : Nat) {e : Int} (h : e < 0) : exN z e = z * 5 ^ (-e).toNat := by unfold exN; rw [show e.toNat = 0 by omega, Nat.pow_zero, Nat.mul_one]
theorem zkA {z : Nat} {e : Int} (hb : bl z ≤ 53) (h1 : -1074 ≤ e) (h2 : e ≤ 1024) : bl (exN z e) ≤ 3300 := by
 by_cases c : 0 ≤ e
 ·rw [zhf z c]
  have := ze3 z e.toNat
  omega
 ·rw [zhg z (by omega)]
  have := ze2 z (5 ^ (-e).toNat)
  have := zeA (-e).toNat
  omega
theorem zli {n k : Nat} (hb : bl n ≤ 32 * k) : n < 4294967296 ^ k := by
 have h1 := zN n
 have h2 : (4294967296 : Nat) ^ k = 2 ^ (32 * k) := by rw [Nat.pow_mul]
 rw [h2]
 exact Nat.lt_of_lt_of_le h1 (Nat.pow_le_pow_right (by omega) hb)
theorem zgg {n k : Nat} (hb : bl n ≤ 32 * k) : (D n).length ≤ k := zbp (zli hb)
def dz (f : Int) (w : Nat) : Nat := V (wv f w).2.1
def we (f : Int) (w : Nat) : Int := (wv f w).2.2
structure Wd (f : Int) (w : Nat) : Prop where
 eq : wv f w = (zn f w, D (dz f w), we f w)
 my : My (zn f w) (D (dz f w)) (we f w)
 ne : dz f w ≠ 0
 b : bl (dz f w) ≤ 53
 lo : -1074 ≤ we f w
 hi : we f w + (bl (dz f w) : Nat) ≤ 1024
theorem zcK {f : Int} (h : isF f) {w : Nat} (c1 : cls f w ≠ 1) (c4 : cls f w < 4) : Wd f w := by
 obtain ⟨my, ne, b, lo, hi, hs⟩ := zl6 h c1 c4
 have hb := (zi9 h c1 c4).b
 have hpr : pr f ≤ 53 := by rcases h with rfl | rfl <;> decide
 have e : wv f w = (zn f w, D (dz f w), we f w) := by
  have hn : D (V (wv f w).2.1) = (wv f w).2.1 := my.dy.nm
  unfold dz we
  rw [hn, ← hs]
 refine ⟨e, ?_, ne, ?_, lo, hi⟩
 ·rw [e] at my; exact my
 ·exact Nat.le_trans hb hpr
theorem znA {f : Int} (h : isF f) {w : Nat} (hw : w < 2 * sg f) (c1 : cls f w ≠ 1) (c4 : cls f w < 4) : Ev (fun k => zaZ.f k f (w : Int)) (zn f w, D (dz f w), we f w, 0) := by
 have hv := znx h hw c4
 have hwv : mk (sv (zn f w) (zq f w)) (wex f w) = wv f w := rfl
 rw [hwv, (zcK h c1 c4).eq] at hv
 exact hv
theorem zhj (s : Bool) (l : List Int) {e : Int} {T : List UInt8} (h1 : -1074 ≤ e) (h2 : e < 0) (hT : (-e).toNat ≤ T.length) (hl : T.length ≤ 10000) :
  Ev (fun k => zap.j1 k s l e (bx T)) (s, bx (T.take (T.length - (-e).toNat)), bx (T.drop (T.length - (-e).toNat))) := by
 have hs := zz T
 have hw : wrap64 (((bx T).size : Int) + e) = ((T.length - (-e).toNat : Nat) : Int) := by rw [w64 (by omega) (by omega)]; omega
 refine zf ?_; simp only [zap.j1]
 rw [hw, Int.toNat_natCast, zcR, zd9]
 exact zd (by omega) (zd (by omega) (zd (by omega) (zd (by omega) (Ev.now _))))
theorem zgU {f : Int} (h : isF f) {w : Nat} (hw : w < 2 * sg f) (c1 : cls f w ≠ 1) (c4 : cls f w < 4) :
  Ev (fun k => zap.f k f (w : Int)) (zn f w, bx (exW (dz f w) (we f w)), bx (exP (dz f w) (we f w))) := by
 have W := zcK h c1 c4
 have hv := znA h hw c1 c4
 obtain ⟨_, my, ne, b, lo, hi⟩ := W
 have hbp := zaQ ne
 revert hv my ne b lo hi hbp
 generalize zn f w = s
 generalize dz f w = z
 generalize we f w = e
 intro hv my ne b lo hi hbp
 have hN : (D (exN z e)).length ≤ 104 := zgg (by have := zkA b lo (by omega); omega)
 have hx := zfk b lo (by omega)
 unfold zap.f
 refine Ev.bind hv ?_
 by_cases c : 0 ≤ e
 ·have e1 : zbF (V (D z)) e = (D (exN z e), false, 0) := by
   unfold zbF
   rw [V_D, if_neg ne, if_neg (by omega), if_neg (by omega), if_neg (by omega), zhf z c]
  have hsh := zdF my.dy.nm my.len e
  rw [e1] at hsh
  have ht := zhP (z3 (exN z e)) (by omega)
  rw [V_D, ziB] at ht
  refine zd c (Ev.bind hsh (Ev.bind ht ?_))
  unfold exW exP
  rw [if_pos c, if_pos c]
  exact Ev.now _
 ·have c' : e < 0 := by omega
  have hg : exG e = (-e).toNat := rfl
  have e1 : wrap64 (-e) = (((-e).toNat : Nat) : Int) := by rw [w64 (by omega) (by omega)]; omega
  have h5 : (D (5 ^ (-e).toNat)).length ≤ 104 := zgg (by have := zeA (-e).toNat; omega)
  have hp := zfB (b := 5) (n := (-e).toNat) (by omega) (by omega)
  rw [zdq (by omega)] at hp
  have hm := zhN (z3 z) (z3 (5 ^ (-e).toNat)) my.len (by omega)
  rw [V_D, V_D, ← zhg z c', zdq (by omega)] at hm
  have ht := zhP (z3 (exN z e)) (by omega)
  rw [V_D, ziB] at ht
  have hsz := zz (dx (exN z e))
  have hpd := zdH (exG e) (dx (exN z e))
  unfold exW exP
  rw [if_neg c, if_neg c]
  refine ze c ?_
  rw [e1]
  refine Ev.bind hp (Ev.bind hm (Ev.bind ht ?_))
  dsimp only
  have e2 : wrap64 ((((-e).toNat : Nat) : Int) - ((bx (dx (exN z e))).size : Int)) = (((-e).toNat : Nat) : Int) - ((dx (exN z e)).length : Int) := by rw [hsz, w64 (by omega) (by omega)]
  rw [e2]
  by_cases ck : (((-e).toNat : Nat) : Int) - ((dx (exN z e)).length : Int) ≥ 0
  ·have e3 : wrap64 ((((-e).toNat : Nat) : Int) - ((dx (exN z e)).length : Int) + 1) = ((exG e + 1 - (dx (exN z e)).length : Nat) : Int) := by rw [w64 (by omega) (by omega), hg]; omega
   rw [e3]
   refine zd ck (zk (zfR (by omega) (by omega)) ?_)
   rw [Int.toNat_natCast, zP]
   have hz : (bx (List.replicate (exG e + 1 - (dx (exN z e)).length) 48)).size = exG e + 1 - (dx (exN z e)).length := by rw [zz, List.length_replicate]
   refine zd (by omega) ?_
   have := zhj s (D z) (T := zbE (exG e) (dx (exN z e))) lo c' (by omega) (by omega)
   exact this
  ·refine ze ck ?_
   have hpt : zbE (exG e) (dx (exN z e)) = dx (exN z e) := by
    unfold zbE
    rw [show exG e + 1 - (dx (exN z e)).length = 0 by omega]; rfl
   rw [hpt, hg]
   exact zhj s (D z) (T := dx (exN z e)) lo c' (by omega) (by omega)
def exS (f : Int) (w : Nat) : List UInt8 := if zbA f w = true then nmT f w else exT (zn f w) (dz f w) (we f w)
theorem zej {f : Int} (h : isF f) {w : Nat} (c5 : cls f w ≠ 5) (c4 : cls f w ≠ 4) : cls f w < 4 := by have := zjW h w; omega
theorem zgk (s : Bool) {t : List UInt8} (ht : t.length ≤ 100000) : Ev (fun k => z6.j2 k s (bx t)) (bx (sgT s ++ t), 0) := by
 refine zf ?_; simp only [z6.j2]
 have hs := zz t
 cases s with
 | true => exact zd rfl (zd (show 1 + (bx t).size < 35184372088832 by omega) (zh (Ev.now _) (by rw [show (⟨#[45]⟩ : ByteArray) = bx [45] from rfl, zP]; rfl)))
 | false => exact ze (by simp) (Ev.now _)
theorem zjf {f : Int} (h : isF f) {w : Nat} (hw : w < 2 * sg f) : Ev (fun k => z6.f k f (w : Int)) (bx (exS f w), 0) := by
 unfold z6.f exS
 refine Ev.bind (zhK h hw) ?_
 by_cases hn : zbA f w = true
 ·rw [if_pos hn]
  refine zd hn ?_
  refine zf ?_; simp only [z6.j0]
  exact zd trivial (Ev.now _)
 ·rw [if_neg hn]
  obtain ⟨c5, c4, c1⟩ := zek (by simpa using hn)
  have hf := zej h c5 c4
  have W := zcK h c1 hf
  have h1 := zfj W.ne (we f w)
  have h2 := zfh (dz f w) (we f w)
  have h3 := W.lo
  have h4 := W.hi
  have h5 := zaQ W.ne
  have h6 := zfk W.b W.lo (by omega)
  have h7 : exG (we f w) ≤ 1074 := by unfold exG; omega
  refine ze hn ?_
  rw [show decide (¬ (0 : Int) = 0) = false from rfl]
  refine zf ?_; simp only [z6.j0]
  refine ze (by simp) (Ev.bind (zgU h hw c1 hf) ?_)
  unfold exT
  by_cases c0 : exP (dz f w) (we f w) = []
  ·rw [if_pos c0, List.append_nil, zax.2 c0]
   exact ze (by simp) (zgk _ (by omega))
  ·rw [if_neg c0]
   have s1 := zz (exP (dz f w) (we f w))
   have s2 := zz (exW (dz f w) (we f w))
   refine zd (fun c => c0 (zax.1 c)) (zd (show 1 + (bx (exP (dz f w) (we f w))).size < 35184372088832 by omega) ?_)
   rw [show (⟨#[46]⟩ : ByteArray) = bx [46] from rfl, zP]
   have s3 := zz ([46] ++ exP (dz f w) (we f w))
   rw [List.length_append, List.length_singleton] at s3
   refine zd (show (bx (exW (dz f w) (we f w))).size + (bx ([46] ++ exP (dz f w) (we f w))).size < 35184372088832 by omega) ?_
   dsimp only
   rw [zP]
   exact zgk _ (by rw [List.length_append, List.length_append, List.length_singleton]; omega)
theorem zkf {f m : Int} (h : isF f) (hm : isM m) {w : Nat} (hlt : w < 18446744073709551616) : Ev (fun k => zaH.f k f m [(w : Int)]) (if w < 2 * sg f then 0 else 6) := by
 unfold zaH.f
 refine zk (zfP f) ?_
 rw [decide_eq_true h]
 refine ze (by simp) (zk (zif m) ?_)
 rw [decide_eq_true hm]
 refine ze (by simp) ?_
 refine zf ?_; simp only [zaH.l0]
 refine zd (by simp) (zd (by omega) (zd (by simp) ?_))
 rw [show rd [(w : Int)] 0 = (w : Int) from rfl]
 refine zk (zmh h hlt) ?_
 unfold zcd
 by_cases hg : w < 2 * sg f
 ·simp only [if_pos hg]
  refine ze (by simp) ?_
  refine zf ?_; simp only [zaH.l0]
  exact ze (show ¬ wrap64 (0 + 1) < 1 by decide) (Ev.now _)
 ·simp only [if_neg hg]
  exact zd (by simp) (Ev.now _)
theorem zjS (a : List UInt8) (d : UInt8) : bt (bx (a ++ [d])) (a.length : Int) = (d.toNat : Int) := zbZ (s := bx (a ++ [d])) (A := a) (B := []) (b := d) (by rw [zaf])
theorem zmL (a : List UInt8) (d : UInt8) : (a ++ [d]).take a.length = a := by simp
theorem zhR {d e : UInt8} (h : d ≠ e) : (d.toNat : Int) ≠ (e.toNat : Int) := fun c => h (ziN c)
theorem ziT : ∀ (n : Nat) (l : List UInt8), l.length = n → l.length ≤ 1000000 → Ev (fun k => zbb.l0 k (bx l) 48) (bx (tr l))
 | 0, l, hn, _ => by
  have : l = [] := List.length_eq_zero_iff.1 hn
  subst this
  refine zf ?_; simp only [zbb.l0]
  exact ze (by decide) (Ev.now _)
 | n + 1, l, hn, hl => by
  rcases List.eq_nil_or_concat l with rfl | ⟨a, d, rfl⟩
  ·simp at hn
  rw [List.concat_eq_append] at hn hl ⊢
  have hz := zz (a ++ [d])
  rw [List.length_append, List.length_singleton] at hz hn hl
  have e1 : wrap64 (((bx (a ++ [d])).size : Int) - 1) = (a.length : Int) := by rw [w64 (by omega) (by omega)]; omega
  refine zf ?_; simp only [zbb.l0]
  rw [e1, zjS, Int.toNat_natCast, zcR, zmL]
  refine zd (by omega) (zd (by omega) (zd (by omega) ?_))
  by_cases c : d = 48
  ·subst c
   rw [zf6]
   exact zd rfl (zd (by omega) (zd (by omega) (ziT n a (by omega) (by omega))))
  ·rw [zf8 _ c]
   exact ze (zhR c) (Ev.now _)
theorem ziS {l : List UInt8} (hl : l.length ≤ 1000000) : Ev (fun k => zaX.f k (bx l) (⟨#[48]⟩ : ByteArray)) (bx (tr l)) := by
 unfold zaX.f
 by_cases c : l = []
 ·subst c
  exact zd rfl (Ev.now _)
 ·refine ze (fun h => c (zax.1 h)) (ze (by decide) (zd (by decide) (zd (by decide) ?_)))
  have e : decide (bt (⟨#[48]⟩ : ByteArray) 0 < 128) = true := by decide
  have e2 : bt (⟨#[48]⟩ : ByteArray) 0 = 48 := by decide
  rw [e]
  refine zf ?_; simp only [zaX.j2]
  rw [e2]
  refine zd trivial (zd (by decide) ?_)
  unfold zbb.f
  exact Ev.bind (ziT _ l rfl hl) (Ev.now _)
theorem zgx (s p : Bool) (q : ByteArray) (o : Int) {L r : List UInt8} {b : UInt8} (e : L = b :: r) (hb : b ≠ 48) (hL : L.length ≤ 2000) : ∀ (j : Nat) (x : Int), j ≤ 2000 → -10000 ≤ x - j → x ≤ 10000 →
  Ev (fun k => zaR.l0 k p q o s x (bx (List.replicate j 48 ++ L))) (s, bx (tr L), x - j)
 | 0, x, _, h1, h2 => by
  subst e
  have hz := zz (b :: r)
  rw [List.length_cons] at hz
  have hb0 := zbZ (s := bx (b :: r)) (A := []) (B := r) (b := b) (by rw [zaf]; rfl)
  rw [List.length_nil, show ((0 : Nat) : Int) = 0 from rfl] at hb0
  rw [show List.replicate 0 (48 : UInt8) ++ b :: r = b :: r from rfl]
  refine zf ?_; simp only [zaR.l0]
  rw [hb0]
  refine zd (by omega) (ze (zhR hb) (Ev.bind (ziS (by omega)) (zh (Ev.now _) ?_)))
  rw [show x - ((0 : Nat) : Int) = x by omega]
 | j + 1, x, hj, h1, h2 => by
  have hz := zz (List.replicate (j + 1) 48 ++ L)
  rw [List.length_append, List.length_replicate] at hz
  have e0 : List.replicate (j + 1) (48 : UInt8) ++ L = 48 :: (List.replicate j 48 ++ L) := by rw [List.replicate_succ]; rfl
  have hb0 := zbZ (s := bx (List.replicate (j + 1) 48 ++ L)) (A := []) (B := List.replicate j 48 ++ L) (b := 48) (by rw [zaf, e0]; rfl)
  rw [List.length_nil, show ((0 : Nat) : Int) = 0 from rfl] at hb0
  have ih := zgx s p q o e hb hL j (x - 1) (by omega) (by omega) (by omega)
  refine zf ?_; simp only [zaR.l0]
  have hz' : 1 ≤ (bx (List.replicate (j + 1) 48 ++ L)).size := by omega
  rw [hb0, show (1 : Int).toNat = 1 from rfl, zd9, w64 (n := x - 1) (by omega) (by omega)]
  refine zd (by omega) (zd rfl (zd (by decide) (zd (by omega) ?_)))
  rw [e0, show (48 :: (List.replicate j 48 ++ L)).drop 1 = List.replicate j 48 ++ L from rfl]
  rw [show x - ((j + 1 : Nat) : Int) = x - 1 - (j : Int) by omega]
  exact ih
def nN (f : Int) (w : Nat) : Nat := exN (dz f w) (we f w)
def nG (f : Int) (w : Nat) : Nat := exG (we f w)
structure Nw (f : Int) (w : Nat) : Prop where
 ne : nN f w ≠ 0
 len : (dx (nN f w)).length ≤ 800
 g : nG f w ≤ 1074
theorem zey {f : Int} (h : isF f) {w : Nat} (c1 : cls f w ≠ 1) (c4 : cls f w < 4) : Nw f w := by
 have W := zcK h c1 c4
 have h3 := W.lo
 have h4 := W.hi
 exact ⟨zei W.ne _, zfk W.b W.lo (by omega), by unfold nG exG; omega⟩
theorem zj5 {f : Int} (h : isF f) {w : Nat} (hw : w < 2 * sg f) (c1 : cls f w ≠ 1) (c4 : cls f w < 4) :
  Ev (fun k => zaR.f k f (w : Int)) (zn f w, bx (tr (dx (nN f w))), ((dx (nN f w)).length : Int) - 1 - (nG f w : Nat)) := by
 have W := zcK h c1 c4
 obtain ⟨ne, hl, hg⟩ := zey h c1 c4
 have h1 := zfj W.ne (we f w)
 have h2 := zfh (dz f w) (we f w)
 obtain ⟨j, hj, hj2⟩ := zfi (dz f w) (we f w)
 have hj3 := congrArg List.length hj
 rw [List.length_append, List.length_append, List.length_replicate, h2] at hj3
 obtain ⟨b, r, e, hb⟩ := zaz ne
 have s1 := zz (exP (dz f w) (we f w))
 have s2 := zz (exW (dz f w) (we f w))
 unfold nN nG at *
 unfold zaR.f
 refine Ev.bind (zgU h hw c1 c4) (zd (show (bx (exW (dz f w) (we f w))).size + (bx (exP (dz f w) (we f w))).size < 35184372088832 by omega) ?_)
 dsimp only
 rw [w64 (n := ((bx (exW (dz f w) (we f w))).size : Int) - 1) (by omega) (by omega), s2, zP, hj]
 have := zgx (zn f w) false (⟨#[]⟩ : ByteArray) 0 e hb (by omega) j (((exW (dz f w) (we f w)).length : Int) - 1) (by omega) (by omega) (by omega)
 rw [show ((exW (dz f w) (we f w)).length : Int) - 1 - (j : Int) = ((dx (exN (dz f w) (we f w))).length : Int) - 1 - (exG (we f w) : Nat) by omega] at this
 exact this
theorem zmJ (l : List UInt8) : qfL (l.map fun b => (b.toNat : Int)) = bx l := by
 refine zaY.1 ?_
 rw [zmT, zaf, List.map_map]
 conv => rhs; rw [← List.map_id l]
 congr 1
 funext b
 show UInt8.ofNat ((b.toNat : Int)).toNat = b
 rw [Int.toNat_natCast, UInt8.ofNat_toNat]
theorem zhF (s p : Bool) (q : ByteArray) (o x : Int) (hx : -100000 ≤ x ∧ x ≤ 100000) (q0 : ByteArray) {T : List UInt8} (hT : T.all isD = true) (hT0 : ∀ b r, T = b :: r → b ≠ 48) (hne : T ≠ []) (hl : T.length ≤ 2000) :
  ∀ (n : Nat) (P : List UInt8) (j : Nat), P.length = n → T = P ++ List.replicate j 57 →
  Ev (fun k => zaS.l0 k s q0 x p q o (T.map fun b => (b.toNat : Int)) ((P.length : Int) - 1)) (s, bx (tr (dx (zg T 0 + 1))), x + ((dx (zg T 0 + 1)).length : Int) - (T.length : Int))
 | 0, P, j, hn, hP => by
  have : P = [] := List.length_eq_zero_iff.1 hn
  subst this
  rw [List.nil_append] at hP
  have hj : 0 < j := by
   rcases Nat.eq_zero_or_pos j with h | h
   ·subst h; exact absurd hP hne
   ·exact h
  obtain ⟨m1, m2⟩ := zkq hj
  rw [← hP] at m1 m2
  have hlen : T.length = j := by rw [hP, List.length_replicate]
  rw [m2, m1]
  refine zf ?_; simp only [zaS.l0]
  refine ze (by simp) (zh (Ev.now _) ?_)
  rw [w64 (n := x + 1) (by omega) (by omega), hlen, List.length_cons, List.length_replicate, show x + ((j + 1 : Nat) : Int) - (j : Int) = x + 1 by omega]
  rfl
 | n + 1, P, j, hn, hP => by
  rcases List.eq_nil_or_concat P with rfl | ⟨a, d, rfl⟩
  ·simp at hn
  rw [List.concat_eq_append] at hn hP ⊢
  rw [List.length_append, List.length_singleton] at hn ⊢
  have hlen : T.length = a.length + 1 + j := by rw [hP]; simp; omega
  have hml : (T.map fun b => (b.toNat : Int)).length = a.length + 1 + j := by rw [List.length_map, hlen]
  have ei : ((a.length + 1 : Nat) : Int) - 1 = (a.length : Int) := by omega
  have hrd : rd (T.map fun b => (b.toNat : Int)) (a.length : Int) = (d.toNat : Int) := by
   rw [rdn, hP]; simp
  have hd : isD d = true := by
   rw [hP, List.append_assoc] at hT
   exact (zbW (zbq hT).2).1
  have hdl := zcA hd
  rw [ei]
  refine zf ?_; simp only [zaS.l0]
  rw [hrd, Int.toNat_natCast]
  refine zd (by omega) (zd (by omega) (zd (by omega) ?_))
  by_cases c : d = 57
  ·subst c
   have ih := zhF s p q o x hx q0 hT hT0 hne hl n a (j + 1) (by omega) (by rw [hP, List.append_assoc, List.replicate_succ]; rfl)
   refine ze (by decide) ?_
   rw [w64 (n := (a.length : Int) - 1) (by omega) (by omega)]
   exact ih
  ·have hdn : d.toNat ≠ 57 := fun hh => c (UInt8.toNat_inj.1 (by rw [hh]; rfl))
   obtain ⟨u1, u2, u3⟩ := zhp hd c
   obtain ⟨m1, m2⟩ := zkp (A := a) (d := d) (j := j) (by rw [hP] at hT; exact (zbq hT).1) c (fun b r hbr => hT0 b (r ++ List.replicate j 57) (by rw [hP, hbr]; rfl))
   rw [← hP] at m1 m2
   have em : ((d.toNat : Int) + 1) % 256 = ((d + 1).toNat : Int) := by rw [u2]; omega
   have e1 : wrap64 ((a.length : Int) + 1) = ((a.length + 1 : Nat) : Int) := by rw [w64 (by omega) (by omega)]; omega
   have es : ((T.map fun b => (b.toNat : Int)).set a.length ((d + 1).toNat : Int)).take (a.length + 1) = (a ++ [d + 1]).map fun b => (b.toNat : Int) := by
    rw [hP, List.map_append, List.map_append, List.append_assoc]
    have hm : (a.map fun b => (b.toNat : Int)).length = a.length := List.length_map ..
    rw [← hm]
    generalize hA : (a.map fun b => (b.toNat : Int)) = A
    rw [List.set_append_right _ _ (Nat.le_refl _), Nat.sub_self, List.take_append, List.take_of_length_le (by omega), Nat.add_sub_cancel_left, List.map_append]
    simp [hA]
   rw [em, e1, Int.toNat_natCast, es, zmJ, m2, m1]
   clear m1 m2 es hrd hT hT0 hP em e1
   refine zd (by omega) (zd (by omega) (zd (by omega) (zd (by omega) (zd (by omega) (zd (by omega) (zd (by rw [List.length_set, hml]; omega) (zh (Ev.now _) ?_)))))))
   rw [hlen, List.length_append, List.length_append, List.length_singleton, List.length_replicate, show x + ((a.length + 1 + j : Nat) : Int) - ((a.length + 1 + j : Nat) : Int) = x by omega]
theorem ziH {d r : List UInt8} {b : UInt8} (e : d = b :: r) {n : Nat} (hn : 1 ≤ n) : ∃ t, d.take n = b :: t := by
 subst e
 obtain ⟨m, rfl⟩ : ∃ m, n = m + 1 := ⟨n - 1, by omega⟩
 exact ⟨r.take m, rfl⟩
theorem zlv (s : Bool) {d r : List UInt8} {b : UInt8} (hd : d.all isD = true) (e : d = b :: r) (hb : b ≠ 48) (hl : d.length ≤ 2000) {x : Int} (hx : -100000 ≤ x ∧ x ≤ 100000) {n : Nat} (h1 : 1 ≤ n) (h2 : n ≤ d.length) :
  Ev (fun k => zaS.f k s (bx d) x (n : Int)) (s, bx (tr (dx (zg (d.take n) 0 + 1))), x + ((dx (zg (d.take n) 0 + 1)).length : Int) - (n : Int)) := by
 have hz := zz d
 obtain ⟨t, ht⟩ := ziH e h1
 have hlen : (d.take n).length = n := by rw [List.length_take]; omega
 have := zhF s false (⟨#[]⟩ : ByteArray) 0 x hx (bx d) (T := d.take n) (zd7 hd n) (fun b' r' h => by rw [ht] at h; rw [← (List.cons.inj h).1]; exact hb) (by rw [ht]; simp) (by omega) n (d.take n) 0 hlen (by simp)
 rw [hlen] at this
 unfold zaS.f
 rw [Int.toNat_natCast, zcR, zcv, w64 (n := (n : Int) - 1) (by omega) (by omega)]
 exact zd (by omega) (zd (by omega) this)
theorem zk7 (s : Bool) {d : List UInt8} (hl : d.length ≤ 2000) (x : Int) {n : Nat} (h2 : n ≤ d.length) : Ev (fun k => zcX.f k s (bx d) x (n : Int)) (s, bx (tr (d.take n)), x) := by
 have hz := zz d
 unfold zcX.f
 rw [Int.toNat_natCast, zcR]
 exact zd (by omega) (zd (by omega) (Ev.bind (ziS (by rw [List.length_take]; omega)) (Ev.now _)))
theorem zmo (s : Bool) {A B : List UInt8} {c : UInt8} (x : Int) (hl : (A ++ c :: B).length ≤ 2000) :
  zcY.f s (bx (A ++ c :: B)) x (A.length : Int) = some (if c.toNat < 53 then -1 else if 53 < c.toNat then 1 else if B ≠ [] then 1 else 0) := by
 have hz := zz (A ++ c :: B)
 rw [List.length_append, List.length_cons] at hz hl
 have e1 : wrap64 ((A.length : Int) + 1) = ((A.length + 1 : Nat) : Int) := by rw [w64 (by omega) (by omega)]; omega
 unfold zcY.f
 rw [e1, if_pos (by omega), if_pos (by omega), if_pos (by omega), Int.toNat_natCast, Int.toNat_natCast, zjT]
 have e2 : ((A ++ c :: B).take (A.length + 1)).drop A.length = [c] := by simp [List.take_append, List.drop_append]
 rw [e2]
 unfold zbG.f
 have e3 : Lib.compareBytes (bx [c]).data.toList (⟨#[53]⟩ : ByteArray).data.toList = if c < 53 then -1 else if 53 < c then 1 else 0 := rfl
 have l1 : c < 53 ↔ c.toNat < 53 := UInt8.lt_iff_toNat_lt
 have l2 : 53 < c ↔ 53 < c.toNat := UInt8.lt_iff_toNat_lt
 rw [e3, Option.bind_some]
 by_cases c1 : c.toNat < 53
 ·rw [if_pos (l1.2 c1), if_pos c1, if_pos (by decide)]
 rw [if_neg (fun h => c1 (l1.1 h)), if_neg c1]
 by_cases c2 : 53 < c.toNat
 ·rw [if_pos (l2.2 c2), if_pos c2, if_pos (by decide)]
 rw [if_neg (fun h => c2 (l2.1 h)), if_neg c2, if_neg (by decide)]
 by_cases c3 : B = []
 ·subst c3
  rw [if_neg (by rw [List.length_nil] at hz; omega), if_neg (by simp)]
 ·have : 0 < B.length := List.length_pos_iff.2 c3
  rw [if_pos (by omega), if_pos c3]
theorem zjF (n : Nat) (h : n < 256) : Go.bits .and .u8 (n : Int) 1 = ((n % 2 : Nat) : Int) := by
 have : ∀ n : Fin 256, Go.bits .and .u8 (n.1 : Int) 1 = ((n.1 % 2 : Nat) : Int) := by decide +kernel
 exact this ⟨n, h⟩
theorem zlI (s : Bool) {d A B : List UInt8} {c : UInt8} (hd : d.all isD = true) (x : Int) (hl : d.length ≤ 2000) (e : d = A ++ c :: B) :
  zcx.f s (bx d) x ((A.length + 1 : Nat) : Int) = some (decide (zg (A ++ [c]) 0 % 2 = 1)) := by
 subst e
 have hz := zz (A ++ c :: B)
 rw [List.length_append, List.length_cons] at hz hl
 have hc := zcA (zbW (zbq hd).2).1
 have e1 : wrap64 (((A.length + 1 : Nat) : Int) - 1) = (A.length : Int) := by rw [w64 (by omega) (by omega)]; omega
 have hb := zbZ (s := bx (A ++ c :: B)) (A := A) (B := B) (b := c) (by rw [zaf])
 have e2 : ((c.toNat : Int) - 48) % 256 = ((c.toNat - 48 : Nat) : Int) := by omega
 have e3 : zg (A ++ [c]) 0 = 10 * zg A 0 + (c.toNat - 48) := by rw [za5, zby]; show _ * 10 ^ 1 + (_ * 10 ^ 0 + 0) = _; omega
 unfold zcx.f
 rw [e1, if_pos (by omega), if_pos (by omega), hb, e2, zjF _ (by omega), e3]
 congr 1
 apply decide_eq_decide.2
 omega
theorem zl1 (s : Bool) : (if s = true then (⟨#[45]⟩ : ByteArray) else (⟨#[]⟩ : ByteArray)) = bx (sgT s) := by cases s <;> rfl
theorem zfH (s : Bool) {d r : List UInt8} {b : UInt8} (e : d = b :: r) (hl : d.length ≤ 2000) {x : Int} (h1 : -1100 ≤ x) (h2 : x < 1100) : Ev (fun k => zQ.f k s (bx d) x) (bx (zaN s d x)) := by
 have hz := zz d
 have hlen : d.length = r.length + 1 := by rw [e]; simp
 unfold zQ.f zaN
 refine zd ⟨by omega, by omega, by omega⟩ ?_
 rw [zl1]
 by_cases c1 : x < -5 ∨ x > 20
 ·obtain ⟨t, ht, ht2⟩ := zjg h1 h2
  have hts : t = bx (etx x) := zaY.1 (by rw [ht2, zaf])
  have hts2 := zhd x
  have hts3 := zz (etx x)
  subst hts
  refine zd c1 (zd (by omega) (Ev.bind ht (zd (by omega) (zh (Ev.now _) ?_))))
  rw [if_pos c1, zcR, zd9, show (⟨#[46]⟩ : ByteArray) = bx [46] from rfl, show (⟨#[101]⟩ : ByteArray) = bx [101] from rfl, show (⟨#[]⟩ : ByteArray) = bx [] from rfl, zP, zP, zP]
  by_cases c2 : 1 < d.length
  ·rw [if_pos (by omega), if_pos c2, zP, zP]; simp
  ·rw [if_neg (by omega), if_neg c2, zP, zP]; simp
 refine ze c1 ?_
 rw [if_neg c1]
 by_cases c2 : x < 0
 ·refine zd c2 (zk (zfR (by omega) (by omega)) (zh (Ev.now _) ?_))
  rw [if_pos c2, show (⟨#[48, 46]⟩ : ByteArray) = bx [48, 46] from rfl, zP, zP, zP]; simp
 refine ze c2 ?_
 rw [if_neg c2]
 by_cases c3 : x + 1 < (d.length : Int)
 ·refine zd (by omega) (zh (Ev.now _) ?_)
  rw [if_pos c3, zcR, zd9, show (⟨#[46]⟩ : ByteArray) = bx [46] from rfl, zP, zP, zP]; simp
 ·refine ze (by omega) ?_
  rw [hz]
  refine zk (zfR (by omega) (by omega)) (zh (Ev.now _) ?_)
  rw [if_neg c3, zP, zP]
theorem zkR (r p : Nat) : hlf r p = -1 ∨ hlf r p = 0 ∨ hlf r p = 1 := by unfold hlf; split <;> (try split) <;> simp
theorem qgn {N n : Nat} (hN : N ≠ 0) (h1 : 1 ≤ n) (h2 : n < (tr (dx N)).length) : ∃ (A : List UInt8) (c : UInt8) (B : List UInt8), tr (dx N) = A ++ c :: B ∧ A.length = n ∧ dx (N / 10 ^ ((dx N).length - n)) = A ∧
  hlf (N % 10 ^ ((dx N).length - n)) (10 ^ ((dx N).length - n)) = (if c.toNat < 53 then -1 else if 53 < c.toNat then 1 else if B ≠ [] then 1 else 0) ∧ N % 10 ^ ((dx N).length - n) ≠ 0 := by
 obtain ⟨j, hj⟩ := zcG (dx N)
 have hall := zbf N
 cases hd : (tr (dx N)).drop n with
 | nil =>
  have := congrArg List.length hd
  rw [List.length_drop] at this
  simp at this; omega
 | cons c B =>
  have e1 : tr (dx N) = (tr (dx N)).take n ++ c :: B := by rw [← hd, List.take_append_drop]
  have hlA : ((tr (dx N)).take n).length = n := by rw [List.length_take]; omega
  generalize hA : (tr (dx N)).take n = A at e1 hlA
  have e2 : dx N = A ++ (c :: (B ++ List.replicate j 48)) := by
   conv => lhs; rw [hj, e1]
   simp
  have e3 : (c :: (B ++ List.replicate j 48)).length = (dx N).length - n := by
   have := congrArg List.length e2
   rw [List.length_append] at this
   omega
  obtain ⟨p1, p2⟩ := zg9 hN e2 (fun h => by rw [h] at hlA; simp at hlA; omega)
  rw [e3] at p1 p2
  have hR : (c :: (B ++ List.replicate j 48)).all isD = true := by rw [e2] at hall; exact (zbq hall).2
  have hne : zg (B ++ List.replicate j 48) 0 ≠ 0 ↔ B ≠ [] := by
   rw [zg2 hall (A := A ++ [c]) (B := B ++ List.replicate j 48) (by rw [e2]; simp), e1]
   rw [List.length_append, List.length_append, List.length_singleton, List.length_cons]
   constructor
   ·intro h hB; rw [hB] at h; simp at h
   ·intro h; have := List.length_pos_iff.2 h; omega
  refine ⟨A, c, B, e1, hlA, p1, ?_, ?_⟩
  ·rw [p2, ← e3, zkQ hR]
   by_cases d1 : c.toNat < 53
   ·rw [if_pos d1, if_pos d1]
   rw [if_neg d1, if_neg d1]
   by_cases d2 : 53 < c.toNat
   ·rw [if_pos d2, if_pos d2]
   rw [if_neg d2, if_neg d2]
   by_cases c1 : B = []
   ·rw [if_neg (fun h => hne.1 h c1), if_neg (fun h => h c1)]
   ·rw [if_pos (hne.2 c1), if_pos c1]
  ·rw [p2]
   exact (zg2 hall e2).2 (by rw [hlA]; exact h2)
def upS (m : Int) (s : Bool) (c : Int) (o : Bool) : Bool := if m = 4 then !s else if m = 5 then s else if m = 2 then decide (0 ≤ c) else if m = 1 then (decide (0 < c) || (decide (c = 0) && o)) else false
theorem zjZ {N n : Nat} {A : List UInt8} (h1 : 1 ≤ n) (hA : A.length = n) (h : dx (N / 10 ^ ((dx N).length - n)) = A) (hh : ∀ b r, A = b :: r → b ≠ 48) : N / 10 ^ ((dx N).length - n) ≠ 0 := by
 intro hz
 rw [hz] at h
 have : dx 0 = [48] := by decide
 rw [this] at h
 exact hh 48 [] h.symm rfl
theorem zmM {l A B : List UInt8} (e : l = A ++ B) : l.take A.length = A := by rw [e]; simp
theorem zj9 {N : Nat} (hN : N ≠ 0) {A R : List UInt8} (e : tr (dx N) = A ++ R) : ∀ b r, A = b :: r → b ≠ 48 := by
 intro b r hb
 obtain ⟨b0, r0, e0, h0⟩ := zaz hN
 obtain ⟨r1, h1⟩ := zbT e0 h0
 rw [h1, hb] at e
 rw [← (List.cons.inj e).1]; exact h0
theorem zlW {N n : Nat} (hN : N ≠ 0) (h1 : 1 ≤ n) (h2 : n ≤ (dx N).length) : (dx (N / 10 ^ ((dx N).length - n))).length = n ∧ N / 10 ^ ((dx N).length - n) ≠ 0 := by
 have e2 : dx N = (dx N).take n ++ (dx N).drop n := (List.take_append_drop n _).symm
 have hl : ((dx N).take n).length = n := by rw [List.length_take]; omega
 obtain ⟨p1, p2⟩ := zg9 hN e2 (fun hh => by rw [hh] at hl; simp at hl; omega)
 rw [List.length_drop] at p1
 refine ⟨by rw [p1, hl], fun hz => ?_⟩
 obtain ⟨b, r, hb, hb0⟩ := zaz hN
 obtain ⟨t, ht⟩ := ziH hb h1
 rw [hz, ht] at p1
 have h0 : dx 0 = [48] := by decide
 rw [h0] at p1
 exact hb0 (List.cons.inj p1).1.symm
theorem zha {q n : Nat} (h : (dx q).length = n) (hq : q ≠ 0) : (dx (q + 1)).length ≤ n + 1 ∧ n ≤ (dx (q + 1)).length := by
 have hp := zdw hq
 have k0 := zg8 q
 have k1 := zko hq
 rw [h] at k0 k1 hp
 constructor
 ·apply zg7 _ (by omega)
  rw [Nat.pow_succ]; omega
 ·apply Nat.le_of_not_lt
  intro hlt
  have k2 := zg8 (q + 1)
  have k3 : 10 ^ (dx (q + 1)).length ≤ 10 ^ (n - 1) := Nat.pow_le_pow_right (by omega) (by omega)
  omega
theorem zkm {d r : List UInt8} {b : UInt8} (hd : d.all isD = true) (e : d = b :: r) (hb : b ≠ 48) : zg d 0 ≠ 0 := by
 subst e
 rw [zby]
 have h1 := zew (zbW hd).1 hb
 have hp : 0 < 10 ^ r.length := Nat.pow_pos (by omega)
 have : 1 * 10 ^ r.length ≤ (b.toNat - 48) * 10 ^ r.length := Nat.mul_le_mul_right _ (by omega)
 omega
theorem zkW {f : Int} (h : isF f) (s : Bool) {d r : List UInt8} {b : UInt8} (hd : d.all isD = true) (e : d = b :: r) (hb : b ≠ 48) (hl : d.length ≤ 1200) {x : Int} (hx : -100000 ≤ x ∧ x ≤ 100000) (w : Int) :
  Ev (fun k => zb6.f k s (bx d) x f w) (decide ((zt f 1 s (zg d 0) (x - (d.length : Int) + 1)).1 = w)) := by
 have hz := zz d
 have e1 : tz0 d = b :: r := by
  subst e
  unfold tz0
  rw [List.dropWhile_cons, if_neg (by simpa using hb)]
 have hT := zfr hd e1
 rw [← e] at hT
 have hp := zhO (s := bx d) (by omega)
 rw [zlT hT hd (by omega)] at hp
 have hr := zgW h (m := 1) (by decide) s (zkm hd e hb) (p := d.length) hl (zcy hd) (x - (d.length : Int) + 1)
 have hw : Ev (fun k => zcZ.f k s (bx d) x f 1) ((zt f 1 s (zg d 0) (x - (d.length : Int) + 1)).1, (zt f 1 s (zg d 0) (x - (d.length : Int) + 1)).2, 0) := by
  unfold zcZ.f
  rw [hz, w64 (n := x - (d.length : Int)) (by omega) (by omega), w64 (n := x - (d.length : Int) + 1) (by omega) (by omega)]
  exact Ev.bind hp (Ev.bind hr (Ev.now _))
 unfold zb6.f
 exact Ev.bind hw (Ev.now _)
theorem zgT {f m : Int} (h : isF f) (s : Bool) {q : Nat} (hq : q ≠ 0) (x : Int) : zt f m s (zg (tr (dx q)) 0) (x + ((dx q).length : Int) - ((tr (dx q)).length : Int)) = zt f m s q x := by
 have h1 := zkn (dx q)
 have h2 := zcn (dx q)
 rw [zbz] at h1
 have h3 : zg (tr (dx q)) 0 ≠ 0 := fun hz => hq (by rw [h1, hz, Nat.zero_mul])
 have := zgS (m := m) h s h3 ((dx q).length - (tr (dx q)).length) x
 rw [← h1] at this
 rw [this]
 congr 1; omega
theorem zhr {f : Int} (h : isF f) (s : Bool) {q : Nat} (hq : q ≠ 0) (hl : (dx q).length ≤ 1200) {x : Int} (hx : -50000 ≤ x ∧ x ≤ 50000) (w : Int) :
  Ev (fun k => zb6.f k s (bx (tr (dx q))) (x + ((dx q).length : Int) - 1) f w) (decide ((zt f 1 s q x).1 = w)) := by
 obtain ⟨b, r, e, hb⟩ := zaz hq
 obtain ⟨r', e'⟩ := zbT e hb
 have h2 := zcn (dx q)
 have := zkW h s (zeM (zbf q)) e' hb (by omega) (x := x + ((dx q).length : Int) - 1) (by omega) w
 rw [show x + ((dx q).length : Int) - 1 - ((tr (dx q)).length : Int) + 1 = x + ((dx q).length : Int) - ((tr (dx q)).length : Int) by omega, zgT h s hq] at this
 exact this
def srt (f w : Int) (s : Bool) (N G : Nat) : Nat → Nat → List UInt8
 | 0, n => zaN s (tr (dx N)) (((dx N).length : Int) - 1 - G)
 | j + 1, n =>
  if (zt f 1 s (N / 10 ^ ((dx N).length - n)) (((dx N).length : Int) - G - n)).1 = w ∧ ¬ ((zt f 1 s (N / 10 ^ ((dx N).length - n) + 1) (((dx N).length : Int) - G - n)).1 = w ∧ upS 1 s (hlf (N % 10 ^ ((dx N).length - n)) (10 ^ ((dx N).length - n))) (decide (N / 10 ^ ((dx N).length - n) % 2 = 1)) = true) then
   zbS s (N / 10 ^ ((dx N).length - n)) (((dx N).length : Int) - G - n)
  else if (zt f 1 s (N / 10 ^ ((dx N).length - n) + 1) (((dx N).length : Int) - G - n)).1 = w then zbS s (N / 10 ^ ((dx N).length - n) + 1) (((dx N).length : Int) - G - n)
  else srt f w s N G j (n + 1)
theorem znk {s : Bool} {c : Int} {o : Bool} : upS 1 s c o = (decide (0 < c) || (decide (c = 0) && o)) := rfl
theorem zis {f : Int} (h : isF f) (s : Bool) {N G : Nat} (hN : N ≠ 0) (hl : (dx N).length ≤ 800) (hg : G ≤ 1074) (w : Int) : ∀ (j n : Nat), 1 ≤ n → n + j = (tr (dx N)).length →
  Ev (fun k => zr.l0 k s (bx (tr (dx N))) (((dx N).length : Int) - 1 - G) f w (n : Int)) (bx (srt f w s N G j n), 0)
 | 0, n, h1, hj => by
  obtain ⟨b, r, e, hb⟩ := zaz hN
  obtain ⟨r', e'⟩ := zbT e hb
  have htl := zcn (dx N)
  have hz := zz (tr (dx N))
  have hpos := zdw hN
  refine zf ?_; simp only [zr.l0]
  exact ze (by omega) (Ev.bind (zfH s e' (by omega) (by omega) (by omega)) (Ev.now _))
 | j + 1, n, h1, hj => by
  obtain ⟨b, r, e, hb⟩ := zaz hN
  obtain ⟨r', e'⟩ := zbT e hb
  have htl := zcn (dx N)
  have hz := zz (tr (dx N))
  have hpos := zdw hN
  have ih := zis h s hN hl hg w j (n + 1) (by omega) (by omega)
  have hct : n < (tr (dx N)).length := by omega
  obtain ⟨A, d, B, t1, t2, t3, t4, t5⟩ := qgn hN h1 hct
  have hhead := zj9 hN t1
  have hq := zjZ h1 t2 t3 hhead
  have hDall := zeM (zbf N)
  have hrest := zmo s (A := A) (B := B) (c := d) (((dx N).length : Int) - 1 - G) (by rw [← t1]; omega)
  rw [← t1, t2, ← t4] at hrest
  have hA0 : A ≠ [] := fun hh => by rw [hh] at t2; simp at t2; omega
  have hodd : zcx.f s (bx (tr (dx N))) (((dx N).length : Int) - 1 - G) (n : Int) = some (decide (N / 10 ^ ((dx N).length - n) % 2 = 1)) := by
   rcases List.eq_nil_or_concat A with hh | ⟨A', c', hh⟩
   ·exact absurd hh hA0
   ·rw [List.concat_eq_append] at hh
    have := zlI s (A := A') (B := d :: B) (c := c') hDall (((dx N).length : Int) - 1 - G) (by omega) (by rw [t1, hh]; simp)
    rw [← hh] at this
    have hl2 : n = A'.length + 1 := by rw [← t2, hh]; simp
    rw [hl2, this, ← hl2, ← t3, zbz]
  have htk : (tr (dx N)).take n = A := by rw [← t2]; exact zmM t1
  have hv : zg ((tr (dx N)).take n) 0 = N / 10 ^ ((dx N).length - n) := by rw [htk, ← t3, zbz]
  have hmore := zlv s hDall e' hb (by omega) (x := ((dx N).length : Int) - 1 - G) (by omega) h1 (by omega)
  have hless := zk7 s (d := tr (dx N)) (by omega) (((dx N).length : Int) - 1 - G) (n := n) (by omega)
  rw [hv] at hmore
  rw [htk] at hless
  unfold srt
  generalize hc : hlf (N % 10 ^ ((dx N).length - n)) (10 ^ ((dx N).length - n)) = c at hrest ⊢
  have hcr : c = -1 ∨ c = 0 ∨ c = 1 := hc ▸ zkR _ _
  generalize hqq : N / 10 ^ ((dx N).length - n) = q at hmore hodd hq t3 ⊢
  have hlq : (dx q).length = n := by rw [t3, t2]
  obtain ⟨u1, u2⟩ := zha hlq hq
  have exx : ((dx N).length : Int) - 1 - G = ((dx N).length : Int) - G - n + ((dx q).length : Int) - 1 := by rw [hlq]; omega
  have exu : ((dx N).length : Int) - 1 - G + ((dx (q + 1)).length : Int) - n = ((dx N).length : Int) - G - n + ((dx (q + 1)).length : Int) - 1 := by omega
  rw [exu] at hmore
  rw [← t3] at hless
  have i1 := zhr h s hq (by omega) (x := ((dx N).length : Int) - G - n) (by omega) w
  rw [← exx] at i1
  have i2 := zhr h s (q := q + 1) (Nat.succ_ne_zero q) (by omega) (x := ((dx N).length : Int) - G - n) (by omega) w
  have hp1 : Ev (fun k => zQ.f k s (bx (tr (dx q))) (((dx N).length : Int) - 1 - G)) (bx (zbS s q (((dx N).length : Int) - G - n))) := by
   obtain ⟨b2, r2, e2, hb2⟩ := zaz hq
   obtain ⟨r3, e3⟩ := zbT e2 hb2
   have hl3 := zcn (dx q)
   have := zfH s e3 (x := ((dx N).length : Int) - 1 - G) (by omega) (by omega) (by omega)
   unfold zbS
   rw [← exx]
   exact this
  have hp2 : Ev (fun k => zQ.f k s (bx (tr (dx (q + 1)))) (((dx N).length : Int) - G - n + ((dx (q + 1)).length : Int) - 1)) (bx (zbS s (q + 1) (((dx N).length : Int) - G - n))) := by
   obtain ⟨b2, r2, e2, hb2⟩ := zaz (n := q + 1) (Nat.succ_ne_zero q)
   obtain ⟨r3, e3⟩ := zbT e2 hb2
   have hl3 := zcn (dx (q + 1))
   exact zfH s e3 (by omega) (by omega) (by omega)
  generalize hx : ((dx N).length : Int) - G - n + ((dx (q + 1)).length : Int) - 1 = xu at hmore i2 hp2
  generalize hP : ((dx N).length : Int) - 1 - G = P at *
  have j5 : ∀ (a b : Bool) {r : ByteArray}, (a = true → r = bx (zbS s q (((dx N).length : Int) - G - n))) → (a = false → b = true → r = bx (zbS s (q + 1) (((dx N).length : Int) - G - n))) →
    (a = false → b = false → r = bx (srt f w s N G j (n + 1))) →
    Ev (fun k => zr.j5 k s (bx (tr (dx N))) P f w (n : Int) s (bx (tr (dx q))) P s (bx (tr (dx (q + 1)))) xu a b) (r, 0) := by
   intro a b r ha hb' hc'
   refine zf ?_; simp only [zr.j5]
   cases a with
   | true => rw [ha rfl]; exact zd rfl (Ev.bind hp1 (Ev.now _))
   | false =>
    refine ze (by simp) ?_
    cases b with
    | true => rw [hb' rfl rfl]; exact zd rfl (Ev.bind hp2 (Ev.now _))
    | false =>
     rw [hc' rfl rfl, w64 (n := (n : Int) + 1) (by omega) (by omega)]
     exact ze (by simp) ih
  refine zf ?_; simp only [zr.l0]
  refine zd (by omega) (Ev.bind hless (Ev.bind hmore (Ev.bind i1 (Ev.bind i2 ?_))))
  dsimp only
  by_cases ca : (zt f 1 s q (((dx N).length : Int) - G - n)).1 = w
  ·rw [decide_eq_true ca]
   refine zd rfl ?_
   by_cases cb : (zt f 1 s (q + 1) (((dx N).length : Int) - G - n)).1 = w
   ·rw [decide_eq_true cb]
    refine zf ?_; simp only [zr.j3]
    refine zd trivial (zk hrest ?_)
    rw [znk]
    rcases hcr with rfl | rfl | rfl
    ·refine zd (by decide) (j5 _ _ (fun _ => ?_) (fun hh => by cases hh) (fun hh => by cases hh))
     rw [if_pos ⟨ca, fun hh => by revert hh; simp⟩]
    ·generalize decide (q % 2 = 1) = o at hodd ⊢
     refine ze (by decide) (zd rfl (zk hodd ?_))
     cases o with
     | false => exact j5 _ _ (fun _ => by rw [if_pos ⟨ca, fun hh => absurd hh.2 (by decide)⟩]) (fun hh => by cases hh) (fun hh => by cases hh)
     | true => exact j5 _ _ (fun hh => by cases hh) (fun _ _ => by rw [if_neg (fun hh => hh.2 ⟨cb, by decide⟩), if_pos cb]) (fun _ hh => by cases hh)
    ·refine ze (by decide) (ze (by decide) (j5 _ _ (fun hh => by cases hh) (fun _ _ => ?_) (fun _ hh => by cases hh)))
     rw [if_neg (fun hh2 => hh2.2 ⟨cb, by simp⟩), if_pos cb]
   ·rw [decide_eq_false cb]
    refine zf ?_; simp only [zr.j3]
    refine ze (by simp) (j5 _ _ (fun _ => ?_) (fun hh => by cases hh) (fun hh => by cases hh))
    rw [if_pos ⟨ca, fun hh => cb hh.1⟩]
  ·rw [decide_eq_false ca]
   refine ze (by simp) ?_
   refine zf ?_; simp only [zr.j3]
   refine ze (by simp) (j5 _ _ (fun hh => by cases hh) (fun _ hh => ?_) (fun _ hh => ?_))
   ·rw [if_neg (fun hh2 => ca hh2.1), if_pos (of_decide_eq_true hh)]
   ·rw [if_neg (fun hh2 => ca hh2.1), if_neg (of_decide_eq_false hh)]
def soS (f : Int) (w : Nat) : List UInt8 := if zbA f w = true then nmT f w else srt f (w : Int) (zn f w) (nN f w) (nG f w) ((tr (dx (nN f w))).length - 1) 1
theorem zjo {f : Int} (h : isF f) {w : Nat} (hw : w < 2 * sg f) : Ev (fun k => zr.f k f (w : Int)) (bx (soS f w), 0) := by
 unfold zr.f soS
 refine Ev.bind (zhK h hw) ?_
 by_cases hn : zbA f w = true
 ·rw [if_pos hn]
  refine zd hn ?_
  refine zf ?_; simp only [zr.j0]
  exact zd trivial (Ev.now _)
 ·rw [if_neg hn]
  obtain ⟨c5, c4, c1⟩ := zek (by simpa using hn)
  have hf := zej h c5 c4
  obtain ⟨hN, hl, hg⟩ := zey h c1 hf
  obtain ⟨b, r, e, hb⟩ := zaz hN
  obtain ⟨r', e'⟩ := zbT e hb
  have hp : 1 ≤ (tr (dx (nN f w))).length := by rw [e']; simp
  refine ze hn ?_
  rw [show decide (¬ (0 : Int) = 0) = false from rfl]
  refine zf ?_; simp only [zr.j0]
  refine ze (by simp) (Ev.bind (zj5 h hw c1 hf) ?_)
  exact zis h (zn f w) hN hl hg (w : Int) ((tr (dx (nN f w))).length - 1) 1 (by omega) (by omega)
theorem zfb {f m : Int} (h : isF f) (s : Bool) {q : Nat} (hq : q ≠ 0) (hl : (dx q).length ≤ 1100) {x : Int} (h1 : -1100 ≤ x + ((dx q).length : Int) - 1) (h2 : x + ((dx q).length : Int) - 1 < 1100) :
  zaI f m (zbS s q x) = ((zt f m s q x).1, (zt f m s q x).2, 0) := by
 obtain ⟨b, r, e, hb⟩ := zaz hq
 obtain ⟨r', e'⟩ := zbT e hb
 have htl := zcn (dx q)
 have hpl := zl0 (tr (dx q)) (x + ((dx q).length : Int) - 1)
 have := zj7 (m := m) h s (zeM (zbf q)) e' hb h1 h2 (by omega)
 rw [show x + ((dx q).length : Int) - 1 - ((tr (dx q)).length : Int) + 1 = x + ((dx q).length : Int) - ((tr (dx q)).length : Int) by omega, zgT h s hq] at this
 exact this
theorem zgV {f m : Int} (h : isF f) {w : Nat} (hw : w < 2 * sg f) (hn : zbA f w = true) : zaI f m (nmT f w) = ((zb0 f w : Int), 0, 0) := by
 unfold nmT zb0
 by_cases c5 : cls f w = 5
 ·rw [if_pos c5, if_pos c5]
  unfold zaI
  rw [if_neg (by simp), if_pos rfl]
 rw [if_neg c5, if_neg c5]
 by_cases c4 : cls f w = 4
 ·rw [if_pos c4]
  obtain ⟨n1, n2⟩ := zhT (s := zn f w) (x := 105) (r := [110, 102]) (by decide)
  have hl := zfY (zn f w)
  unfold zaI
  rw [if_neg (by rw [List.length_append]; simp; omega), if_neg (zhV (by decide)), n1, n2]
  unfold zed
  rw [if_pos rfl]
  exact congrArg (fun x : Nat => ((x : Int), (0 : Int), (0 : Int))) (zkS h hw c4).symm
 rw [if_neg c4]
 by_cases c1 : cls f w = 1
 ·rw [if_pos c1]
  have hl := zfY (zn f w)
  have hr : zav [48] = some ([48], 0) := by decide
  rw [zee (c := 48) (t := []) (by decide) (by simp) hr]
  unfold zb5
  rw [if_pos (by decide)]
  exact congrArg (fun x : Nat => ((x : Int), (0 : Int), (0 : Int))) (znE h hw c1).symm
 ·have := of_decide_eq_true hn
  omega
theorem zgG {f : Int} {w : Nat} (c5 : cls f w ≠ 5) : zb0 f w = w := by unfold zb0; rw [if_neg c5]
theorem zj6 {f m : Int} (h : isF f) {w : Nat} (hw : w < 2 * sg f) (c1 : cls f w ≠ 1) (c4 : cls f w < 4) : zt f m (zn f w) (nN f w) (-(nG f w : Int)) = ((w : Int), 0) := by
 have W := zcK h c1 c4
 have h1 := zil h (m := m) hw c1 c4
 rw [W.eq, V_D] at h1
 have h2 := zfa (m := m) h (zn f w) W.ne (we f w)
 rw [h1] at h2
 exact h2
theorem zkB {f m : Int} (h : isF f) {w : Nat} (hw : w < 2 * sg f) : zaI f m (exS f w) = ((zb0 f w : Int), 0, 0) := by
 unfold exS
 by_cases hn : zbA f w = true
 ·rw [if_pos hn]; exact zgV h hw hn
 rw [if_neg hn]
 obtain ⟨c5, c4, c1⟩ := zek (by simpa using hn)
 have hf := zej h c5 c4
 have W := zcK h c1 hf
 obtain ⟨hN, hl, hg⟩ := zey h c1 hf
 have h1 := zil h (m := m) hw c1 hf
 rw [W.eq, V_D] at h1
 have hwl : (exW (dz f w) (we f w)).length + exG (we f w) ≤ 1190 := by
  unfold nN at hl
  unfold nG at hg
  unfold exW
  by_cases c : 0 ≤ we f w
  ·rw [if_pos c]
   have : exG (we f w) = 0 := by unfold exG; omega
   omega
  ·rw [if_neg c, List.length_take]
   have := zdH (exG (we f w)) (dx (exN (dz f w) (we f w)))
   omega
 have hg' : exG (we f w) ≤ 1100 := by unfold nG at hg; omega
 have hl' : (dx (exN (dz f w) (we f w))).length ≤ 1000 := by unfold nN at hl; omega
 rw [zap h (zn f w) W.ne hl' hg' (.inr hwl), zgG c5, h1]
theorem zix {f : Int} (h : isF f) (s : Bool) {N G : Nat} (hN : N ≠ 0) (hl : (dx N).length ≤ 800) (hg : G ≤ 1074) {w : Int} (hex : (zt f 1 s N (-(G : Int))).1 = w) : ∀ (j n : Nat), 1 ≤ n → n + j = (tr (dx N)).length →
  ∃ fl, zaI f 1 (srt f w s N G j n) = (w, fl, 0)
 | 0, n, h1, hj => by
  unfold srt
  have hpos := zdw hN
  have := zfb (m := 1) h s hN (by omega) (x := -(G : Int)) (by omega) (by omega)
  unfold zbS at this
  rw [show -(G : Int) + ((dx N).length : Int) - 1 = ((dx N).length : Int) - 1 - (G : Int) by omega] at this
  exact ⟨_, by rw [this, hex]⟩
 | j + 1, n, h1, hj => by
  have ih := zix h s hN hl hg hex j (n + 1) (by omega) (by omega)
  have htl := zcn (dx N)
  obtain ⟨q1, q2⟩ := zlW hN h1 (by omega)
  obtain ⟨u1, u2⟩ := zha q1 q2
  unfold srt
  have d1 := zfb (m := 1) h s q2 (x := ((dx N).length : Int) - G - n) (by omega) (by omega) (by omega)
  have d2 := zfb (m := 1) h s (q := N / 10 ^ ((dx N).length - n) + 1) (Nat.succ_ne_zero _) (x := ((dx N).length : Int) - G - n) (by omega) (by omega) (by omega)
  split
  ·rename_i hc
   exact ⟨_, by rw [d1, hc.1]⟩
  ·split
   ·rename_i hc
    exact ⟨_, by rw [d2, hc]⟩
   ·exact ih
theorem zmB {f : Int} (h : isF f) {w : Nat} (hw : w < 2 * sg f) : ∃ fl, zaI f 1 (soS f w) = ((zb0 f w : Int), fl, 0) := by
 unfold soS
 by_cases hn : zbA f w = true
 ·rw [if_pos hn]; exact ⟨0, zgV h hw hn⟩
 rw [if_neg hn]
 obtain ⟨c5, c4, c1⟩ := zek (by simpa using hn)
 have hf := zej h c5 c4
 obtain ⟨hN, hl, hg⟩ := zey h c1 hf
 obtain ⟨b, r, e, hb⟩ := zaz hN
 obtain ⟨r', e'⟩ := zbT e hb
 have hp : 1 ≤ (tr (dx (nN f w))).length := by rw [e']; simp
 have hx := zj6 (m := 1) h hw c1 hf
 rw [zgG c5]
 exact zix h (zn f w) hN hl hg (by rw [hx]) _ 1 (by omega) (by omega)
theorem zjd (f m w : Int) (hw : IntKind.u64.min ≤ w ∧ w ≤ IntKind.u64.max) : Ev (fun k => zds.f k f m w) true := by
 obtain ⟨w, rfl, hlt⟩ := znb hw
 unfold zds.f
 by_cases hb : fmE f m = 0
 rotate_left
 ·exact Ev.bind (zke hb [(w : Int)]) (zd (by simpa using hb) zfd)
 obtain ⟨h, hm⟩ := zkH hb
 have ho := zkf h hm hlt
 by_cases hg : w < 2 * sg f
 rotate_left
 ·rw [if_neg hg] at ho
  exact Ev.bind ho (zd (by simp) zfd)
 rw [if_pos hg] at ho
 obtain ⟨fl, hs⟩ := zmB h hg
 have p1 := zgn h (m := 1) (by decide) (bx (soS f w))
 rw [zaf, hs] at p1
 have p2 := zgn h hm (bx (exS f w))
 rw [zaf, zkB h hg] at p2
 refine Ev.bind ho (ze (by simp) (Ev.bind (zjo h hg) (Ev.bind p1 (Ev.bind (zjf h hg) (Ev.bind p2 (zk (zme h w) ?_))))))
 exact zd rfl (zd rfl (zd rfl (zd rfl (zd rfl (zd rfl (zd rfl zfd))))))
end Go.Proofs.YtnkpmjhlkmlmbaaGreatDoor.Eng.K
