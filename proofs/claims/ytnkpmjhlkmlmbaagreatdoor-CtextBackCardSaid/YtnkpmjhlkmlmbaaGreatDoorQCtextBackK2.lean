import Derived.Test.YtnkpmjhlkmlmbaaGreatDoorQCtextBackK1
import Derived.Lib.Atoi
set_option linter.unusedVariables false
set_option linter.unusedSimpArgs false
namespace Go.Proofs.YtnkpmjhlkmlmbaaGreatDoor.Eng.K
open Go.RowKit Go.Proofs.YtnkpmjhlkmlmbaaGreatDoor.Eng
theorem zdU (b : Bool) : bN b < 2 := by cases b <;> decide
theorem zeS (b : Bool) : bN b = 0 ↔ b = false := by cases b <;> decide
def stk (Q : Nat) (b : Bool) : Nat := 2 * Q + bN b
theorem zeT {Q : Nat} (h : Q ≠ 0) (b : Bool) : bl (stk Q b) = bl Q + 1 := by
 have hb := zdU b
 have : stk Q b / 2 ^ 1 = Q := by unfold stk; omega
 have h2 := zbM (stk Q b) 1
 rw [this] at h2
 have h3 := zbi h
 have h4 : bl (stk Q b) ≠ 0 := fun e => by rw [e] at h2; omega
 omega
theorem zk3 {H r j : Nat} (h : H ≠ 0) (hr : r < 2 ^ j) : bl (H * 2 ^ j + r) = bl H + j := by
 have h1 : (H * 2 ^ j + r) / 2 ^ j = H := by
  rw [Nat.mul_comm, Nat.mul_add_div (zh j), Nat.div_eq_of_lt hr, Nat.add_zero]
 have h2 := zbM (H * 2 ^ j + r) j
 rw [h1] at h2
 have := zbi h
 omega
theorem zjo {f m : Int} (h : isF f) (s : Bool) {H r j : Nat} (hH : pr f + 1 ≤ bl H) (hr : r < 2 ^ j) (e : Int) : zt f m s (H * 2 ^ j + r) e = zt f m s (stk H (decide (r ≠ 0))) (e + j - 1) := by
 have hpr := zM h
 have h0 : H ≠ 0 := fun c => by rw [c, zbj] at hH; omega
 have hb1 := zk3 h0 hr
 have hb2 := zeT h0 (decide (r ≠ 0))
 rw [← zfo, ← zfo]
 have hT : e + j - 1 + (bl (stk H (decide (r ≠ 0))) : Nat) = e + (bl (H * 2 ^ j + r) : Nat) := by omega
 rw [hT]
 refine zgI fun E hE => ?_
 obtain ⟨d, hd⟩ : ∃ d : Nat, (E - e).toNat = d + j ∧ 1 ≤ d := ⟨(E - e).toNat - j, by omega, by omega⟩
 have e1 : (e - E).toNat = 0 := by omega
 have e2 : (e + j - 1 - E).toNat = 0 := by omega
 have e3 : (E - (e + j - 1)).toNat = d + 1 := by omega
 unfold R exR stk
 rw [e1, e2, e3, hd.1, Nat.pow_zero, Nat.mul_one, Nat.mul_one]
 exact ⟨zjm m s hr hd.2, decide_eq_decide.2 (zie hr)⟩
theorem zmj (X Y j : Nat) (hY : 0 < Y) : ∃ r, r < 2 ^ j ∧ X * 2 ^ j / Y = X / Y * 2 ^ j + r ∧ (X % Y = 0 ↔ r = 0 ∧ X * 2 ^ j % Y = 0) := by
 have h1 := Nat.div_add_mod X Y
 have h2 := Nat.mod_lt X hY
 have e : X * 2 ^ j = Y * (X / Y * 2 ^ j) + X % Y * 2 ^ j := by
  conv => lhs; rw [← h1, Nat.add_mul, Nat.mul_assoc]
 refine ⟨X % Y * 2 ^ j / Y, ?_, ?_, ?_⟩
 ·rw [Nat.div_lt_iff_lt_mul hY, Nat.mul_comm]
  exact Nat.mul_lt_mul_of_pos_left h2 (zh j)
 ·rw [e, Nat.mul_add_div hY]
 ·rw [e, Nat.mul_add_mod]
  constructor
  ·intro c; rw [c]; simp
  ·intro ⟨c1, c2⟩
   have h3 := Nat.div_add_mod (X % Y * 2 ^ j) Y
   rw [c1, c2] at h3
   have h4 : X % Y * 2 ^ j = 0 := by rw [← h3]; simp
   rcases Nat.mul_eq_zero.1 h4 with h5 | h5
   ·exact h5
   ·have := zh j; omega
theorem zjr {f m : Int} (h : isF f) (s : Bool) {A B N : Nat} (hB : 0 < B) (hn : pr f + 1 ≤ bl (A * 2 ^ N / B)) (e : Int) (j : Nat) :
  zt f m s (stk (A * 2 ^ (N + j) / B) (decide (A * 2 ^ (N + j) % B ≠ 0))) (e - (N + j : Nat) - 1) = zt f m s (stk (A * 2 ^ N / B) (decide (A * 2 ^ N % B ≠ 0))) (e - N - 1) := by
 obtain ⟨r, hr, hq, hz⟩ := zmj (A * 2 ^ N) B j hB
 rw [Nat.pow_add, ← Nat.mul_assoc]
 rw [hq]
 have hb := zdU (decide (A * 2 ^ N * 2 ^ j % B ≠ 0))
 have hs : stk (A * 2 ^ N / B * 2 ^ j + r) (decide (A * 2 ^ N * 2 ^ j % B ≠ 0)) = A * 2 ^ N / B * 2 ^ (j + 1) + (2 * r + bN (decide (A * 2 ^ N * 2 ^ j % B ≠ 0))) := by
  unfold stk
  rw [Nat.pow_succ, ← Nat.mul_assoc]; omega
 rw [hs, zjo h s hn (by rw [Nat.pow_succ]; omega)]
 have hd : decide (2 * r + bN (decide (A * 2 ^ N * 2 ^ j % B ≠ 0)) ≠ 0) = decide (A * 2 ^ N % B ≠ 0) := by
  apply decide_eq_decide.2
  have := zeS (decide (A * 2 ^ N * 2 ^ j % B ≠ 0))
  have h3 : bN (decide (A * 2 ^ N * 2 ^ j % B ≠ 0)) = 0 ↔ A * 2 ^ N * 2 ^ j % B = 0 := by rw [this]; simp
  constructor
  ·intro c c2
   have := hz.1 c2
   exact c (by rw [h3.2 this.2, this.1])
  ·intro c c2
   exact c (hz.2 ⟨by omega, h3.1 (by omega)⟩)
 rw [hd]
 congr 1
 omega
def rq (f m : Int) (s : Bool) (A B : Nat) (e : Int) : Int × Int :=
 zt f m s (stk (A * 2 ^ (bl B + 64) / B) (decide (A * 2 ^ (bl B + 64) % B ≠ 0))) (e - (bl B + 64 : Nat) - 1)
theorem zel {A B : Nat} (hA : A ≠ 0) (hB : 0 < B) : 64 + 1 ≤ bl (A * 2 ^ (bl B + 64) / B) := by
 have := (zjf hA (Nat.ne_of_gt hB) (bl B + 64) (by omega)).1
 have := zbi hA
 omega
theorem zem {f m : Int} (h : isF f) (s : Bool) {A B : Nat} (hA : A ≠ 0) (hB : 0 < B) (e : Int) (N : Nat) (hn : pr f + 1 ≤ bl (A * 2 ^ N / B)) :
  zt f m s (stk (A * 2 ^ N / B) (decide (A * 2 ^ N % B ≠ 0))) (e - N - 1) = rq f m s A B e := by
 have hpr := zM h
 have hfb := zaj h
 have hb := zel hA hB
 unfold rq
 have h1 := zjr (m := m) h s hB hn e (bl B + 64)
 have h2 := zjr (m := m) h s (A := A) (N := bl B + 64) hB (by omega) e N
 rw [← h1, ← h2, Nat.add_comm N]
theorem zen {f m : Int} (h : isF f) (s : Bool) {A B c : Nat} (hA : A ≠ 0) (hB : 0 < B) (hc : 0 < c) (e : Int) : rq f m s (A * c) (B * c) e = rq f m s A B e := by
 have hAc : A * c ≠ 0 := Nat.mul_ne_zero hA (by omega)
 have hBc : 0 < B * c := Nat.mul_pos hB hc
 have hpr := zM h
 have hfb := zaj h
 have hb := zel hAc hBc
 have e1 : A * c * 2 ^ (bl (B * c) + 64) = A * 2 ^ (bl (B * c) + 64) * c := Nat.mul_right_comm _ _ _
 have e2 : A * c * 2 ^ (bl (B * c) + 64) / (B * c) = A * 2 ^ (bl (B * c) + 64) / B := by rw [e1, Nat.mul_div_mul_right _ _ hc]
 have e3 : A * c * 2 ^ (bl (B * c) + 64) % (B * c) = A * 2 ^ (bl (B * c) + 64) % B * c := by rw [e1, Nat.mul_mod_mul_right]
 rw [e2] at hb
 rw [← zem h s hA hB e (bl (B * c) + 64) (by omega)]
 unfold rq
 rw [e2, e3]
 have hd : decide (A * 2 ^ (bl (B * c) + 64) % B * c ≠ 0) = decide (A * 2 ^ (bl (B * c) + 64) % B ≠ 0) := by
  apply decide_eq_decide.2
  rw [Ne, Nat.mul_eq_zero]
  omega
 rw [hd]
theorem zeo {f m : Int} (h : isF f) (s : Bool) {A B : Nat} (hA : A ≠ 0) (hB : 0 < B) (e : Int) (j : Nat) : rq f m s (A * 2 ^ j) B e = rq f m s A B (e + j) := by
 have hAj : A * 2 ^ j ≠ 0 := Nat.mul_ne_zero hA (Nat.ne_of_gt (zh j))
 have hpr := zM h
 have hfb := zaj h
 have hb := zel hAj hB
 have e1 : A * 2 ^ j * 2 ^ (bl B + 64) = A * 2 ^ (bl B + 64 + j) := by rw [Nat.mul_assoc, ← Nat.pow_add, Nat.add_comm j]
 rw [e1] at hb
 rw [← zem h s hA hB (e + j) (bl B + 64 + j) (by omega)]
 have e2 : e + (j : Int) - ((bl B + 64 + j : Nat) : Int) - 1 = e - ((bl B + 64 : Nat) : Int) - 1 := by omega
 rw [e2]
 unfold rq
 rw [e1]
theorem zoD {f m : Int} (s : Bool) {A : Nat} (hA : A ≠ 0) (e : Int) (N : Nat) : zt f m s (stk (A * 2 ^ N / 1) (decide (A * 2 ^ N % 1 ≠ 0))) (e - N - 1) = zt f m s A e := by
 have e2 : stk (A * 2 ^ N / 1) (decide (A * 2 ^ N % 1 ≠ 0)) = A * 2 ^ (N + 1) := by
  have e3 : bN (decide (A * 2 ^ N % 1 ≠ 0)) = 0 := by rw [zeS, decide_eq_false_iff_not]; simp [Nat.mod_one]
  unfold stk
  rw [e3, Nat.div_one, Nat.pow_succ, Nat.add_zero, ← Nat.mul_assoc A, Nat.mul_comm 2]
 rw [e2, zgJ f m s hA]
 congr 1
 omega
theorem zgO {f m : Int} (h : isF f) (s : Bool) {A : Nat} (hA : A ≠ 0) (e : Int) : rq f m s A 1 e = zt f m s A e := zoD s hA e (bl 1 + 64)
theorem zoj {f m : Int} (h : isF f) (s : Bool) {A B A' B' : Nat} (hA : A ≠ 0) (hA' : A' ≠ 0) (hB : 0 < B) (hB' : 0 < B') (hx : A * B' = A' * B) (e : Int) : rq f m s A B e = rq f m s A' B' e := by
 rw [← zen h s hA hB hB' e, ← zen h s hA' hB' hB e, hx, Nat.mul_comm B B']
theorem zoi {f m : Int} (h : isF f) (s : Bool) {A B : Nat} (hB : 0 < B) {e : Int} {k : Nat} (hk : B * 2 ^ k ≤ A) (he : wd f ≤ e + k) : rq f m s A B e = ((zcY f m s : Int), 20) := by
 have hA : A ≠ 0 := fun c => by have := Nat.mul_pos hB (zh k); omega
 have hQ : 2 ^ (k + (bl B + 64)) ≤ A * 2 ^ (bl B + 64) / B := by
  rw [Nat.le_div_iff_mul_le hB, Nat.pow_add, Nat.mul_right_comm, Nat.mul_comm (2 ^ k)]
  exact Nat.mul_le_mul_right _ hk
 have hQ0 : A * 2 ^ (bl B + 64) / B ≠ 0 := Nat.ne_of_gt (Nat.lt_of_lt_of_le (zh _) hQ)
 have hbl := zaf hQ
 have h2 := zar (v := 1) (by omega) (k + (bl B + 64))
 rw [Nat.one_mul, show bl 1 = 1 by decide] at h2
 have hst := zeT hQ0 (decide (A * 2 ^ (bl B + 64) % B ≠ 0))
 unfold rq
 refine zod h (fun c => ?_) ?_
 ·rw [c, zbj] at hst; omega
 ·omega
theorem zol {f m : Int} (h : isF f) (s : Bool) {A B : Nat} (hA : A ≠ 0) (hB : 0 < B) {e : Int} {k : Nat} (hk : A * 2 ^ k < B) (he : e - k < lo f) :
  rq f m s A B e = zt f m s 1 (lo f - 2) := by
 have hQ : A * 2 ^ (bl B + 64) / B < 2 ^ (bl B + 64 - k) := by
  have hkB : k < bl B := by
   have h1 := zL B
   have h2 : 1 * 2 ^ k ≤ A * 2 ^ k := Nat.mul_le_mul_right _ (by omega)
   exact (Nat.pow_lt_pow_iff_right (by omega)).1 (show 2 ^ k < 2 ^ bl B by omega)
  rw [Nat.div_lt_iff_lt_mul hB]
  have e1 : A * 2 ^ (bl B + 64) = 2 ^ (bl B + 64 - k) * (A * 2 ^ k) := by
   rw [Nat.mul_left_comm, ← Nat.pow_add, show bl B + 64 - k + k = bl B + 64 by omega]
  rw [e1]
  exact Nat.mul_lt_mul_of_pos_left hk (zh _)
 have hb := zel hA hB
 have hQ0 : A * 2 ^ (bl B + 64) / B ≠ 0 := fun c => by rw [c, zbj] at hb; omega
 have h2 := zG hQ
 have hst := zeT hQ0 (decide (A * 2 ^ (bl B + 64) % B ≠ 0))
 have hs0 : stk (A * 2 ^ (bl B + 64) / B) (decide (A * 2 ^ (bl B + 64) % B ≠ 0)) ≠ 0 := fun c => by rw [c, zbj] at hst; omega
 unfold rq
 rw [zjp h hs0 (by omega), zjp h (by omega) (by rw [show bl 1 = 1 by decide]; omega)]
theorem znA {f m : Int} (h : isF f) (hm : isM m) {s s' : Bool} {l l' : List Int} {e e' : Int} (hd : My s l e) (hd' : My s' l' e') : Ev (fun k => zS.f k f m [(s, l, e), (s', l', e')]) ((pr f : Int), lo f, wd f, 0) := by
 unfold zS.f
 unfold isM at hm
 refine zk (zf9 h) ?_; try dsimp only
 refine ze (by simp) (ze (by omega) (ze (by omega) ?_))
 have e1 : wrap64 (0 + 1) = 1 := by rw [zaq (by omega) (by omega)]; rfl
 have e2 : wrap64 (1 + 1) = 2 := by rw [zaq (by omega) (by omega)]; rfl
 have el : (([(s, l, e), (s', l', e')] : List (Bool × List Int × Int)).length : Int) = 2 := rfl
 have r0 : rdT [.b, .is .u32, .i .i64] [(s, l, e), (s', l', e')] 0 = (s, l, e) := rfl
 have r1 : rdT [.b, .is .u32, .i .i64] [(s, l, e), (s', l', e')] 1 = (s', l', e') := rfl
 refine zf ?_
 simp only [zS.l0, el, e1, r0]
 refine zd (by decide) (zd (by decide) (zd (by decide) ?_))
 refine zk (zcu hd) ?_; try dsimp only
 refine ze (by simp) (zf ?_)
 simp only [zS.l0, el, e2, r1]
 refine zd (by decide) (zd (by decide) (zd (by decide) ?_))
 refine zk (zcu hd') ?_; try dsimp only
 refine ze (by simp) (zf ?_)
 simp only [zS.l0]
 exact ze (by decide) (Ev.now _)
theorem zmr {n j : Nat} (h : bl n + j = 64) : zN n = n * 2 ^ j ∧ zaX n = false := by
 unfold zN zaX
 have e1 : 64 - bl n = j := by omega
 have e2 : bl n - 64 = 0 := by omega
 rw [e1, e2, Nat.pow_zero, Nat.div_one, Nat.mod_one]
 exact ⟨rfl, rfl⟩
def qN (A B : Nat) : Nat := 65 + bl B - bl A
def qC (A B : Nat) : Nat := bl (A * 2 ^ qN A B / B) - 64
def qH (A B : Nat) : Nat := A * 2 ^ qN A B / B / 2 ^ qC A B
def qL (A B : Nat) : Bool := decide (A * 2 ^ qN A B / B % 2 ^ qC A B ≠ 0) || decide (A * 2 ^ qN A B % B ≠ 0)
theorem zgC {A B : Nat} (hA : A ≠ 0) (hB : B ≠ 0) : 65 ≤ bl (A * 2 ^ qN A B / B) ∧ bl (A * 2 ^ qN A B / B) ≤ bl A + 66 ∧ bl (qH A B) = 64 := by
 have h1 : qN A B = 65 + bl B - bl A := rfl
 have h2 : qC A B = bl (A * 2 ^ qN A B / B) - 64 := rfl
 have := zjf hA hB (qN A B) (by omega)
 have hp := zbi hA
 have hd : bl (qH A B) = bl (A * 2 ^ qN A B / B) - qC A B := zbM _ _
 refine ⟨by omega, by omega, by omega⟩
theorem zm6 {x c n : Nat} (l : Bool) (hx : bl x ≤ 33000) (hc : c = bl x - 64) (h64 : 64 ≤ bl x) (hn : n ≤ 1000000) : Ev (fun k => zb6.f k false (D x) (0 - (n : Int)) l 64) ((mk ((x / 2 ^ c : Nat) : Int) (0 - (n : Int) + (c : Int))).1, (mk ((x / 2 ^ c : Nat) : Int) (0 - (n : Int) + (c : Int))).2.1, (mk ((x / 2 ^ c : Nat) : Int) (0 - (n : Int) + (c : Int))).2.2, (decide (x % 2 ^ c ≠ 0) || l), 0) := by
 have lx := zaW (x := x) (k := 2100) (by omega)
 have hl := zdt (zae x) (by omega)
 have hs2 := zef (zae x) (by omega) (-(c : Int))
 rw [V_D] at hl hs2
 rw [zgT (by omega) (by omega)] at hs2
 have hm := zct false (zae (x / 2 ^ c)) (by
  have h1 := zbM x c
  have := zaW (x := x / 2 ^ c) (k := 2100) (by omega)
  omega) (0 - (n : Int) + (c : Int))
 rw [V_D, zcz (by omega) (by have := zbM x c; omega)] at hm
 rw [show sv false (x / 2 ^ c) = ((x / 2 ^ c : Nat) : Int) from rfl] at hm
 have w4 : mx 0 (wrap64 (((bl x : Nat) : Int) - 64)) = (c : Int) := by
  rw [zfe, zdP (by omega) (by omega) (by omega) (by omega)]; omega
 have w5 : wrap64 (-(c : Int)) = -(c : Int) := zfx (by omega) (by omega)
 have w6 : wrap64 (0 - (n : Int) + (c : Int)) = 0 - (n : Int) + (c : Int) := zbZ (by omega) (by omega) (by omega) (by omega)
 unfold zb6.f
 refine Ev.bind (hl) ?_; try dsimp only
 rw [w4, w5, w6]
 clear w4 w5 w6
 refine Ev.bind (hs2) ?_; try dsimp only
 refine Ev.bind (hm) ?_; try dsimp only
 refine ze (by unfold ok3; simp) ?_
 by_cases c1 : x % 2 ^ c ≠ 0
 ·refine zd (decide_eq_true c1) (zi (Ev.now _) ?_)
  rw [decide_eq_true c1, Bool.true_or]; rfl
 ·refine ze (by simpa using c1) (zi (Ev.now _) ?_)
  rw [decide_eq_false c1, Bool.false_or]; rfl
theorem zpx {n x y : Nat} (hn : n = 65 + x - y) (h1 : x ≤ 1000000) (h2 : y ≤ 1000000) : mx 0 (wrap64 (wrap64 (wrap64 (64 + 1) + (x : Int)) - (y : Int))) = (n : Int) := by
 have e : wrap64 (wrap64 (wrap64 (64 + 1) + (x : Int)) - (y : Int)) = 65 + (x : Int) - (y : Int) := by unfold wrap64; omega
 rw [zfe, e]
 clear e
 omega
theorem zpz {n : Nat} (h : n ≤ 1000000) : wrap64 (wrap64 (0 - 0) - (n : Int)) = 0 - (n : Int) := by unfold wrap64; omega
theorem zl1 {la lb : List Int} (ha : Nm la) (hb : Nm lb) (ma : My false la 0) (mb : My false lb 0) (A0 : V la ≠ 0) (B0 : V lb ≠ 0) (l1 : bl (V la) ≤ 32000) (l2 : bl (V lb) ≤ 32000) :
  Ev (fun k => zbB.f k false la 0 false lb 0 64) ((mk (qH (V la) (V lb)) (0 - (qN (V la) (V lb) : Nat) + (qC (V la) (V lb) : Nat))).1, (mk (qH (V la) (V lb)) (0 - (qN (V la) (V lb) : Nat) + (qC (V la) (V lb) : Nat))).2.1, (mk (qH (V la) (V lb)) (0 - (qN (V la) (V lb) : Nat) + (qC (V la) (V lb) : Nat))).2.2, qL (V la) (V lb), 0) := by
 have lla := ma.len
 have llb := mb.len
 have ane : la ≠ [] := fun h => A0 (by rw [h]; rfl)
 have lne : lb ≠ [] := fun h => B0 (by rw [h]; rfl)
 have hN : qN (V la) (V lb) = 65 + bl (V lb) - bl (V la) := rfl
 have hC : qC (V la) (V lb) = bl (V la * 2 ^ qN (V la) (V lb) / V lb) - 64 := rfl
 have hH : qH (V la) (V lb) = V la * 2 ^ qN (V la) (V lb) / V lb / 2 ^ qC (V la) (V lb) := rfl
 have hL : qL (V la) (V lb) = (decide (V la * 2 ^ qN (V la) (V lb) / V lb % 2 ^ qC (V la) (V lb) ≠ 0) || decide (V la * 2 ^ qN (V la) (V lb) % V lb ≠ 0)) := rfl
 obtain ⟨b1, b2, b3⟩ := zgC A0 B0
 have hs := zef ha lla (qN (V la) (V lb) : Nat)
 rw [zgU (by omega)] at hs
 have hup := zfO (V la) (qN (V la) (V lb))
 have hll := zaW (x := V la * 2 ^ qN (V la) (V lb)) (k := 2100) (by omega)
 have hq := zni (zae (V la * 2 ^ qN (V la) (V lb))) hb (by omega) llb
 rw [V_D] at hq
 unfold zgD at hq
 rw [if_neg B0] at hq
 have hn6 : qN (V la) (V lb) ≤ 1000000 := by omega
 have w2 : wrap64 (131072 - ((bl (V la) : Nat) : Int)) = 131072 - ((bl (V la) : Nat) : Int) := zdP (by omega) (by omega) (by omega) (by omega)
 have w3 := zpz hn6
 have w1 := zpx hN (Nat.le_trans l2 (by decide)) (Nat.le_trans l1 (by decide))
 unfold zbB.f
 refine Ev.bind (zh6 ma mb) ?_; try dsimp only
 refine ze (by simp) ?_
 rw [show decide ((64 : Int) < 1) = false from rfl]
 refine zf ?_
 simp only [zbB.j0]
 refine ze (by simp) ?_
 have ask : zd6.f 64 = some 0 := rfl
 refine zk (ask) ?_; try dsimp only
 refine ze (by simp) (ze (fun h => lne (zfh.1 h)) (ze (fun h => ane (zfh.1 h)) ?_))
 refine Ev.bind (zdt hb llb) ?_; try dsimp only
 refine Ev.bind (zdt ha lla) ?_; try dsimp only
 refine Ev.bind (zdt ha lla) ?_; try dsimp only
 rw [w1, w2, w3]
 clear w1 w2 w3
 refine ze (by omega) ?_
 refine Ev.bind (hs) ?_; try dsimp only
 refine Ev.bind (hq) ?_; try dsimp only
 rw [hL, hH]
 generalize qN (V la) (V lb) = n at *
 generalize qC (V la) (V lb) = c at *
 have hdz : decide (((D (V la * 2 ^ n % V lb)).length : Int) > 0) = decide (V la * 2 ^ n % V lb ≠ 0) := by
  generalize V la * 2 ^ n % V lb = y
  exact decide_eq_decide.2 (by
   constructor
   ·intro h h2; rw [h2, zP] at h; simp at h
   ·intro h
    have : (D y) ≠ [] := fun h2 => h (by rw [← V_D y, h2]; rfl)
    exact ziy this)
 rw [hdz]
 clear hdz
 have hlen := zaf (Nat.div_le_self (V la * 2 ^ n) (V lb))
 generalize V la * 2 ^ n % V lb = y at *
 generalize V la * 2 ^ n / V lb = x at *
 have hmd := zm6 (x := x) (c := c) (n := n) (decide (y ≠ 0)) (by omega) hC (by omega) (by omega)
 refine Ev.bind (hmd) ?_; try dsimp only
 exact Ev.now _
theorem zmX (x y : Nat) : (decide (x ≠ 0) || decide (y ≠ 0)) = decide (2 * x + bN (decide (y ≠ 0)) ≠ 0) := by
 by_cases c1 : x = 0
 ·subst c1
  by_cases c2 : y = 0
  ·subst c2; rfl
  ·have e : decide (y ≠ 0) = true := decide_eq_true c2
   rw [e]; rfl
 ·have e : decide (x ≠ 0) = true := decide_eq_true c1
  rw [e, Bool.true_or]
  exact (decide_eq_true (by omega)).symm
theorem znX {f m : Int} (h : isF f) (s : Bool) {A B : Nat} (hA : A ≠ 0) (hB : B ≠ 0) (e : Int) :
  zt f m s (stk (qH A B) (qL A B)) (e - (qN A B : Nat) + (qC A B : Nat) - 1) = rq f m s A B e := by
 have hpr := zM h
 have hfb := zaj h
 obtain ⟨b1, b2, b3⟩ := zgC hA hB
 have hn := zem (m := m) h s hA (Nat.pos_of_ne_zero hB) e (qN A B) (by omega)
 rw [← hn]
 have hH : qH A B = A * 2 ^ qN A B / B / 2 ^ qC A B := rfl
 have hL : qL A B = (decide (A * 2 ^ qN A B / B % 2 ^ qC A B ≠ 0) || decide (A * 2 ^ qN A B % B ≠ 0)) := rfl
 rw [hL]
 rw [hH] at b3 ⊢
 generalize qN A B = n at *
 generalize qC A B = c at *
 generalize A * 2 ^ n % B = y at *
 generalize A * 2 ^ n / B = x at *
 have hr := Nat.mod_lt x (zh c)
 have hx := Nat.div_add_mod x (2 ^ c)
 have hb := zdU (decide (y ≠ 0))
 have hs : stk x (decide (y ≠ 0)) = x / 2 ^ c * 2 ^ (c + 1) + (2 * (x % 2 ^ c) + bN (decide (y ≠ 0))) := by
  unfold stk
  conv => lhs; rw [← hx]
  rw [Nat.pow_succ, Nat.mul_comm (2 ^ c), ← Nat.mul_assoc]; omega
 rw [hs, zjo h s (by omega) (by rw [Nat.pow_succ]; omega)]
 have hd := zmX (x % 2 ^ c) y
 rw [hd]
 congr 1
 omega
theorem zkK {f m : Int} (h : isF f) (s : Bool) {H : Nat} (hH : bl H = 64) (T : Int) (b : Bool) : zcd f m s T (UP m s H T b) (XP H T b) = zt f m s (stk H b) (T - 65) := by
 have hpr := zM h
 have hfb := zaj h
 have h0 : H ≠ 0 := fun c => by rw [c, zbj] at hH; omega
 have hb := zeT h0 b
 rw [← zfo]
 have hT : T - 65 + (bl (stk H b) : Nat) = T := by omega
 rw [hT]
 refine zgI fun E hE => ?_
 unfold UP XP R exR stk
 have e1 : (T - 65 - E).toNat = 0 := by omega
 have e2 : (E - (T - 65)).toNat = (E - T + 64).toNat + 1 := by omega
 rw [e1, e2, Nat.pow_zero, Nat.mul_one]
 exact ⟨rfl, rfl⟩
theorem zkC {f m : Int} (h : isF f) (hm : isM m) {sa sb : Bool} {la lb : List Int} {ea eb : Int} (ha : My sa la ea) (hb : My sb lb eb) (A0 : V la ≠ 0) (B0 : V lb ≠ 0) (l1 : bl (V la) ≤ 32000) (l2 : bl (V lb) ≤ 32000) :
    Ev (fun k => zbs.f k f m sa la ea sb lb eb) ((rq f m (decide (¬ sa = sb)) (V la) (V lb) (ea - eb)).1, (rq f m (decide (¬ sa = sb)) (V la) (V lb) (ea - eb)).2, 0) := by
  have ma : My false la 0 := ⟨⟨ha.dy.nm, fun h => ⟨rfl, rfl⟩, ha.dy.odd⟩, ha.len, by omega, by omega⟩
  have mb : My false lb 0 := ⟨⟨hb.dy.nm, fun h => ⟨rfl, rfl⟩, hb.dy.odd⟩, hb.len, by omega, by omega⟩
  have h1 := ha.lo
  have h2 := ha.hi
  have h3 := hb.lo
  have h4 := hb.hi
  have hq := zl1 ha.dy.nm hb.dy.nm ma mb A0 B0 l1 l2
  have hr := znX (m := m) h (decide (¬ sa = sb)) A0 B0 (ea - eb)
  obtain ⟨b1, b2, b3⟩ := zgC A0 B0
  have hN : qN (V la) (V lb) = 65 + bl (V lb) - bl (V la) := rfl
  have hC : qC (V la) (V lb) = bl (V la * 2 ^ qN (V la) (V lb) / V lb) - 64 := rfl
  rw [← hr]
  clear hr
  generalize qN (V la) (V lb) = n at *
  generalize qC (V la) (V lb) = c at *
  generalize qH (V la) (V lb) = H at *
  generalize qL (V la) (V lb) = L at *
  have H0 : (H : Int) ≠ 0 := fun h => by have : H = 0 := by omega
                                         rw [this, zbj] at b3; omega
  obtain ⟨j, j1, j2, j3, j4⟩ := zb8 H0 (0 - (n : Int) + (c : Int))
  rw [Int.natAbs_natCast] at j1
  have hj : bl (V (mk (H : Int) (0 - (n : Int) + (c : Int))).2.1) + j = 64 := by
    have := zar j4 j
    rw [← j1] at this; omega
  have hd := zeL (H : Int) (0 - (n : Int) + (c : Int))
  generalize (mk (H : Int) (0 - (n : Int) + (c : Int))) = g at *
  obtain ⟨g1, g2, g3⟩ := g
  dsimp only at *
  have hl := hd.nm.len
  have hlb := zaW (x := V g2) (k := 2) (by omega)
  have hmy : My g1 g2 g3 := ⟨hd, by omega, by omega, by omega⟩
  have hp := zi5 hmy j4
  obtain ⟨k1, k2⟩ := zmr hj
  rw [k1, k2, ← j1] at hp
  have hT : ∀ b, zcd f m (decide (¬ sa = sb)) (g3 + (bl (V g2) : Nat) + (ea - eb)) (UP m (decide (¬ sa = sb)) H (g3 + (bl (V g2) : Nat) + (ea - eb)) b) (XP H (g3 + (bl (V g2) : Nat) + (ea - eb)) b) = zt f m (decide (¬ sa = sb)) (stk H b) (ea - eb - (n : Int) + (c : Int) - 1) := by
    intro b
    rw [zkK h _ b3]
    congr 1
    omega
  have HH : 2 ^ 63 ≤ H ∧ H < 2 ^ 64 := by
    have hne : H ≠ 0 := fun h => H0 (by omega)
    have u1 := zcO hne
    have u2 := zL H
    rw [b3] at u1 u2
    exact ⟨u1, u2⟩
  have w1 : wrap64 (ea - eb) = ea - eb := zdP (by omega) (by omega) (by omega) (by omega)
  have w2 : wrap64 (g3 + ((bl (V g2) : Nat) : Int) + (ea - eb)) = g3 + ((bl (V g2) : Nat) : Int) + (ea - eb) := zbZ (by omega) (by omega) (by omega) (by omega)
  have hw := fun b => zi7 h hm (decide (¬ sa = sb)) HH (T := g3 + (bl (V g2) : Nat) + (ea - eb)) b (by omega) (by omega)
  have last : ∀ b : Bool, Ev (fun k => zbs.j1 k f m sa la ea sb lb eb (pr f : Int) (lo f) (wd f) (decide (¬ sa = sb)) (H : Int) (g3 + ((bl (V g2) : Nat) : Int)) b) ((zt f m (decide (¬ sa = sb)) (stk H b) (ea - eb - (n : Int) + (c : Int) - 1)).1, (zt f m (decide (¬ sa = sb)) (stk H b) (ea - eb - (n : Int) + (c : Int) - 1)).2, 0) := by
    intro b
    refine zf ?_
    simp only [zbs.j1, w1, w2]
    refine Ev.bind (hw b) ?_
    rw [hT b]
    exact Ev.now _
  clear w1 w2
  unfold zbs.f
  refine Ev.bind (znA h hm ha hb) ?_; try dsimp only
  refine ze (by simp) ?_
  refine Ev.bind (zf4 hb) ?_; try dsimp only
  refine ze (by rw [zfp B0]; split <;> omega) ?_
  refine Ev.bind (zf4 ha) ?_; try dsimp only
  refine ze (by rw [zfp A0]; split <;> omega) ?_
  refine Ev.bind (hq) ?_; try dsimp only
  refine Ev.bind (hp) ?_; try dsimp only
  refine ze (by simp) ?_
  exact last L
theorem zl0 {sa sb : Bool} {la lb : List Int} {ea eb : Int} (ha : My sa la ea) (hb : My sb lb eb) (hl : bl (V la) + bl (V lb) ≤ 131000) (h1 : -16000000 ≤ ea + eb) (h2 : ea + eb ≤ 16000000) : Ev (fun k => zcW.f k sa la ea sb lb eb) (ok3 (mk (sv sa (V la) * sv sb (V lb)) (ea + eb))) := by
 have a1 := ha.lo
 have a2 := ha.hi
 have b1 := hb.lo
 have b2 := hb.hi
 have hbl := zfN (V la) (V lb)
 have hlen := zaW (x := V la * V lb) (k := 4096) (by omega)
 have e : wrap64 (ea + eb) = ea + eb := zbZ (by omega) (by omega) (by omega) (by omega)
 have m1 := ziN ha.dy.nm hb.dy.nm ha.len hb.len
 rw [zdX (by omega)] at m1
 have k1 := zct (sa != sb) (zae (V la * V lb)) (by omega) (ea + eb)
 rw [V_D, zcz (by omega) (by omega), ← zjO] at k1
 have hne : (decide (¬ sa = sb)) = (sa != sb) := by cases sa <;> cases sb <;> rfl
 unfold zcW.f
 refine Ev.bind (zh6 ha hb) ?_; try dsimp only
 refine ze (by simp) ?_
 refine Ev.bind (m1) ?_; try dsimp only
 refine ze (by simp) ?_
 rw [e, hne]
 clear e
 refine Ev.bind (k1) ?_; try dsimp only
 exact Ev.now _
theorem zed {z e : Int} (hb : bl z.natAbs ≤ 131072) (h1 : -16777216 ≤ e) (h2 : e + (bl z.natAbs : Nat) ≤ 16777216) : My (mk z e).1 (mk z e).2.1 (mk z e).2.2 := by
 have a1 := zna z e
 have a2 := zgf z e
 have e1 : (mk z e).2.2 = me z e := rfl
 exact ⟨zeL z e, by omega, by omega, by omega⟩
theorem znb (za ea zb eb : Int) : mk (mz za ea * mz zb eb) (me za ea + me zb eb) = mk (za * zb) (ea + eb) := by
 by_cases c : za = 0
 ·subst c; rw [ziJ, Int.zero_mul, Int.zero_mul]; rfl
 by_cases c2 : zb = 0
 ·subst c2; rw [ziJ, Int.mul_zero, Int.mul_zero]; rfl
 obtain ⟨j, p1, p2, _, _⟩ := zec c ea
 obtain ⟨i, q1, q2, _, _⟩ := zec c2 eb
 have e3 : za * zb = mz za ea * mz zb eb * 2 ^ (j + i) := by
  conv => lhs; rw [p1, q1]
  rw [Int.pow_add, Int.mul_assoc, Int.mul_assoc]
  congr 1
  rw [Int.mul_left_comm]
 rw [e3, zgg, p2, q2]
 congr 1
 omega
theorem zeO (z e : Int) : bl (V (mk z e).2.1) ≤ bl z.natAbs := by
 by_cases c : z = 0
 ·subst c; exact Nat.zero_le _
 ·obtain ⟨j, j1, _⟩ := zb8 c e
  rw [j1]
  have h := zfO (V (mk z e).2.1) j
  have hp : V (mk z e).2.1 ≤ V (mk z e).2.1 * 2 ^ j := Nat.le_mul_of_pos_right _ (zh j)
  exact zaf hp
theorem znE {za ea zb eb : Int} (hb : bl za.natAbs + bl zb.natAbs ≤ 131000) (h1 : -8000000 ≤ ea) (h2 : ea ≤ 7000000) (h3 : -8000000 ≤ eb) (h4 : eb ≤ 7000000) : Ev (fun k => zcW.f k (mk za ea).1 (mk za ea).2.1 (mk za ea).2.2 (mk zb eb).1 (mk zb eb).2.1 (mk zb eb).2.2) (ok3 (mk (za * zb) (ea + eb))) := by
 have a2 := zgf za ea
 have b2 := zgf zb eb
 have a3 := zeO za ea
 have b3 := zeO zb eb
 have e1 : (mk za ea).2.2 = me za ea := rfl
 have e2 : (mk zb eb).2.2 = me zb eb := rfl
 refine zi (zl0 (zed (z := za) (e := ea) (by omega) (by omega) (by omega)) (zed (z := zb) (e := eb) (by omega) (by omega) (by omega)) (by omega) (by omega) (by omega)) ?_
 show ok3 (mk (mz za ea * mz zb eb) (me za ea + me zb eb)) = _
 rw [znb]
theorem zgM {f m : Int} (h : isF f) (s : Bool) {A B : Nat} (hA : A ≠ 0) (hB : 0 < B) (e : Int) (j : Nat) : rq f m s A (B * 2 ^ j) e = rq f m s A B (e - j) := by
 have h1 := zeo (m := m) h s hA (Nat.mul_pos hB (zh j)) (e - j) j
 rw [show e - (j : Int) + j = e by omega] at h1
 rw [← h1, zen h s hA hB (zh j)]
def zp (f m : Int) (s : Bool) (n : Nat) (x : Int) : Int × Int := rq f m s (n * 10 ^ x.toNat) (10 ^ (-x).toNat) 0
theorem zaQ (n : Nat) : 0 < 10 ^ n := Nat.pow_pos (by omega)
theorem zhK {f m : Int} (h : isF f) (s : Bool) {n : Nat} (hn : n ≠ 0) {x : Int} (hx : 400 ≤ x) : zp f m s n x = ((zcY f m s : Int), 20) := by
 have hw := zc6 h
 unfold zp
 obtain ⟨K, hK⟩ : ∃ K : Nat, K = 1024 := ⟨_, rfl⟩
 refine zoi h s (zaQ _) (k := K) ?_ (by omega)
 have e1 : (-x).toNat = 0 := by omega
 rw [e1, Nat.pow_zero, Nat.one_mul]
 have h1 : 8 ^ x.toNat ≤ 10 ^ x.toNat := Nat.pow_le_pow_left (by omega) _
 have h2 : (2 : Nat) ^ K ≤ 2 ^ (3 * x.toNat) := Nat.pow_le_pow_right (by omega) (by omega)
 rw [Nat.pow_mul, show (2 : Nat) ^ 3 = 8 from rfl] at h2
 have h3 : 1 * 10 ^ x.toNat ≤ n * 10 ^ x.toNat := Nat.mul_le_mul_right _ (by omega)
 generalize (2 : Nat) ^ K = a at *
 generalize 8 ^ x.toNat = b at *
 omega
theorem zhL {f m : Int} (h : isF f) (s : Bool) {n p : Nat} (hn : n ≠ 0) (hb : n < 10 ^ p) {x : Int} (hx : x + p ≤ -500) : zp f m s n x = zt f m s 1 (lo f - 2) := by
 have hw := zbE h
 have e1 : x.toNat = 0 := by omega
 unfold zp
 rw [e1, Nat.pow_zero, Nat.mul_one]
 obtain ⟨K, hK⟩ : ∃ K : Nat, K = 1080 := ⟨_, rfl⟩
 refine zol h s hn (zaQ _) (k := K) ?_ (by omega)
 obtain ⟨c, hc⟩ : ∃ c : Nat, (-x).toNat = p + c ∧ 500 ≤ c := ⟨(-x).toNat - p, by omega, by omega⟩
 rw [hc.1, Nat.pow_add]
 have h2 : (2 : Nat) ^ K ≤ 10 ^ c := by
  have h3 : (2 : Nat) ^ K ≤ 2 ^ (3 * c) := Nat.pow_le_pow_right (by omega) (by omega)
  rw [Nat.pow_mul] at h3
  exact Nat.le_trans h3 (Nat.pow_le_pow_left (by omega) _)
 exact Nat.mul_lt_mul_of_lt_of_le hb h2 (zaQ c)
theorem zlG {f m : Int} (h : isF f) (s : Bool) {n p : Nat} (hn : n ≠ 0) (hb : n < 10 ^ p) {a b : Int} (ha : 400 ≤ a) (hB : b + p ≤ -500) (x : Int) : zp f m s n (if x > a then a else if x < b then b else x) = zp f m s n x := by
 by_cases c1 : x > a
 ·rw [if_pos c1, zhK h s hn ha, zhK h s hn (by omega)]
 ·rw [if_neg c1]
  by_cases c2 : x < b
  ·rw [if_pos c2, zhL h s hn hb hB, zhL h s hn hb (by omega)]
  ·rw [if_neg c2]
theorem zlI {f m : Int} (h : isF f) (s : Bool) {n : Nat} (hn : n ≠ 0) (X : Nat) : zt f m s (n * 5 ^ X) X = zp f m s n X := by
 have h5 : n * 5 ^ X ≠ 0 := Nat.mul_ne_zero hn (Nat.ne_of_gt (Nat.pow_pos (by omega)))
 have h1 := zeo (m := m) h s h5 (B := 1) (by omega) 0 X
 rw [Int.zero_add] at h1
 unfold zp
 rw [← zgO h s h5, ← h1, Nat.mul_assoc, ← Nat.mul_pow]
 have e1 : (X : Int).toNat = X := Int.toNat_natCast X
 have e2 : (-(X : Int)).toNat = 0 := by omega
 rw [e1, e2]
theorem zhJ {f m : Int} (h : isF f) (s : Bool) {n : Nat} (hn : n ≠ 0) (Y : Nat) : rq f m s n (5 ^ Y) (-(Y : Int)) = zp f m s n (-(Y : Int)) := by
 have h1 := zgM (m := m) h s hn (B := 5 ^ Y) (Nat.pow_pos (by omega)) 0 Y
 rw [← Nat.mul_pow, Int.zero_sub] at h1
 unfold zp
 rw [← h1]
 have e1 : (-(Y : Int)).toNat = 0 := by omega
 have e2 : (-(-(Y : Int))).toNat = Y := by omega
 rw [e1, e2, Nat.pow_zero, Nat.mul_one]
theorem zkG {f m : Int} (h : isF f) (hm : isM m) (s : Bool) {n : Nat} (hn : n ≠ 0) {e : Int} (hb : bl n ≤ 100000) (h1 : -1000000 ≤ e) (h2 : e ≤ 1000000) : Ev (fun k => zc1.f k f m (mk (sv s n) e).1 (mk (sv s n) e).2.1 (mk (sv s n) e).2.2) ((zt f m s n e).1, (zt f m s n e).2, 0) := by
 have z0 : sv s n ≠ 0 := fun h => hn (zc3.1 h)
 obtain ⟨j, j1, j2, j3, j4⟩ := zb8 z0 e
 have hm1 := zed (z := sv s n) (e := e) (by rw [za0]; omega) (by omega) (by rw [za0]; omega)
 have hr := zkF h hm hm1 j4
 rw [zes hn] at j3
 rw [za0] at j1
 have e1 := zgJ f m s j4 e j
 rw [← j1, ← j2] at e1
 have e2 : zt f m (mk (sv s n) e).1 (V (mk (sv s n) e).2.1) (mk (sv s n) e).2.2 = zt f m s n e := by rw [j3, ← e1]
 rwa [e2] at hr
theorem zfm (n : Nat) : bl (5 ^ n) ≤ 3 * n + 1 := by
 refine zG ?_
 have h1 : 5 ^ n ≤ 8 ^ n := Nat.pow_le_pow_left (by omega) n
 rw [Nat.pow_succ, Nat.pow_mul]
 have : (2 : Nat) ^ 3 = 8 := rfl
 rw [this]
 have := Nat.pow_pos (n := n) (show 0 < 8 by omega)
 omega
theorem zgx (n : Nat) : bl (10 ^ n) ≤ 4 * n + 1 := by
 refine zG ?_
 have h1 : 10 ^ n ≤ 16 ^ n := Nat.pow_le_pow_left (by omega) n
 rw [Nat.pow_succ, Nat.pow_mul]
 have : (2 : Nat) ^ 4 = 16 := rfl
 rw [this]
 have := Nat.pow_pos (n := n) (show 0 < 16 by omega)
 omega
theorem zno (s : Bool) : decide (¬ s = false) = s := by cases s <;> rfl
theorem znY {f m : Int} (h : isF f) (s : Bool) {n N : Nat} {e e' : Int} (hn : n ≠ 0) (hN : N ≠ 0) : rq f m s (V (mk (sv s n) e).2.1) (V (mk (N : Int) e').2.1) ((mk (sv s n) e).2.2 - (mk (N : Int) e').2.2) = rq f m s n N (e - e') := by
 have z0 : sv s n ≠ 0 := fun h => hn (zc3.1 h)
 have z1 : (N : Int) ≠ 0 := by omega
 obtain ⟨j, j1, j2, j3, j4⟩ := zb8 z0 e
 obtain ⟨i, i1, i2, i3, i4⟩ := zb8 z1 e'
 rw [za0] at j1
 rw [Int.natAbs_natCast] at i1
 rw [i2, j2]
 have h1 := zeo (m := m) h s j4 (Nat.pos_of_ne_zero i4) (e - (e' + (i : Int))) j
 have h2 := zgM (m := m) h s hn (Nat.pos_of_ne_zero i4) (e - e') i
 rw [← j1] at h1
 rw [← i1] at h2
 rw [h2, show e - e' - (i : Int) = e - (e' + (i : Int)) by omega, h1]
 congr 1
 omega
theorem zhQ {f m : Int} (h : isF f) (hm : isM m) (s : Bool) {n : Nat} (hn : n ≠ 0) {p : Nat} (hp : p ≤ 1200) (hb : n < 10 ^ p) (x : Int) : Ev (fun k => zcs.f k f m s (D n) x) ((zp f m s n x).1, (zp f m s n x).2, 0) := by
 have hx := zlG (m := m) h s hn hb (a := 3000) (b := -3000) (by omega) (by omega) x
 have ex : mn 3000 (mx (-3000) x) = (if x > 3000 then 3000 else if x < -3000 then -3000 else x) := by unfold mn mx; split <;> split <;> split <;> (try split) <;> omega
 rw [← hx]
 unfold zcs.f
 rw [ex]
 have hr : -3000 ≤ (if x > 3000 then 3000 else if x < -3000 then -3000 else x) ∧ (if x > 3000 then 3000 else if x < -3000 then -3000 else x) ≤ 3000 := by split <;> (try split) <;> omega
 clear ex hx
 generalize (if x > 3000 then 3000 else if x < -3000 then -3000 else x) = y at *
 have hbn : bl n ≤ 4801 := by
  have h1 := zaf (Nat.le_of_lt hb)
  have h2 := zgx p
  omega
 have lenn := zaW (x := n) (k := 200) (by omega)
 have hmk := zct s (zae n) (by omega) y
 rw [V_D, zcz (by omega) (by omega)] at hmk
 refine Ev.bind (hmk) ?_; try dsimp only
 by_cases c : y ≥ 0
 ·refine zd c ?_
  obtain ⟨Y, rfl⟩ := Int.eq_ofNat_of_zero_le c
  have b5 := zfm Y
  have l5 := zaW (x := 5 ^ Y) (k := 400) (by omega)
  have hpw := zgn (b := 5) (n := Y) (by omega) (by omega)
  rw [zdX (by omega)] at hpw
  have hm5 := zct false (zae (5 ^ Y)) (by omega) 0
  rw [V_D, zcz (by omega) (by omega)] at hm5
  refine Ev.bind (hpw) ?_; try dsimp only
  refine Ev.bind (hm5) ?_; try dsimp only
  have hmul := znE (za := sv s n) (ea := (Y : Int)) (zb := sv false (5 ^ Y)) (eb := 0) (by rw [za0, za0]; omega) (by omega) (by omega) (by omega) (by omega)
  rw [zjO, Bool.bne_false, Int.add_zero] at hmul
  have h50 : n * 5 ^ Y ≠ 0 := Nat.mul_ne_zero hn (Nat.ne_of_gt (Nat.pow_pos (by omega)))
  have hro := zkG h hm s h50 (e := (Y : Int)) (by have := zfN n (5 ^ Y); omega) (by omega) (by omega)
  rw [zlI h s hn Y] at hro
  refine Ev.bind (hmul) ?_; try dsimp only
  refine Ev.bind (hro) ?_; try dsimp only
  exact Ev.now _
 ·refine ze c ?_
  obtain ⟨Y, hY⟩ : ∃ Y : Nat, y = -(Y : Int) := ⟨(-y).toNat, by omega⟩
  subst hY
  have b5 := zfm Y
  have l5 := zaW (x := 5 ^ Y) (k := 400) (by omega)
  have hpw := zgn (b := 5) (n := Y) (by omega) (by omega)
  rw [zdX (by omega)] at hpw
  have hm5 := zct false (zae (5 ^ Y)) (by omega) 0
  rw [V_D, zcz (by omega) (by omega)] at hm5
  rw [show wrap64 (-(-(Y : Int))) = (Y : Int) by rw [zfx (by omega) (by omega)]; omega]
  refine Ev.bind (hpw) ?_; try dsimp only
  refine Ev.bind (hm5) ?_; try dsimp only
  have z0 : sv s n ≠ 0 := fun h => hn (zc3.1 h)
  have h50 : 5 ^ Y ≠ 0 := Nat.ne_of_gt (Nat.pow_pos (by omega))
  have z1 : sv false (5 ^ Y) ≠ 0 := fun h => h50 (zc3.1 h)
  have m1 := zed (z := sv s n) (e := -(Y : Int)) (by rw [za0]; omega) (by omega) (by rw [za0]; omega)
  have m2 := zed (z := sv false (5 ^ Y)) (e := 0) (by rw [za0]; omega) (by omega) (by rw [za0]; omega)
  obtain ⟨j, j1, j2, j3, j4⟩ := zb8 z0 (-(Y : Int))
  obtain ⟨i, i1, i2, i3, i4⟩ := zb8 z1 0
  have v1 := zeO (sv s n) (-(Y : Int))
  have v2 := zeO (sv false (5 ^ Y)) 0
  rw [za0] at v1 v2
  have hq := zkC h hm m1 m2 j4 i4 (by omega) (by omega)
  have hsg : decide (¬ (mk (sv s n) (-(Y : Int))).1 = (mk (sv false (5 ^ Y)) 0).1) = s := by
   rw [j3, i3, zes hn, zes h50]; exact zno s
  rw [hsg] at hq
  have hpt := znY (m := m) h s (e := -(Y : Int)) (e' := 0) hn h50
  rw [Int.sub_zero, zhJ h s hn Y] at hpt
  rw [show sv false (5 ^ Y) = ((5 ^ Y : Nat) : Int) from rfl] at *
  rw [hpt] at hq
  refine Ev.bind (hq) ?_; try dsimp only
  exact Ev.now _
def bx (l : List UInt8) : ByteArray := ⟨l.toArray⟩
theorem zI (l : List UInt8) : tl (bx l) = l := rfl
theorem zle (s : ByteArray) : bx (tl s) = s := za1.1 rfl
theorem zu (l : List UInt8) : (bx l).size = l.length := by rw [zew, zI]
theorem za3 {l : List UInt8} : bx l = (⟨#[]⟩ : ByteArray) ↔ l = [] := by rw [← zjY, zI]
theorem zf6 {s : ByteArray} {A B C : List UInt8} (h : tl s = A ++ (B ++ C)) : s.extract A.length (A.length + B.length) = bx B := by
 apply za1.1
 rw [zev, zI, h, ← List.append_assoc, List.take_append_of_le_length (by simp), List.take_of_length_le (by simp), List.drop_left]
theorem zih {s : ByteArray} {A B : List UInt8} (h : tl s = A ++ B) : s.extract A.length s.size = bx B := by
 have hz := zbG h
 have := zf6 (s := s) (A := A) (B := B) (C := []) (by simpa using h)
 rw [hz]; exact this
def zap (d : List UInt8) (x : Int) (l : List UInt8) : Option (List UInt8 × Int) :=
 if l = [] then some (d, x) else if l.head? = some 101 ∧ zah l.tail = true then some (d, x + zcw l.tail) else none
def zai (l : List UInt8) : Option (List UInt8 × Int) :=
 if l.takeWhile isD = [] then none
 else if (l.dropWhile isD).head? = some 46 then
  if (l.dropWhile isD).tail.takeWhile isD = [] then none
  else zap (l.takeWhile isD ++ (l.dropWhile isD).tail.takeWhile isD) (-(((l.dropWhile isD).tail.takeWhile isD).length : Int)) ((l.dropWhile isD).tail.dropWhile isD)
 else zap (l.takeWhile isD) 0 (l.dropWhile isD)
def zby (f m : Int) (s : Bool) (n : Nat) (x : Int) : Int × Int × Int := if n = 0 then ((sgn f s : Int), 0, 0) else ((zp f m s n x).1, (zp f m s n x).2, 0)
def zlD (f m : Int) (s : Bool) : Option (List UInt8 × Int) → Int × Int × Int
 | some x => zby f m s (zg x.1 0) x.2
 | none => (0, 0, 12)
def zdj (f m : Int) (s : Bool) (l : List UInt8) : Int × Int × Int :=
 if l = [105, 110, 102] then (((mo f * 2 ^ fb f + sgn f s : Nat) : Int), 0, 0) else zlD f m s (zai l)
def zx (f m : Int) (l : List UInt8) : Int × Int × Int :=
 if 1200 < l.length then (0, 0, 3) else if l = [110, 97, 110] then ((zb9 f : Int), 0, 0) else zdj f m (za8 l) (z8 l)
theorem zcx {b : UInt8} : isD b = true ↔ 48 ≤ (b.toNat : Int) ∧ (b.toNat : Int) ≤ 57 := by unfold isD; rw [decide_eq_true_iff]; omega
section
variable {s : ByteArray} (hs : s.size ≤ 1000000)
include hs
theorem zjs (A0 : List UInt8) : ∀ (B C : List UInt8), tl s = A0 ++ (C ++ B) →
  Ev (fun k => zaL.l0 k s ((A0.length + C.length : Nat) : Int) (A0.length : Int)) (bx (C ++ B.takeWhile isD), s, ((A0.length + (C ++ B.takeWhile isD).length : Nat) : Int))
 | [], C, he => by
  have hz := zbG (A := A0 ++ C) (B := []) (by simpa using he)
  simp only [List.length_append, List.length_nil] at hz
  have hx := zf6 (s := s) (A := A0) (B := C) (C := []) (by simpa using he)
  refine zf ?_; simp only [zaL.l0]
  refine ze (by omega) (zd (by omega) (zd (by omega) (zd (by omega) ?_)))
  rw [Int.toNat_natCast, Int.toNat_natCast, hx]
  exact zi (Ev.now _) (by simp)
 | b :: B, C, he => by
  have he2 : tl s = (A0 ++ C) ++ b :: B := by rw [he]; simp
  have hz := zbG he2
  simp only [List.length_append, List.length_cons] at hz
  have hb := zb3 he2
  rw [List.length_append] at hb
  have hx := zf6 (s := s) (A := A0) (B := C) (C := b :: B) he
  have stop : Ev (fun k => (if 0 ≤ ((A0.length : Nat) : Int) then (if ((A0.length : Nat) : Int) ≤ ((A0.length + C.length : Nat) : Int) then (if ((A0.length + C.length : Nat) : Int) ≤ (s.size : Int) then (some (s.extract ((A0.length : Nat) : Int).toNat (((A0.length + C.length : Nat) : Int)).toNat, s, ((A0.length + C.length : Nat) : Int))) else (none)) else (none)) else (none))) (bx C, s, ((A0.length + C.length : Nat) : Int)) := by
   refine zd (by omega) (zd (by omega) (zd (by omega) ?_))
   rw [Int.toNat_natCast, Int.toNat_natCast, hx]
   exact Ev.now _
  refine zf ?_; simp only [zaL.l0]
  rw [hb]
  refine zd (by omega) (zd (by omega) (zd (by omega) ?_))
  by_cases c1 : 48 ≤ (b.toNat : Int)
  ·refine zd c1 (zd (by omega) (zd (by omega) ?_))
   by_cases c2 : (b.toNat : Int) ≤ 57
   ·refine zd c2 ?_
    have e1 : wrap64 (((A0.length + C.length : Nat) : Int) + 1) = ((A0.length + (C ++ [b]).length : Nat) : Int) := by
     rw [List.length_append, List.length_singleton, w64 (by omega) (by omega)]; omega
    rw [e1]
    clear e1
    have := zjs A0 B (C ++ [b]) (by rw [he]; simp)
    rw [List.append_assoc, List.singleton_append] at this
    rw [List.takeWhile_cons, zcx.2 ⟨c1, c2⟩]
    simpa using this
   ·refine ze c2 ?_
    have : isD b = false := by rw [Bool.eq_false_iff]; intro h; exact c2 (zcx.1 h).2
    rw [List.takeWhile_cons, this]
    simpa using stop
  ·refine ze c1 ?_
   have : isD b = false := by rw [Bool.eq_false_iff]; intro h; exact c1 (zcx.1 h).1
   rw [List.takeWhile_cons, this]
   simpa using stop
theorem zgP {A B : List UInt8} (he : tl s = A ++ B) : Ev (fun k => zaL.f k s (A.length : Int)) (bx (B.takeWhile isD), s, (((A ++ B.takeWhile isD).length : Nat) : Int)) := by
 unfold zaL.f
 have := zjs hs A B [] (by simpa using he)
 simpa using this
theorem zet {A r : List UInt8} {x : UInt8} (he : tl s = A ++ x :: r) {c : ByteArray} (hc : x ∈ tl c) : Ev (fun k => zW.f k s (A.length : Int) c) ((x.toNat : Int), true, s, (((A ++ [x]).length : Nat) : Int)) := by
 have hz := zbG he
 simp only [List.length_cons] at hz
 have hb := zb3 he
 have hi : zcG.f c (x.toNat : Int) = some (Lib.indexByte (tl c) x) := by
  unfold zcG.f zbD.f
  have : ((x.toNat : Int)).toNat.toUInt8 = x := by rw [Int.toNat_natCast]; exact UInt8.ofNat_toNat
  rw [this]; rfl
 have h0 : decide (Lib.indexByte (tl c) x ≥ 0) = true := by
  rcases zil (tl c) x with ⟨_, h2⟩ | ⟨P, Q, _, _, h3⟩
  ·exact absurd hc h2
  ·rw [h3]; exact decide_eq_true (by omega)
 have e1 : wrap64 ((A.length : Int) + 1) = ((A.length + 1 : Nat) : Int) := by rw [w64 (by omega) (by omega)]; omega
 have e2 : wrap64 (((A.length + 1 : Nat) : Int) - 1) = (A.length : Int) := by clear e1; rw [w64 (by omega) (by omega)]; omega
 unfold zW.f
 rw [hb]
 refine zd (by omega) (zd (by omega) (zd (by omega) (zk hi ?_)))
 rw [h0]
 refine zf ?_; simp only [zW.j0]
 rw [e1, e2, hb]
 clear e1 e2
 refine zd trivial (zd (by omega) (zd (by omega) (zi (Ev.now _) ?_)))
 rw [List.length_append]; rfl
theorem zeu {A B : List UInt8} (he : tl s = A ++ B) {c : ByteArray} (hc : ∀ x r, B = x :: r → x ∉ tl c) : Ev (fun k => zW.f k s (A.length : Int) c) (0, false, s, (A.length : Int)) := by
 have hs' := hs
 have hz := zbG he
 have no : Ev (fun k => zW.j0 k s (A.length : Int) false) (0, false, s, (A.length : Int)) := by
  refine zf ?_; simp only [zW.j0]
  exact ze (by simp) (Ev.now _)
 unfold zW.f
 cases B with
 | nil =>
  simp only [List.length_nil] at hz
  exact ze (by omega) no
 | cons x r =>
  simp only [List.length_cons] at hz
  have hb := zb3 he
  have hi : zcG.f c (x.toNat : Int) = some (Lib.indexByte (tl c) x) := by
   unfold zcG.f zbD.f
   have : ((x.toNat : Int)).toNat.toUInt8 = x := by rw [Int.toNat_natCast]; exact UInt8.ofNat_toNat
   rw [this]; rfl
  have h0 : decide (Lib.indexByte (tl c) x ≥ 0) = false := by
   rcases zil (tl c) x with ⟨h2, _⟩ | ⟨P, Q, h3, _, _⟩
   ·rw [h2]; rfl
   ·exact absurd (by rw [h3]; simp) (hc x r rfl)
  rw [hb]
  refine zd (by omega) (zd (by omega) (zd (by omega) (zk hi ?_)))
  rw [h0]
  exact no
end
theorem zhI : ∀ (l : List UInt8) (a : Nat), l.all isD = true → Lib.decFrom a l = some (zg l a)
 | [], a, _ => rfl
 | b :: l, a, h => by
  simp only [List.all_cons, Bool.and_eq_true] at h
  have hb := zcx.1 h.1
  unfold Lib.decFrom
  have hd : Lib.digitVal b = some (b.toNat - 48) := by unfold Lib.digitVal; rw [if_pos (by omega)]
  rw [hd]
  show Lib.decFrom (a * 10 + (b.toNat - 48)) l = _
  rw [zhI l _ h.2]
  show _ = some (zg l (10 * a + (b.toNat - 48)))
  rw [Nat.mul_comm]
theorem zkY {l : List UInt8} (h : l.all isD = true) (h0 : l ≠ []) : Lib.atoi l = some ((zg l 0 : Nat) : Int) := by
 cases l with
 | nil => exact absurd rfl h0
 | cons b r =>
  have hb : isD b = true := by simp only [List.all_cons, Bool.and_eq_true] at h; exact h.1
  have hb := zcx.1 hb
  have n1 : (b == 45) = false := by rw [beq_eq_false_iff_ne]; intro h; rw [h] at hb; exact absurd hb.1 (by decide)
  have n2 : (b == 43) = false := by rw [beq_eq_false_iff_ne]; intro h; rw [h] at hb; exact absurd hb.1 (by decide)
  unfold Lib.atoi
  simp only [n1, n2, Bool.false_eq_true, if_false]
  have : Lib.decNat (b :: r) = some (zg (b :: r) 0) := by
   unfold Lib.decNat
   simp only [List.isEmpty_cons, Bool.false_eq_true, if_false]
   exact zhI _ 0 h
  rw [this]; rfl
theorem zmg (E : List UInt8) : (∃ r, E = 45 :: r ∧ zv E = r ∧ zcv E = true) ∨ (∃ r, E = 43 :: r ∧ zv E = r ∧ zcv E = false) ∨ ((∀ x r, E = x :: r → x ≠ 45 ∧ x ≠ 43) ∧ zv E = E ∧ zcv E = false) := by
 cases E with
 | nil => exact .inr (.inr ⟨by simp, rfl, rfl⟩)
 | cons x r =>
  by_cases c1 : x = 45
  ·subst c1; exact .inl ⟨r, rfl, rfl, rfl⟩
  by_cases c2 : x = 43
  ·subst c2; exact .inr (.inl ⟨r, rfl, rfl, rfl⟩)
  obtain ⟨h1, h2⟩ := zmf (l := x :: r) (by simpa using c1) (by simpa using c2)
  refine .inr (.inr ⟨?_, h2, h1⟩)
  intro y t h
  rw [← (List.cons.inj h).1]
  exact ⟨c1, c2⟩
theorem zoW {l : List UInt8} {p : UInt8 → Bool} (h : l.dropWhile p = []) : l.all p = true ∧ l.takeWhile p = l := by
 have h1 := zcg p l
 rw [h, List.append_nil] at h1
 have h2 := zdF p l
 rw [h1] at h2
 exact ⟨h2, h1⟩
theorem zh0 {l : List UInt8} {p : UInt8 → Bool} (h : l.all p = true) : l.dropWhile p = [] ∧ l.takeWhile p = l := by
 induction l with
 | nil => exact ⟨rfl, rfl⟩
 | cons a l ih =>
  simp only [List.all_cons, Bool.and_eq_true] at h
  obtain ⟨h1, h2⟩ := ih h.2
  simp [h.1, h1, h2]
def zfD (s : ByteArray) (o : Option (List UInt8 × Int)) (r : ByteArray × Int × Bool × ByteArray × Int) : Prop :=
 match o with
 | some (d, x) => r.1 = bx d ∧ r.2.1 = x ∧ r.2.2.1 = true
 | none => r.2.2.1 = false
theorem zhR {s : ByteArray} (hs : s.size ≤ 1000000) {A B d : List UInt8} (he : tl s = A ++ B) {x : Int} (hx : -1000000 ≤ x ∧ x ≤ 1000000) :
  ∃ r, Ev (fun k => zK.j2 k s (A.length : Int) (bx d) x) r ∧ zfD s (zap d x B) r := by
 have hz := zbG he
 have last : ∀ (a : Int) (y : Int), Ev (fun k => zK.j6 k s a (bx d) y) (bx d, y, decide (a = (s.size : Int)), s, a) := by
  intro a y
  refine zf ?_; simp only [zK.j6]
  exact Ev.now _
 by_cases c0 : B.head? = some 101
 ·obtain ⟨E, hB⟩ : ∃ E, B = 101 :: E := by
   cases B with
   | nil => simp at c0
   | cons y E => simp at c0; exact ⟨E, by rw [c0]⟩
  subst hB
  have he2 : tl s = (A ++ [101]) ++ E := by rw [he]; simp
  have ht := zet hs he (c := (⟨#[101]⟩ : ByteArray)) (by simp [tl])
  have hT : zap d x (101 :: E) = if zah E = true then some (d, x + zcw E) else none := by
   unfold zap
   rw [if_neg (by simp)]
   simp
  rw [hT]
  obtain ⟨A2, b, ok, hA2, hsg, hbn⟩ : ∃ (A2 : List UInt8) (b : Int) (ok : Bool), tl s = A2 ++ zv E ∧ Ev (fun k => zW.f k s (((A ++ [101]).length : Nat) : Int) (⟨#[43, 45]⟩ : ByteArray)) (b, ok, s, (A2.length : Int)) ∧ (b = 45 ↔ zcv E = true) := by
   rcases zmg E with ⟨r, h1, h2, h3⟩ | ⟨r, h1, h2, h3⟩ | ⟨h1, h2, h3⟩
   ·subst h1
    refine ⟨A ++ [101] ++ [45], 45, true, by rw [he2, h2]; simp, ?_, by simp [h3]⟩
    exact zet hs he2 (c := (⟨#[43, 45]⟩ : ByteArray)) (by simp [tl])
   ·subst h1
    refine ⟨A ++ [101] ++ [43], 43, true, by rw [he2, h2]; simp, ?_, by simp [h3]⟩
    exact zet hs he2 (c := (⟨#[43, 45]⟩ : ByteArray)) (by simp [tl])
   ·refine ⟨A ++ [101], 0, false, by rw [he2, h2], ?_, by simp [h3]⟩
    refine zeu hs he2 (c := (⟨#[43, 45]⟩ : ByteArray)) ?_
    intro y t h
    have := h1 y t h
    simp [tl, this.1, this.2]
  have hd := zgP hs hA2
  have htw := zcg isD (zv E)
  have hz2 := zbG (s := s) (A := A2 ++ (zv E).takeWhile isD) (B := (zv E).dropWhile isD) (by rw [hA2, List.append_assoc, htw])
  by_cases k1 : (zv E).takeWhile isD = []
  ·have hno : zah E = false := by
    unfold zah
    by_cases c : zv E = []
    ·simp [c]
    ·cases hE : zv E with
     | nil => exact absurd hE c
     | cons y t =>
      rw [hE] at k1
      have : isD y = false := by
       by_cases hy : isD y = true
       ·rw [List.takeWhile_cons, hy] at k1; simp at k1
       ·simpa using hy
      simp [this]
   rw [if_neg (by rw [hno]; simp)]
   refine ⟨((⟨#[]⟩ : ByteArray), 0, false, s, (((A2 ++ (zv E).takeWhile isD).length : Nat) : Int)), ?_, rfl⟩
   refine zf ?_; simp only [zK.j2]
   refine Ev.bind (ht) ?_; try dsimp only
   refine zd rfl ?_
   refine Ev.bind (hsg) ?_; try dsimp only
   refine Ev.bind (hd) ?_; try dsimp only
   exact zd (za3.2 k1) (Ev.now _)
  by_cases k2 : 6 < ((zv E).takeWhile isD).length
  ·have hno : zah E = false := by
    unfold zah
    have h1 := congrArg List.length htw
    rw [List.length_append] at h1
    have : decide ((zv E).length ≤ 6) = false := decide_eq_false (by omega)
    rw [this]; simp
   rw [if_neg (by rw [hno]; simp)]
   refine ⟨((⟨#[]⟩ : ByteArray), 0, false, s, (((A2 ++ (zv E).takeWhile isD).length : Nat) : Int)), ?_, rfl⟩
   refine zf ?_; simp only [zK.j2]
   refine Ev.bind (ht) ?_; try dsimp only
   refine zd rfl ?_
   refine Ev.bind (hsg) ?_; try dsimp only
   refine Ev.bind (hd) ?_; try dsimp only
   refine ze (fun h => k1 (za3.1 h)) (zd ?_ (Ev.now _))
   rw [zu]; omega
  ·have hat := zkY (zdF isD (zv E)) k1
   have hv := zhY (zdF isD (zv E)) (by omega)
   have hsc : zbb.f (bx ((zv E).takeWhile isD)) = some ((zg ((zv E).takeWhile isD) 0 : Nat) : Int) := by
    unfold zbb.f
    rw [if_pos (by rw [zu]; omega)]
    exact hat
   have main : ∃ y : Int, Ev (fun k => zK.j2 k s (A.length : Int) (bx d) x) (bx d, y, decide ((((A2 ++ (zv E).takeWhile isD).length : Nat) : Int) = (s.size : Int)), s, (((A2 ++ (zv E).takeWhile isD).length : Nat) : Int)) ∧ (zah E = true → y = x + zcw E) := by
    refine ⟨x + (if zcv E = true then -((zg ((zv E).takeWhile isD) 0 : Nat) : Int) else ((zg ((zv E).takeWhile isD) 0 : Nat) : Int)), ?_, ?_⟩
    ·refine zf ?_; simp only [zK.j2]
     refine Ev.bind (ht) ?_; try dsimp only
     refine zd rfl ?_
     refine Ev.bind (hsg) ?_; try dsimp only
     refine Ev.bind (hd) ?_; try dsimp only
     refine ze (fun h => k1 (za3.1 h)) (ze (by rw [zu]; omega) ?_)
     refine zk (hsc) ?_; try dsimp only
     by_cases c : b = 45
     ·rw [if_pos (hbn.1 c)]
      refine zd c ?_
      have w : wrap64 (x + wrap64 (-((zg ((zv E).takeWhile isD) 0 : Nat) : Int))) = x + -((zg ((zv E).takeWhile isD) 0 : Nat) : Int) := by
       rw [zfx (by omega) (by omega), zbZ (by omega) (by omega) (by omega) (by omega)]
      rw [w]
      exact last _ _
     ·rw [if_neg (fun h => c (hbn.2 h))]
      refine ze c ?_
      rw [zbZ (by omega) (by omega) (by omega) (by omega)]
      exact last _ _
    ·intro hok
     unfold zah at hok
     simp only [Bool.and_eq_true, decide_eq_true_eq] at hok
     rw [(zh0 hok.2).2]
     rfl
   obtain ⟨y, hy, hyv⟩ := main
   refine ⟨_, hy, ?_⟩
   by_cases hok : zah E = true
   ·rw [if_pos hok]
    refine ⟨rfl, hyv hok, ?_⟩
    unfold zah at hok
    simp only [Bool.and_eq_true, decide_eq_true_eq] at hok
    rw [(zh0 hok.2).1, List.length_nil] at hz2
    exact decide_eq_true (by omega)
   ·rw [if_neg hok]
    refine decide_eq_false ?_
    intro h
    have h3 : (zv E).dropWhile isD = [] := List.eq_nil_of_length_eq_zero (by omega)
    obtain ⟨h4, h5⟩ := zoW h3
    refine hok ?_
    unfold zah
    rw [h5] at k1 k2
    rw [h4, decide_eq_true (show zv E ≠ [] from k1), decide_eq_true (show (zv E).length ≤ 6 by omega)]; rfl
 ·have ht := zeu hs he (c := (⟨#[101]⟩ : ByteArray)) (by intro y t h; rw [h] at c0; simpa [tl] using c0)
  refine ⟨(bx d, x, decide ((A.length : Int) = (s.size : Int)), s, (A.length : Int)), ?_, ?_⟩
  ·refine zf ?_; simp only [zK.j2]
   refine Ev.bind (ht) ?_; try dsimp only
   exact ze (by simp) (last _ _)
  ·unfold zap
   by_cases c1 : B = []
   ·rw [if_pos c1]
    subst c1
    exact ⟨rfl, rfl, decide_eq_true (by rw [List.length_nil] at hz; omega)⟩
   ·rw [if_neg c1, if_neg (fun h => c0 h.1)]
    have : 0 < B.length := by cases B with | nil => exact absurd rfl c1 | cons _ _ => simp
    exact decide_eq_false (by omega)
theorem zlN {s : ByteArray} (hs : s.size ≤ 1000000) {A B : List UInt8} (he : tl s = A ++ B) :
  ∃ r, Ev (fun k => zK.f k s (A.length : Int)) r ∧ zfD s (zai B) r := by
 have hz := zbG he
 have hd := zgP hs he
 have htw := zcg isD B
 unfold zai
 by_cases c0 : B.takeWhile isD = []
 ·rw [if_pos c0]
  refine ⟨((⟨#[]⟩ : ByteArray), 0, false, s, (((A ++ B.takeWhile isD).length : Nat) : Int)), ?_, rfl⟩
  unfold zK.f
  refine Ev.bind (hd) ?_; try dsimp only
  exact zd (za3.2 c0) (Ev.now _)
 rw [if_neg c0]
 have he2 : tl s = (A ++ B.takeWhile isD) ++ B.dropWhile isD := by rw [he, List.append_assoc, htw]
 have hz2 := zbG he2
 by_cases c1 : (B.dropWhile isD).head? = some 46
 ·rw [if_pos c1]
  obtain ⟨r, hr⟩ : ∃ r, B.dropWhile isD = 46 :: r := by
   cases hB : B.dropWhile isD with
   | nil => rw [hB] at c1; simp at c1
   | cons y E => rw [hB] at c1; simp at c1; exact ⟨E, by rw [c1]⟩
  rw [hr] at he2 ⊢
  have ht := zet hs he2 (c := (⟨#[46]⟩ : ByteArray)) (by simp [tl])
  have he3 : tl s = (A ++ B.takeWhile isD ++ [46]) ++ r := by rw [he2]; simp
  have hz3 := zbG he3
  have hd2 := zgP hs he3
  have htw2 := zcg isD r
  have hl2 := congrArg List.length htw2
  rw [List.length_append] at hl2
  simp only [List.length_append, List.length_singleton] at hz3
  show ∃ r_1, _ ∧ zfD s (if r.takeWhile isD = [] then none else zap (B.takeWhile isD ++ r.takeWhile isD) (-((r.takeWhile isD).length : Int)) (r.dropWhile isD)) r_1
  by_cases c2 : r.takeWhile isD = []
  ·rw [if_pos c2]
   refine ⟨((⟨#[]⟩ : ByteArray), 0, false, s, (((A ++ B.takeWhile isD ++ [46] ++ r.takeWhile isD).length : Nat) : Int)), ?_, rfl⟩
   unfold zK.f
   refine Ev.bind (hd) ?_; try dsimp only
   refine ze (fun h => c0 (za3.1 h)) ?_
   refine Ev.bind (ht) ?_; try dsimp only
   refine zd rfl ?_
   refine Ev.bind (hd2) ?_; try dsimp only
   exact zd (za3.2 c2) (Ev.now _)
  rw [if_neg c2]
  have he4 : tl s = (A ++ B.takeWhile isD ++ [46] ++ r.takeWhile isD) ++ r.dropWhile isD := by rw [he3]; simp [htw2]
  obtain ⟨q, hq, hok⟩ := zhR hs he4 (d := B.takeWhile isD ++ r.takeWhile isD) (x := -((r.takeWhile isD).length : Int)) (by omega)
  refine ⟨q, ?_, hok⟩
  unfold zK.f
  refine Ev.bind (hd) ?_; try dsimp only
  refine ze (fun h => c0 (za3.1 h)) ?_
  refine Ev.bind (ht) ?_; try dsimp only
  refine zd rfl ?_
  refine Ev.bind (hd2) ?_; try dsimp only
  refine ze (fun h => c2 (za3.1 h)) (zd (by rw [zu, zu]; omega) ?_)
  have e1 : bx (B.takeWhile isD) ++ bx (r.takeWhile isD) = bx (B.takeWhile isD ++ r.takeWhile isD) := za1.1 (by rw [zjX, zI, zI, zI])
  rw [e1, zu, zfx (by omega) (by omega)]
  exact hq
 ·rw [if_neg c1]
  have ht := zeu hs he2 (c := (⟨#[46]⟩ : ByteArray)) (by intro y t h; rw [h] at c1; simpa [tl] using c1)
  obtain ⟨q, hq, hok⟩ := zhR hs he2 (d := B.takeWhile isD) (x := 0) (by omega)
  refine ⟨q, ?_, hok⟩
  unfold zK.f
  refine Ev.bind (hd) ?_; try dsimp only
  refine ze (fun h => c0 (za3.1 h)) ?_
  refine Ev.bind (ht) ?_; try dsimp only
  exact ze (by simp) hq
theorem zcP (l : List UInt8) : qcB (bx l) = l.map fun b => (b.toNat : Int) := rfl
theorem zgy : ∀ (l : List UInt8) (a : Nat), pvA a (l.map fun b => (b.toNat : Int)) = zg l a
 | [], a => rfl
 | b :: l, a => by
  have e : ((b.toNat : Int) - 48).toNat = b.toNat - 48 := by omega
  rw [List.map_cons, pvA, e, zgy l]
  rfl
theorem zei (l : List UInt8) : pv (qcB (bx l)) = zg l 0 := zgy l 0
theorem zf0 {l : List UInt8} (h : l.all isD = true) : za6 (qcB (bx l)) := by
 intro x hx
 rw [zcP, List.mem_map] at hx
 obtain ⟨b, hb, rfl⟩ := hx
 exact zcx.1 (List.all_eq_true.1 h b hb)
theorem zcU {l : List UInt8} (h : l.all isD = true) : zg l 0 < 10 ^ l.length := by
 have := zjd (zf0 h)
 rw [zei, zcP, List.length_map] at this
 exact this
def tz0 (l : List UInt8) : List UInt8 := l.dropWhile (· == 48)
theorem ze0 (l : List UInt8) : zg (tz0 l) 0 = zg l 0 := by
 induction l with
 | nil => rfl
 | cons b l ih =>
  unfold tz0 at *
  by_cases c : b = 48
  ·subst c; rw [List.dropWhile_cons]; simp only [beq_self_eq_true, if_true]; rw [ih]; rfl
  ·rw [List.dropWhile_cons, if_neg (by simpa using c)]
theorem zg7 {l : List UInt8} (h : l.all isD = true) : (tz0 l).all isD = true := by
 induction l with
 | nil => rfl
 | cons b l ih =>
  have h' := h
  simp only [List.all_cons, Bool.and_eq_true] at h
  unfold tz0 at *
  by_cases c : b = 48
  ·subst c; rw [List.dropWhile_cons]; simpa using ih h.2
  ·rw [List.dropWhile_cons, if_neg (by simpa using c)]; exact h'
theorem zo2 (l : List UInt8) : (tz0 l).length ≤ l.length := by
 have h := congrArg List.length (zcg (· == 48) l)
 rw [List.length_append] at h
 unfold tz0; omega
theorem zg8 {l : List UInt8} {b : UInt8} {r : List UInt8} (h : tz0 l = b :: r) : b ≠ 48 := by
 have := zhZ _ l h
 simpa using this
theorem zgc {l : List UInt8} {b : UInt8} {r : List UInt8} (h : l.all isD = true) (e : tz0 l = b :: r) : isT (qcB (bx (b :: r))) = true := by
 have h1 := zg7 h
 rw [e] at h1
 have h2 := zg8 e
 have hd : decide (za6 (qcB (bx (b :: r)))) = true := decide_eq_true (zf0 h1)
 unfold isT
 rw [hd, zcP]
 have h3 : (b.toNat : Int) ≠ 48 := fun c => h2 (UInt8.toNat_inj.1 (by show _ = 48; omega))
 cases r with
 | nil => rfl
 | cons c t => simp [h3]
theorem zfv {l : List UInt8} (h : l.all isD = true) : tz0 l = [] ↔ zg l 0 = 0 := by
 constructor
 ·intro e; rw [← ze0, e]; rfl
 ·intro e
  cases ht : tz0 l with
  | nil => rfl
  | cons b r =>
   have h1 := zg7 h
   have h2 := zg8 ht
   have h3 := ze0 l
   rw [ht] at h1 h3
   have h4 := zgA (l := qcB (bx (b :: r))) (zf0 h1) (by
    rw [zcP]; show ((b.toNat : Int)) ≠ 48
    exact fun c => h2 (UInt8.toNat_inj.1 (by show _ = 48; omega))) (by rw [zcP]; simp)
   rw [zei] at h4
   have := zaQ ((qcB (bx (b :: r))).length - 1)
   omega
theorem znH {l : List UInt8} (h : l.all isD = true) (hl : l.length ≤ 1200) (h0 : zg l 0 ≠ 0) : zcc (qcB (bx (tz0 l))) = (D (zg l 0), 0) := by
 cases ht : tz0 l with
 | nil => exact absurd ((zfv h).1 ht) h0
 | cons b r =>
  have h3 := ze0 l
  rw [ht] at h3
  unfold zcc
  rw [if_pos (zgc h ht), zei, h3, zdX]
  have h5 := zaf (Nat.le_of_lt (zcU h))
  have h6 := zgx l.length
  omega
theorem zj6 : ∀ (l : List UInt8), l.length ≤ 1000000 → Ev (fun k => zbt.l0 k (bx l) 48) (bx (tz0 l))
 | [], _ => by
  refine zf ?_; simp only [zbt.l0]
  exact ze (by decide) (Ev.now _)
 | b :: l, hl => by
  have hz := zu (b :: l)
  simp only [List.length_cons] at hz hl
  have hb := zb3 (s := bx (b :: l)) (A := []) (B := l) (b := b) (by rw [zI]; rfl)
  rw [List.length_nil, show ((0 : Nat) : Int) = 0 from rfl] at hb
  refine zf ?_; simp only [zbt.l0]
  rw [hb]
  refine zd (by omega) (zd (by omega) ?_)
  by_cases c : b = 48
  ·subst c
   refine zd rfl (zd (by decide) (zd (by omega) ?_))
   have hx := zih (s := bx (48 :: l)) (A := [48]) (B := l) (by rw [zI]; rfl)
   have e1 : (1 : Int).toNat = ([48] : List UInt8).length := rfl
   rw [e1, hx]
   have ih := zj6 l (by omega)
   have e2 : tz0 (48 :: l) = tz0 l := by unfold tz0; rw [List.dropWhile_cons]; simp
   rw [e2]
   exact ih
  ·refine ze (fun h => c (UInt8.toNat_inj.1 (by show _ = 48; omega))) ?_
   have e2 : tz0 (b :: l) = b :: l := by unfold tz0; rw [List.dropWhile_cons, if_neg (by simpa using c)]
   rw [e2]
   exact Ev.now _
theorem zoV {l : List UInt8} (hl : l.length ≤ 1000000) : Ev (fun k => zbH.f k (bx l) (⟨#[48]⟩ : ByteArray)) (bx (tz0 l)) := by
 unfold zbH.f
 by_cases c : l = []
 ·subst c
  exact zd rfl (Ev.now _)
 ·refine ze (fun h => c (za3.1 h)) (ze (by decide) (zd (by decide) (zd (by decide) ?_)))
  have e : decide (bt (⟨#[48]⟩ : ByteArray) 0 < 128) = true := by decide
  have e2 : bt (⟨#[48]⟩ : ByteArray) 0 = 48 := by decide
  rw [e]
  refine zf ?_; simp only [zbH.j2]
  rw [e2]
  refine zd trivial (zd (by decide) ?_)
  unfold zbt.f
  exact Ev.bind (zj6 l hl) (Ev.now _)
theorem zmd {E : List UInt8} (h : zah E = true) : -1000000 < zcw E ∧ zcw E < 1000000 := by
 unfold zah at h
 simp only [Bool.and_eq_true, decide_eq_true_eq] at h
 have := zhY h.2 h.1.2
 unfold zcw
 split <;> omega
theorem zjS {d : List UInt8} {x : Int} {l : List UInt8} {y : List UInt8 × Int} (h : zap d x l = some y) : y.1 = d ∧ x - 1000000 < y.2 ∧ y.2 < x + 1000000 := by
 unfold zap at h
 split at h
 ·cases h; exact ⟨rfl, by omega, by omega⟩
 ·split at h
  ·rename_i h2
   cases h
   have := zmd h2.2
   exact ⟨rfl, by omega, by omega⟩
  ·cases h
theorem zn6 {l : List UInt8} {y : List UInt8 × Int} (h : zai l = some y) : y.1.all isD = true ∧ y.1 ≠ [] ∧ y.1.length ≤ l.length ∧ -(l.length : Int) - 1000000 < y.2 ∧ y.2 < 1000000 := by
 have h1 := congrArg List.length (zcg isD l)
 rw [List.length_append] at h1
 unfold zai at h
 split at h
 ·cases h
 rename_i c0
 split at h
 ·rename_i c1
  obtain ⟨r, hr⟩ : ∃ r, l.dropWhile isD = 46 :: r := by
   cases hB : l.dropWhile isD with
   | nil => rw [hB] at c1; simp at c1
   | cons y E => rw [hB] at c1; simp at c1; exact ⟨E, by rw [c1]⟩
  rw [hr] at h h1
  rw [List.tail_cons] at h
  simp only [List.length_cons] at h1
  have h2 := congrArg List.length (zcg isD r)
  rw [List.length_append] at h2
  split at h
  ·cases h
  obtain ⟨h3, h4, h5⟩ := zjS h
  rw [h3]
  refine ⟨by rw [List.all_append, zdF, zdF]; rfl, fun h => c0 (List.append_eq_nil_iff.1 h).1, ?_, by omega, by omega⟩
  rw [List.length_append]; omega
 ·obtain ⟨h3, h4, h5⟩ := zjS h
  rw [h3]
  exact ⟨zdF _ _, c0, by omega, by omega, by omega⟩
theorem zeN {f m : Int} (h : isF f) (hm : isM m) (s : ByteArray) : Ev (fun k => zbP.f k f m s) (zx f m (tl s)) := by
 unfold zbP.f zx
 refine Ev.bind (zfG h hm false) (ze (by simp) ?_)
 by_cases c0 : 1200 < (tl s).length
 ·rw [if_pos c0]
  exact zd (by rw [zew]; omega) (Ev.now _)
 rw [if_neg c0]
 refine ze (by rw [zew]; omega) ?_
 by_cases c1 : s = (⟨#[110, 97, 110]⟩ : ByteArray)
 ·rw [if_pos (by rw [c1]; rfl)]
  exact zd c1 (Ev.bind (zpq h) (Ev.now _))
 rw [if_neg (fun h => c1 (za1.1 (by rw [h]; rfl)))]
 refine ze c1 ?_
 have hs : s.size ≤ 1200 := by rw [zew]; omega
 obtain ⟨A, b, hA, ht⟩ : ∃ (A : List UInt8) (b : Int), tl s = A ++ z8 (tl s) ∧ Ev (fun k => zW.f k s 0 (⟨#[45]⟩ : ByteArray)) (b, za8 (tl s), s, (A.length : Int)) := by
  cases hl : tl s with
  | nil =>
   refine ⟨[], 0, rfl, ?_⟩
   exact zeu (A := []) (B := []) (by omega) (by rw [hl]; rfl) (by simp)
  | cons x r =>
   by_cases c2 : x = 45
   ·subst c2
    refine ⟨[45], 45, rfl, ?_⟩
    exact zet (A := []) (r := r) (x := 45) (by omega) (by rw [hl]; rfl) (by simp [tl])
   ·have n1 : za8 (x :: r) = false := by
     unfold za8; split
     ·rename_i h; exact absurd (List.cons.inj h).1 c2
     ·rfl
    have n2 : z8 (x :: r) = x :: r := by
     unfold z8; split
     ·rename_i h; exact absurd (List.cons.inj h).1 c2
     ·rfl
    rw [n1, n2]
    refine ⟨[], 0, rfl, ?_⟩
    exact zeu (A := []) (B := x :: r) (by omega) (by rw [hl]; rfl) (by intro y t h; rw [← (List.cons.inj h).1]; simpa [tl] using c2)
 refine Ev.bind (ht) ?_; try dsimp only
 have hz := zbG hA
 refine zd (by omega) (zd (by omega) ?_)
 rw [Int.toNat_natCast, zih hA]
 unfold zdj
 by_cases c2 : z8 (tl s) = [105, 110, 102]
 ·rw [if_pos c2]
  exact zd (by rw [c2]; rfl) (Ev.bind (zkm h _) (Ev.now _))
 rw [if_neg c2]
 refine ze (fun h => c2 (za1.2 h)) ?_
 obtain ⟨q, hq, hok⟩ := zlN (by omega) hA
 refine Ev.bind (hq) ?_; try dsimp only
 cases ho : zai (z8 (tl s)) with
 | none =>
  rw [ho] at hok
  have hok : q.2.2.1 = false := hok
  rw [hok]
  exact zd rfl (Ev.now _)
 | some y =>
  rw [ho] at hok
  obtain ⟨k1, k2, k3⟩ : q.1 = bx y.1 ∧ q.2.1 = y.2 ∧ q.2.2.1 = true := hok
  obtain ⟨b1, b2, b3, b4, b5⟩ := zn6 ho
  rw [k1, k2, k3]
  refine ze (by simp) ?_
  have hl : y.1.length ≤ 1200 := by omega
  refine Ev.bind (zoV (l := y.1) (by omega)) ?_; try dsimp only
  show Ev _ (zby f m (za8 (tl s)) (zg y.1 0) y.2)
  unfold zby
  by_cases c3 : zg y.1 0 = 0
  ·rw [if_pos c3]
   refine zd (za3.2 ((zfv b1).2 c3)) ?_
   refine Ev.bind (zkn h _) ?_; try dsimp only
   exact Ev.now _
  ·rw [if_neg c3]
   refine ze (fun h => c3 ((zfv b1).1 (za3.1 h))) ?_
   have hp := ziO (s := bx (tz0 y.1)) (by rw [zu]; have := zo2 y.1; omega)
   rw [znH b1 hl c3] at hp
   refine Ev.bind (hp) ?_; try dsimp only
   have hr := zhQ h hm (za8 (tl s)) c3 (p := y.1.length) hl (zcU b1) y.2
   refine Ev.bind (hr) ?_; try dsimp only
   exact Ev.now _
theorem znG {l : List UInt8} (h : isT (qcB (bx l)) = true) (hd : l.all isD = true) (hl : l.length ≤ 20000) : zcc (qcB (bx l)) = (D (zg l 0), 0) := by
 unfold zcc
 rw [if_pos h, zei, zdX]
 have h5 := zaf (Nat.le_of_lt (zcU hd))
 have h6 := zgx l.length
 omega
section
variable {s : ByteArray} (hs : s.size ≤ 1000000000000000) (a : Bool) (b : ByteArray) (c : List Int) (d : Int)
include hs
end
def dx (n : Nat) : List UInt8 := tl (qfU (txt n))
theorem zjM (n : Nat) : qfU (txt n) = bx (dx n) := (zle _).symm
theorem ze1 (n : Nat) : (dx n).map (fun b => (b.toNat : Int)) = txt n := zlb n
theorem zbo (n : Nat) : (dx n).all isD = true := by
 rw [List.all_eq_true]
 intro b hb
 have : ((b.toNat : Int)) ∈ txt n := by rw [← ze1]; exact List.mem_map.2 ⟨b, hb, rfl⟩
 exact zcx.2 (zkb n _ this)
theorem zb5 (n : Nat) : zg (dx n) 0 = n := by rw [← zgy, ze1]; exact znW n
theorem zjZ {a b : UInt8} (h : (a.toNat : Int) = (b.toNat : Int)) : a = b := UInt8.toNat_inj.1 (by omega)
theorem zd4 {l r : List UInt8} {b : UInt8} (h : l.all isD = true) (e : l = b :: r) (hb : b ≠ 48) : dx (zg l 0) = l := by
 have e1 : tz0 l = b :: r := by
  subst e
  unfold tz0
  rw [List.dropWhile_cons, if_neg (by simpa using hb)]
 have h1 := zo1 (zgc h e1)
 rw [← e, zei] at h1
 have h2 := (ze1 (zg l 0)).trans h1
 rw [zcP] at h2
 exact (List.map_inj_right (fun x y hxy => zjZ hxy)).1 h2
theorem zag {n : Nat} (h : n ≠ 0) : ∃ b r, dx n = b :: r ∧ b ≠ 48 := by
 cases e : tz0 (dx n) with
 | nil => exact absurd ((zfv (zbo n)).1 e) (by rw [zb5]; exact h)
 | cons b r =>
  have hb := zg8 e
  have h1 := zg7 (zbo n)
  have h2 := ze0 (dx n)
  rw [e] at h1 h2
  rw [zb5] at h2
  have h3 := zd4 h1 rfl hb
  rw [h2] at h3
  exact ⟨b, r, h3, hb⟩
theorem zd5 {n : Nat} (h : n ≠ 0) : 0 < (dx n).length := by
 obtain ⟨b, r, e, _⟩ := zag h
 rw [e]; simp
theorem zh2 {n k : Nat} (h : n < 10 ^ k) (hk : 1 ≤ k) : (dx n).length ≤ k := by
 have := zo0 h hk
 rw [← ze1, List.length_map] at this
 exact this
theorem zh3 (n : Nat) : n < 10 ^ (dx n).length := by
 have := zcU (zbo n)
 rwa [zb5] at this
theorem zbR {b : UInt8} (h : isD b = true) : 48 ≤ b.toNat ∧ b.toNat ≤ 57 := by
 have := zcx.1 h
 omega
theorem zbQ (b : UInt8) (r : List UInt8) : zg (b :: r) 0 = (b.toNat - 48) * 10 ^ r.length + zg r 0 := by
 have e : zg (b :: r) 0 = zg r (10 * 0 + (b.toNat - 48)) := rfl
 rw [e, zhX]; simp
theorem zcj {b : UInt8} {r : List UInt8} (h : (b :: r).all isD = true) : isD b = true ∧ r.all isD = true := by
 simpa only [List.all_cons, Bool.and_eq_true] using h
theorem zbw {a b : List UInt8} (h : (a ++ b).all isD = true) : a.all isD = true ∧ b.all isD = true := by
 simpa only [List.all_append, Bool.and_eq_true] using h
theorem zfg {b : UInt8} (h : isD b = true) (hb : b ≠ 48) : 49 ≤ b.toNat := by
 have h1 := zbR h
 have h2 : b.toNat ≠ 48 := fun c => hb (UInt8.toNat_inj.1 (by rw [c]; rfl))
 omega
theorem zh1 {n : Nat} (h : n ≠ 0) : 10 ^ ((dx n).length - 1) ≤ n := by
 obtain ⟨b, r, e, hb⟩ := zag h
 have h1 := zbo n
 have h2 := zb5 n
 rw [e] at h1 h2 ⊢
 rw [zbQ] at h2
 have h3 := zfg (zcj h1).1 hb
 have h4 : 1 * 10 ^ r.length ≤ (b.toNat - 48) * 10 ^ r.length := Nat.mul_le_mul_right _ (by omega)
 have h5 : (b :: r).length - 1 = r.length := by simp
 rw [h5]
 omega
theorem zbA (a b : List UInt8) : zg (a ++ b) 0 = zg a 0 * 10 ^ b.length + zg b 0 := by rw [zlU, zhX]
theorem zcV : ∀ j : Nat, zg (List.replicate j 48) 0 = 0
 | 0 => rfl
 | j + 1 => by rw [List.replicate_succ, zbQ, zcV j, show (48 : UInt8).toNat - 48 = 0 from rfl, Nat.zero_mul]
theorem zh4 {n : Nat} (h : n ≠ 0) {A B : List UInt8} (e : dx n = A ++ B) (hA : A ≠ []) : dx (n / 10 ^ B.length) = A ∧ n % 10 ^ B.length = zg B 0 := by
 have h1 := zbo n
 have h2 := zb5 n
 obtain ⟨b, r, e2, hb⟩ := zag h
 rw [e] at h1 h2 e2
 rw [zbA] at h2
 have h3 := zcU (zbw h1).2
 have hd : n / 10 ^ B.length = zg A 0 := by
  rw [← h2, Nat.mul_comm, Nat.mul_add_div (Nat.pow_pos (by omega)), Nat.div_eq_of_lt h3]; omega
 have hm : n % 10 ^ B.length = zg B 0 := by
  rw [← h2, Nat.mul_comm, Nat.mul_add_mod, Nat.mod_eq_of_lt h3]
 refine ⟨?_, hm⟩
 cases A with
 | nil => exact absurd rfl hA
 | cons a A =>
  rw [hd]
  have : a = b := (List.cons.inj e2).1
  exact zd4 (zbw h1).1 rfl (this ▸ hb)
theorem zfK (j : Nat) : (List.replicate j (48 : UInt8)).all isD = true := by
 rw [List.all_eq_true]
 intro x hx
 rw [(List.mem_replicate.1 hx).2]; decide
theorem zh5 {n : Nat} (h : n ≠ 0) (j : Nat) : dx (n * 10 ^ j) = dx n ++ List.replicate j 48 := by
 obtain ⟨b, r, e, hb⟩ := zag h
 have h1 : (dx n ++ List.replicate j 48).all isD = true := by rw [List.all_append, zbo, zfK]; rfl
 have h2 := zd4 (b := b) (r := r ++ List.replicate j 48) h1 (by rw [e]; rfl) hb
 rw [zbA, zb5, zcV, List.length_replicate] at h2
 exact h2
def tr (l : List UInt8) : List UInt8 := (l.reverse.dropWhile (· == 48)).reverse
theorem zg0 (l : List UInt8) : tr (l ++ [48]) = tr l := by unfold tr; rw [List.reverse_append]; rfl
theorem zg2 (l : List UInt8) {d : UInt8} (h : d ≠ 48) : tr (l ++ [d]) = l ++ [d] := by
 unfold tr
 rw [List.reverse_append]
 show ((d :: l.reverse).dropWhile (· == 48)).reverse = _
 rw [List.dropWhile_cons, if_neg (by simpa using h)]
 simp
theorem zg1 (l : List UInt8) : ∀ j : Nat, tr (l ++ List.replicate j 48) = tr l
 | 0 => by simp
 | j + 1 => by rw [List.replicate_succ', ← List.append_assoc, zg0, zg1 l j]
theorem zc4 (l : List UInt8) : ∃ j, l = tr l ++ List.replicate j 48 := by
 rcases List.eq_nil_or_concat l with rfl | ⟨a, d, rfl⟩
 ·exact ⟨0, rfl⟩
 ·rw [List.concat_eq_append]
  by_cases c : d = 48
  ·subst c
   rw [zg0]
   obtain ⟨j, hj⟩ := zc4 a
   refine ⟨j + 1, ?_⟩
   rw [List.replicate_succ', ← List.append_assoc, ← hj]
  ·exact ⟨0, by rw [zg2 _ c]; simp⟩
termination_by l.length
decreasing_by subst_vars; simp
theorem zoU {l A : List UInt8} {d : UInt8} (h : tr l = A ++ [d]) : d ≠ 48 := by
 have h1 : l.reverse.dropWhile (· == 48) = d :: A.reverse := by
  have := congrArg List.reverse h
  unfold tr at this
  rw [List.reverse_reverse, List.reverse_append] at this
  exact this
 have := zhZ _ _ h1
 simpa using this
theorem zbd {l r : List UInt8} {b : UInt8} (e : l = b :: r) (hb : b ≠ 48) : ∃ r', tr l = b :: r' := by
 obtain ⟨j, hj⟩ := zc4 l
 cases h : tr l with
 | nil =>
  rw [h, e] at hj
  cases j with
  | zero => cases hj
  | succ j => rw [List.replicate_succ] at hj; exact absurd (List.cons.inj hj).1 hb
 | cons c r' =>
  rw [h, e] at hj
  exact ⟨r', by rw [(List.cons.inj hj).1]⟩
theorem zbI (l : List UInt8) : (tr l).length ≤ l.length := by
 obtain ⟨j, hj⟩ := zc4 l
 have := congrArg List.length hj
 rw [List.length_append] at this
 omega
theorem zdE {l : List UInt8} (h : l.all isD = true) : (tr l).all isD = true := by
 obtain ⟨j, hj⟩ := zc4 l
 rw [hj] at h
 exact (zbw h).1
theorem zlX (l : List UInt8) : zg l 0 = zg (tr l) 0 * 10 ^ (l.length - (tr l).length) := by
 obtain ⟨j, hj⟩ := zc4 l
 have h1 := congrArg List.length hj
 rw [List.length_append, List.length_replicate] at h1
 have h2 := congrArg (fun x => zg x 0) hj
 simp only [zbA, zcV, List.length_replicate] at h2
 rw [show l.length - (tr l).length = j by omega, h2]; rfl
theorem zhW {l : List UInt8} (h : l.all isD = true) {A B : List UInt8} (e : l = A ++ B) : zg B 0 ≠ 0 ↔ A.length < (tr l).length := by
 obtain ⟨j, hj⟩ := zc4 l
 constructor
 ·intro hB
  apply Nat.lt_of_not_le
  intro hle
  apply hB
  have e1 : A ++ B = tr l ++ List.replicate j 48 := e ▸ hj
  obtain ⟨C, hC⟩ : ∃ C, A = tr l ++ C := by
   refine ⟨A.drop (tr l).length, ?_⟩
   have h2 := congrArg (List.take (tr l).length) e1
   rw [List.take_append_of_le_length hle, List.take_append_of_le_length (Nat.le_refl _), List.take_length] at h2
   rw [← h2]
   exact (by
    have := List.take_append_drop (tr l).length A
    rw [h2] at this ⊢
    exact this.symm)
  rw [hC, List.append_assoc] at e1
  have e2 := List.append_cancel_left e1
  have h3 : ∀ x ∈ B, x = 48 := fun x hx => (List.mem_replicate.1 (e2 ▸ List.mem_append_right C hx)).2
  rw [List.eq_replicate_of_mem h3, zcV]
 ·intro hlt hB
  rcases List.eq_nil_or_concat (tr l) with h0 | ⟨a, d, h0⟩
  ·rw [h0] at hlt; simp at hlt
  ·rw [List.concat_eq_append] at h0
   have hd := zoU h0
   rw [h0] at hlt hj
   have e1 : A ++ B = a ++ ([d] ++ List.replicate j 48) := by rw [← e, hj, List.append_assoc]
   have hla : A.length ≤ a.length := by simp at hlt; omega
   obtain ⟨C, hC⟩ : ∃ C, a = A ++ C := by
    refine ⟨a.drop A.length, ?_⟩
    have h2 := congrArg (List.take A.length) e1
    rw [List.take_append_of_le_length (Nat.le_refl _), List.take_length, List.take_append_of_le_length hla] at h2
    have := List.take_append_drop A.length a
    rw [← h2] at this
    exact this.symm
   rw [hC, List.append_assoc] at e1
   have e2 := List.append_cancel_left e1
   have hdd : isD d = true := by
    have := zdE h
    rw [h0] at this
    simpa using (zbw this).2
   have hd1 := zfg hdd hd
   rw [e2, ← List.append_assoc, zbA, zcV, zbA, zbQ] at hB
   have hp : 0 < 10 ^ (List.replicate j (48 : UInt8)).length := Nat.pow_pos (by omega)
   have : 0 < (zg C 0 * 10 ^ [d].length + ((d.toNat - 48) * 10 ^ ([] : List UInt8).length + zg [] 0)) * 10 ^ (List.replicate j (48 : UInt8)).length := by
    apply Nat.mul_pos _ hp
    have : zg ([] : List UInt8) 0 = 0 := rfl
    simp only [List.length_nil, Nat.pow_zero, Nat.mul_one]
    omega
   omega
theorem zf2 : ∀ j : Nat, zg (List.replicate j 57) 0 + 1 = 10 ^ j
 | 0 => rfl
 | j + 1 => by
  have := zf2 j
  rw [List.replicate_succ, zbQ, List.length_replicate, Nat.pow_succ, show (57 : UInt8).toNat - 48 = 9 from rfl]
  omega
theorem zim {d : UInt8} (h : isD d = true) (hd : d ≠ 57) : isD (d + 1) = true ∧ (d + 1).toNat = d.toNat + 1 ∧ d + 1 ≠ 48 := by
 have h1 := zbR h
 have h2 : d.toNat ≠ 57 := fun c => hd (UInt8.toNat_inj.1 (by rw [c]; rfl))
 have e : (d + 1).toNat = d.toNat + 1 := by rw [UInt8.toNat_add]; show (d.toNat + 1) % 256 = _; omega
 refine ⟨decide_eq_true (by omega), e, fun c => ?_⟩
 rw [c] at e
 have : (48 : UInt8).toNat = 48 := rfl
 omega
theorem zlY {A : List UInt8} {d : UInt8} {j : Nat} (hA : (A ++ [d]).all isD = true) (hd : d ≠ 57) (h0 : ∀ b r, A ++ [d] = b :: r → b ≠ 48) :
  dx (zg (A ++ [d] ++ List.replicate j 57) 0 + 1) = A ++ [d + 1] ++ List.replicate j 48 ∧ tr (dx (zg (A ++ [d] ++ List.replicate j 57) 0 + 1)) = A ++ [d + 1] := by
 obtain ⟨a1, a2⟩ := zbw hA
 have hdd : isD d = true := by simpa using a2
 obtain ⟨u1, u2, u3⟩ := zim hdd hd
 have l1 := zbR hdd
 have e1 : zg (A ++ [d + 1]) 0 = zg (A ++ [d]) 0 + 1 := by
  rw [zbA, zbA, zbQ, zbQ, u2]
  show _ * 10 ^ 1 + ((d.toNat + 1 - 48) * 10 ^ 0 + 0) = _ * 10 ^ 1 + ((d.toNat - 48) * 10 ^ 0 + 0) + 1
  omega
 have e2 : zg (A ++ [d] ++ List.replicate j 57) 0 + 1 = zg (A ++ [d + 1]) 0 * 10 ^ j := by
  rw [zbA, List.length_replicate, Nat.add_assoc, zf2, e1, Nat.add_mul]; omega
 have h2 : (A ++ [d + 1]).all isD = true := by rw [List.all_append, a1]; simpa using u1
 obtain ⟨b, r, hb, hb0⟩ : ∃ b r, A ++ [d + 1] = b :: r ∧ b ≠ 48 := by
  cases A with
  | nil => exact ⟨d + 1, [], rfl, u3⟩
  | cons b r => exact ⟨b, r ++ [d + 1], rfl, h0 b (r ++ [d]) rfl⟩
 have h3 : dx (zg (A ++ [d + 1]) 0) = A ++ [d + 1] := zd4 h2 hb hb0
 have h4 : zg (A ++ [d + 1]) 0 ≠ 0 := by rw [e1]; omega
 have h5 : dx (zg (A ++ [d] ++ List.replicate j 57) 0 + 1) = A ++ [d + 1] ++ List.replicate j 48 := by rw [e2, zh5 h4, h3]
 exact ⟨h5, by rw [h5, zg1, zg2 _ u3]⟩
theorem zlZ {j : Nat} (hj : 0 < j) : dx (zg (List.replicate j 57) 0 + 1) = 49 :: List.replicate j 48 ∧ tr (dx (zg (List.replicate j 57) 0 + 1)) = [49] := by
 have h1 : dx 1 = [49] := zd4 (l := [49]) (r := []) (b := 49) (by decide) rfl (by decide)
 have h5 : dx (zg (List.replicate j 57) 0 + 1) = [49] ++ List.replicate j 48 := by
  rw [zf2, ← Nat.one_mul (10 ^ j), zh5 (by omega), h1]
 exact ⟨h5, by rw [h5, zg1]; rfl⟩
def hlf (r p : Nat) : Int := if 2 * r < p then -1 else if p < 2 * r then 1 else 0
theorem zms {d : UInt8} {Rr : List UInt8} (h : (d :: Rr).all isD = true) : hlf (zg (d :: Rr) 0) (10 ^ (d :: Rr).length) =
  if d.toNat < 53 then -1 else if 53 < d.toNat then 1 else if zg Rr 0 ≠ 0 then 1 else 0 := by
 obtain ⟨h1, h2⟩ := zcj h
 have l1 := zbR h1
 have l2 := zcU h2
 have e : 10 ^ (d :: Rr).length = 10 * 10 ^ Rr.length := by rw [List.length_cons, Nat.pow_succ]; omega
 rw [zbQ, e]
 obtain ⟨p, hp⟩ : ∃ p, p = 10 ^ Rr.length := ⟨_, rfl⟩
 obtain ⟨v, hv⟩ : ∃ v, v = zg Rr 0 := ⟨_, rfl⟩
 rw [← hp, ← hv] at l2 ⊢
 unfold hlf
 by_cases c1 : d.toNat < 53
 ·have : (d.toNat - 48) * p ≤ 4 * p := Nat.mul_le_mul_right _ (by omega)
  rw [if_pos c1, if_pos (by omega)]
 ·rw [if_neg c1]
  by_cases c2 : 53 < d.toNat
  ·have : 6 * p ≤ (d.toNat - 48) * p := Nat.mul_le_mul_right _ (by omega)
   rw [if_pos c2, if_neg (by omega), if_pos (by omega)]
  ·have e5 : d.toNat - 48 = 5 := by omega
   rw [if_neg c2, e5, if_neg (by omega)]
   by_cases c3 : v ≠ 0
   ·rw [if_pos c3, if_pos (by omega)]
   ·rw [if_neg c3, if_neg (by omega)]
def zaY (s : Bool) (d : List UInt8) (x : Int) : List UInt8 := sgT s ++
  (if x < -5 ∨ x > 20 then d.take 1 ++ (if 1 < d.length then 46 :: d.drop 1 else []) ++ 101 :: etx x
   else if x < 0 then 48 :: 46 :: (List.replicate (-x - 1).toNat 48 ++ d)
   else if x + 1 < (d.length : Int) then d.take (x + 1).toNat ++ 46 :: d.drop (x + 1).toNat
   else d ++ List.replicate (x + 1 - (d.length : Int)).toNat 48)
def za2 (s : Bool) (q : Nat) (x : Int) : List UInt8 := zaY s (tr (dx q)) (x + ((dx q).length : Nat) - 1)
theorem zg3 {A T : List UInt8} (hA : A.all isD = true) (hT : ∀ c r, T = c :: r → isD c = false) : (A ++ T).takeWhile isD = A ∧ (A ++ T).dropWhile isD = T := by
 have h := fun a ha => List.all_eq_true.1 hA a ha
 rw [List.takeWhile_append_of_pos h, List.dropWhile_append_of_pos h]
 cases T with
 | nil => simp
 | cons c r => rw [List.takeWhile_cons, List.dropWhile_cons, hT c r rfl]; simp
theorem zji {A T : List UInt8} (hA : A.all isD = true) (h0 : A ≠ []) (hT : ∀ c r, T = c :: r → isD c = false ∧ c ≠ 46) : zai (A ++ T) = zap A 0 T := by
 obtain ⟨e1, e2⟩ := zg3 hA fun c r e => (hT c r e).1
 unfold zai
 rw [e1, e2, if_neg h0, if_neg]
 cases T with
 | nil => simp
 | cons c r => simpa using (hT c r rfl).2
theorem zgF {A B T : List UInt8} (hA : A.all isD = true) (h0 : A ≠ []) (hB : B.all isD = true) (h1 : B ≠ []) (hT : ∀ c r, T = c :: r → isD c = false) : zai (A ++ 46 :: (B ++ T)) = zap (A ++ B) (-(B.length : Int)) T := by
 obtain ⟨e1, e2⟩ := zg3 (T := 46 :: (B ++ T)) hA fun c r e => by rw [← (List.cons.inj e).1]; decide
 obtain ⟨e3, e4⟩ := zg3 hB hT
 unfold zai
 rw [e1, e2, if_neg h0, if_pos (show (46 :: (B ++ T)).head? = some 46 from rfl), List.tail_cons, e3, e4, if_neg h1]
theorem zjT (d : List UInt8) (y : Int) {x : Int} (h1 : -1100 ≤ x) (h2 : x < 1100) : zap d y (101 :: etx x) = some (d, y + x) := by
 obtain ⟨h3, h4⟩ := zl7 h1 h2
 unfold zap
 rw [if_neg (by simp), if_pos ⟨rfl, h3⟩, List.tail_cons, h4]
theorem zeR {l : List UInt8} (h : l.all isD = true) (n : Nat) : (l.take n).all isD = true := by
 rw [List.all_eq_true] at *
 exact fun x hx => h x (List.mem_of_mem_take hx)
theorem zhp {l : List UInt8} (h : l.all isD = true) (n : Nat) : (l.drop n).all isD = true := by
 rw [List.all_eq_true] at *
 exact fun x hx => h x (List.mem_of_mem_drop hx)
theorem zn7 {d r : List UInt8} {b : UInt8} (hd : d.all isD = true) (e : d = b :: r) {x : Int} (h1 : -1100 ≤ x) (h2 : x < 1100) :
  ∃ (E : List UInt8) (X : Int) (i : Nat), zai (zaY false d x) = some (E, X) ∧ zg E 0 = zg d 0 * 10 ^ i ∧ X + i = x - (d.length : Int) + 1 := by
 have hlen : d.length = r.length + 1 := by rw [e]; simp
 unfold zaY
 rw [show sgT false = [] from rfl, List.nil_append]
 by_cases c1 : x < -5 ∨ x > 20
 ·rw [if_pos c1]
  by_cases c2 : 1 < d.length
  ·rw [if_pos c2, List.append_assoc, List.cons_append, zgF (zeR hd 1) (by rw [e]; simp) (zhp hd 1) (by rw [e, List.drop_one, List.tail_cons]; intro c; rw [c] at hlen; simp at hlen; omega) (fun c r hc => by rw [← (List.cons.inj hc).1]; decide), zjT _ _ h1 h2, List.take_append_drop]
   refine ⟨_, _, 0, rfl, by simp, ?_⟩
   rw [List.length_drop]; omega
  ·rw [if_neg c2, List.append_nil, zji (zeR hd 1) (by rw [e]; simp) (fun c r hc => by rw [← (List.cons.inj hc).1]; decide), zjT _ _ h1 h2, List.take_of_length_le (by omega)]
   exact ⟨_, _, 0, rfl, by simp, by omega⟩
 rw [if_neg c1]
 by_cases c2 : x < 0
 ·rw [if_pos c2]
  have := zgF (A := [48]) (B := List.replicate (-x - 1).toNat 48 ++ d) (T := []) (by decide) (by simp) (by rw [List.all_append, zfK, hd]; rfl) (by rw [e]; simp) (by simp)
  rw [List.append_nil] at this
  rw [show (48 : UInt8) :: 46 :: (List.replicate (-x - 1).toNat 48 ++ d) = [48] ++ 46 :: (List.replicate (-x - 1).toNat 48 ++ d) from rfl, this]
  refine ⟨_, _, 0, by unfold zap; rw [if_pos rfl], ?_, ?_⟩
  ·rw [show [48] ++ (List.replicate (-x - 1).toNat 48 ++ d) = List.replicate ((-x - 1).toNat + 1) 48 ++ d by rw [List.replicate_succ]; rfl, zbA, zcV]; simp
  ·rw [List.length_append, List.length_replicate]; omega
 rw [if_neg c2]
 by_cases c3 : x + 1 < (d.length : Int)
 ·rw [if_pos c3]
  have := zgF (A := d.take (x + 1).toNat) (B := d.drop (x + 1).toNat) (T := []) (zeR hd _) (by rw [e, show (x + 1).toNat = x.toNat + 1 by omega]; simp) (zhp hd _) (by intro c; have := congrArg List.length c; rw [List.length_drop] at this; simp at this; omega) (by simp)
  rw [List.append_nil] at this
  rw [this, List.take_append_drop]
  refine ⟨_, _, 0, by unfold zap; rw [if_pos rfl], by simp, ?_⟩
  rw [List.length_drop]; omega
 ·rw [if_neg c3]
  have := zji (A := d ++ List.replicate (x + 1 - (d.length : Int)).toNat 48) (T := []) (by rw [List.all_append, zfK, hd]; rfl) (by rw [e]; simp) (by simp)
  rw [List.append_nil] at this
  rw [this]
  refine ⟨_, _, (x + 1 - (d.length : Int)).toNat, by unfold zap; rw [if_pos rfl], ?_, by omega⟩
  rw [zbA, zcV, List.length_replicate]; simp
theorem zhM {f m : Int} (h : isF f) (s : Bool) {n : Nat} (hn : n ≠ 0) (i : Nat) (x : Int) : zp f m s (n * 10 ^ i) x = zp f m s n (x + i) := by
 unfold zp
 have hp : ∀ j : Nat, 0 < 10 ^ j := fun j => Nat.pow_pos (by omega)
 refine zoj h s (Nat.mul_ne_zero (Nat.mul_ne_zero hn (Nat.ne_of_gt (hp _))) (Nat.ne_of_gt (hp _))) (Nat.mul_ne_zero hn (Nat.ne_of_gt (hp _))) (hp _) (hp _) ?_ 0
 rw [Nat.mul_assoc n, Nat.mul_assoc n, Nat.mul_assoc n, ← Nat.pow_add, ← Nat.pow_add, ← Nat.pow_add]
 congr 2; omega
theorem zgw (s : Bool) (d : List UInt8) (x : Int) : zaY s d x = sgT s ++ zaY false d x := rfl
theorem zgu {d r : List UInt8} {b : UInt8} (hd : d.all isD = true) (e : d = b :: r) (x : Int) : ∃ c t, zaY false d x = c :: t ∧ isD c = true := by
 have hb : isD b = true := by rw [e] at hd; exact (zcj hd).1
 subst e
 unfold zaY
 rw [show sgT false = [] from rfl, List.nil_append]
 by_cases c1 : x < -5 ∨ x > 20
 ·rw [if_pos c1]; exact ⟨b, _, rfl, hb⟩
 rw [if_neg c1]
 by_cases c2 : x < 0
 ·rw [if_pos c2]; exact ⟨48, _, rfl, by decide⟩
 rw [if_neg c2]
 by_cases c3 : x + 1 < ((b :: r).length : Int)
 ·rw [if_pos c3, show (x + 1).toNat = x.toNat + 1 by omega]; exact ⟨b, _, rfl, hb⟩
 ·rw [if_neg c3]; exact ⟨b, _, rfl, hb⟩
theorem zhO {f m : Int} {s : Bool} {c : UInt8} {t : List UInt8} (hc : isD c = true) (hl : (c :: t).length ≤ 1199) {E : List UInt8} {X : Int} (hr : zai (c :: t) = some (E, X)) : zx f m (sgT s ++ c :: t) = zby f m s (zg E 0) X := by
 have hb := zbR hc
 have c45 : c ≠ 45 := fun h => by rw [h] at hb; revert hb; decide
 have c110 : c ≠ 110 := fun h => by rw [h] at hb; revert hb; decide
 have c105 : c ≠ 105 := fun h => by rw [h] at hb; revert hb; decide
 obtain ⟨e1, e2⟩ := ziT (s := s) (r := t) c45
 have hs := zdz s
 unfold zx zdj
 rw [if_neg (by rw [List.length_append]; omega), if_neg (ziV c110), e1, e2, if_neg (fun h => c105 (List.cons.inj h).1), hr]
 rfl
theorem zlM {f m : Int} (h : isF f) (s : Bool) {d r : List UInt8} {b : UInt8} (hd : d.all isD = true) (e : d = b :: r) (hb : b ≠ 48) {x : Int} (h1 : -1100 ≤ x) (h2 : x < 1100) (hl : (zaY false d x).length ≤ 1199) :
  zx f m (zaY s d x) = ((zp f m s (zg d 0) (x - (d.length : Int) + 1)).1, (zp f m s (zg d 0) (x - (d.length : Int) + 1)).2, 0) := by
 obtain ⟨c, t, h3, h4⟩ := zgu hd e x
 obtain ⟨E, X, i, h5, h6, h7⟩ := zn7 hd e h1 h2
 have h0 : zg d 0 ≠ 0 := by
  have := hd
  rw [e] at this ⊢
  rw [zbQ]
  have := zfg (zcj this).1 hb
  have hp : 0 < 10 ^ r.length := Nat.pow_pos (by omega)
  have : 1 * 10 ^ r.length ≤ (b.toNat - 48) * 10 ^ r.length := Nat.mul_le_mul_right _ (by omega)
  omega
 rw [h3] at h5 hl
 rw [zgw, h3, zhO h4 hl h5, h6]
 unfold zby
 have hp : 0 < 10 ^ i := Nat.pow_pos (by omega)
 rw [if_neg (Nat.mul_ne_zero h0 (Nat.ne_of_gt hp)), zhM h s h0, h7]
theorem zgv (d : List UInt8) (x : Int) : (zaY false d x).length ≤ d.length + 30 := by
 unfold zaY
 rw [show sgT false = [] from rfl, List.nil_append]
 have := zh8 x
 by_cases c1 : x < -5 ∨ x > 20
 ·rw [if_pos c1]; split <;> simp <;> omega
 rw [if_neg c1]
 by_cases c2 : x < 0
 ·rw [if_pos c2]; simp; omega
 rw [if_neg c2]
 by_cases c3 : x + 1 < (d.length : Int)
 ·rw [if_pos c3]; simp; omega
 ·rw [if_neg c3]; simp; omega
theorem zl5 (f : Int) {n : Nat} (h : n ≠ 0) (e : Int) (j : Nat) : zaG f (n * 2 ^ j) e = zaG f n (e + j) := by
 unfold zaG
 rw [ziB h, Nat.pow_add, Nat.mul_div_mul_right _ _ (zh j)]
 congr 1; omega
theorem zl3 {f : Int} (h : isF f) {q : Nat} {u : Int} (hu : lo f ≤ u) (hq : q ≤ 2 ^ pr f) (hn : u = lo f ∨ 2 ^ fb f ≤ q) (h0 : q ≠ 0) : zaG f q u = (u - lo f).toNat * 2 ^ fb f + q := by
 have hpr := zM h
 have hp := zh (fb f)
 have hs : 2 ^ pr f = 2 ^ fb f * 2 := by rw [hpr, Nat.pow_succ]
 by_cases c : q = 2 ^ pr f
 ·have hb : bl (2 ^ fb f) = fb f + 1 := by
   have := zar (v := 1) (by omega) (fb f)
   rw [Nat.one_mul, show bl 1 = 1 by decide] at this
   omega
  have e1 : zr f (2 ^ fb f) (u + 1) = u + 1 := by unfold zr; rw [hb, hpr]; omega
  rw [c, hs, ← Nat.pow_one 2, Nat.pow_one, show 2 ^ fb f * 2 = 2 ^ fb f * 2 ^ 1 from rfl, zl5 f (by omega), zf5 (by omega) (by rw [show u + ((1 : Nat) : Int) = u + 1 from rfl, e1]; omega), show u + ((1 : Nat) : Int) = u + 1 from rfl, e1, show (u + 1 - (u + 1)).toNat = 0 by omega, Nat.pow_zero, Nat.mul_one,
   show (u + 1 - lo f).toNat = (u - lo f).toNat + 1 by omega, Nat.add_mul, show 2 ^ fb f * 2 ^ 1 = 2 ^ fb f * 2 from rfl]
  omega
 ·have hlt : q < 2 ^ pr f := by omega
  have hb : bl q ≤ pr f := zG hlt
  have e1 : zr f q u = u := by
   unfold zr
   rcases hn with hn | hn
   ·omega
   ·have := zaf hn
    have h2 := zar (v := 1) (by omega) (fb f)
    rw [Nat.one_mul, show bl 1 = 1 by decide] at h2
    omega
  rw [zf5 h0 (by omega), e1, show (u - u).toNat = 0 by omega, Nat.pow_zero, Nat.mul_one]
theorem zpc (m : Int) (s o : Bool) {x y p : Nat} (h : x ≤ y) (hy : y < p) (kx : 2 * x % p ≠ 0 ↔ x ≠ 0 ∧ 2 * x ≠ p) (ky : 2 * y % p ≠ 0 ↔ y ≠ 0 ∧ 2 * y ≠ p) :
  upB m s o (decide (p ≤ 2 * x)) (decide (2 * x % p ≠ 0)) = true → upB m s o (decide (p ≤ 2 * y)) (decide (2 * y % p ≠ 0)) = true := by
 unfold upB
 by_cases c1 : m = 1
 ·rw [if_pos c1, if_pos c1]
  simp only [Bool.and_eq_true, Bool.or_eq_true, decide_eq_true_eq, kx, ky]
  rintro ⟨g1, g2⟩
  refine ⟨by omega, ?_⟩
  by_cases c2 : 2 * y = p
  ·exact .inr (g2.resolve_left (by omega))
  ·exact .inl (by omega)
 rw [if_neg c1, if_neg c1]
 by_cases c2 : m = 2
 ·rw [if_pos c2, if_pos c2]
  simp only [decide_eq_true_eq]
  omega
 rw [if_neg c2, if_neg c2]
 by_cases c4 : m = 4
 ·rw [if_pos c4, if_pos c4]
  simp only [Bool.and_eq_true, Bool.or_eq_true, decide_eq_true_eq, kx, ky]
  rintro ⟨g1, g2⟩
  exact ⟨g1, by omega⟩
 rw [if_neg c4, if_neg c4]
 by_cases c5 : m = 5
 ·rw [if_pos c5, if_pos c5]
  simp only [Bool.and_eq_true, Bool.or_eq_true, decide_eq_true_eq, kx, ky]
  rintro ⟨g1, g2⟩
  exact ⟨g1, by omega⟩
 rw [if_neg c5, if_neg c5]
 exact id
theorem zoa (m : Int) (s : Bool) {a b k : Nat} (h : a ≤ b) : rnd m s a k ≤ rnd m s b k := by
 have hp := zh k
 have h1 : a / 2 ^ k ≤ b / 2 ^ k := Nat.div_le_div_right h
 unfold rnd
 by_cases c : a / 2 ^ k = b / 2 ^ k
 ·have h2 : a % 2 ^ k ≤ b % 2 ^ k := by
   have ea := Nat.div_add_mod a (2 ^ k)
   have eb := Nat.div_add_mod b (2 ^ k)
   rw [c] at ea
   omega
  have h3 := Nat.mod_lt b hp
  rw [c]
  suffices hh : upB m s (decide (b / 2 ^ k % 2 = 1)) (decide (2 ^ k ≤ 2 * (a % 2 ^ k))) (decide (2 * (a % 2 ^ k) % 2 ^ k ≠ 0)) = true → upB m s (decide (b / 2 ^ k % 2 = 1)) (decide (2 ^ k ≤ 2 * (b % 2 ^ k))) (decide (2 * (b % 2 ^ k) % 2 ^ k ≠ 0)) = true by
   split
   ·rename_i hu; rw [if_pos (hh hu)]; omega
   ·split <;> omega
  have key : ∀ r, r < 2 ^ k → (2 * r % 2 ^ k ≠ 0 ↔ r ≠ 0 ∧ 2 * r ≠ 2 ^ k) := by
   intro r hr
   by_cases c1 : 2 * r < 2 ^ k
   ·rw [Nat.mod_eq_of_lt c1]; omega
   ·rw [Nat.mod_eq_sub_mod (by omega), Nat.mod_eq_of_lt (by omega)]; omega
  have ka := key (a % 2 ^ k) (by omega)
  have kb := key (b % 2 ^ k) h3
  exact zpc m s _ h2 h3 ka kb
 ·have h2 : a / 2 ^ k < b / 2 ^ k := by omega
  split <;> split <;> omega
def zcC (f m : Int) (s : Bool) : Nat := if inw m s = true then mo f * 2 ^ fb f - 1 else mo f * 2 ^ fb f
def zbl (f m : Int) (s : Bool) (n : Nat) (e : Int) : Nat :=
 if (bl (R m s n e (zl f n e)) : Int) + zl f n e > wd f then zcC f m s
 else if R m s n e (zl f n e) = 0 then 0 else zaG f (R m s n e (zl f n e)) (zl f n e)
theorem zdx (f m : Int) (s : Bool) (n : Nat) (e : Int) : (zt f m s n e).1 = ((zbl f m s n e + sgn f s : Nat) : Int) := by
 unfold zt zbl
 dsimp only
 by_cases c : (bl (R m s n e (zl f n e)) : Int) + zl f n e > wd f
 ·rw [if_pos c, if_pos c]; rfl
 ·rw [if_neg c, if_neg c]
def zaT (f m : Int) (s : Bool) (n : Nat) (e : Int) : Nat := (zl f n e - lo f).toNat * 2 ^ fb f + R m s n e (zl f n e)
theorem zg9 {f m : Int} (h : isF f) (s : Bool) {n : Nat} (hn : n ≠ 0) (e : Int) : lo f ≤ zl f n e ∧ R m s n e (zl f n e) ≤ 2 ^ pr f ∧ (zl f n e = lo f ∨ 2 ^ fb f ≤ R m s n e (zl f n e)) := by
 have hpr := zM h
 refine ⟨by unfold zl; omega, zkE (p := pr f) (by unfold zl; omega), ?_⟩
 by_cases c : zl f n e = lo f
 ·exact .inl c
 ·right
  have hu : zl f n e = e + (bl n : Nat) - (pr f : Nat) := by unfold zl at c ⊢; omega
  obtain ⟨h1, _⟩ := zfH (m := m) (s := s) (e := e) hn (E := zl f n e) (by omega)
  have h2 : R m s n e (zl f n e) ≠ 0 := by
   intro hz
   rw [hz, zbj] at h1
   omega
  have h3 := zcO h2
  exact Nat.le_trans (Nat.pow_le_pow_right (by omega) (by omega)) h3
theorem zeW {f m : Int} (h : isF f) (s : Bool) {n : Nat} (hn : n ≠ 0) (e : Int) : zbl f m s n e = if mo f * 2 ^ fb f ≤ zaT f m s n e then zcC f m s else zaT f m s n e := by
 obtain ⟨h1, h2, h3⟩ := zg9 (m := m) h s hn e
 have hpr := zM h
 have hro := zf8 h
 have hmo := zdr h
 have hp := zh (fb f)
 have hs : 2 ^ pr f = 2 * 2 ^ fb f := by rw [hpr, Nat.pow_succ]; omega
 have hiff : (bl (R m s n e (zl f n e)) : Int) + zl f n e > wd f ↔ mo f * 2 ^ fb f ≤ zaT f m s n e := by
  unfold zaT
  obtain ⟨u, hu⟩ : ∃ u, u = zl f n e := ⟨_, rfl⟩
  obtain ⟨q, hq⟩ : ∃ q, q = R m s n e u := ⟨_, rfl⟩
  rw [← hu] at h1 h2 h3 ⊢
  rw [← hq] at h2 h3 ⊢
  obtain ⟨d, hd⟩ : ∃ d, d = (u - lo f).toNat := ⟨_, rfl⟩
  rw [← hd]
  have hud : u = lo f + (d : Int) := by omega
  by_cases c : q = 2 ^ pr f
  ·have hb : bl q = pr f + 1 := by
    have := zar (v := 1) (by omega) (pr f)
    rw [Nat.one_mul, show bl 1 = 1 by decide] at this
    rw [c]; omega
   rw [hb, c, hs]
   have : d * 2 ^ fb f + 2 * 2 ^ fb f = (d + 2) * 2 ^ fb f := by rw [Nat.add_mul]
   rw [this, Nat.mul_le_mul_right_iff hp]
   omega
  ·have hlt : q < 2 * 2 ^ fb f := by omega
   have hb : bl q ≤ pr f := zG (by omega)
   rcases h3 with h3 | h3
   ·have : d = 0 := by omega
    subst this
    have h5 : 2 * 2 ^ fb f ≤ mo f * 2 ^ fb f := Nat.mul_le_mul_right _ (by omega)
    constructor
    ·intro; omega
    ·intro; omega
   ·have h4 := zaf h3
    have h5 := zar (v := 1) (by omega) (fb f)
    rw [Nat.one_mul, show bl 1 = 1 by decide] at h5
    have hb2 : bl q = pr f := by omega
    rw [hb2]
    constructor
    ·intro hh
     have h6 : (mo f - 1) * 2 ^ fb f ≤ d * 2 ^ fb f := Nat.mul_le_mul_right _ (by omega)
     have h7 : mo f * 2 ^ fb f = (mo f - 1) * 2 ^ fb f + 2 ^ fb f := by
      rw [← Nat.succ_mul]; congr 1; omega
     omega
    ·intro hh
     apply Int.lt_of_not_ge
     intro hc
     have h6 : d * 2 ^ fb f ≤ (mo f - 2) * 2 ^ fb f := Nat.mul_le_mul_right _ (by omega)
     have h7 : mo f * 2 ^ fb f = (mo f - 2) * 2 ^ fb f + 2 * 2 ^ fb f := by
      rw [← Nat.add_mul]; congr 1; omega
     omega
 unfold zbl
 by_cases c : (bl (R m s n e (zl f n e)) : Int) + zl f n e > wd f
 ·rw [if_pos c, if_pos (hiff.1 c)]
 ·rw [if_neg c, if_neg (fun hh => c (hiff.2 hh))]
  by_cases c0 : R m s n e (zl f n e) = 0
  ·rw [if_pos c0]
   have : zl f n e = lo f := h3.resolve_right (by omega)
   unfold zaT
   rw [c0, this, show (lo f - lo f).toNat = 0 by omega, Nat.zero_mul]
  ·rw [if_neg c0, zl3 h h1 h2 h3 c0]; rfl
theorem zln {f m : Int} (h : isF f) (s : Bool) {n n' : Nat} (hn : n ≠ 0) (hle : n ≤ n') (e : Int) : zaT f m s n e ≤ zaT f m s n' e := by
 obtain ⟨h1, h2, h3⟩ := zg9 (m := m) h s hn e
 obtain ⟨k1, k2, k3⟩ := zg9 (m := m) h s (n := n') (by omega) e
 have hpr := zM h
 have hs : 2 ^ pr f = 2 * 2 ^ fb f := by rw [hpr, Nat.pow_succ]; omega
 have hb := zaf hle
 have hu : zl f n e ≤ zl f n' e := by unfold zl; omega
 unfold zaT
 by_cases c : zl f n e = zl f n' e
 ·rw [← c]
  have : R m s n e (zl f n e) ≤ R m s n' e (zl f n e) := by
   unfold R
   exact zoa m s (Nat.mul_le_mul_right _ hle)
  omega
 ·have k4 := k3.resolve_left (by omega)
  have e1 : ((zl f n e - lo f).toNat + 1) * 2 ^ fb f ≤ (zl f n' e - lo f).toNat * 2 ^ fb f := Nat.mul_le_mul_right _ (by omega)
  rw [Nat.add_mul] at e1
  omega
theorem zlq {f m : Int} (h : isF f) (s : Bool) {n n' : Nat} (hn : n ≠ 0) (hle : n ≤ n') (e : Int) : zbl f m s n e ≤ zbl f m s n' e ∧ zbl f m s n' e ≤ mo f * 2 ^ fb f := by
 have h1 := zln (m := m) h s hn hle e
 rw [zeW h s hn, zeW h s (n := n') (by omega)]
 have hm : zcC f m s ≤ mo f * 2 ^ fb f ∧ mo f * 2 ^ fb f - 1 ≤ zcC f m s := by unfold zcC; split <;> omega
 constructor
 ·split <;> split <;> omega
 ·split <;> omega
theorem zoC {A B A' B' : Nat} (hB : 0 < B) (hB' : 0 < B') (hx : A * B' ≤ A' * B) : stk (A / B) (decide (A % B ≠ 0)) ≤ stk (A' / B') (decide (A' % B' ≠ 0)) := by
 have ea := Nat.div_add_mod A B
 have ea' := Nat.div_add_mod A' B'
 have hl' := Nat.mod_lt A' hB'
 have hq : A / B ≤ A' / B' := by
  rw [Nat.le_div_iff_mul_le hB']
  have h1 : A / B * B * B' ≤ A * B' := Nat.mul_le_mul_right _ (Nat.div_mul_le_self A B)
  have h2 : A / B * B' * B ≤ A' * B := by
   rw [Nat.mul_assoc, Nat.mul_comm B' B, ← Nat.mul_assoc]; omega
  exact Nat.le_of_mul_le_mul_right h2 hB
 unfold stk
 have hb1 := zdU (decide (A % B ≠ 0))
 have hb2 := zdU (decide (A' % B' ≠ 0))
 by_cases c : A / B = A' / B'
 ·by_cases c0 : A % B = 0
  ·have : bN (decide (A % B ≠ 0)) = 0 := by rw [zeS]; exact decide_eq_false (by simpa using c0)
   omega
  ·have c1 : A' % B' ≠ 0 := by
    intro hz
    rw [hz, Nat.add_zero] at ea'
    rw [← ea, ← ea', ← c, Nat.add_mul] at hx
    have h3 : B * (A / B) * B' = B' * (A / B) * B := by
     rw [Nat.mul_comm B, Nat.mul_assoc, Nat.mul_comm B B', ← Nat.mul_assoc, Nat.mul_comm (A / B) B']
    rw [h3] at hx
    have h4 : 0 < A % B * B' := Nat.mul_pos (by omega) hB'
    omega
   have : bN (decide (A' % B' ≠ 0)) = 1 := by
    have : bN (decide (A' % B' ≠ 0)) ≠ 0 := fun hz => by
     rw [zeS] at hz
     exact absurd (of_decide_eq_false hz) (by simpa using c1)
    omega
   omega
 ·omega
theorem zgN {f m : Int} (h : isF f) (s : Bool) {A B A' B' : Nat} (hA : A ≠ 0) (hA' : A' ≠ 0) (hB : 0 < B) (hB' : 0 < B') (hx : A * B' ≤ A' * B) (e : Int) :
  ∃ c c' : Nat, (rq f m s A B e).1 = ((c + sgn f s : Nat) : Int) ∧ (rq f m s A' B' e).1 = ((c' + sgn f s : Nat) : Int) ∧ c ≤ c' ∧ c' ≤ mo f * 2 ^ fb f := by
 obtain ⟨N, hN⟩ : ∃ N, N = max (bl B + 64) (bl B' + 64) := ⟨_, rfl⟩
 have bits : ∀ {A B : Nat}, A ≠ 0 → 0 < B → bl B + 64 ≤ N → pr f + 1 ≤ bl (A * 2 ^ N / B) ∧ A * 2 ^ N / B ≠ 0 := by
  intro A B hA hB hle
  have h1 := zel hA hB
  have h2 : A * 2 ^ (bl B + 64) / B ≤ A * 2 ^ N / B := Nat.div_le_div_right (Nat.mul_le_mul_left _ (Nat.pow_le_pow_right (by omega) hle))
  have h3 := zaf h2
  have h4 : pr f ≤ 53 := by rcases h with rfl | rfl <;> decide
  refine ⟨by omega, fun hz => ?_⟩
  rw [hz, zbj] at h3
  omega
 have b1 := bits hA hB (by omega)
 have b2 := bits hA' hB' (by omega)
 have hm := zoC (A := A * 2 ^ N) (A' := A' * 2 ^ N) hB hB' (by
  rw [Nat.mul_right_comm, Nat.mul_right_comm A']
  exact Nat.mul_le_mul_right _ hx)
 have hne : stk (A * 2 ^ N / B) (decide (A * 2 ^ N % B ≠ 0)) ≠ 0 := by unfold stk; omega
 obtain ⟨g1, g2⟩ := zlq (m := m) h s hne hm (e - N - 1)
 exact ⟨_, _, by rw [← zem h s hA hB e N b1.1, zdx], by rw [← zem h s hA' hB' e N b2.1, zdx], g1, g2⟩
theorem zhC (f : Int) (s : Bool) (n : Nat) (e : Int) : zbl f 1 s n e = zbl f 1 false n e := by
 have h1 : ∀ E, R 1 s n e E = R 1 false n e E := fun E => rfl
 have h2 : zcC f 1 s = zcC f 1 false := by unfold zcC inw; rfl
 unfold zbl
 rw [h1, h2]
theorem zok {f : Int} (h : isF f) (s : Bool) {A B : Nat} (e : Int) : (rq f 1 s A B e).1 = (rq f 1 false A B e).1 + (sgn f s : Nat) := by
 have e1 : ∀ s, (rq f 1 s A B e).1 = (zt f 1 s (stk (A * 2 ^ (bl B + 64) / B) (decide (A * 2 ^ (bl B + 64) % B ≠ 0))) (e - (bl B + 64 : Nat) - 1)).1 := fun s => rfl
 rw [e1, e1, zdx, zdx, zhC f s]
 have : sgn f false = 0 := rfl
 rw [this]
 omega
def exN (z : Nat) (e : Int) : Nat := z * 2 ^ e.toNat * 5 ^ (-e).toNat
def exG (e : Int) : Nat := (-e).toNat
theorem ze2 {z : Nat} (h : z ≠ 0) (e : Int) : exN z e ≠ 0 := Nat.mul_ne_zero (Nat.mul_ne_zero h (Nat.ne_of_gt (zh _))) (Nat.ne_of_gt (Nat.pow_pos (by omega)))
theorem zlE {f m : Int} (h : isF f) (s : Bool) {z : Nat} (hz : z ≠ 0) (e : Int) : zp f m s (exN z e) (-(exG e : Int)) = zt f m s z e := by
 have h5 := ze2 hz e
 rw [← zhJ h s h5]
 unfold exN exG
 have e1 := zen (m := m) h s (A := z * 2 ^ e.toNat) (B := 1) (c := 5 ^ (-e).toNat) (Nat.mul_ne_zero hz (Nat.ne_of_gt (zh _))) (by omega) (Nat.pow_pos (by omega)) (-(((-e).toNat : Nat) : Int))
 rw [Nat.one_mul] at e1
 rw [e1, zeo h s hz (by omega), zgO h s hz]
 congr 1
 omega
def zbV (g : Nat) (t : List UInt8) : List UInt8 := List.replicate (g + 1 - t.length) 48 ++ t
theorem zfk (g : Nat) (t : List UInt8) : g + 1 ≤ (zbV g t).length ∧ (zbV g t).length = max (g + 1) t.length := by
 unfold zbV
 rw [List.length_append, List.length_replicate]; omega
def exW (z : Nat) (e : Int) : List UInt8 := if 0 ≤ e then dx (exN z e) else (zbV (exG e) (dx (exN z e))).take ((zbV (exG e) (dx (exN z e))).length - exG e)
def exP (z : Nat) (e : Int) : List UInt8 := if 0 ≤ e then [] else (zbV (exG e) (dx (exN z e))).drop ((zbV (exG e) (dx (exN z e))).length - exG e)
theorem zl9 (z : Nat) (e : Int) : (exP z e).length = exG e := by
 unfold exP
 by_cases c : 0 ≤ e
 ·rw [if_pos c]; unfold exG; simp; omega
 ·rw [if_neg c, List.length_drop]
  have := (zfk (exG e) (dx (exN z e))).1
  omega
theorem zmb {z : Nat} (hz : z ≠ 0) (e : Int) : 0 < (exW z e).length ∧ (exW z e).length ≤ (dx (exN z e)).length + 1 := by
 unfold exW
 have := zd5 (ze2 hz e)
 by_cases c : 0 ≤ e
 ·rw [if_pos c]; omega
 ·rw [if_neg c, List.length_take]
  have := (zfk (exG e) (dx (exN z e)))
  omega
theorem zma (z : Nat) (e : Int) : ∃ j, exW z e ++ exP z e = List.replicate j 48 ++ dx (exN z e) ∧ j = (exW z e).length + exG e - (dx (exN z e)).length := by
 unfold exW exP
 by_cases c : 0 ≤ e
 ·rw [if_pos c, if_pos c]
  exact ⟨0, by simp, by unfold exG; omega⟩
 ·rw [if_neg c, if_neg c, List.take_append_drop]
  refine ⟨_, rfl, ?_⟩
  have := (zfk (exG e) (dx (exN z e)))
  rw [List.length_take]
  omega
theorem znN (n : Nat) : 5 ^ n ≤ 10 ^ (7 * (n / 10 + 1)) := by
 have h1 : 5 ^ n ≤ 5 ^ (10 * (n / 10 + 1)) := Nat.pow_le_pow_right (by omega) (by omega)
 have h2 : (5 ^ 10) ^ (n / 10 + 1) ≤ (10 ^ 7) ^ (n / 10 + 1) := Nat.pow_le_pow_left (by decide) _
 rw [← Nat.pow_mul, ← Nat.pow_mul] at h2
 omega
theorem znM (n : Nat) : 2 ^ n ≤ 10 ^ (3 * (n / 8 + 1)) := by
 have h1 : 2 ^ n ≤ 2 ^ (8 * (n / 8 + 1)) := Nat.pow_le_pow_right (by omega) (by omega)
 have h2 : (2 ^ 8) ^ (n / 8 + 1) ≤ (10 ^ 3) ^ (n / 8 + 1) := Nat.pow_le_pow_left (by decide) _
 rw [← Nat.pow_mul, ← Nat.pow_mul] at h2
 omega
theorem zix {z y p K : Nat} (hz : z < 10 ^ 16) (hy : y ≤ 10 ^ p) (hp : 16 + p ≤ K) : z * y < 10 ^ K := by
 have h5 : z * y ≤ z * 10 ^ p := Nat.mul_le_mul_left _ hy
 have h6 : z * 10 ^ p < 10 ^ 16 * 10 ^ p := Nat.mul_lt_mul_of_pos_right hz (Nat.pow_pos (by omega))
 rw [← Nat.pow_add] at h6
 exact Nat.lt_of_le_of_lt h5 (Nat.lt_of_lt_of_le h6 (Nat.pow_le_pow_right (by omega) hp))
theorem zid {z : Nat} {e : Int} (hb : bl z ≤ 53) (h1 : -1074 ≤ e) (h2 : e ≤ 1024) : (dx (exN z e)).length ≤ 800 := by
 obtain ⟨K, hK⟩ : ∃ K : Nat, K = 800 := ⟨_, rfl⟩
 rw [← hK]
 apply zh2 _ (by omega)
 unfold exN
 have hz : z < 2 ^ bl z := zL z
 have hz2 : 2 ^ bl z ≤ 2 ^ 53 := Nat.pow_le_pow_right (by omega) hb
 have hz3 : z < 10 ^ 16 := Nat.lt_of_lt_of_le (Nat.lt_of_lt_of_le hz hz2) (by decide)
 by_cases c : 0 ≤ e
 ·rw [show (-e).toNat = 0 by omega, Nat.pow_zero, Nat.mul_one]
  exact zix hz3 (znM e.toNat) (by omega)
 ·rw [show e.toNat = 0 by omega, Nat.pow_zero, Nat.mul_one]
  exact zix hz3 (znN (-e).toNat) (by omega)
theorem zU (a b : List UInt8) : bx a ++ bx b = bx (a ++ b) := za1.1 (by rw [zjX]; rfl)
theorem zcm (T : List UInt8) (n : Nat) : (bx T).extract 0 n = bx (T.take n) := za1.1 (by rw [zev]; rfl)
theorem zcl (T : List UInt8) (n : Nat) : (bx T).extract n (bx T).size = bx (T.drop n) := za1.1 (by rw [zev, zu, zI, zI, List.take_length])
theorem zld (T : List UInt8) (i j : Nat) : (bx T).extract i j = bx ((T.take j).drop i) := za1.1 (by rw [zev]; rfl)
theorem zgG {n : Int} (h0 : 0 ≤ n) (h1 : n ≤ 1000000) : zao.f (⟨#[48]⟩ : ByteArray) n = some (bx (List.replicate n.toNat 48)) := by
 unfold zao.f
 have hs : (⟨#[48]⟩ : ByteArray).size = 1 := rfl
 rw [if_pos ⟨h0, by rw [hs]; omega, by omega⟩]
 have : Lib.repeatL (⟨#[48]⟩ : ByteArray).data.toList n.toNat = List.replicate n.toNat 48 := zjj 48 _
 rw [this]; rfl
def nmT (f : Int) (w : Nat) : List UInt8 := if cls f w = 5 then [110, 97, 110] else if cls f w = 4 then sgT (zj f w) ++ [105, 110, 102] else if cls f w = 1 then sgT (zj f w) ++ [48] else []
def zbC (f : Int) (w : Nat) : Bool := decide (cls f w = 5 ∨ cls f w = 4 ∨ cls f w = 1)
theorem ze5 {f : Int} {w : Nat} (h : zbC f w = false) : cls f w ≠ 5 ∧ cls f w ≠ 4 ∧ cls f w ≠ 1 := by
 have := of_decide_eq_false h
 exact ⟨fun c => this (.inl c), fun c => this (.inr (.inl c)), fun c => this (.inr (.inr c))⟩
theorem ziK (s : Bool) (a b : Int) {t : List UInt8} (ht : t.length ≤ 10) : Ev (fun k => zbn.j1 k s a b (bx t)) (bx (sgT s ++ t), true, 0) := by
 refine zf ?_; simp only [zbn.j1]
 have hs := zu t
 cases s with
 | true => exact zd rfl (zd (show 1 + (bx t).size < 9223372036854775808 by omega) (zi (Ev.now _) (by rw [show (⟨#[45]⟩ : ByteArray) = bx [45] from rfl, zU]; rfl)))
 | false => exact ze (by simp) (Ev.now _)
theorem znh {f : Int} (h : isF f) {w : Nat} (hw : w < 2 * sg f) : Ev (fun k => zbn.f k f (w : Int)) (bx (nmT f w), zbC f w, 0) := by
 unfold zbn.f
 refine Ev.bind (zpo h hw) (ze (by simp) (Ev.bind (zpt h hw) ?_))
 unfold nmT zbC
 by_cases c5 : cls f w = 5
 ·rw [if_pos c5, decide_eq_true (.inl c5)]
  exact zd c5 (Ev.now _)
 rw [if_neg c5]
 by_cases c4 : cls f w = 4
 ·rw [if_pos c4, decide_eq_true (.inr (.inl c4))]
  exact ze c5 (zd c4 (ziK (t := [105, 110, 102]) _ _ _ (by decide)))
 rw [if_neg c4]
 by_cases c1 : cls f w = 1
 ·rw [if_pos c1, decide_eq_true (.inr (.inr c1))]
  exact ze c5 (ze c4 (zd c1 (ziK (t := [48]) _ _ _ (by decide))))
 ·rw [if_neg c1, decide_eq_false (by rintro (c | c | c); exact c5 c; exact c4 c; exact c1 c)]
  exact ze c5 (ze c4 (ze c1 (Ev.now _)))
theorem zia (z : Nat) {e : Int} (h : 0 ≤ e) : exN z e = z * 2 ^ e.toNat := by unfold exN; rw [show (-e).toNat = 0 by omega, Nat.pow_zero, Nat.mul_one]
theorem zib (z : Nat) {e : Int} (h : e < 0) : exN z e = z * 5 ^ (-e).toNat := by unfold exN; rw [show e.toNat = 0 by omega, Nat.pow_zero, Nat.mul_one]
theorem zmc {z : Nat} {e : Int} (hb : bl z ≤ 53) (h1 : -1074 ≤ e) (h2 : e ≤ 1024) : bl (exN z e) ≤ 3300 := by
 by_cases c : 0 ≤ e
 ·rw [zia z c]
  have := zfO z e.toNat
  omega
 ·rw [zib z (by omega)]
  have := zfN z (5 ^ (-e).toNat)
  have := zfm (-e).toNat
  omega
theorem zmZ {n k : Nat} (hb : bl n ≤ 32 * k) : n < 4294967296 ^ k := by
 have h1 := zL n
 have h2 : (4294967296 : Nat) ^ k = 2 ^ (32 * k) := by rw [Nat.pow_mul]
 rw [h2]
 exact Nat.lt_of_lt_of_le h1 (Nat.pow_le_pow_right (by omega) hb)
theorem zhc {n k : Nat} (hb : bl n ≤ 32 * k) : (D n).length ≤ k := zbK (zmZ hb)
def dz (f : Int) (w : Nat) : Nat := V (wv f w).2.1
def we (f : Int) (w : Nat) : Int := (wv f w).2.2
structure Wd (f : Int) (w : Nat) : Prop where
 eq : wv f w = (zj f w, D (dz f w), we f w)
 my : My (zj f w) (D (dz f w)) (we f w)
 ne : dz f w ≠ 0
 b : bl (dz f w) ≤ 53
 lo : -1074 ≤ we f w
 hi : we f w + (bl (dz f w) : Nat) ≤ 1024
theorem zeA {f : Int} (h : isF f) {w : Nat} (c1 : cls f w ≠ 1) (c4 : cls f w < 4) : Wd f w := by
 obtain ⟨my, ne, b, lo, hi, hs⟩ := znQ h c1 c4
 have hb := (zkq h c1 c4).b
 have hpr : pr f ≤ 53 := by rcases h with rfl | rfl <;> decide
 have e : wv f w = (zj f w, D (dz f w), we f w) := by
  have hn : D (V (wv f w).2.1) = (wv f w).2.1 := my.dy.nm
  unfold dz we
  rw [hn, ← hs]
 refine ⟨e, ?_, ne, ?_, lo, hi⟩
 ·rw [e] at my; exact my
 ·exact Nat.le_trans hb hpr
theorem zpw {f : Int} (h : isF f) {w : Nat} (hw : w < 2 * sg f) (c1 : cls f w ≠ 1) (c4 : cls f w < 4) : Ev (fun k => zbe.f k f (w : Int)) (zj f w, D (dz f w), we f w, 0) := by
 have hv := zpu h hw c4
 have hwv : mk (sv (zj f w) (zn f w)) (wex f w) = wv f w := rfl
 rw [hwv, (zeA h c1 c4).eq] at hv
 exact hv
theorem zif (s : Bool) (l : List Int) {e : Int} {T : List UInt8} (h1 : -1074 ≤ e) (h2 : e < 0) (hT : (-e).toNat ≤ T.length) (hl : T.length ≤ 10000) :
  Ev (fun k => zbm.j1 k s l e (bx T)) (s, bx (T.take (T.length - (-e).toNat)), bx (T.drop (T.length - (-e).toNat))) := by
 have hs := zu T
 have hw : wrap64 (((bx T).size : Int) + e) = ((T.length - (-e).toNat : Nat) : Int) := by rw [w64 (by omega) (by omega)]; omega
 refine zf ?_; simp only [zbm.j1]
 rw [hw, Int.toNat_natCast, zcm, zcl]
 exact zd (by omega) (zd (by omega) (zd (by omega) (zd (by omega) (Ev.now _))))
theorem zlK {f : Int} (h : isF f) {w : Nat} (hw : w < 2 * sg f) (c1 : cls f w ≠ 1) (c4 : cls f w < 4) :
  Ev (fun k => zbm.f k f (w : Int)) (zj f w, bx (exW (dz f w) (we f w)), bx (exP (dz f w) (we f w))) := by
 have W := zeA h c1 c4
 have hv := zpw h hw c1 c4
 obtain ⟨_, my, ne, b, lo, hi⟩ := W
 have hbp := zbi ne
 revert hv my ne b lo hi hbp
 generalize zj f w = s
 generalize dz f w = z
 generalize we f w = e
 intro hv my ne b lo hi hbp
 have hN : (D (exN z e)).length ≤ 104 := zhc (by have := zmc b lo (by omega); omega)
 have hx := zid b lo (by omega)
 unfold zbm.f
 refine Ev.bind hv ?_
 by_cases c : 0 ≤ e
 ·have e1 : zbW (V (D z)) e = (D (exN z e), false, 0) := by
   unfold zbW
   rw [V_D, if_neg ne, if_neg (by omega), if_neg (by omega), if_neg (by omega), zia z c]
  have hsh := zef my.dy.nm my.len e
  rw [e1] at hsh
  have ht := ziP (zae (exN z e)) (by omega)
  rw [V_D, zjM] at ht
  refine zd c (Ev.bind hsh (Ev.bind ht ?_))
  unfold exW exP
  rw [if_pos c, if_pos c]
  exact Ev.now _
 ·have c' : e < 0 := by omega
  have hg : exG e = (-e).toNat := rfl
  have e1 : wrap64 (-e) = (((-e).toNat : Nat) : Int) := by rw [w64 (by omega) (by omega)]; omega
  have h5 : (D (5 ^ (-e).toNat)).length ≤ 104 := zhc (by have := zfm (-e).toNat; omega)
  have hp := zgn (b := 5) (n := (-e).toNat) (by omega) (by omega)
  rw [zdY (by omega)] at hp
  have hm := ziN (zae z) (zae (5 ^ (-e).toNat)) my.len (by omega)
  rw [V_D, V_D, ← zib z c', zdY (by omega)] at hm
  have ht := ziP (zae (exN z e)) (by omega)
  rw [V_D, zjM] at ht
  have hsz := zu (dx (exN z e))
  have hpd := zfk (exG e) (dx (exN z e))
  unfold exW exP
  rw [if_neg c, if_neg c]
  refine ze c ?_
  rw [e1]
  refine Ev.bind hp (Ev.bind hm (Ev.bind ht ?_))
  dsimp only
  have e2 : wrap64 ((((-e).toNat : Nat) : Int) - ((bx (dx (exN z e))).size : Int)) = (((-e).toNat : Nat) : Int) - ((dx (exN z e)).length : Int) := by rw [hsz, w64 (by omega) (by omega)]
  rw [e2]
  by_cases ck : (((-e).toNat : Nat) : Int) - ((dx (exN z e)).length : Int) ≥ 0
  ·have e3 : wrap64 ((((-e).toNat : Nat) : Int) - ((dx (exN z e)).length : Int) + 1) = ((exG e + 1 - (dx (exN z e)).length : Nat) : Int) := by rw [w64 (by omega) (by omega), hg]; omega
   rw [e3]
   refine zd ck (zk (zgG (by omega) (by omega)) ?_)
   rw [Int.toNat_natCast, zU]
   have hz : (bx (List.replicate (exG e + 1 - (dx (exN z e)).length) 48)).size = exG e + 1 - (dx (exN z e)).length := by rw [zu, List.length_replicate]
   refine zd (by omega) ?_
   have := zif s (D z) (T := zbV (exG e) (dx (exN z e))) lo c' (by omega) (by omega)
   exact this
  ·refine ze ck ?_
   have hpt : zbV (exG e) (dx (exN z e)) = dx (exN z e) := by
    unfold zbV
    rw [show exG e + 1 - (dx (exN z e)).length = 0 by omega]; rfl
   rw [hpt, hg]
   exact zif s (D z) (T := dx (exN z e)) lo c' (by omega) (by omega)
theorem ze3 {f : Int} (h : isF f) {w : Nat} (c5 : cls f w ≠ 5) (c4 : cls f w ≠ 4) : cls f w < 4 := by have := zlk h w; omega
theorem zlc (a : List UInt8) (d : UInt8) : bt (bx (a ++ [d])) (a.length : Int) = (d.toNat : Int) := zb3 (s := bx (a ++ [d])) (A := a) (B := []) (b := d) (by rw [zI])
theorem zoH (a : List UInt8) (d : UInt8) : (a ++ [d]).take a.length = a := by simp
theorem ziR {d e : UInt8} (h : d ≠ e) : (d.toNat : Int) ≠ (e.toNat : Int) := fun c => h (zjZ c)
theorem zj8 : ∀ (n : Nat) (l : List UInt8), l.length = n → l.length ≤ 1000000 → Ev (fun k => zbu.l0 k (bx l) 48) (bx (tr l))
 | 0, l, hn, _ => by
  have : l = [] := List.length_eq_zero_iff.1 hn
  subst this
  refine zf ?_; simp only [zbu.l0]
  exact ze (by decide) (Ev.now _)
 | n + 1, l, hn, hl => by
  rcases List.eq_nil_or_concat l with rfl | ⟨a, d, rfl⟩
  ·simp at hn
  rw [List.concat_eq_append] at hn hl ⊢
  have hz := zu (a ++ [d])
  rw [List.length_append, List.length_singleton] at hz hn hl
  have e1 : wrap64 (((bx (a ++ [d])).size : Int) - 1) = (a.length : Int) := by rw [w64 (by omega) (by omega)]; omega
  refine zf ?_; simp only [zbu.l0]
  rw [e1, zlc, Int.toNat_natCast, zcm, zoH]
  refine zd (by omega) (zd (by omega) (zd (by omega) ?_))
  by_cases c : d = 48
  ·subst c
   rw [zg0]
   exact zd rfl (zd (by omega) (zd (by omega) (zj8 n a (by omega) (by omega))))
  ·rw [zg2 _ c]
   exact ze (ziR c) (Ev.now _)
theorem zj7 {l : List UInt8} (hl : l.length ≤ 1000000) : Ev (fun k => zbc.f k (bx l) (⟨#[48]⟩ : ByteArray)) (bx (tr l)) := by
 unfold zbc.f
 by_cases c : l = []
 ·subst c
  exact zd rfl (Ev.now _)
 ·refine ze (fun h => c (za3.1 h)) (ze (by decide) (zd (by decide) (zd (by decide) ?_)))
  have e : decide (bt (⟨#[48]⟩ : ByteArray) 0 < 128) = true := by decide
  have e2 : bt (⟨#[48]⟩ : ByteArray) 0 = 48 := by decide
  rw [e]
  refine zf ?_; simp only [zbc.j2]
  rw [e2]
  refine zd trivial (zd (by decide) ?_)
  unfold zbu.f
  exact Ev.bind (zj8 _ l rfl hl) (Ev.now _)
theorem zhq (s p : Bool) (q : ByteArray) (o : Int) {L r : List UInt8} {b : UInt8} (e : L = b :: r) (hb : b ≠ 48) (hL : L.length ≤ 2000) : ∀ (j : Nat) (x : Int), j ≤ 2000 → -10000 ≤ x - j → x ≤ 10000 →
  Ev (fun k => za4.l0 k p q o s x (bx (List.replicate j 48 ++ L))) (s, bx (tr L), x - j)
 | 0, x, _, h1, h2 => by
  subst e
  have hz := zu (b :: r)
  rw [List.length_cons] at hz
  have hb0 := zb3 (s := bx (b :: r)) (A := []) (B := r) (b := b) (by rw [zI]; rfl)
  rw [List.length_nil, show ((0 : Nat) : Int) = 0 from rfl] at hb0
  rw [show List.replicate 0 (48 : UInt8) ++ b :: r = b :: r from rfl]
  refine zf ?_; simp only [za4.l0]
  rw [hb0]
  refine zd (by omega) (ze (ziR hb) (Ev.bind (zj7 (by omega)) (zi (Ev.now _) ?_)))
  rw [show x - ((0 : Nat) : Int) = x by omega]
 | j + 1, x, hj, h1, h2 => by
  have hz := zu (List.replicate (j + 1) 48 ++ L)
  rw [List.length_append, List.length_replicate] at hz
  have e0 : List.replicate (j + 1) (48 : UInt8) ++ L = 48 :: (List.replicate j 48 ++ L) := by rw [List.replicate_succ]; rfl
  have hb0 := zb3 (s := bx (List.replicate (j + 1) 48 ++ L)) (A := []) (B := List.replicate j 48 ++ L) (b := 48) (by rw [zI, e0]; rfl)
  rw [List.length_nil, show ((0 : Nat) : Int) = 0 from rfl] at hb0
  have ih := zhq s p q o e hb hL j (x - 1) (by omega) (by omega) (by omega)
  refine zf ?_; simp only [za4.l0]
  have hz' : 1 ≤ (bx (List.replicate (j + 1) 48 ++ L)).size := by omega
  rw [hb0, show (1 : Int).toNat = 1 from rfl, zcl, w64 (n := x - 1) (by omega) (by omega)]
  refine zd (by omega) (zd rfl (zd (by decide) (zd (by omega) ?_)))
  rw [e0, show (48 :: (List.replicate j 48 ++ L)).drop 1 = List.replicate j 48 ++ L from rfl]
  rw [show x - ((j + 1 : Nat) : Int) = x - 1 - (j : Int) by omega]
  exact ih
def nN (f : Int) (w : Nat) : Nat := exN (dz f w) (we f w)
def nG (f : Int) (w : Nat) : Nat := exG (we f w)
structure Nw (f : Int) (w : Nat) : Prop where
 ne : nN f w ≠ 0
 len : (dx (nN f w)).length ≤ 800
 g : nG f w ≤ 1074
theorem zeh {f : Int} (h : isF f) {w : Nat} (c1 : cls f w ≠ 1) (c4 : cls f w < 4) : Nw f w := by
 have W := zeA h c1 c4
 have h3 := W.lo
 have h4 := W.hi
 exact ⟨ze2 W.ne _, zid W.b W.lo (by omega), by unfold nG exG; omega⟩
theorem zlJ {f : Int} (h : isF f) {w : Nat} (hw : w < 2 * sg f) (c1 : cls f w ≠ 1) (c4 : cls f w < 4) :
  Ev (fun k => za4.f k f (w : Int)) (zj f w, bx (tr (dx (nN f w))), ((dx (nN f w)).length : Int) - 1 - (nG f w : Nat)) := by
 have W := zeA h c1 c4
 obtain ⟨ne, hl, hg⟩ := zeh h c1 c4
 have h1 := zmb W.ne (we f w)
 have h2 := zl9 (dz f w) (we f w)
 obtain ⟨j, hj, hj2⟩ := zma (dz f w) (we f w)
 have hj3 := congrArg List.length hj
 rw [List.length_append, List.length_append, List.length_replicate, h2] at hj3
 obtain ⟨b, r, e, hb⟩ := zag ne
 have s1 := zu (exP (dz f w) (we f w))
 have s2 := zu (exW (dz f w) (we f w))
 unfold nN nG at *
 unfold za4.f
 refine Ev.bind (zlK h hw c1 c4) (zd (show (bx (exW (dz f w) (we f w))).size + (bx (exP (dz f w) (we f w))).size < 9223372036854775808 by omega) ?_)
 dsimp only
 rw [w64 (n := ((bx (exW (dz f w) (we f w))).size : Int) - 1) (by omega) (by omega), s2, zU, hj]
 have := zhq (zj f w) false (⟨#[]⟩ : ByteArray) 0 e hb (by omega) j (((exW (dz f w) (we f w)).length : Int) - 1) (by omega) (by omega) (by omega)
 rw [show ((exW (dz f w) (we f w)).length : Int) - 1 - (j : Int) = ((dx (exN (dz f w) (we f w))).length : Int) - 1 - (exG (we f w) : Nat) by omega] at this
 exact this
theorem zoE (l : List UInt8) : qfU (l.map fun b => (b.toNat : Int)) = bx l := by
 refine za1.1 ?_
 rw [zoP, zI, List.map_map]
 conv => rhs; rw [← List.map_id l]
 congr 1
 funext b
 show UInt8.ofNat ((b.toNat : Int)).toNat = b
 rw [Int.toNat_natCast, UInt8.ofNat_toNat]
theorem ziF (s p : Bool) (q : ByteArray) (o x : Int) (hx : -100000 ≤ x ∧ x ≤ 100000) (q0 : ByteArray) {T : List UInt8} (hT : T.all isD = true) (hT0 : ∀ b r, T = b :: r → b ≠ 48) (hne : T ≠ []) (hl : T.length ≤ 2000) :
  ∀ (n : Nat) (P : List UInt8) (j : Nat), P.length = n → T = P ++ List.replicate j 57 →
  Ev (fun k => za5.l0 k s q0 x p q o (T.map fun b => (b.toNat : Int)) ((P.length : Int) - 1)) (s, bx (tr (dx (zg T 0 + 1))), x + ((dx (zg T 0 + 1)).length : Int) - (T.length : Int))
 | 0, P, j, hn, hP => by
  have : P = [] := List.length_eq_zero_iff.1 hn
  subst this
  rw [List.nil_append] at hP
  have hj : 0 < j := by
   rcases Nat.eq_zero_or_pos j with h | h
   ·subst h; exact absurd hP hne
   ·exact h
  obtain ⟨m1, m2⟩ := zlZ hj
  rw [← hP] at m1 m2
  have hlen : T.length = j := by rw [hP, List.length_replicate]
  rw [m2, m1]
  refine zf ?_; simp only [za5.l0]
  refine ze (by simp) (zi (Ev.now _) ?_)
  rw [w64 (n := x + 1) (by omega) (by omega), hlen, List.length_cons, List.length_replicate, show x + ((j + 1 : Nat) : Int) - (j : Int) = x + 1 by omega]
  rfl
 | n + 1, P, j, hn, hP => by
  rcases List.eq_nil_or_concat P with rfl | ⟨a, d, rfl⟩
  ·simp at hn
  rw [List.concat_eq_append] at hn hP ⊢
  rw [List.length_append, List.length_singleton] at hn ⊢
  have hlen : T.length = a.length + 1 + j := by rw [hP]; simp; omega
  have hml : (T.map fun b => (b.toNat : Int)).length = a.length + 1 + j := by rw [List.length_map, hlen]
  have ei : ((a.length + 1 : Nat) : Int) - 1 = (a.length : Int) := by omega
  have hrd : rd (T.map fun b => (b.toNat : Int)) (a.length : Int) = (d.toNat : Int) := by
   rw [rdn, hP]; simp
  have hd : isD d = true := by
   rw [hP, List.append_assoc] at hT
   exact (zcj (zbw hT).2).1
  have hdl := zbR hd
  rw [ei]
  refine zf ?_; simp only [za5.l0]
  rw [hrd, Int.toNat_natCast]
  refine zd (by omega) (zd (by omega) (zd (by omega) ?_))
  by_cases c : d = 57
  ·subst c
   have ih := ziF s p q o x hx q0 hT hT0 hne hl n a (j + 1) (by omega) (by rw [hP, List.append_assoc, List.replicate_succ]; rfl)
   refine ze (by decide) ?_
   rw [w64 (n := (a.length : Int) - 1) (by omega) (by omega)]
   exact ih
  ·have hdn : d.toNat ≠ 57 := fun hh => c (UInt8.toNat_inj.1 (by rw [hh]; rfl))
   obtain ⟨u1, u2, u3⟩ := zim hd c
   obtain ⟨m1, m2⟩ := zlY (A := a) (d := d) (j := j) (by rw [hP] at hT; exact (zbw hT).1) c (fun b r hbr => hT0 b (r ++ List.replicate j 57) (by rw [hP, hbr]; rfl))
   rw [← hP] at m1 m2
   have em : ((d.toNat : Int) + 1) % 256 = ((d + 1).toNat : Int) := by rw [u2]; omega
   have e1 : wrap64 ((a.length : Int) + 1) = ((a.length + 1 : Nat) : Int) := by rw [w64 (by omega) (by omega)]; omega
   have es : ((T.map fun b => (b.toNat : Int)).set a.length ((d + 1).toNat : Int)).take (a.length + 1) = (a ++ [d + 1]).map fun b => (b.toNat : Int) := by
    rw [hP, List.map_append, List.map_append, List.append_assoc]
    have hm : (a.map fun b => (b.toNat : Int)).length = a.length := List.length_map ..
    rw [← hm]
    generalize hA : (a.map fun b => (b.toNat : Int)) = A
    rw [List.set_append_right _ _ (Nat.le_refl _), Nat.sub_self, List.take_append, List.take_of_length_le (by omega), Nat.add_sub_cancel_left, List.map_append]
    simp [hA]
   rw [em, e1, Int.toNat_natCast, es, zoE, m2, m1]
   clear m1 m2 es hrd hT hT0 hP em e1
   refine zd (by omega) (zd (by omega) (zd (by omega) (zd (by omega) (zd (by omega) (zd (by omega) (zd (by rw [List.length_set, hml]; omega) (zi (Ev.now _) ?_)))))))
   rw [hlen, List.length_append, List.length_append, List.length_singleton, List.length_replicate, show x + ((a.length + 1 + j : Nat) : Int) - ((a.length + 1 + j : Nat) : Int) = x by omega]
theorem zjU {d r : List UInt8} {b : UInt8} (e : d = b :: r) {n : Nat} (hn : 1 ≤ n) : ∃ t, d.take n = b :: t := by
 subst e
 obtain ⟨m, rfl⟩ : ∃ m, n = m + 1 := ⟨n - 1, by omega⟩
 exact ⟨r.take m, rfl⟩
theorem znc (s : Bool) {d r : List UInt8} {b : UInt8} (hd : d.all isD = true) (e : d = b :: r) (hb : b ≠ 48) (hl : d.length ≤ 2000) {x : Int} (hx : -100000 ≤ x ∧ x ≤ 100000) {n : Nat} (h1 : 1 ≤ n) (h2 : n ≤ d.length) :
  Ev (fun k => za5.f k s (bx d) x (n : Int)) (s, bx (tr (dx (zg (d.take n) 0 + 1))), x + ((dx (zg (d.take n) 0 + 1)).length : Int) - (n : Int)) := by
 have hz := zu d
 obtain ⟨t, ht⟩ := zjU e h1
 have hlen : (d.take n).length = n := by rw [List.length_take]; omega
 have := ziF s false (⟨#[]⟩ : ByteArray) 0 x hx (bx d) (T := d.take n) (zeR hd n) (fun b' r' h => by rw [ht] at h; rw [← (List.cons.inj h).1]; exact hb) (by rw [ht]; simp) (by omega) n (d.take n) 0 hlen (by simp)
 rw [hlen] at this
 unfold za5.f
 rw [Int.toNat_natCast, zcm, zcP, w64 (n := (n : Int) - 1) (by omega) (by omega)]
 exact zd (by omega) (zd (by omega) this)
theorem zmO (s : Bool) {d : List UInt8} (hl : d.length ≤ 2000) (x : Int) {n : Nat} (h2 : n ≤ d.length) : Ev (fun k => zdk.f k s (bx d) x (n : Int)) (s, bx (tr (d.take n)), x) := by
 have hz := zu d
 unfold zdk.f
 rw [Int.toNat_natCast, zcm]
 exact zd (by omega) (zd (by omega) (Ev.bind (zj7 (by rw [List.length_take]; omega)) (Ev.now _)))
theorem zn8 (s : Bool) {A B : List UInt8} {c : UInt8} (x : Int) (hl : (A ++ c :: B).length ≤ 2000) :
  zdl.f s (bx (A ++ c :: B)) x (A.length : Int) = some (if c.toNat < 53 then -1 else if 53 < c.toNat then 1 else if B ≠ [] then 1 else 0) := by
 have hz := zu (A ++ c :: B)
 rw [List.length_append, List.length_cons] at hz hl
 have e1 : wrap64 ((A.length : Int) + 1) = ((A.length + 1 : Nat) : Int) := by rw [w64 (by omega) (by omega)]; omega
 unfold zdl.f
 rw [e1, if_pos (by omega), if_pos (by omega), if_pos (by omega), Int.toNat_natCast, Int.toNat_natCast, zld]
 have e2 : ((A ++ c :: B).take (A.length + 1)).drop A.length = [c] := by simp [List.take_append, List.drop_append]
 rw [e2]
 unfold zbX.f
 have e3 : Lib.compareBytes (bx [c]).data.toList (⟨#[53]⟩ : ByteArray).data.toList = if c < 53 then -1 else if 53 < c then 1 else 0 := rfl
 have l1 : c < 53 ↔ c.toNat < 53 := UInt8.lt_iff_toNat_lt
 have l2 : 53 < c ↔ 53 < c.toNat := UInt8.lt_iff_toNat_lt
 rw [e3, Option.bind_some]
 by_cases c1 : c.toNat < 53
 ·rw [if_pos (l1.2 c1), if_pos c1, if_pos (by decide)]
 rw [if_neg (fun h => c1 (l1.1 h)), if_neg c1]
 by_cases c2 : 53 < c.toNat
 ·rw [if_pos (l2.2 c2), if_pos c2, if_pos (by decide)]
 rw [if_neg (fun h => c2 (l2.1 h)), if_neg c2, if_neg (by decide)]
 by_cases c3 : B = []
 ·subst c3
  rw [if_neg (by rw [List.length_nil] at hz; omega), if_neg (by simp)]
 ·have : 0 < B.length := List.length_pos_iff.2 c3
  rw [if_pos (by omega), if_pos c3]
theorem zkX (n : Nat) (h : n < 256) : Go.bits .and .u8 (n : Int) 1 = ((n % 2 : Nat) : Int) := by
 have : ∀ n : Fin 256, Go.bits .and .u8 (n.1 : Int) 1 = ((n.1 % 2 : Nat) : Int) := by decide +kernel
 exact this ⟨n, h⟩
theorem znu (s : Bool) {d A B : List UInt8} {c : UInt8} (hd : d.all isD = true) (x : Int) (hl : d.length ≤ 2000) (e : d = A ++ c :: B) :
  zcT.f s (bx d) x ((A.length + 1 : Nat) : Int) = some (decide (zg (A ++ [c]) 0 % 2 = 1)) := by
 subst e
 have hz := zu (A ++ c :: B)
 rw [List.length_append, List.length_cons] at hz hl
 have hc := zbR (zcj (zbw hd).2).1
 have e1 : wrap64 (((A.length + 1 : Nat) : Int) - 1) = (A.length : Int) := by rw [w64 (by omega) (by omega)]; omega
 have hb := zb3 (s := bx (A ++ c :: B)) (A := A) (B := B) (b := c) (by rw [zI])
 have e2 : ((c.toNat : Int) - 48) % 256 = ((c.toNat - 48 : Nat) : Int) := by omega
 have e3 : zg (A ++ [c]) 0 = 10 * zg A 0 + (c.toNat - 48) := by rw [zbA, zbQ]; show _ * 10 ^ 1 + (_ * 10 ^ 0 + 0) = _; omega
 unfold zcT.f
 rw [e1, if_pos (by omega), if_pos (by omega), hb, e2, zkX _ (by omega), e3]
 congr 1
 apply decide_eq_decide.2
 omega
theorem znL (s : Bool) : (if s = true then (⟨#[45]⟩ : ByteArray) else (⟨#[]⟩ : ByteArray)) = bx (sgT s) := by cases s <;> rfl
theorem zgt (s : Bool) {d r : List UInt8} {b : UInt8} (e : d = b :: r) (hl : d.length ≤ 2000) {x : Int} (h1 : -1100 ≤ x) (h2 : x < 1100) : Ev (fun k => zV.f k s (bx d) x) (bx (zaY s d x)) := by
 have hz := zu d
 have hlen : d.length = r.length + 1 := by rw [e]; simp
 unfold zV.f zaY
 refine zd ⟨by omega, by omega, by omega⟩ ?_
 rw [znL]
 by_cases c1 : x < -5 ∨ x > 20
 ·obtain ⟨t, ht, ht2⟩ := zkx h1 h2
  have hts : t = bx (etx x) := za1.1 (by rw [ht2, zI])
  have hts2 := zh8 x
  have hts3 := zu (etx x)
  subst hts
  refine zd c1 (zd (by omega) (Ev.bind ht (zd (by omega) (zi (Ev.now _) ?_))))
  rw [if_pos c1, zcm, zcl, show (⟨#[46]⟩ : ByteArray) = bx [46] from rfl, show (⟨#[101]⟩ : ByteArray) = bx [101] from rfl, show (⟨#[]⟩ : ByteArray) = bx [] from rfl, zU, zU, zU]
  by_cases c2 : 1 < d.length
  ·rw [if_pos (by omega), if_pos c2, zU, zU]; simp
  ·rw [if_neg (by omega), if_neg c2, zU, zU]; simp
 refine ze c1 ?_
 rw [if_neg c1]
 by_cases c2 : x < 0
 ·refine zd c2 (zk (zgG (by omega) (by omega)) (zi (Ev.now _) ?_))
  rw [if_pos c2, show (⟨#[48, 46]⟩ : ByteArray) = bx [48, 46] from rfl, zU, zU, zU]; simp
 refine ze c2 ?_
 rw [if_neg c2]
 by_cases c3 : x + 1 < (d.length : Int)
 ·refine zd (by omega) (zi (Ev.now _) ?_)
  rw [if_pos c3, zcm, zcl, show (⟨#[46]⟩ : ByteArray) = bx [46] from rfl, zU, zU, zU]; simp
 ·refine ze (by omega) ?_
  rw [hz]
  refine zk (zgG (by omega) (by omega)) (zi (Ev.now _) ?_)
  rw [if_neg c3, zU, zU]
theorem zmt (r p : Nat) : hlf r p = -1 ∨ hlf r p = 0 ∨ hlf r p = 1 := by unfold hlf; split <;> (try split) <;> simp
theorem qgw {N n : Nat} (hN : N ≠ 0) (h1 : 1 ≤ n) (h2 : n < (tr (dx N)).length) : ∃ (A : List UInt8) (c : UInt8) (B : List UInt8), tr (dx N) = A ++ c :: B ∧ A.length = n ∧ dx (N / 10 ^ ((dx N).length - n)) = A ∧
  hlf (N % 10 ^ ((dx N).length - n)) (10 ^ ((dx N).length - n)) = (if c.toNat < 53 then -1 else if 53 < c.toNat then 1 else if B ≠ [] then 1 else 0) ∧ N % 10 ^ ((dx N).length - n) ≠ 0 := by
 obtain ⟨j, hj⟩ := zc4 (dx N)
 have hall := zbo N
 cases hd : (tr (dx N)).drop n with
 | nil =>
  have := congrArg List.length hd
  rw [List.length_drop] at this
  simp at this; omega
 | cons c B =>
  have e1 : tr (dx N) = (tr (dx N)).take n ++ c :: B := by rw [← hd, List.take_append_drop]
  have hlA : ((tr (dx N)).take n).length = n := by rw [List.length_take]; omega
  generalize hA : (tr (dx N)).take n = A at e1 hlA
  have e2 : dx N = A ++ (c :: (B ++ List.replicate j 48)) := by
   conv => lhs; rw [hj, e1]
   simp
  have e3 : (c :: (B ++ List.replicate j 48)).length = (dx N).length - n := by
   have := congrArg List.length e2
   rw [List.length_append] at this
   omega
  obtain ⟨p1, p2⟩ := zh4 hN e2 (fun h => by rw [h] at hlA; simp at hlA; omega)
  rw [e3] at p1 p2
  have hR : (c :: (B ++ List.replicate j 48)).all isD = true := by rw [e2] at hall; exact (zbw hall).2
  have hne : zg (B ++ List.replicate j 48) 0 ≠ 0 ↔ B ≠ [] := by
   rw [zhW hall (A := A ++ [c]) (B := B ++ List.replicate j 48) (by rw [e2]; simp), e1]
   rw [List.length_append, List.length_append, List.length_singleton, List.length_cons]
   constructor
   ·intro h hB; rw [hB] at h; simp at h
   ·intro h; have := List.length_pos_iff.2 h; omega
  refine ⟨A, c, B, e1, hlA, p1, ?_, ?_⟩
  ·rw [p2, ← e3, zms hR]
   by_cases d1 : c.toNat < 53
   ·rw [if_pos d1, if_pos d1]
   rw [if_neg d1, if_neg d1]
   by_cases d2 : 53 < c.toNat
   ·rw [if_pos d2, if_pos d2]
   rw [if_neg d2, if_neg d2]
   by_cases c1 : B = []
   ·rw [if_neg (fun h => hne.1 h c1), if_neg (fun h => h c1)]
   ·rw [if_pos (hne.2 c1), if_pos c1]
  ·rw [p2]
   exact (zhW hall e2).2 (by rw [hlA]; exact h2)
def upS (m : Int) (s : Bool) (c : Int) (o : Bool) : Bool := if m = 4 then !s else if m = 5 then s else if m = 2 then decide (0 ≤ c) else if m = 1 then (decide (0 < c) || (decide (c = 0) && o)) else false
theorem zlx {N n : Nat} {A : List UInt8} (h1 : 1 ≤ n) (hA : A.length = n) (h : dx (N / 10 ^ ((dx N).length - n)) = A) (hh : ∀ b r, A = b :: r → b ≠ 48) : N / 10 ^ ((dx N).length - n) ≠ 0 := by
 intro hz
 rw [hz] at h
 have : dx 0 = [48] := by decide
 rw [this] at h
 exact hh 48 [] h.symm rfl
theorem zoI {l A B : List UInt8} (e : l = A ++ B) : l.take A.length = A := by rw [e]; simp
theorem zlO {N : Nat} (hN : N ≠ 0) {A R : List UInt8} (e : tr (dx N) = A ++ R) : ∀ b r, A = b :: r → b ≠ 48 := by
 intro b r hb
 obtain ⟨b0, r0, e0, h0⟩ := zag hN
 obtain ⟨r1, h1⟩ := zbd e0 h0
 rw [h1, hb] at e
 rw [← (List.cons.inj e).1]; exact h0
theorem zfl {N n : Nat} (hN : N ≠ 0) (h1 : 1 ≤ n) (h2 : n ≤ (dx N).length) : (dx (N / 10 ^ ((dx N).length - n))).length = n ∧ N / 10 ^ ((dx N).length - n) ≠ 0 := by
 have e2 : dx N = (dx N).take n ++ (dx N).drop n := (List.take_append_drop n _).symm
 have hl : ((dx N).take n).length = n := by rw [List.length_take]; omega
 obtain ⟨p1, p2⟩ := zh4 hN e2 (fun hh => by rw [hh] at hl; simp at hl; omega)
 rw [List.length_drop] at p1
 refine ⟨by rw [p1, hl], fun hz => ?_⟩
 obtain ⟨b, r, hb, hb0⟩ := zag hN
 obtain ⟨t, ht⟩ := zjU hb h1
 rw [hz, ht] at p1
 have h0 : dx 0 = [48] := by decide
 rw [h0] at p1
 exact hb0 (List.cons.inj p1).1.symm
theorem zf3 {q n : Nat} (h : (dx q).length = n) (hq : q ≠ 0) : (dx (q + 1)).length ≤ n + 1 ∧ n ≤ (dx (q + 1)).length := by
 have hp := zd5 hq
 have k0 := zh3 q
 have k1 := zh1 hq
 rw [h] at k0 k1 hp
 constructor
 ·apply zh2 _ (by omega)
  rw [Nat.pow_succ]; omega
 ·apply Nat.le_of_not_lt
  intro hlt
  have k2 := zh3 (q + 1)
  have k3 : 10 ^ (dx (q + 1)).length ≤ 10 ^ (n - 1) := Nat.pow_le_pow_right (by omega) (by omega)
  omega
theorem zlW {d r : List UInt8} {b : UInt8} (hd : d.all isD = true) (e : d = b :: r) (hb : b ≠ 48) : zg d 0 ≠ 0 := by
 subst e
 rw [zbQ]
 have h1 := zfg (zcj hd).1 hb
 have hp : 0 < 10 ^ r.length := Nat.pow_pos (by omega)
 have : 1 * 10 ^ r.length ≤ (b.toNat - 48) * 10 ^ r.length := Nat.mul_le_mul_right _ (by omega)
 omega
theorem zmD {f : Int} (h : isF f) (s : Bool) {d r : List UInt8} {b : UInt8} (hd : d.all isD = true) (e : d = b :: r) (hb : b ≠ 48) (hl : d.length ≤ 1200) {x : Int} (hx : -100000 ≤ x ∧ x ≤ 100000) (w : Int) :
  Ev (fun k => zcr.f k s (bx d) x f w) (decide ((zp f 1 s (zg d 0) (x - (d.length : Int) + 1)).1 = w)) := by
 have hz := zu d
 have e1 : tz0 d = b :: r := by
  subst e
  unfold tz0
  rw [List.dropWhile_cons, if_neg (by simpa using hb)]
 have hT := zgc hd e1
 rw [← e] at hT
 have hp := ziO (s := bx d) (by omega)
 rw [znG hT hd (by omega)] at hp
 have hr := zhQ h (m := 1) (by decide) s (zlW hd e hb) (p := d.length) hl (zcU hd) (x - (d.length : Int) + 1)
 have hw : Ev (fun k => zdm.f k s (bx d) x f 1) ((zp f 1 s (zg d 0) (x - (d.length : Int) + 1)).1, (zp f 1 s (zg d 0) (x - (d.length : Int) + 1)).2, 0) := by
  unfold zdm.f
  rw [hz, w64 (n := x - (d.length : Int)) (by omega) (by omega), w64 (n := x - (d.length : Int) + 1) (by omega) (by omega)]
  exact Ev.bind hp (Ev.bind hr (Ev.now _))
 unfold zcr.f
 exact Ev.bind hw (Ev.now _)
theorem zhN {f m : Int} (h : isF f) (s : Bool) {q : Nat} (hq : q ≠ 0) (x : Int) : zp f m s (zg (tr (dx q)) 0) (x + ((dx q).length : Int) - ((tr (dx q)).length : Int)) = zp f m s q x := by
 have h1 := zlX (dx q)
 have h2 := zbI (dx q)
 rw [zb5] at h1
 have h3 : zg (tr (dx q)) 0 ≠ 0 := fun hz => hq (by rw [h1, hz, Nat.zero_mul])
 have := zhM (m := m) h s h3 ((dx q).length - (tr (dx q)).length) x
 rw [← h1] at this
 rw [this]
 congr 1; omega
theorem zip {f : Int} (h : isF f) (s : Bool) {q : Nat} (hq : q ≠ 0) (hl : (dx q).length ≤ 1200) {x : Int} (hx : -50000 ≤ x ∧ x ≤ 50000) (w : Int) :
  Ev (fun k => zcr.f k s (bx (tr (dx q))) (x + ((dx q).length : Int) - 1) f w) (decide ((zp f 1 s q x).1 = w)) := by
 obtain ⟨b, r, e, hb⟩ := zag hq
 obtain ⟨r', e'⟩ := zbd e hb
 have h2 := zbI (dx q)
 have := zmD h s (zdE (zbo q)) e' hb (by omega) (x := x + ((dx q).length : Int) - 1) (by omega) w
 rw [show x + ((dx q).length : Int) - 1 - ((tr (dx q)).length : Int) + 1 = x + ((dx q).length : Int) - ((tr (dx q)).length : Int) by omega, zhN h s hq] at this
 exact this
def srt (f w : Int) (s : Bool) (N G : Nat) : Nat → Nat → List UInt8
 | 0, n => zaY s (tr (dx N)) (((dx N).length : Int) - 1 - G)
 | j + 1, n =>
  if (zp f 1 s (N / 10 ^ ((dx N).length - n)) (((dx N).length : Int) - G - n)).1 = w ∧ ¬ ((zp f 1 s (N / 10 ^ ((dx N).length - n) + 1) (((dx N).length : Int) - G - n)).1 = w ∧ upS 1 s (hlf (N % 10 ^ ((dx N).length - n)) (10 ^ ((dx N).length - n))) (decide (N / 10 ^ ((dx N).length - n) % 2 = 1)) = true) then
   za2 s (N / 10 ^ ((dx N).length - n)) (((dx N).length : Int) - G - n)
  else if (zp f 1 s (N / 10 ^ ((dx N).length - n) + 1) (((dx N).length : Int) - G - n)).1 = w then za2 s (N / 10 ^ ((dx N).length - n) + 1) (((dx N).length : Int) - G - n)
  else srt f w s N G j (n + 1)
theorem zph {s : Bool} {c : Int} {o : Bool} : upS 1 s c o = (decide (0 < c) || (decide (c = 0) && o)) := rfl
theorem zjv {f : Int} (h : isF f) (s : Bool) {N G : Nat} (hN : N ≠ 0) (hl : (dx N).length ≤ 800) (hg : G ≤ 1074) (w : Int) : ∀ (j n : Nat), 1 ≤ n → n + j = (tr (dx N)).length →
  Ev (fun k => zy.l0 k s (bx (tr (dx N))) (((dx N).length : Int) - 1 - G) f w (n : Int)) (bx (srt f w s N G j n), 0)
 | 0, n, h1, hj => by
  obtain ⟨b, r, e, hb⟩ := zag hN
  obtain ⟨r', e'⟩ := zbd e hb
  have htl := zbI (dx N)
  have hz := zu (tr (dx N))
  have hpos := zd5 hN
  refine zf ?_; simp only [zy.l0]
  exact ze (by omega) (Ev.bind (zgt s e' (by omega) (by omega) (by omega)) (Ev.now _))
 | j + 1, n, h1, hj => by
  obtain ⟨b, r, e, hb⟩ := zag hN
  obtain ⟨r', e'⟩ := zbd e hb
  have htl := zbI (dx N)
  have hz := zu (tr (dx N))
  have hpos := zd5 hN
  have ih := zjv h s hN hl hg w j (n + 1) (by omega) (by omega)
  have hct : n < (tr (dx N)).length := by omega
  obtain ⟨A, d, B, t1, t2, t3, t4, t5⟩ := qgw hN h1 hct
  have hhead := zlO hN t1
  have hq := zlx h1 t2 t3 hhead
  have hDall := zdE (zbo N)
  have hrest := zn8 s (A := A) (B := B) (c := d) (((dx N).length : Int) - 1 - G) (by rw [← t1]; omega)
  rw [← t1, t2, ← t4] at hrest
  have hA0 : A ≠ [] := fun hh => by rw [hh] at t2; simp at t2; omega
  have hodd : zcT.f s (bx (tr (dx N))) (((dx N).length : Int) - 1 - G) (n : Int) = some (decide (N / 10 ^ ((dx N).length - n) % 2 = 1)) := by
   rcases List.eq_nil_or_concat A with hh | ⟨A', c', hh⟩
   ·exact absurd hh hA0
   ·rw [List.concat_eq_append] at hh
    have := znu s (A := A') (B := d :: B) (c := c') hDall (((dx N).length : Int) - 1 - G) (by omega) (by rw [t1, hh]; simp)
    rw [← hh] at this
    have hl2 : n = A'.length + 1 := by rw [← t2, hh]; simp
    rw [hl2, this, ← hl2, ← t3, zb5]
  have htk : (tr (dx N)).take n = A := by rw [← t2]; exact zoI t1
  have hv : zg ((tr (dx N)).take n) 0 = N / 10 ^ ((dx N).length - n) := by rw [htk, ← t3, zb5]
  have hmore := znc s hDall e' hb (by omega) (x := ((dx N).length : Int) - 1 - G) (by omega) h1 (by omega)
  have hless := zmO s (d := tr (dx N)) (by omega) (((dx N).length : Int) - 1 - G) (n := n) (by omega)
  rw [hv] at hmore
  rw [htk] at hless
  unfold srt
  generalize hc : hlf (N % 10 ^ ((dx N).length - n)) (10 ^ ((dx N).length - n)) = c at hrest ⊢
  have hcr : c = -1 ∨ c = 0 ∨ c = 1 := hc ▸ zmt _ _
  generalize hqq : N / 10 ^ ((dx N).length - n) = q at hmore hodd hq t3 ⊢
  have hlq : (dx q).length = n := by rw [t3, t2]
  obtain ⟨u1, u2⟩ := zf3 hlq hq
  have exx : ((dx N).length : Int) - 1 - G = ((dx N).length : Int) - G - n + ((dx q).length : Int) - 1 := by rw [hlq]; omega
  have exu : ((dx N).length : Int) - 1 - G + ((dx (q + 1)).length : Int) - n = ((dx N).length : Int) - G - n + ((dx (q + 1)).length : Int) - 1 := by omega
  rw [exu] at hmore
  rw [← t3] at hless
  have i1 := zip h s hq (by omega) (x := ((dx N).length : Int) - G - n) (by omega) w
  rw [← exx] at i1
  have i2 := zip h s (q := q + 1) (Nat.succ_ne_zero q) (by omega) (x := ((dx N).length : Int) - G - n) (by omega) w
  have hp1 : Ev (fun k => zV.f k s (bx (tr (dx q))) (((dx N).length : Int) - 1 - G)) (bx (za2 s q (((dx N).length : Int) - G - n))) := by
   obtain ⟨b2, r2, e2, hb2⟩ := zag hq
   obtain ⟨r3, e3⟩ := zbd e2 hb2
   have hl3 := zbI (dx q)
   have := zgt s e3 (x := ((dx N).length : Int) - 1 - G) (by omega) (by omega) (by omega)
   unfold za2
   rw [← exx]
   exact this
  have hp2 : Ev (fun k => zV.f k s (bx (tr (dx (q + 1)))) (((dx N).length : Int) - G - n + ((dx (q + 1)).length : Int) - 1)) (bx (za2 s (q + 1) (((dx N).length : Int) - G - n))) := by
   obtain ⟨b2, r2, e2, hb2⟩ := zag (n := q + 1) (Nat.succ_ne_zero q)
   obtain ⟨r3, e3⟩ := zbd e2 hb2
   have hl3 := zbI (dx (q + 1))
   exact zgt s e3 (by omega) (by omega) (by omega)
  generalize hx : ((dx N).length : Int) - G - n + ((dx (q + 1)).length : Int) - 1 = xu at hmore i2 hp2
  generalize hP : ((dx N).length : Int) - 1 - G = P at *
  have j5 : ∀ (a b : Bool) {r : ByteArray}, (a = true → r = bx (za2 s q (((dx N).length : Int) - G - n))) → (a = false → b = true → r = bx (za2 s (q + 1) (((dx N).length : Int) - G - n))) →
    (a = false → b = false → r = bx (srt f w s N G j (n + 1))) →
    Ev (fun k => zy.j5 k s (bx (tr (dx N))) P f w (n : Int) s (bx (tr (dx q))) P s (bx (tr (dx (q + 1)))) xu a b) (r, 0) := by
   intro a b r ha hb' hc'
   refine zf ?_; simp only [zy.j5]
   cases a with
   | true => rw [ha rfl]; exact zd rfl (Ev.bind hp1 (Ev.now _))
   | false =>
    refine ze (by simp) ?_
    cases b with
    | true => rw [hb' rfl rfl]; exact zd rfl (Ev.bind hp2 (Ev.now _))
    | false =>
     rw [hc' rfl rfl, w64 (n := (n : Int) + 1) (by omega) (by omega)]
     exact ze (by simp) ih
  refine zf ?_; simp only [zy.l0]
  refine zd (by omega) (Ev.bind hless (Ev.bind hmore (Ev.bind i1 (Ev.bind i2 ?_))))
  dsimp only
  by_cases ca : (zp f 1 s q (((dx N).length : Int) - G - n)).1 = w
  ·rw [decide_eq_true ca]
   refine zd rfl ?_
   by_cases cb : (zp f 1 s (q + 1) (((dx N).length : Int) - G - n)).1 = w
   ·rw [decide_eq_true cb]
    refine zf ?_; simp only [zy.j3]
    refine zd trivial (zk hrest ?_)
    rw [zph]
    rcases hcr with rfl | rfl | rfl
    ·refine zd (by decide) (j5 _ _ (fun _ => ?_) (fun hh => by cases hh) (fun hh => by cases hh))
     rw [if_pos ⟨ca, fun hh => by revert hh; simp⟩]
    ·generalize decide (q % 2 = 1) = o at hodd ⊢
     refine ze (by decide) (zd rfl (zk hodd ?_))
     cases o with
     | false => exact j5 _ _ (fun _ => by rw [if_pos ⟨ca, fun hh => absurd hh.2 (by decide)⟩]) (fun hh => by cases hh) (fun hh => by cases hh)
     | true => exact j5 _ _ (fun hh => by cases hh) (fun _ _ => by rw [if_neg (fun hh => hh.2 ⟨cb, by decide⟩), if_pos cb]) (fun _ hh => by cases hh)
    ·refine ze (by decide) (ze (by decide) (j5 _ _ (fun hh => by cases hh) (fun _ _ => ?_) (fun _ hh => by cases hh)))
     rw [if_neg (fun hh2 => hh2.2 ⟨cb, by simp⟩), if_pos cb]
   ·rw [decide_eq_false cb]
    refine zf ?_; simp only [zy.j3]
    refine ze (by simp) (j5 _ _ (fun _ => ?_) (fun hh => by cases hh) (fun hh => by cases hh))
    rw [if_pos ⟨ca, fun hh => cb hh.1⟩]
  ·rw [decide_eq_false ca]
   refine ze (by simp) ?_
   refine zf ?_; simp only [zy.j3]
   refine ze (by simp) (j5 _ _ (fun hh => by cases hh) (fun _ hh => ?_) (fun _ hh => ?_))
   ·rw [if_neg (fun hh2 => ca hh2.1), if_pos (of_decide_eq_true hh)]
   ·rw [if_neg (fun hh2 => ca hh2.1), if_neg (of_decide_eq_false hh)]
def soS (f : Int) (w : Nat) : List UInt8 := if zbC f w = true then nmT f w else srt f (w : Int) (zj f w) (nN f w) (nG f w) ((tr (dx (nN f w))).length - 1) 1
theorem zhi {f : Int} (h : isF f) {w : Nat} (hw : w < 2 * sg f) : Ev (fun k => zy.f k f (w : Int)) (bx (soS f w), 0) := by
 unfold zy.f soS
 refine Ev.bind (znh h hw) ?_
 by_cases hn : zbC f w = true
 ·rw [if_pos hn]
  refine zd hn ?_
  refine zf ?_; simp only [zy.j0]
  exact zd trivial (Ev.now _)
 ·rw [if_neg hn]
  obtain ⟨c5, c4, c1⟩ := ze5 (by simpa using hn)
  have hf := ze3 h c5 c4
  obtain ⟨hN, hl, hg⟩ := zeh h c1 hf
  obtain ⟨b, r, e, hb⟩ := zag hN
  obtain ⟨r', e'⟩ := zbd e hb
  have hp : 1 ≤ (tr (dx (nN f w))).length := by rw [e']; simp
  refine ze hn ?_
  rw [show decide (¬ (0 : Int) = 0) = false from rfl]
  refine zf ?_; simp only [zy.j0]
  refine ze (by simp) (Ev.bind (zlJ h hw c1 hf) ?_)
  exact zjv h (zj f w) hN hl hg (w : Int) ((tr (dx (nN f w))).length - 1) 1 (by omega) (by omega)
theorem zlH {f : Int} (h : isF f) (s : Bool) (n : Nat) (x : Int) : (zp f 1 s n x).1 = (zp f 1 false n x).1 + (sgn f s : Nat) := zok h s 0
theorem zou {f : Int} (h : isF f) {w : Nat} (hw : w < 2 * sg f) (n : Nat) (x : Int) : (zp f 1 (zj f w) n x).1 = (w : Int) ↔ (zp f 1 false n x).1 = ((w % sg f : Nat) : Int) := by
 have h1 := zlH h (zj f w) n x
 have h2 := zey h hw
 omega
theorem zfZ {f m : Int} (h : isF f) (s : Bool) {q : Nat} (hq : q ≠ 0) (hl : (dx q).length ≤ 1100) {x : Int} (h1 : -1100 ≤ x + ((dx q).length : Int) - 1) (h2 : x + ((dx q).length : Int) - 1 < 1100) :
  zx f m (za2 s q x) = ((zp f m s q x).1, (zp f m s q x).2, 0) := by
 obtain ⟨b, r, e, hb⟩ := zag hq
 obtain ⟨r', e'⟩ := zbd e hb
 have htl := zbI (dx q)
 have hpl := zgv (tr (dx q)) (x + ((dx q).length : Int) - 1)
 have := zlM (m := m) h s (zdE (zbo q)) e' hb h1 h2 (by omega)
 rw [show x + ((dx q).length : Int) - 1 - ((tr (dx q)).length : Int) + 1 = x + ((dx q).length : Int) - ((tr (dx q)).length : Int) by omega, zhN h s hq] at this
 exact this
theorem zlL {f m : Int} (h : isF f) {w : Nat} (hw : w < 2 * sg f) (hn : zbC f w = true) : zx f m (nmT f w) = ((zQ f w : Int), 0, 0) := by
 unfold nmT zQ
 by_cases c5 : cls f w = 5
 ·rw [if_pos c5, if_pos c5]
  unfold zx
  rw [if_neg (by simp), if_pos rfl]
 rw [if_neg c5, if_neg c5]
 by_cases c4 : cls f w = 4
 ·rw [if_pos c4]
  obtain ⟨n1, n2⟩ := ziT (s := zj f w) (x := 105) (r := [110, 102]) (by decide)
  have hl := zdz (zj f w)
  unfold zx
  rw [if_neg (by rw [List.length_append]; simp; omega), if_neg (ziV (by decide)), n1, n2]
  unfold zdj
  rw [if_pos rfl]
  exact congrArg (fun x : Nat => ((x : Int), (0 : Int), (0 : Int))) (zmz h hw c4).symm
 rw [if_neg c4]
 by_cases c1 : cls f w = 1
 ·rw [if_pos c1]
  have hl := zdz (zj f w)
  have hr : zai [48] = some ([48], 0) := by decide
  rw [zhO (c := 48) (t := []) (by decide) (by simp) hr]
  unfold zby
  rw [if_pos (by decide)]
  exact congrArg (fun x : Nat => ((x : Int), (0 : Int), (0 : Int))) (zpB h hw c1).symm
 ·have := of_decide_eq_true hn
  omega
theorem zfT {f : Int} {w : Nat} (c5 : cls f w ≠ 5) : zQ f w = w := by unfold zQ; rw [if_neg c5]
theorem zhP {f m : Int} (h : isF f) {w : Nat} (hw : w < 2 * sg f) (c1 : cls f w ≠ 1) (c4 : cls f w < 4) : zp f m (zj f w) (nN f w) (-(nG f w : Int)) = ((w : Int), 0) := by
 have W := zeA h c1 c4
 have h1 := zoe h (m := m) hw c1 c4
 rw [W.eq, V_D] at h1
 have h2 := zlE (m := m) h (zj f w) W.ne (we f w)
 rw [h1] at h2
 exact h2
theorem zjF {f : Int} (h : isF f) (s : Bool) {N G : Nat} (hN : N ≠ 0) (hl : (dx N).length ≤ 800) (hg : G ≤ 1074) {w : Int} (hex : (zp f 1 s N (-(G : Int))).1 = w) : ∀ (j n : Nat), 1 ≤ n → n + j = (tr (dx N)).length →
  ∃ fl, zx f 1 (srt f w s N G j n) = (w, fl, 0)
 | 0, n, h1, hj => by
  unfold srt
  have hpos := zd5 hN
  have := zfZ (m := 1) h s hN (by omega) (x := -(G : Int)) (by omega) (by omega)
  unfold za2 at this
  rw [show -(G : Int) + ((dx N).length : Int) - 1 = ((dx N).length : Int) - 1 - (G : Int) by omega] at this
  exact ⟨_, by rw [this, hex]⟩
 | j + 1, n, h1, hj => by
  have ih := zjF h s hN hl hg hex j (n + 1) (by omega) (by omega)
  have htl := zbI (dx N)
  obtain ⟨q1, q2⟩ := zfl hN h1 (by omega)
  obtain ⟨u1, u2⟩ := zf3 q1 q2
  unfold srt
  have d1 := zfZ (m := 1) h s q2 (x := ((dx N).length : Int) - G - n) (by omega) (by omega) (by omega)
  have d2 := zfZ (m := 1) h s (q := N / 10 ^ ((dx N).length - n) + 1) (Nat.succ_ne_zero _) (x := ((dx N).length : Int) - G - n) (by omega) (by omega) (by omega)
  split
  ·rename_i hc
   exact ⟨_, by rw [d1, hc.1]⟩
  ·split
   ·rename_i hc
    exact ⟨_, by rw [d2, hc]⟩
   ·exact ih
theorem zdC {f : Int} (h : isF f) {w : Nat} (hw : w < 2 * sg f) : ∃ fl, zx f 1 (soS f w) = ((zQ f w : Int), fl, 0) := by
 unfold soS
 by_cases hn : zbC f w = true
 ·rw [if_pos hn]; exact ⟨0, zlL h hw hn⟩
 rw [if_neg hn]
 obtain ⟨c5, c4, c1⟩ := ze5 (by simpa using hn)
 have hf := ze3 h c5 c4
 obtain ⟨hN, hl, hg⟩ := zeh h c1 hf
 obtain ⟨b, r, e, hb⟩ := zag hN
 obtain ⟨r', e'⟩ := zbd e hb
 have hp : 1 ≤ (tr (dx (nN f w))).length := by rw [e']; simp
 have hx := zhP (m := 1) h hw c1 hf
 rw [zfT c5]
 exact zjF h (zj f w) hN hl hg (by rw [hx]) _ 1 (by omega) (by omega)
def zjP (f : Int) (w : Nat) : Int := if zj f w = true then -((w % sg f : Nat) : Int) else ((w % sg f : Nat) : Int)
theorem zlr {f : Int} (h : isF f) {w : Nat} (c1 : cls f w ≠ 1) (c4 : cls f w < 4) : zbl f 1 false (zn f w) (wex f w) = w % sg f := by
 obtain ⟨b1, b2, b3⟩ := zko h c1 c4
 have e := congrArg Prod.fst (zjn (m := 1) h false (zde h c1 c4) b1 b2 b3)
 rw [zdx, zh7 h c1 c4] at e
 dsimp only at e
 omega
theorem zon {f : Int} {a b : Nat} (e : a % sg f = b % sg f) : zn f a = zn f b ∧ wex f a = wex f b := by
 have e1 : zw f a = zw f b := by unfold zw; rw [e]
 have e2 : zO f a = zO f b := by unfold zO; rw [e]
 unfold zn wex
 rw [e1, e2]
 exact ⟨rfl, rfl⟩
theorem zmy {f : Int} (h : isF f) : 0 < mo f * 2 ^ fb f ∧ mo f * 2 ^ fb f < sg f := by
 have := ze4 h
 have := zh (fb f)
 have := zdr h
 exact ⟨Nat.mul_pos (by omega) (zh _), by omega⟩
theorem znO {n n' a b a' b' : Nat} (e : a + b' = a' + b) (h : n * 10 ^ a ≤ n' * 10 ^ b) : n * 10 ^ a' ≤ n' * 10 ^ b' := by
 have h1 : n * 10 ^ a * 10 ^ b' ≤ n' * 10 ^ b * 10 ^ b' := Nat.mul_le_mul_right _ h
 rw [Nat.mul_assoc, ← Nat.pow_add, e, Nat.pow_add, ← Nat.mul_assoc, Nat.mul_right_comm n'] at h1
 exact Nat.le_of_mul_le_mul_right h1 (zaQ b)
theorem zlF {f m : Int} (h : isF f) (s : Bool) {n n' : Nat} (hn : n ≠ 0) (hn' : n' ≠ 0) {x x' : Int} {a b : Nat} (hx : (a : Int) - b = x - x') (hle : n * 10 ^ a ≤ n' * 10 ^ b) :
  ∃ c c' : Nat, (zp f m s n x).1 = ((c + sgn f s : Nat) : Int) ∧ (zp f m s n' x').1 = ((c' + sgn f s : Nat) : Int) ∧ c ≤ c' ∧ c' ≤ mo f * 2 ^ fb f := by
 have h1 := znO (a' := x.toNat + (-x').toNat) (b' := x'.toNat + (-x).toNat) (by omega) hle
 rw [Nat.pow_add, Nat.pow_add, ← Nat.mul_assoc, ← Nat.mul_assoc] at h1
 exact zgN (m := m) h s (Nat.mul_ne_zero hn (Nat.ne_of_gt (zaQ _))) (Nat.mul_ne_zero hn' (Nat.ne_of_gt (zaQ _))) (zaQ _) (zaQ _) h1 0
theorem zjQ {f : Int} (h : isF f) (s : Bool) {c : Nat} (hc : c ≤ mo f * 2 ^ fb f) : zjP f (c + sgn f s) = (if s = true then -(c : Int) else (c : Int)) ∧ c + sgn f s < 2 * sg f ∧ cls f (c + sgn f s) ≠ 5 := by
 have hi := zmy h
 have hm := zoF h (x := c) (by omega) s
 have e : zj f (c + sgn f s) = s := by
  unfold zj sgn
  cases s
  ·rw [if_neg (by simp)]; exact decide_eq_false (by omega)
  ·rw [if_pos rfl]; exact decide_eq_true (by omega)
 refine ⟨?_, ?_, ?_⟩
 ·unfold zjP
  rw [hm, e]
 ·unfold sgn; split <;> omega
 ·unfold cls
  rw [hm]
  split
  ·omega
  ·split
   ·omega
   ·split
    ·omega
    ·split <;> omega
def dg (t : List UInt8) : List UInt8 := (t.takeWhile (· != 101)).filter isD
theorem zg4 : ∀ l : List UInt8, (l.takeWhile isD).all isD = true
 | [] => rfl
 | c :: l => by
  rw [List.takeWhile_cons]
  split
  ·rename_i h
   rw [List.all_cons, h, zg4 l]; rfl
  ·rfl
def okT (l : List UInt8) : Bool := decide (l = [110, 97, 110]) || decide (z8 l = [105, 110, 102]) || (zai (z8 l)).isSome
def isS (c : UInt8) : Bool := c == 43 || c == 45
def sg1 : Bool → List UInt8 → Bool
 | _, [] => true
 | p, c :: l => (p || !isS c) && sg1 (c == 101) l
theorem zgR : ∀ (P : List UInt8) (p : Bool) (c : UInt8) (Q : List UInt8), sg1 p (P ++ c :: Q) = true → isS c = true → (P = [] ∧ p = true) ∨ ∃ P', P = P' ++ [101]
 | [], p, c, Q, h, hc => by
  simp only [List.nil_append, sg1, Bool.and_eq_true, Bool.or_eq_true, Bool.not_eq_true'] at h
  rcases h.1 with h1 | h1
  ·exact .inl ⟨rfl, h1⟩
  ·rw [hc] at h1; cases h1
 | b :: P, p, c, Q, h, hc => by
  simp only [List.cons_append, sg1, Bool.and_eq_true] at h
  rcases zgR P (b == 101) c Q h.2 hc with ⟨rfl, h1⟩ | ⟨P', rfl⟩
  ·right
   refine ⟨[], ?_⟩
   rw [show b = 101 by simpa using h1]; rfl
  ·exact .inr ⟨b :: P', rfl⟩
theorem zio {c : UInt8} (h : isD c = true ∨ c = 46) : isS c = false ∧ (c == 101) = false := by
 rcases h with h | h
 ·have h1 := zbR h
  have n1 : c ≠ 43 := fun e => by rw [e] at h1; revert h1; decide
  have n2 : c ≠ 45 := fun e => by rw [e] at h1; revert h1; decide
  have n3 : c ≠ 101 := fun e => by rw [e] at h1; revert h1; decide
  unfold isS
  simp [n1, n2, n3]
 ·rw [h]; decide
theorem zgQ : ∀ (W T : List UInt8) (p : Bool), (∀ c ∈ W, isD c = true ∨ c = 46) → W ≠ [] → sg1 false T = true → sg1 p (W ++ T) = true
 | [], _, _, _, h, _ => absurd rfl h
 | [c], T, p, hW, _, hT => by
  obtain ⟨h1, h2⟩ := zio (hW c (by simp))
  simp [sg1, h1, h2, hT]
 | c :: d :: W, T, p, hW, _, hT => by
  obtain ⟨h1, h2⟩ := zio (hW c (by simp))
  have := zgQ (d :: W) T false (fun x hx => hW x (by simp at hx ⊢; exact .inr hx)) (by simp) hT
  show ((p || !isS c) && sg1 (c == 101) (d :: W ++ T)) = true
  rw [h1, h2, this]; simp
theorem zoo {R : List UInt8} (h : R.all isD = true) (p : Bool) : sg1 p R = true := by
 cases R with
 | nil => rfl
 | cons c R =>
  have := zgQ (c :: R) [] p (fun x hx => .inl (List.all_eq_true.1 h x hx)) (by simp) rfl
  rwa [List.append_nil] at this
theorem zig {E : List UInt8} (h : zah E = true) : ∃ R, R ≠ [] ∧ R.all isD = true ∧ (E = R ∨ E = 45 :: R ∨ E = 43 :: R) := by
 unfold zah at h
 simp only [Bool.and_eq_true, decide_eq_true_eq] at h
 obtain ⟨⟨h1, _⟩, h3⟩ := h
 refine ⟨zv E, h1, h3, ?_⟩
 unfold zv
 split
 ·exact .inr (.inl rfl)
 ·exact .inr (.inr rfl)
 ·exact .inl rfl
theorem zn5 {l : List UInt8} {y : List UInt8 × Int} (h : zai l = some y) : ∃ (W : List UInt8) (d : UInt8) (T : List UInt8), l = W ++ [d] ++ T ∧ (∀ c ∈ W ++ [d], isD c = true ∨ c = 46) ∧ isD d = true ∧ (∃ b r, W ++ [d] = b :: r ∧ isD b = true) ∧ (T = [] ∨ ∃ E, T = 101 :: E ∧ zah E = true) := by
 have tail : ∀ {d : List UInt8} {x : Int} {t : List UInt8}, zap d x t = some y → t = [] ∨ ∃ E, t = 101 :: E ∧ zah E = true := by
  intro d x t ht
  unfold zap at ht
  split at ht
  ·rename_i h0; exact .inl h0
  ·split at ht
   ·rename_i h0 h1
    cases t with
    | nil => exact absurd rfl h0
    | cons c t =>
     have : c = 101 := by simpa using h1.1
     subst this
     exact .inr ⟨t, rfl, h1.2⟩
   ·cases ht
 have e1 := zcg isD l
 have a1 := zg4 l
 have last : ∀ {A : List UInt8}, A ≠ [] → A.all isD = true → ∃ B d, A = B ++ [d] ∧ isD d = true := by
  intro A h0 hA
  rcases List.eq_nil_or_concat A with h1 | ⟨B, d, h1⟩
  ·exact absurd h1 h0
  ·rw [List.concat_eq_append] at h1
   rw [h1] at hA
   exact ⟨B, d, h1, by simpa using (zbw hA).2⟩
 unfold zai at h
 split at h
 ·cases h
 ·rename_i h0
  obtain ⟨b, r, hbr⟩ : ∃ b r, l.takeWhile isD = b :: r := by
   cases hh : l.takeWhile isD with
   | nil => exact absurd hh h0
   | cons b r => exact ⟨b, r, rfl⟩
  have hb : isD b = true := by rw [hbr] at a1; exact (zcj a1).1
  split at h
  ·rename_i h1
   split at h
   ·cases h
   ·rename_i h2
    cases hd : l.dropWhile isD with
    | nil => rw [hd] at h1; cases h1
    | cons c t =>
     rw [hd] at h h1 h2 e1
     have hc : c = 46 := by simpa using h1
     subst hc
     rw [List.tail_cons] at h h2
     have e2 := zcg isD t
     have a2 := zg4 t
     obtain ⟨B, d, k1, k2⟩ := last h2 a2
     refine ⟨l.takeWhile isD ++ 46 :: B, d, t.dropWhile isD, ?_, ?_, k2, ⟨b, r ++ 46 :: B ++ [d], by rw [hbr]; simp, hb⟩, tail h⟩
     ·conv => lhs; rw [← e1, ← e2, k1]
      simp
     ·intro c hc
      rw [k1] at a2
      simp only [List.mem_append, List.mem_cons, List.not_mem_nil, or_false] at hc
      rcases hc with (hx | hx | hx) | hx
      ·exact .inl (List.all_eq_true.1 a1 c hx)
      ·exact .inr hx
      ·exact .inl (List.all_eq_true.1 a2 c (by simp [hx]))
      ·exact .inl (List.all_eq_true.1 a2 c (by simp [hx]))
  ·obtain ⟨B, d, k1, k2⟩ := last h0 a1
   refine ⟨B, d, l.dropWhile isD, ?_, ?_, k2, ⟨b, r, by rw [← k1, hbr], hb⟩, tail h⟩
   ·rw [← k1]; exact e1.symm
   ·intro c hc
    rw [← k1] at hc
    exact .inl (List.all_eq_true.1 a1 c hc)
theorem zfi {l : List UInt8} (h : okT l = true) : sg1 true l = true ∧ (∃ P c, l = P ++ [c] ∧ c ≠ 101 ∧ c ≠ 105) ∧ (∀ c r, l = c :: r → c ≠ 43) := by
 unfold okT at h
 simp only [Bool.or_eq_true, decide_eq_true_eq] at h
 have num : ∀ {b : List UInt8}, (zai b).isSome = true → sg1 false b = true ∧ (∃ P c, b = P ++ [c] ∧ c ≠ 101 ∧ c ≠ 105) ∧ (∀ c r, b = c :: r → c ≠ 43) := by
  intro b hb
  obtain ⟨y, hy⟩ := Option.isSome_iff_exists.1 hb
  obtain ⟨W, d, T, w1, w2, w3, ⟨b0, r0, w4, w5⟩, w6⟩ := zn5 hy
  have dl : ∀ {x : UInt8}, isD x = true → x ≠ 101 ∧ x ≠ 105 ∧ x ≠ 43 := by
   intro x hx
   have h1 := zbR hx
   exact ⟨fun e => by rw [e] at h1; revert h1; decide, fun e => by rw [e] at h1; revert h1; decide, fun e => by rw [e] at h1; revert h1; decide⟩
  refine ⟨?_, ?_, ?_⟩
  ·rw [w1]
   refine zgQ _ _ _ w2 (by simp) ?_
   rcases w6 with rfl | ⟨E, rfl, hE⟩
   ·rfl
   ·obtain ⟨R, r1, r2, r3⟩ := zig hE
    have hd := zoo r2
    rcases r3 with rfl | rfl | rfl
    ·simp [sg1, isS, hd]
    ·simp [sg1, isS, hd]
    ·simp [sg1, isS, hd]
  ·rcases w6 with rfl | ⟨E, rfl, hE⟩
   ·exact ⟨W, d, by rw [w1, List.append_nil], (dl w3).1, (dl w3).2.1⟩
   ·obtain ⟨R, r1, r2, r3⟩ := zig hE
    rcases List.eq_nil_or_concat R with hh | ⟨B, x, hh⟩
    ·exact absurd hh r1
    ·rw [List.concat_eq_append] at hh
     have hx : isD x = true := by rw [hh] at r2; simpa using (zbw r2).2
     rcases r3 with rfl | rfl | rfl
     ·exact ⟨W ++ [d] ++ 101 :: B, x, by rw [w1, hh]; simp, (dl hx).1, (dl hx).2.1⟩
     ·exact ⟨W ++ [d] ++ 101 :: 45 :: B, x, by rw [w1, hh]; simp, (dl hx).1, (dl hx).2.1⟩
     ·exact ⟨W ++ [d] ++ 101 :: 43 :: B, x, by rw [w1, hh]; simp, (dl hx).1, (dl hx).2.1⟩
  ·intro c r hcr
   rw [w1, w4] at hcr
   rw [← (List.cons.inj hcr).1]
   exact (dl w5).2.2
 have body : l = z8 l ∨ l = 45 :: z8 l := by
  cases l with
  | nil => exact .inl rfl
  | cons c t =>
   by_cases hc : c = 45
   ·subst hc; exact .inr rfl
   ·left; unfold z8; split <;> simp_all
 have lift : sg1 false (z8 l) = true → (∃ P c, z8 l = P ++ [c] ∧ c ≠ 101 ∧ c ≠ 105) → (∀ c r, z8 l = c :: r → c ≠ 43) → sg1 true l = true ∧ (∃ P c, l = P ++ [c] ∧ c ≠ 101 ∧ c ≠ 105) ∧ (∀ c r, l = c :: r → c ≠ 43) := by
  intro g1 g2 g3
  generalize z8 l = b at body g1 g2 g3
  have g1' : sg1 true b = true := by
   cases b with
   | nil => rfl
   | cons c b =>
    simp only [sg1, Bool.and_eq_true] at g1 ⊢
    exact ⟨rfl, g1.2⟩
  rcases body with rfl | rfl
  ·exact ⟨g1', g2, g3⟩
  ·obtain ⟨P, c, k1, k2, k3⟩ := g2
   refine ⟨by simp [sg1, isS, g1], ⟨45 :: P, c, by rw [k1]; rfl, k2, k3⟩, fun c r hcr => by rw [← (List.cons.inj hcr).1]; decide⟩
 rcases h with (h | h) | h
 ·subst h
  exact ⟨by decide, ⟨[110, 97], 110, rfl, by decide, by decide⟩, fun c r hcr => by rw [← (List.cons.inj hcr).1]; decide⟩
 ·rw [h] at lift
  exact lift (by decide) ⟨[105, 110], 102, rfl, by decide, by decide⟩ (fun c r hcr => by rw [← (List.cons.inj hcr).1]; decide)
 ·obtain ⟨n1, n2, n3⟩ := num h
  exact lift n1 n2 n3
def zfu (A : List UInt8) (c : UInt8) (B : List UInt8) : Prop := isS c = true ∧ okT A = true ∧ okT B = true ∧ (∀ x r, B = x :: r → x ≠ 45) ∧ ¬ (c = 45 ∧ B = [110, 97, 110])
theorem zka {A B : List UInt8} {c : UInt8} (h : zfu A c B) : A ≠ [] ∧ (∀ P x, A = P ++ [x] → x ≠ 101) ∧ ∀ (P : List UInt8) (x : UInt8) (Q : List UInt8), B = P ++ x :: Q → isS x = true → ∃ P', P = P' ++ [101] := by
 obtain ⟨h1, h2, h3, h4, h5⟩ := h
 obtain ⟨a1, ⟨P0, c0, a2, a3, _⟩, a4⟩ := zfi h2
 obtain ⟨b1, _, b4⟩ := zfi h3
 refine ⟨by rw [a2]; simp, fun P x hPx => ?_, fun P x Q hB hx => ?_⟩
 ·rw [a2] at hPx
  have := (List.append_inj' hPx rfl).2
  rw [← (List.cons.inj this).1]; exact a3
 ·rw [hB] at b1
  rcases zgR P true x Q b1 hx with ⟨rfl, _⟩ | hP
  ·exfalso
   have n1 := h4 x Q hB
   have n2 := b4 x Q hB
   unfold isS at hx
   simp [n1, n2] at hx
  ·exact hP
def spl (t : List UInt8) : Nat → Option Nat
 | 0 => none
 | i + 1 => if isS (t.getD (i + 1) 0) = true ∧ t.getD i 0 ≠ 101 then some (i + 1) else spl t i
theorem zjC {t : List UInt8} : ∀ {n i : Nat}, spl t n = some i → 1 ≤ i ∧ i ≤ n ∧ isS (t.getD i 0) = true
 | 0, _, h => by cases h
 | n + 1, i, h => by
  unfold spl at h
  split at h
  ·rename_i hc
   cases h
   exact ⟨by omega, Nat.le_refl _, hc.1⟩
  ·obtain ⟨h1, h2, h3⟩ := zjC h
   exact ⟨h1, by omega, h3⟩
theorem zmk {A B : List UInt8} {i : Nat} (h : i < A.length) : (A ++ B).getD i 0 = A.getD i 0 := by
 rw [List.getD_eq_getElem?_getD, List.getD_eq_getElem?_getD, List.getElem?_append_left h]
theorem zd8 {A B : List UInt8} {i : Nat} (h : A.length ≤ i) : (A ++ B).getD i 0 = B.getD (i - A.length) 0 := by
 rw [List.getD_eq_getElem?_getD, List.getD_eq_getElem?_getD, List.getElem?_append_right h]
theorem zjB {A B : List UInt8} {c : UInt8} (h : zfu A c B) : ∀ (j : Nat), j ≤ B.length → spl (A ++ c :: B) (A.length + j) = some A.length
 | 0, _ => by
  obtain ⟨h1, h2, _⟩ := zka h
  rcases List.eq_nil_or_concat A with hA | ⟨P, x, hA⟩
  ·exact absurd hA h1
  ·rw [List.concat_eq_append] at hA
   have hx := h2 P x hA
   have hl : A.length = P.length + 1 := by rw [hA]; simp
   have e1 : (A ++ c :: B).getD (P.length + 1) 0 = c := by rw [zd8 (by omega), hl]; simp
   have e2 : (A ++ c :: B).getD P.length 0 = x := by rw [zmk (by omega), hA]; simp
   rw [Nat.add_zero, hl]
   unfold spl
   rw [e1, e2, if_pos ⟨h.1, hx⟩]
 | j + 1, hj => by
  obtain ⟨_, _, h3⟩ := zka h
  have ih := zjB h j (by omega)
  show spl (A ++ c :: B) (A.length + j + 1) = some A.length
  unfold spl
  rw [if_neg, ih]
  rintro ⟨k1, k2⟩
  have e1 : (A ++ c :: B).getD (A.length + j + 1) 0 = B.getD j 0 := by
   rw [zd8 (by omega), show A.length + j + 1 - A.length = j + 1 by omega]; simp
  rw [e1] at k1
  have hB : B = B.take j ++ B.getD j 0 :: B.drop (j + 1) := by
   rw [List.getD_eq_getElem?_getD, List.getElem?_eq_getElem (by omega), Option.getD_some]
   conv => lhs; rw [← List.take_append_drop j B]
   rw [List.drop_eq_getElem_cons (by omega)]
  obtain ⟨P', hP'⟩ := h3 _ _ _ hB k1
  have hl := congrArg List.length hP'
  rw [List.length_take, List.length_append, List.length_singleton] at hl
  have hj1 : 1 ≤ j := by omega
  have e2 : (A ++ c :: B).getD (A.length + j) 0 = 101 := by
   rw [zd8 (by omega), show A.length + j - A.length = (j - 1) + 1 by omega]
   have e3 : (c :: B).getD (j - 1 + 1) 0 = B.getD (j - 1) 0 := by simp
   rw [e3]
   conv => lhs; rw [hB, hP', List.append_assoc]
   rw [zd8 (by omega), show j - 1 - P'.length = 0 by omega]
   simp
  exact k2 e2
theorem zoy {A B : List UInt8} {c : UInt8} (h : zfu A c B) : spl (A ++ c :: B) ((A ++ c :: B).length - 1) = some A.length := by
 have := zjB h B.length (Nat.le_refl _)
 rw [show (A ++ c :: B).length - 1 = A.length + B.length by simp]
 exact this
theorem zlC {f m : Int} (h : isF f) (s : Bool) (n : Nat) (x : Int) : ∃ c : Nat, c ≤ mo f * 2 ^ fb f ∧ (zby f m s n x).1 = ((c + sgn f s : Nat) : Int) ∧ (zby f m s n x).2.2 = 0 ∧ (n = 0 → c = 0) := by
 unfold zby
 by_cases c0 : n = 0
 ·rw [if_pos c0]
  exact ⟨0, Nat.zero_le _, by simp, rfl, fun _ => rfl⟩
 ·rw [if_neg c0]
  obtain ⟨c, c', p1, _, p3, p4⟩ := zlF (m := m) h s c0 c0 (x := x) (x' := x) (a := 0) (b := 0) (by omega) (Nat.le_refl _)
  exact ⟨c, by omega, p1, rfl, fun hh => absurd hh c0⟩
theorem zkr {k w : Nat} (h : w < 2 ^ k) : w ^^^ 2 ^ k = 2 ^ k + w := by
 apply Nat.eq_of_testBit_eq
 intro i
 rw [Nat.testBit_xor, Nat.testBit_two_pow]
 rcases Nat.lt_trichotomy i k with c | c | c
 ·rw [Nat.testBit_two_pow_add_gt c, show decide (k = i) = false from decide_eq_false (by omega)]; simp
 ·subst c
  rw [Nat.testBit_two_pow_add_eq]; simp
 ·have h1 : w < 2 ^ i := Nat.lt_of_lt_of_le h (Nat.pow_le_pow_right (by omega) (by omega))
  have h2 : 2 ^ k + w < 2 ^ i := by
   have : 2 ^ (k + 1) ≤ 2 ^ i := Nat.pow_le_pow_right (by omega) (by omega)
   rw [Nat.pow_succ] at this; omega
  rw [Nat.testBit_lt_two_pow h1, Nat.testBit_lt_two_pow h2, show decide (k = i) = false from decide_eq_false (by omega)]; rfl
theorem zpA {a b : Nat} (ha : a < 18446744073709551616) (hb : b < 18446744073709551616) : Go.bits .xor .u64 (a : Int) (b : Int) = ((a ^^^ b : Nat) : Int) := by
 show IntKind.u64.wrap ((BitVec.ofInt 64 (a : Int) ^^^ BitVec.ofInt 64 (b : Int)).toNat : Int) = _
 have e : ∀ n : Nat, n < 18446744073709551616 → (BitVec.ofInt 64 (n : Int)).toNat = n := fun n hn => by simp; omega
 have hx : a ^^^ b < 2 ^ 64 := Nat.xor_lt_two_pow (by omega) (by omega)
 rw [BitVec.toNat_xor, e a ha, e b hb, u64 (by omega) (by omega)]
def zcX (f : Int) (v : Nat) : Nat := v % sg f + sgn f (!zj f v)
theorem znr {f : Int} (h : isF f) {v : Nat} (hv : v < 2 * sg f) : Go.bits .xor .u64 (v : Int) (sg f : Int) = ((zcX f v : Nat) : Int) := by
 have hp := zba h
 rw [zpA (by omega) (by omega)]
 congr 1
 unfold zcX zj sgn
 have hk := zdA h
 by_cases c : sg f ≤ v
 ·obtain ⟨u, rfl⟩ : ∃ u, v = sg f + u := ⟨v - sg f, by omega⟩
  have hu : u < 2 ^ sk f := by rw [← hk]; omega
  rw [decide_eq_true c, if_neg (by simp), Nat.add_mod_left, Nat.mod_eq_of_lt (by rw [hk]; exact hu)]
  rw [hk, ← zkr hu, Nat.xor_assoc, Nat.xor_self, Nat.xor_zero, Nat.add_zero]
 ·have hu : v < 2 ^ sk f := by rw [← hk]; omega
  rw [decide_eq_false c, if_pos (by simp), Nat.mod_eq_of_lt (by omega), hk, zkr hu, Nat.add_comm]
theorem zky {f : Int} (h : isF f) {v : Nat} (hv : v < 2 * sg f) (c5 : cls f v ≠ 5) : Ev (fun k => zdJ.f k f (v : Int)) (((zcX f v : Nat) : Int), 0) := by
 have ho := zeI h v
 unfold zaV at ho
 rw [if_pos hv] at ho
 have ht : Ev (fun k => zdO.f k f (v : Int) (v : Int)) (((zcX f v : Nat) : Int), 0) := by
  unfold zdO.f
  refine Ev.bind ho (ze (by simp) (zk (zfW h hv) (ze c5 ?_)))
  exact zk (a := ((zcX f v : Nat) : Int)) (by unfold zeD.f; rw [znr h hv]) (Ev.now _)
 unfold zdJ.f
 exact Ev.bind ht (Ev.now _)
theorem zeY {f m : Int} (h : isF f) {l : List UInt8} (hl : l.length ≤ 1200) (ok : okT l = true) : (zx f m l).2.2 = 0 ∧ (l ≠ [110, 97, 110] → ∃ v : Nat, (zx f m l).1 = (v : Int) ∧ v < 2 * sg f ∧ cls f v ≠ 5) := by
 unfold okT at ok
 simp only [Bool.or_eq_true, decide_eq_true_eq] at ok
 unfold zx
 rw [if_neg (by omega)]
 by_cases c1 : l = [110, 97, 110]
 ·rw [if_pos c1]
  exact ⟨rfl, fun hh => absurd c1 hh⟩
 rw [if_neg c1]
 unfold zdj
 by_cases c2 : z8 l = [105, 110, 102]
 ·rw [if_pos c2]
  obtain ⟨_, s2, s3⟩ := zjQ h (za8 l) (c := mo f * 2 ^ fb f) (Nat.le_refl _)
  exact ⟨rfl, fun _ => ⟨_, rfl, s2, s3⟩⟩
 rw [if_neg c2]
 obtain ⟨y, hy⟩ := Option.isSome_iff_exists.1 ((ok.resolve_left (fun hh => hh.elim c1 c2)))
 rw [hy]
 show (zby f m (za8 l) (zg y.1 0) y.2).2.2 = 0 ∧ (l ≠ [110, 97, 110] → ∃ v : Nat, (zby f m (za8 l) (zg y.1 0) y.2).1 = (v : Int) ∧ _)
 obtain ⟨c, d1, d2, d3, _⟩ := zlC (m := m) h (za8 l) (zg y.1 0) y.2
 obtain ⟨_, s2, s3⟩ := zjQ h (za8 l) d1
 exact ⟨d3, fun _ => ⟨_, d2, s2, s3⟩⟩
theorem zd2 {f m : Int} {l : List UInt8} (hl : l.length ≤ 1200) (ok : ¬ okT l = true) : zx f m l = (0, 0, 12) := by
 unfold okT at ok
 simp only [Bool.or_eq_true, decide_eq_true_eq, not_or] at ok
 obtain ⟨⟨c1, c2⟩, c3⟩ := ok
 have : zai (z8 l) = none := by
  cases hr : zai (z8 l) with
  | none => rfl
  | some y => rw [hr] at c3; exact absurd rfl c3
 unfold zx zdj
 rw [if_neg (by omega), if_neg c1, if_neg c2, this]
 rfl
def zaa (m : Int) (c : UInt8) : Int := if c = 45 ∧ m ≥ 4 then 9 - m else m
def zcE (f : Int) (c : UInt8) (x : Int) : Int := if c = 45 then ((zcX f x.toNat : Nat) : Int) else x
def zg5 (f m : Int) (A : List UInt8) (c : UInt8) (B : List UInt8) : Int × Int × Int × Int × Int :=
 ((zx f m A).1, zcE f c (zx f (zaa m c) B).1, (zx f m A).2.1, (zx f (zaa m c) B).2.1, 0)
def zak (c : UInt8) (B : List UInt8) : Bool := decide (B.head? ≠ some 45) && !decide (c = 45 ∧ B = [110, 97, 110]) && okT B
theorem zjc (B : List UInt8) : zcf.f (bx B) (⟨#[45]⟩ : ByteArray) = some (decide (B.head? = some 45)) := by
 rw [zom]
 congr 1
 apply decide_eq_decide.2
 show (tl (bx B)).take 1 = [45] ↔ _
 rw [zI]
 cases B with
 | nil => simp
 | cons x r => simp
theorem zm8 {m : Int} (hm : isM m) (c : UInt8) : isM (zaa m c) := by
 unfold isM at *
 unfold zaa
 split <;> omega
theorem zmx {f m : Int} (h : isF f) (hm : isM m) {c : UInt8} {B : List UInt8} (hl : B.length ≤ 1200) :
  ∃ r : Int × Int × Bool, Ev (fun k => zA.f k f m (bx (c :: B))) r ∧ (r.2.2 = zak c B) ∧ (zak c B = true → r.1 = zcE f c (zx f (zaa m c) B).1 ∧ r.2.1 = (zx f (zaa m c) B).2.1) := by
 have hz := zu (c :: B)
 rw [List.length_cons] at hz
 have hb : bt (bx (c :: B)) 0 = (c.toNat : Int) := zb3 (A := []) (B := B) (by rw [zI]; rfl)
 have hd : (bx (c :: B)).extract (1 : Int).toNat (bx (c :: B)).size = bx B := by
  rw [show (1 : Int).toNat = 1 from rfl, zcl]; rfl
 have c45 : (c.toNat : Int) = 45 ↔ c = 45 := ⟨fun hh => UInt8.toNat_inj.1 (by show _ = 45; omega), fun hh => by rw [hh]; rfl⟩
 have hgo : ∀ {r},
   (∀ hB : B.head? = some 45, r = (0, 0, false)) →
   (∀ (h0 : ¬ B.head? = some 45) (h1 : c = 45 ∧ B = [110, 97, 110]), r = (0, 0, false)) →
   (∀ (h0 : ¬ B.head? = some 45) (h1 : ¬ (c = 45 ∧ B = [110, 97, 110])), Ev (fun k => zA.j3 k (bx (c :: B)) f m (bx B) (zaa m c)) r) →
   Ev (fun k => zA.f k f m (bx (c :: B))) r := by
  intro r k1 k2 k3
  unfold zA.f
  rw [hd, hb]
  refine zd (by decide) (zd (by omega) (zk (zjc B) ?_))
  by_cases h0 : B.head? = some 45
  ·rw [decide_eq_true h0, k1 h0]
   exact zd rfl (Ev.now _)
  rw [decide_eq_false h0]
  refine ze (by simp) (zd (by omega) ?_)
  by_cases hc : c = 45
  ·refine zd (c45.2 hc) ?_
   by_cases hn : B = [110, 97, 110]
   ·rw [k2 h0 ⟨hc, hn⟩]
    exact zd (by rw [hn]; rfl) (Ev.now _)
   ·have := k3 h0 (fun hh => hn hh.2)
    refine ze (fun hh => hn (by have := congrArg tl hh; rwa [zI] at this)) (zd (by omega) (zd (c45.2 hc) ?_))
    unfold zaa at this
    by_cases hm4 : m ≥ 4
    ·rw [if_pos ⟨hc, hm4⟩] at this
     refine zd hm4 ?_
     unfold isM at hm
     rw [show (9 - m) % 256 = 9 - m by omega]
     exact this
    ·rw [if_neg (fun hh => hm4 hh.2)] at this
     exact ze hm4 this
  ·have := k3 h0 (fun hh => hc hh.1)
   unfold zaa at this
   rw [if_neg (fun hh => hc hh.1)] at this
   exact ze (fun hh => hc (c45.1 hh)) (zd (by omega) (ze (fun hh => hc (c45.1 hh)) this))
 have no : zak c B = false → (B.head? = some 45 ∨ (c = 45 ∧ B = [110, 97, 110])) → ∃ r : Int × Int × Bool, Ev (fun k => zA.f k f m (bx (c :: B))) r ∧ (r.2.2 = zak c B) ∧ (zak c B = true → r.1 = zcE f c (zx f (zaa m c) B).1 ∧ r.2.1 = (zx f (zaa m c) B).2.1) := by
  intro hno hw
  refine ⟨(0, 0, false), hgo (fun _ => rfl) (fun _ _ => rfl) (fun h0 h1 => absurd hw (fun hh => hh.elim h0 h1)), hno.symm, fun hh => by rw [hno] at hh; cases hh⟩
 by_cases h0 : B.head? = some 45
 ·exact no (by unfold zak; simp [h0]) (.inl h0)
 by_cases h1 : c = 45 ∧ B = [110, 97, 110]
 ·exact no (by unfold zak; simp [h1]) (.inr h1)
 have him : zak c B = okT B := by
  unfold zak
  rw [decide_eq_true h0, decide_eq_false h1]; simp
 have hp := zeN h (zm8 hm c) (bx B)
 rw [zI] at hp
 by_cases ok : okT B = true
 ·obtain ⟨e0, ew⟩ := zeY (m := zaa m c) h hl ok
  refine ⟨(zcE f c (zx f (zaa m c) B).1, (zx f (zaa m c) B).2.1, true), hgo (fun hh => absurd hh h0) (fun _ hh => absurd hh h1) (fun _ _ => ?_), by rw [him, ok], fun _ => ⟨rfl, rfl⟩⟩
  have j5 : ∀ w : Int, Ev (fun k => zA.j5 k w (zx f (zaa m c) B).2.1 (zx f (zaa m c) B).2.2) (w, (zx f (zaa m c) B).2.1, true) := by
   intro w
   refine zf ?_; simp only [zA.j5]
   exact zi (Ev.now _) (by rw [e0]; rfl)
  refine zf ?_; simp only [zA.j3]
  refine Ev.bind hp (zd (by omega) ?_)
  rw [hb]
  unfold zcE
  by_cases hc : c = 45
  ·obtain ⟨v, v1, v2, v3⟩ := ew (fun hh => h1 ⟨hc, hh⟩)
   rw [if_pos hc]
   refine zd (c45.2 hc) ?_
   rw [decide_eq_true e0]
   refine zf ?_; simp only [zA.j4]
   refine zd trivial ?_
   have hn := zky h v2 v3
   rw [v1, Int.toNat_natCast]
   exact Ev.bind hn (j5 _)
  ·rw [if_neg hc]
   refine ze (fun hh => hc (c45.1 hh)) ?_
   refine zf ?_; simp only [zA.j4]
   exact ze (by simp) (j5 _)
 ·have e0 := zd2 (f := f) (m := zaa m c) hl ok
  rw [e0] at hp
  refine ⟨(0, 0, false), hgo (fun hh => absurd hh h0) (fun _ hh => absurd hh h1) (fun _ _ => ?_), by rw [him]; simpa using ok, fun hh => by rw [him] at hh; exact absurd hh ok⟩
  have j4 : Ev (fun k => zA.j4 k f m 0 0 12 false) (0, 0, false) := by
   refine zf ?_; simp only [zA.j4]
   refine ze (by simp) ?_
   refine zf ?_; simp only [zA.j5]
   exact Ev.now _
  refine zf ?_; simp only [zA.j3]
  refine Ev.bind hp (zd (by omega) ?_)
  rw [hb]
  by_cases hc : c = 45
  ·exact zd (c45.2 hc) j4
  ·exact ze (fun hh => hc (c45.1 hh)) j4
theorem zjE (t : List UInt8) (ht : t.length ≤ 2000) : ∀ n : Nat, n < t.length ∨ n = 0 → Ev (fun k => zaC.l0 k (bx t) (n : Int)) (match spl t n with | some i => (i : Int) | none => -1)
 | 0, _ => by
  refine zf ?_; simp only [zaC.l0]
  exact ze (by decide) (Ev.now _)
 | n + 1, hn => by
  have hz := zu t
  have hb : ∀ i : Nat, bt (bx t) (i : Int) = ((t.getD i 0).toNat : Int) := fun i => by rw [zfQ, zI, Int.toNat_natCast]
  have ih := zjE t ht n (by omega)
  have e1 : wrap64 (((n + 1 : Nat) : Int) - 1) = (n : Int) := by rw [w64 (by omega) (by omega)]; omega
  have is43 : ∀ {x : UInt8}, (x.toNat : Int) = 43 ↔ x = 43 := fun {x} => ⟨fun hh => UInt8.toNat_inj.1 (by show _ = 43; omega), fun hh => by rw [hh]; rfl⟩
  have is45 : ∀ {x : UInt8}, (x.toNat : Int) = 45 ↔ x = 45 := fun {x} => ⟨fun hh => UInt8.toNat_inj.1 (by show _ = 45; omega), fun hh => by rw [hh]; rfl⟩
  have is101 : ∀ {x : UInt8}, (x.toNat : Int) = 101 ↔ x = 101 := fun {x} => ⟨fun hh => UInt8.toNat_inj.1 (by show _ = 101; omega), fun hh => by rw [hh]; rfl⟩
  refine zf ?_; simp only [zaC.l0]
  rw [e1, hb, hb]
  unfold spl
  refine zd (by omega) (zd (by omega) (zd (by omega) ?_))
  by_cases c1 : t.getD (n + 1) 0 = 43
  ·refine zd (is43.2 c1) (zd (by omega) (zd (by omega) ?_))
   by_cases c3 : t.getD n 0 = 101
   ·rw [if_neg (fun hh => hh.2 c3)]
    exact ze (fun hh => hh (is101.2 c3)) ih
   ·rw [if_pos (show isS (t.getD (n + 1) 0) = true ∧ t.getD n 0 ≠ 101 from ⟨by rw [c1]; rfl, c3⟩)]
    exact zd (fun hh => c3 (is101.1 hh)) (Ev.now _)
  ·refine ze (fun hh => c1 (is43.1 hh)) (zd (by omega) (zd (by omega) ?_))
   by_cases c2 : t.getD (n + 1) 0 = 45
   ·refine zd (is45.2 c2) (zd (by omega) (zd (by omega) ?_))
    by_cases c3 : t.getD n 0 = 101
    ·rw [if_neg (fun hh => hh.2 c3)]
     exact ze (fun hh => hh (is101.2 c3)) ih
    ·rw [if_pos (show isS (t.getD (n + 1) 0) = true ∧ t.getD n 0 ≠ 101 from ⟨by rw [c2]; rfl, c3⟩)]
     exact zd (fun hh => c3 (is101.1 hh)) (Ev.now _)
   ·rw [if_neg (fun hh => by have := hh.1; unfold isS at this; rw [Bool.or_eq_true, beq_iff_eq, beq_iff_eq] at this; exact this.elim c1 c2)]
    exact ze (fun hh => c2 (is45.1 hh)) ih
open Go.RowKit Go.Proofs Go.Proofs.YtnkpmjhlkmlmbaaGreatDoor.Eng
set_option maxRecDepth 100000
def zdW (f m : Int) (t : List UInt8) : Int × Int × Int × Int × Int :=
 match spl t (t.length - 1) with
 | none => (0, 0, 0, 0, 12)
 | some i => if okT (t.take i) = true ∧ zak (t.getD i 0) (t.drop (i + 1)) = true then zg5 f m (t.take i) (t.getD i 0) (t.drop (i + 1)) else (0, 0, 0, 0, 12)
theorem zls (t : List UInt8) (ht : t.length ≤ 2000) : Ev (fun k => zaC.f k (bx t)) (match spl t (t.length - 1) with | some i => (i : Int) | none => -1) := by
 unfold zaC.f
 have hz := zu t
 cases t with
 | nil =>
  have : wrap64 (((bx []).size : Int) - 1) = -1 := by rw [hz]; unfold wrap64; simp
  rw [this]
  refine zf ?_; simp only [zaC.l0]
  exact ze (by decide) (Ev.now _)
 | cons c t =>
  rw [List.length_cons] at hz ht ⊢
  have : wrap64 (((bx (c :: t)).size : Int) - 1) = ((t.length + 1 - 1 : Nat) : Int) := by rw [w64 (by omega) (by omega)]; omega
  rw [this]
  exact zjE (c :: t) (by rw [List.length_cons]; omega) _ (.inl (by rw [List.length_cons]; omega))
theorem zhE {t : List UInt8} {i : Nat} (h : i < t.length) : t.drop i = t.getD i 0 :: t.drop (i + 1) := by
 rw [List.drop_eq_getElem_cons h, List.getD_eq_getElem?_getD, List.getElem?_eq_getElem h, Option.getD_some]
theorem zk9 {f m : Int} (h : isF f) (hm : isM m) {t : List UInt8} (ht : t.length ≤ 1200) : Ev (fun k => zdf.f k f m (bx t)) (zdW f m t) := by
 unfold zdf.f zdW
 refine Ev.bind (zls t (by omega)) ?_
 cases hs : spl t (t.length - 1) with
 | none => exact zd (by decide) (Ev.now _)
 | some i =>
  obtain ⟨i1, i2, i3⟩ := zjC hs
  have hz := zu t
  have hd := zhE (t := t) (i := i) (by omega)
  obtain ⟨r, r1, r2, r3⟩ := zmx (f := f) (m := m) h hm (c := t.getD i 0) (B := t.drop (i + 1)) (by rw [List.length_drop]; omega)
  have hl : (t.take i).length ≤ 1200 := by rw [List.length_take]; omega
  have hp := zeN h hm (bx (t.take i))
  rw [zI] at hp
  dsimp only
  refine ze (by omega) (zd (by omega) (zd (by omega) ?_))
  rw [Int.toNat_natCast, zcm, zcl, hd]
  refine Ev.bind hp (zd (by omega) (zd (by omega) (Ev.bind r1 ?_)))
  by_cases ok : okT (t.take i) = true
  ·have e0 := (zeY (m := m) h hl ok).1
   refine ze (fun hh => hh e0) ?_
   by_cases im : zak (t.getD i 0) (t.drop (i + 1)) = true
   ·rw [if_pos (show okT (t.take i) = true ∧ zak (t.getD i 0) (t.drop (i + 1)) = true from ⟨ok, im⟩)]
    obtain ⟨r4, r5⟩ := r3 im
    refine ze (by rw [r2, im]; simp) ?_
    rw [r4, r5]
    exact Ev.now _
   ·rw [if_neg (show ¬ (okT (t.take i) = true ∧ zak (t.getD i 0) (t.drop (i + 1)) = true) from fun hh => im hh.2)]
    exact zd (by rw [r2]; simpa using im) (Ev.now _)
  ·rw [if_neg (show ¬ (okT (t.take i) = true ∧ zak (t.getD i 0) (t.drop (i + 1)) = true) from fun hh => ok hh.1), zd2 hl ok]
   exact zd (by simp) (Ev.now _)
def zft (t : List UInt8) (i : Nat) : Prop := isS (t.getD i 0) = true ∧ okT (t.take i) = true ∧ zak (t.getD i 0) (t.drop (i + 1)) = true
theorem zik {c : UInt8} {B : List UInt8} : zak c B = true ↔ okT B = true ∧ B.head? ≠ some 45 ∧ ¬ (c = 45 ∧ B = [110, 97, 110]) := by
 unfold zak
 rw [Bool.and_eq_true, Bool.and_eq_true, decide_eq_true_eq, Bool.not_eq_true', decide_eq_false_iff_not]
 exact ⟨fun h => ⟨h.2, h.1.1, h.1.2⟩, fun h => ⟨⟨h.2.1, h.2.2⟩, h.1⟩⟩
theorem zoX {t : List UInt8} {i : Nat} (h : zft t i) : zfu (t.take i) (t.getD i 0) (t.drop (i + 1)) := by
 obtain ⟨h1, h2, h3⟩ := h
 obtain ⟨k1, k2, k3⟩ := zik.1 h3
 exact ⟨h1, h2, k1, fun x r hx hh => k2 (by rw [hx, hh]; rfl), k3⟩
theorem zk8 {f m : Int} {t : List UInt8} {i : Nat} (hi : i < t.length) (h : zft t i) : zdW f m t = zg5 f m (t.take i) (t.getD i 0) (t.drop (i + 1)) := by
 have h1 := zoy (zoX h)
 rw [← zhE hi, List.take_append_drop, List.length_take, Nat.min_eq_left (by omega)] at h1
 unfold zdW
 rw [h1]
 exact if_pos ⟨h.2.1, h.2.2⟩
def ctS (f m : Int) (s : List UInt8) : Int × Int × Int × Int × Int :=
 if 1200 < s.length then (0, 0, 0, 0, 3)
 else if s.getLast? = some 105 then (if okT s.dropLast = true then (0, (zx f m s.dropLast).1, 0, (zx f m s.dropLast).2.1, 0) else zdW f m s.dropLast)
 else if okT s = true then ((zx f m s).1, 0, (zx f m s).2.1, 0, 0) else (0, 0, 0, 0, 12)
theorem zlv (t : List UInt8) (h : t.length ≤ 2000) : zcF.f (bx (t ++ [105])) (⟨#[105]⟩ : ByteArray) = some (bx t, true) := by
 have hz := zu (t ++ [105])
 rw [List.length_append, List.length_singleton] at hz
 have h1 : (((⟨#[105]⟩ : ByteArray).size : Nat) : Int) = 1 := rfl
 have e1 : wrap64 (((bx (t ++ [105])).size : Int) - 1) = (t.length : Int) := by rw [w64 (by omega) (by omega)]; omega
 have e2 : (t ++ [105]).drop t.length = [105] := by simp
 have e3 : (t ++ [105]).take t.length = t := by simp
 have hs : zcy.f (bx (t ++ [105])) (⟨#[105]⟩ : ByteArray) = some true := by
  unfold zcy.f
  rw [h1, e1, if_pos (by omega), if_pos (by omega), if_pos (by omega), Int.toNat_natCast, zcl, e2]
  rfl
 unfold zcF.f zdo.f
 rw [hs, h1, e1, Option.bind_some, if_neg (by simp), if_pos (by omega), if_pos (by omega), Int.toNat_natCast, zcm, e3]
 rfl
theorem zlw {t : List UInt8} (h : t.length ≤ 2000) (hl : t.getLast? ≠ some 105) : zcF.f (bx t) (⟨#[105]⟩ : ByteArray) = some (bx t, false) := by
 have hz := zu t
 have h1 : (((⟨#[105]⟩ : ByteArray).size : Nat) : Int) = 1 := rfl
 have hs : zcy.f (bx t) (⟨#[105]⟩ : ByteArray) = some false := by
  unfold zcy.f
  rw [h1]
  rcases List.eq_nil_or_concat t with h0 | ⟨P, c, h0⟩
  ·subst h0
   rfl
  ·rw [List.concat_eq_append] at h0
   subst h0
   rw [List.length_append, List.length_singleton] at hz h
   have e1 : wrap64 (((bx (P ++ [c])).size : Int) - 1) = (P.length : Int) := by rw [w64 (by omega) (by omega)]; omega
   rw [e1, if_pos (by omega), if_pos (by omega), if_pos (by omega), Int.toNat_natCast, zcl]
   congr 1
   refine decide_eq_false (fun hh => hl ?_)
   have := congrArg tl hh
   rw [zI] at this
   have h2 : [c] = [105] := by rw [← show (P ++ [c]).drop P.length = [c] by simp]; exact this
   rw [List.cons.inj h2 |>.1]; simp
 unfold zcF.f zdo.f
 rw [hs]
 rfl
theorem zlf {f m : Int} (h : isF f) (hm : isM m) (s : List UInt8) : Ev (fun k => zas.f k f m (bx s)) (ctS f m s) := by
 have hz := zu s
 unfold zas.f ctS
 refine Ev.bind (zfG h hm false) (ze (by simp) ?_)
 by_cases c0 : 1200 < s.length
 ·rw [if_pos c0]
  exact zd (by omega) (Ev.now _)
 rw [if_neg c0]
 refine ze (by omega) ?_
 by_cases cl : s.getLast? = some 105
 ·obtain ⟨t, rfl⟩ := List.getLast?_eq_some_iff.1 cl
  rw [if_pos cl, List.dropLast_concat]
  rw [List.length_append, List.length_singleton] at c0
  have hp := zeN h hm (bx t)
  rw [zI] at hp
  refine zk (zlv t (by omega)) (Ev.bind hp ?_)
  by_cases ok : okT t = true
  ·have e0 := (zeY (m := m) h (by omega) ok).1
   rw [if_pos ok]
   refine zd e0 ?_
   refine zf ?_; simp only [zas.j2]
   exact zd trivial (Ev.now _)
  ·rw [if_neg ok, zd2 (by omega) ok]
   refine ze (by simp) ?_
   refine zf ?_; simp only [zas.j2]
   exact ze (by simp) (ze (by simp) (ze (by simp) (Ev.bind (zk9 h hm (by omega)) (Ev.now _))))
 ·rw [if_neg cl]
  have hp := zeN h hm (bx s)
  rw [zI] at hp
  refine zk (zlw (by omega) cl) (Ev.bind hp ?_)
  by_cases ok : okT s = true
  ·have e0 := (zeY (m := m) h (by omega) ok).1
   rw [if_pos ok]
   refine zd e0 ?_
   refine zf ?_; simp only [zas.j2]
   exact ze (by simp) (zd e0 (Ev.now _))
  ·rw [if_neg ok, zd2 (by omega) ok]
   refine ze (by simp) ?_
   refine zf ?_; simp only [zas.j2]
   exact ze (by simp) (ze (by simp) (zd rfl (Ev.now _)))
theorem zlh (k : Nat) : zaB.f (k + 140) 1 1069547520 3221225472 = some ((⟨#[49, 46, 53, 45, 50, 105]⟩ : ByteArray), 0) := by kernel_rfl
theorem zli (k : Nat) : zas.f (k + 60) 1 1 (⟨#[49, 101, 43, 50, 105]⟩ : ByteArray) = some (0, 1120403456, 0, 0, 0) := by kernel_rfl
theorem zlj : Ev (fun k => zcn.f k) true := by
 unfold zcn.f
 refine Ev.bind (zh9 zlh) (Ev.bind (zh9 zli) ?_)
 exact zd rfl (zd rfl (zd rfl (zi (Ev.now _) (by simp))))
theorem zfV : Ev (fun k => (zcn.f k).bind fun t => some t) true := Ev.bind zlj (Ev.now _)
theorem zjl (s : Bool) {Q k : Nat} (hQ : 1 ≤ Q) (hk : 2 ≤ k) : rnd 1 s (Q * 2 ^ k - 1) k = Q := by
 have hp : 4 ≤ 2 ^ k := by
  have : 2 ^ 2 ≤ 2 ^ k := Nat.pow_le_pow_right (by omega) hk
  omega
 obtain ⟨q, rfl⟩ : ∃ q, Q = q + 1 := ⟨Q - 1, by omega⟩
 unfold rnd
 generalize 2 ^ k = p at *
 have e : (q + 1) * p - 1 = (p - 1) + q * p := by rw [Nat.add_mul]; omega
 have h1 : ((q + 1) * p - 1) / p = q := by
  rw [e, Nat.add_mul_div_right _ _ (by omega), Nat.div_eq_of_lt (by omega)]; omega
 have h2 : ((q + 1) * p - 1) % p = p - 1 := by
  rw [e, Nat.add_mul_mod_self_right, Nat.mod_eq_of_lt (by omega)]
 have h3 : 2 * (p - 1) % p = p - 2 := by
  rw [Nat.mod_eq_sub_mod (by omega), Nat.mod_eq_of_lt (by omega)]; omega
 rw [h1, h2, h3]
 unfold upB
 rw [if_pos rfl, decide_eq_true (show p ≤ 2 * (p - 1) by omega), decide_eq_true (show p - 2 ≠ 0 by omega)]
 simp
theorem zmp {a b z : Nat} (h : a ≤ b) (ha : 0 < a) (hz : 0 < z) : a * z ≤ b * (z * 2) - 1 := by
 have h1 : a * z ≤ b * z := Nat.mul_le_mul_right _ h
 have h2 : 1 * 1 ≤ a * z := Nat.mul_le_mul ha hz
 rw [← Nat.mul_assoc]
 omega
theorem zlo {f : Int} (h : isF f) (s : Bool) {M : Nat} {u : Int} (hM : M ≠ 0) (hp : M < 2 ^ pr f) (hu : lo f ≤ u) (hn : u = lo f ∨ 2 ^ fb f ≤ M) :
  zaT f 1 s (M * 2 ^ 64 - 1) (u - 64) = (u - lo f).toNat * 2 ^ fb f + M := by
 have hpr := zM h
 have p64 := zh 64
 have hM1 : 1 * 2 ^ 64 ≤ M * 2 ^ 64 := Nat.mul_le_mul_right _ (by omega)
 have hne : M * 2 ^ 64 - 1 ≠ 0 := by omega
 have b1 : bl (M * 2 ^ 64 - 1) ≤ pr f + 64 := by
  apply zG
  rw [Nat.pow_add]
  have : M * 2 ^ 64 ≤ 2 ^ pr f * 2 ^ 64 := Nat.mul_le_mul_right _ (by omega)
  omega
 obtain ⟨b, hb⟩ : ∃ b, b = bl (M * 2 ^ 64 - 1) := ⟨_, rfl⟩
 have A : zl f (M * 2 ^ 64 - 1) (u - 64) = u → zaT f 1 s (M * 2 ^ 64 - 1) (u - 64) = (u - lo f).toNat * 2 ^ fb f + M := by
  intro hU
  unfold zaT R
  rw [hU, show (u - 64 - u).toNat = 0 by omega, show (u - (u - 64)).toNat = 64 by omega, Nat.pow_zero, Nat.mul_one, zjl s (by omega) (by omega)]
 by_cases cu : u = lo f
 ·refine A ?_
  unfold zl
  omega
 have hfb := hn.resolve_left cu
 have hbM : pr f ≤ bl M := by
  have h1 := zaf hfb
  have h2 := zar (v := 1) (by omega) (fb f)
  rw [Nat.one_mul, show bl 1 = 1 by decide] at h2
  omega
 have b2 : pr f + 63 ≤ bl (M * 2 ^ 64 - 1) := by
  have h1 : 2 ^ fb f * 2 ^ 63 ≤ M * 2 ^ 64 - 1 := by
   rw [Nat.pow_succ 2 63]
   exact zmp hfb (zh _) (zh _)
  have h2 := zaf h1
  have h3 := zar (v := 1) (by omega) (fb f + 63)
  rw [Nat.one_mul, show bl 1 = 1 by decide, Nat.pow_add] at h3
  omega
 by_cases cb : bl (M * 2 ^ 64 - 1) = pr f + 64
 ·refine A ?_
  unfold zl
  rw [cb]
  omega
 have cb : bl (M * 2 ^ 64 - 1) = pr f + 63 := by omega
 have hU : zl f (M * 2 ^ 64 - 1) (u - 64) = u - 1 := by
  unfold zl
  rw [cb]
  omega
 have hMe : M = 2 ^ fb f := by
  have h1 := zL (M * 2 ^ 64 - 1)
  rw [cb, hpr, show fb f + 1 + 63 = fb f + 64 by omega, Nat.pow_add] at h1
  have h2 : M * 2 ^ 64 < (2 ^ fb f + 1) * 2 ^ 64 := by rw [Nat.add_mul]; omega
  have h3 := Nat.lt_of_mul_lt_mul_right h2
  omega
 unfold zaT R
 rw [hU, show (u - 64 - (u - 1)).toNat = 0 by omega, show (u - 1 - (u - 64)).toNat = 63 by omega, Nat.pow_zero, Nat.mul_one, show M * 2 ^ 64 = M * 2 * 2 ^ 63 by rw [Nat.mul_assoc], zjl s (by omega) (by omega)]
 have h4 : (u - lo f).toNat = (u - 1 - lo f).toNat + 1 := by omega
 rw [h4, Nat.add_mul, ← hMe]
 omega
theorem zlp {f : Int} (h : isF f) (s : Bool) {M : Nat} {u : Int} (hM : M ≠ 0) (hp : M < 2 ^ pr f) (hu : lo f ≤ u) (hn : u = lo f ∨ 2 ^ fb f ≤ M) :
  zaT f 1 s M u = (u - lo f).toNat * 2 ^ fb f + M := by
 have hpr := zM h
 have hb : bl M ≤ pr f := zG hp
 have hU : zl f M u = u := by
  unfold zl
  rcases hn with hn | hn
  ·omega
  ·have h1 := zaf hn
   have h2 := zar (v := 1) (by omega) (fb f)
   rw [Nat.one_mul, show bl 1 = 1 by decide] at h2
   omega
 unfold zaT R
 rw [hU, show (u - u).toNat = 0 by omega, Nat.pow_zero, Nat.mul_one]
 congr 1
 unfold rnd
 rw [Nat.pow_zero, Nat.div_one, Nat.mod_one]
 unfold upB
 simp
theorem znq {f : Int} (h : isF f) (s : Bool) {w : Nat} (c1 : cls f w ≠ 1) (c4 : cls f w < 4) : zbl f 1 s (zn f w * 2 ^ 64 - 1) (wex f w - 64) = w % sg f := by
 have hM := zde h c1 c4
 have hp : zn f w < 2 ^ pr f := Nat.lt_of_lt_of_le (zL _) (Nat.pow_le_pow_right (by omega) (zeC h w))
 have hu : lo f ≤ wex f w := by unfold wex; split <;> omega
 have hn : wex f w = lo f ∨ 2 ^ fb f ≤ zn f w := by
  unfold wex zn
  by_cases c : zw f w = 0
  ·left; rw [if_pos c]; omega
  ·right; rw [if_neg c]; omega
 have hne : zn f w * 2 ^ 64 - 1 ≠ 0 := by
  have : 1 * 2 ^ 64 ≤ zn f w * 2 ^ 64 := Nat.mul_le_mul_right _ (by omega)
  omega
 have h1 := zeW (m := 1) h s hne (wex f w - 64)
 have h2 := zeW (m := 1) h s hM (wex f w)
 rw [zlo h s hM hp hu hn] at h1
 rw [zlp h s hM hp hu hn, zhC, zlr h c1 c4] at h2
 rw [h1, h2]
theorem znp {f : Int} (h : isF f) (s : Bool) {K z j : Nat} {e : Int} (hK : K ≠ 0) (hz : z ≠ 0) : rq f 1 s (K * exN z e) (z * 2 ^ j * 10 ^ exG e) 0 = zt f 1 s K (e - j) := by
 unfold exN exG
 have e1 : K * (z * 2 ^ e.toNat * 5 ^ (-e).toNat) = (K * 2 ^ e.toNat) * (z * 5 ^ (-e).toNat) := by
  rw [Nat.mul_assoc z, Nat.mul_left_comm K z, ← Nat.mul_assoc K, Nat.mul_left_comm z]
 have e2 : z * 2 ^ j * 10 ^ (-e).toNat = (1 * 2 ^ (j + (-e).toNat)) * (z * 5 ^ (-e).toNat) := by
  rw [show (10 : Nat) = 2 * 5 from rfl, Nat.mul_pow, Nat.one_mul, Nat.pow_add, Nat.mul_assoc z, Nat.mul_left_comm (2 ^ j * 2 ^ (-e).toNat) z, Nat.mul_assoc (2 ^ j)]
 have hA : K * 2 ^ e.toNat ≠ 0 := Nat.mul_ne_zero hK (Nat.ne_of_gt (zh _))
 rw [e1, e2, zen h s hA (by rw [Nat.one_mul]; exact zh _) (Nat.mul_pos (Nat.pos_of_ne_zero hz) (Nat.pow_pos (by omega))), zgM h s hA (by omega), zeo h s hK (by omega), zgO h s hK]
 congr 1
 omega
theorem zly {K N D q a b G : Nat} (hD : 0 < D) (hq : q = N / D) (hK : K * D ≤ N) (hT : 10 ^ a * 10 ^ G = D * 10 ^ b) : (K - 1) * N * 10 ^ b ≤ q * 10 ^ a * (K * 10 ^ G) := by
 have e := Nat.div_add_mod N D
 have hr := Nat.mod_lt N hD
 rw [← hq] at e
 have e1 : q * 10 ^ a * (K * 10 ^ G) = q * K * D * 10 ^ b := by
  rw [Nat.mul_mul_mul_comm, hT]
  simp only [Nat.mul_assoc]
 rw [e1]
 refine Nat.mul_le_mul_right _ ?_
 by_cases hK0 : K = 0
 ·subst hK0; simp
 have h1 : (K - 1) * N + N = K * N := by rw [← Nat.succ_mul]; congr 1; omega
 have h2 : K * N = K * (D * q) + K * (N % D) := by rw [← Nat.mul_add, e]
 have h3 : K * (N % D) ≤ K * D := Nat.mul_le_mul_left _ (by omega)
 have h4 : q * K * D = K * (D * q) := by rw [Nat.mul_comm q K, Nat.mul_assoc, Nat.mul_comm q D]
 omega
theorem zlz {f : Int} (h : isF f) {w : Nat} (hw : w < 2 * sg f) (c1 : cls f w ≠ 1) (c4 : cls f w < 4) {n : Nat} (hn : 60 ≤ n) (hl : n ≤ (dx (nN f w)).length) :
  (zp f 1 (zj f w) (nN f w / 10 ^ ((dx (nN f w)).length - n)) (((dx (nN f w)).length : Int) - (nG f w : Int) - (n : Int))).1 = (w : Int) := by
 have hM := zde h c1 c4
 have hz : sv (zj f w) (zn f w) ≠ 0 := by unfold sv; split <;> omega
 obtain ⟨j, j1, j2, _, j4⟩ := zb8 hz (wex f w)
 have hab : (sv (zj f w) (zn f w)).natAbs = zn f w := by unfold sv; split <;> omega
 rw [hab] at j1
 have j1 : zn f w = dz f w * 2 ^ j := j1
 have j2 : we f w = wex f w + j := j2
 have j4 : dz f w ≠ 0 := j4
 have hN : nN f w ≠ 0 := ze2 j4 _
 have hb := zeC h w
 have hpr : pr f ≤ 53 := by rcases h with rfl | rfl <;> decide
 have hMl : zn f w < 2 ^ 53 := Nat.lt_of_lt_of_le (zL _) (Nat.pow_le_pow_right (by omega) (by omega))
 obtain ⟨_, q0⟩ := zfl hN (by omega) hl
 have hge := zh1 hN
 obtain ⟨K, hK⟩ : ∃ K, K = zn f w * 2 ^ 64 := ⟨_, rfl⟩
 have hK1 : 2 ≤ K := by
  have : 1 * 2 ≤ zn f w * 2 ^ 64 := Nat.mul_le_mul (by omega) (by decide)
  omega
 obtain ⟨T, hT9, hKl⟩ : ∃ T, T = 59 ∧ K ≤ 10 ^ T := by
  refine ⟨59, rfl, ?_⟩
  have : zn f w * 2 ^ 64 ≤ 2 ^ 53 * 2 ^ 64 := Nat.mul_le_mul_right _ (by omega)
  exact Nat.le_trans (by omega) (Nat.le_trans this (by decide))
 have hlow := znp h (zj f w) (K := K - 1) (z := dz f w) (j := j + 64) (e := we f w) (by omega) j4
 have hKe : dz f w * 2 ^ (j + 64) = K := by rw [Nat.pow_add, ← Nat.mul_assoc, ← j1, hK]
 rw [hKe, show we f w - ((j + 64 : Nat) : Int) = wex f w - 64 by omega] at hlow
 have hlow1 := congrArg Prod.fst hlow
 rw [zdx, hK, znq h (zj f w) c1 c4, zey h hw, ← hK] at hlow1
 have hup := congrArg Prod.fst (zhP (m := 1) h hw c1 c4)
 have hlow1 : (rq f 1 (zj f w) ((K - 1) * nN f w) (K * 10 ^ nG f w) 0).1 = (w : Int) := hlow1
 have hup : (rq f 1 (zj f w) (nN f w * 10 ^ (-(nG f w : Int)).toNat) (10 ^ (- -(nG f w : Int)).toNat) 0).1 = (w : Int) := hup
 rw [show (-(nG f w : Int)).toNat = 0 by omega, show (- -(nG f w : Int)).toNat = nG f w by omega, Nat.pow_zero, Nat.mul_one] at hup
 unfold zp
 generalize hx : (((dx (nN f w)).length : Int) - (nG f w : Int) - (n : Int)) = x
 have hD : 0 < 10 ^ ((dx (nN f w)).length - n) := zaQ _
 have hT : 10 ^ x.toNat * 10 ^ nG f w = 10 ^ ((dx (nN f w)).length - n) * 10 ^ (-x).toNat := by
  rw [← Nat.pow_add, ← Nat.pow_add, show x.toNat + nG f w = (dx (nN f w)).length - n + (-x).toNat by omega]
 have hKD : K * 10 ^ ((dx (nN f w)).length - n) ≤ nN f w := by
  have h1 : K * 10 ^ ((dx (nN f w)).length - n) ≤ 10 ^ T * 10 ^ ((dx (nN f w)).length - n) := Nat.mul_le_mul_right _ hKl
  have h2 : 10 ^ (T + ((dx (nN f w)).length - n)) ≤ 10 ^ ((dx (nN f w)).length - 1) := Nat.pow_le_pow_right (by omega) (by omega)
  rw [Nat.pow_add] at h2
  exact Nat.le_trans h1 (Nat.le_trans h2 hge)
 have hA := zly hD (q := nN f w / 10 ^ ((dx (nN f w)).length - n)) rfl hKD hT
 have q1 : nN f w / 10 ^ ((dx (nN f w)).length - n) * 10 ^ x.toNat ≠ 0 := Nat.mul_ne_zero q0 (Nat.ne_of_gt (zaQ _))
 have hB : nN f w / 10 ^ ((dx (nN f w)).length - n) * 10 ^ x.toNat * 10 ^ nG f w ≤ nN f w * 10 ^ (-x).toNat := by
  rw [Nat.mul_assoc, hT, ← Nat.mul_assoc]
  exact Nat.mul_le_mul_right _ (Nat.div_mul_le_self _ _)
 obtain ⟨a, b, r1, r2, r3, _⟩ := zgN (m := 1) h (zj f w) (A := (K - 1) * nN f w) (B := K * 10 ^ nG f w) (B' := 10 ^ (-x).toNat) (Nat.mul_ne_zero (by omega) hN) q1 (Nat.mul_pos (by omega) (zaQ _)) (zaQ _) hA 0
 obtain ⟨a', b', r1', r2', r3', _⟩ := zgN (m := 1) h (zj f w) (A' := nN f w) (B := 10 ^ (-x).toNat) (B' := 10 ^ nG f w) q1 hN (zaQ _) (zaQ _) hB 0
 rw [hlow1] at r1
 rw [hup] at r2'
 rw [r2] at r1' ⊢
 omega
theorem zj1 (s : Bool) (q : Nat) (x : Int) : (za2 s q x).length ≤ (dx q).length + 31 := by
 unfold za2
 rw [zgw, List.length_append]
 have h1 := zdz s
 have h2 := zgv (tr (dx q)) (x + ((dx q).length : Nat) - 1)
 have h3 := zbI (dx q)
 omega
theorem zjH {f w : Int} {s : Bool} {N G : Nat} (hN : N ≠ 0) (hc : ∀ n, 60 ≤ n → n ≤ (dx N).length → (zp f 1 s (N / 10 ^ ((dx N).length - n)) (((dx N).length : Int) - (G : Int) - (n : Int))).1 = w) :
  ∀ j n : Nat, 1 ≤ n → n + j = (tr (dx N)).length → n ≤ 60 → (srt f w s N G j n).length ≤ 100
 | 0, n, h1, hj, hn => by
  unfold srt
  rw [zgw, List.length_append]
  have h1 := zdz s
  have h2 := zgv (tr (dx N)) (((dx N).length : Int) - 1 - G)
  omega
 | j + 1, n, h1, hj, hn => by
  have htl := zbI (dx N)
  obtain ⟨q1, q2⟩ := zfl hN h1 (by omega)
  obtain ⟨u1, u2⟩ := zf3 q1 q2
  have t1 := zj1 s (N / 10 ^ ((dx N).length - n)) (((dx N).length : Int) - G - n)
  have t2 := zj1 s (N / 10 ^ ((dx N).length - n) + 1) (((dx N).length : Int) - G - n)
  unfold srt
  split
  ·omega
  ·rename_i k1
   split
   ·omega
   ·rename_i k2
    by_cases c : n = 60
    ·have := hc n (by omega) (by omega)
     exact absurd ⟨this, fun hh => k2 hh.1⟩ k1
    ·exact zjH hN hc j (n + 1) (by omega) (by omega) (by omega)
theorem zep {f : Int} (h : isF f) {w : Nat} (hw : w < 2 * sg f) : (soS f w).length ≤ 100 := by
 have hs := zdz (zj f w)
 unfold soS
 by_cases hn : zbC f w = true
 ·rw [if_pos hn]
  unfold nmT
  split
  ·simp
  ·split
   ·rw [List.length_append]; simp; omega
   ·split
    ·rw [List.length_append]; simp; omega
    ·simp
 rw [if_neg hn]
 obtain ⟨c5, c4, c1⟩ := ze5 (by simpa using hn)
 have hf := ze3 h c5 c4
 obtain ⟨hN, hl, hg⟩ := zeh h c1 hf
 obtain ⟨b, r, e, hb⟩ := zag hN
 obtain ⟨r', e'⟩ := zbd e hb
 have hp : 1 ≤ (tr (dx (nN f w))).length := by rw [e']; simp
 exact zjH hN (fun n n1 n2 => zlz h hw c1 hf n1 n2) _ 1 (by omega) (by omega) (by omega)
theorem zgh {f : Int} (h : isF f) (w : Nat) : w % sg f < sg f := Nat.mod_lt _ (zba h).1
theorem zfX (f : Int) (w : Nat) : cls f (w % sg f) = cls f w := by unfold cls; rw [Nat.mod_mod]
theorem zhb {f : Int} (h : isF f) (w : Nat) : zj f (w % sg f) = false := by
 have := zgh h w
 unfold zj
 exact decide_eq_false (by omega)
theorem ziD (s : Bool) (n : Nat) (e : Int) : (mk (sv s n) e).2 = (mk (n : Int) e).2 := by
 cases s with
 | false => rfl
 | true =>
  show (mk (-(n : Int)) e).2 = _
  unfold mk
  rw [Int.natAbs_neg]
  by_cases hn : n = 0
  ·subst hn; rfl
  ·rw [if_neg (by omega), if_neg (by omega)]
theorem zl2 {f : Int} (h : isF f) (w : Nat) : dz f (w % sg f) = dz f w ∧ we f (w % sg f) = we f w := by
 obtain ⟨e1, e2⟩ := zon (f := f) (a := w % sg f) (b := w) (Nat.mod_mod _ _)
 unfold dz we wv
 rw [e1, e2, ziD, ziD]
 exact ⟨rfl, rfl⟩
theorem zng {f : Int} (h : isF f) (w : Nat) : nN f (w % sg f) = nN f w ∧ nG f (w % sg f) = nG f w := by
 obtain ⟨e1, e2⟩ := zl2 h w
 unfold nN nG
 rw [e1, e2]
 exact ⟨rfl, rfl⟩
theorem zj2 (s : Bool) (q : Nat) (x : Int) : za2 s q x = sgT s ++ za2 false q x := rfl
theorem zjI {f : Int} (h : isF f) {w : Nat} (hw : w < 2 * sg f) (N G : Nat) : ∀ j n : Nat, srt f (w : Int) (zj f w) N G j n = sgT (zj f w) ++ srt f ((w % sg f : Nat) : Int) false N G j n
 | 0, n => rfl
 | j + 1, n => by
  have hu : ∀ c o, upS 1 (zj f w) c o = upS 1 false c o := fun c o => rfl
  unfold srt
  rw [zjI h hw N G j (n + 1)]
  simp only [zou h hw, hu]
  rw [zj2 (zj f w), zj2 (zj f w) (_ + 1)]
  split
  ·rfl
  ·split <;> rfl
theorem zjA {f : Int} (h : isF f) {w : Nat} (hw : w < 2 * sg f) (c5 : cls f w ≠ 5) : soS f w = sgT (zj f w) ++ soS f (w % sg f) := by
 obtain ⟨e1, e2⟩ := zng h w
 have hwn := zhb h w
 have hc := zfX f w
 unfold soS zbC nmT
 rw [e1, e2, hwn, hc, zjI h hw]
 by_cases c4 : cls f w = 4
 ·rw [if_pos (decide_eq_true (.inr (.inl c4))), if_pos (decide_eq_true (.inr (.inl c4))), if_neg c5, if_neg c5, if_pos c4, if_pos c4]; rfl
 by_cases c1 : cls f w = 1
 ·rw [if_pos (decide_eq_true (.inr (.inr c1))), if_pos (decide_eq_true (.inr (.inr c1))), if_neg c5, if_neg c5, if_neg c4, if_neg c4, if_pos c1, if_pos c1]; rfl
 have hn : ¬ decide (cls f w = 5 ∨ cls f w = 4 ∨ cls f w = 1) = true := by simp [c5, c4, c1]
 rw [if_neg hn, if_neg hn]
theorem zj0 (q : Nat) (hq : q ≠ 0) (x : Int) : ∃ c t, za2 false q x = c :: t ∧ isD c = true := by
 obtain ⟨b, r, e, hb⟩ := zag hq
 obtain ⟨r', e'⟩ := zbd e hb
 exact zgu (zdE (zbo q)) e' _
theorem zjG {f w : Int} {N G : Nat} (hN : N ≠ 0) : ∀ j n : Nat, 1 ≤ n → n + j = (tr (dx N)).length → ∃ c t, srt f w false N G j n = c :: t ∧ isD c = true
 | 0, n, h1, hj => by
  obtain ⟨b, r, e, hb⟩ := zag hN
  obtain ⟨r', e'⟩ := zbd e hb
  exact zgu (zdE (zbo N)) e' _
 | j + 1, n, h1, hj => by
  have htl := zbI (dx N)
  obtain ⟨q1, q2⟩ := zfl hN h1 (by omega)
  unfold srt
  split
  ·exact zj0 _ q2 _
  ·split
   ·exact zj0 _ (Nat.succ_ne_zero _) _
   ·exact zjG hN j (n + 1) (by omega) (by omega)
theorem zgW {f : Int} (h : isF f) {w : Nat} (hn : zj f w = false ∨ cls f w = 5) : (soS f w).head? ≠ some 45 := by
 unfold soS
 by_cases hnm : zbC f w = true
 ·rw [if_pos hnm]
  unfold nmT
  by_cases c5 : cls f w = 5
  ·rw [if_pos c5]; decide
  rw [if_neg c5, hn.resolve_right c5]
  split
  ·decide
  ·split <;> decide
 rw [if_neg hnm]
 obtain ⟨c5, c4, c1⟩ := ze5 (by simpa using hnm)
 rw [hn.resolve_right c5]
 have hf := ze3 h c5 c4
 obtain ⟨hN, hl, hg⟩ := zeh h c1 hf
 obtain ⟨b, r, e, hb⟩ := zag hN
 obtain ⟨r', e'⟩ := zbd e hb
 have hp : 1 ≤ (tr (dx (nN f w))).length := by rw [e']; simp
 obtain ⟨c, t, k1, k2⟩ := zjG (f := f) (w := (w : Int)) (G := nG f w) hN ((tr (dx (nN f w))).length - 1) 1 (by omega) (by omega)
 rw [k1]
 have h1 := zbR k2
 intro hh
 have : c = 45 := by simpa using hh
 rw [this] at h1
 revert h1; decide
def imT (f : Int) (b : Nat) : List UInt8 := if cls f b = 5 then [110, 97, 110] else soS f (b % sg f)
def sgC (f : Int) (b : Nat) : UInt8 := if cls f b ≠ 5 ∧ zj f b = true then 45 else 43
def ctT (f : Int) (a b : Nat) : List UInt8 := soS f a ++ (sgC f b :: (imT f b ++ [105]))
theorem zeq {f : Int} {b : Nat} (c : cls f b = 5) : soS f b = [110, 97, 110] := by
 unfold soS zbC nmT
 rw [if_pos (decide_eq_true (.inl c)), if_pos c]
theorem zmv {f : Int} (h : isF f) (b : Nat) : (imT f b).length ≤ 100 := by
 unfold imT
 split
 ·simp
 ·exact zep h (by have := zgh h b; omega)
theorem zlu {f : Int} (h : isF f) {a : Nat} (ha : a < 2 * sg f) (b : Nat) : (ctT f a b).length ≤ 202 := by
 have h1 := zep h ha
 have h2 := zmv h b
 unfold ctT
 rw [List.length_append, List.length_cons, List.length_append, List.length_singleton]
 omega
theorem zmw {f : Int} (h : isF f) {b : Nat} (hb : b < 2 * sg f) : (if (soS f b).head? = some 45 then soS f b else 43 :: soS f b) = sgC f b :: imT f b := by
 unfold sgC imT
 by_cases c5 : cls f b = 5
 ·rw [if_neg (zgW h (.inr c5)), if_neg (fun hh => hh.1 c5), if_pos c5, zeq c5]
 rw [if_neg c5]
 cases hn : zj f b with
 | true =>
  rw [if_pos (⟨c5, rfl⟩ : cls f b ≠ 5 ∧ true = true), zjA h hb c5, hn]
  exact if_pos rfl
 | false =>
  rw [if_neg (fun hh => by cases hh.2 : ¬ (cls f b ≠ 5 ∧ false = true)), if_neg (zgW h (.inl hn)), zjA h hb c5, hn]
  rfl
theorem zkk {f : Int} (h : isF f) (w : Nat) : Ev (fun k => zc7.f k f (w : Int)) (zaV f w) := by
 unfold zc7.f
 exact Ev.bind (zeI h w) (Ev.now _)
theorem znD {f : Int} (h : isF f) (a b : Nat) : Ev (fun k => zdv.f k f (a : Int) (b : Int)) (if a < 2 * sg f ∧ b < 2 * sg f then 0 else 6) := by
 unfold zdv.f
 have ha := zkk h a
 have hb := zkk h b
 unfold zaV at ha hb
 by_cases c : a < 2 * sg f
 ·rw [if_pos c] at ha
  refine Ev.bind ha (ze (by simp) (Ev.bind hb ?_))
  by_cases d : b < 2 * sg f
  ·rw [if_pos d, if_pos ⟨c, d⟩]; exact Ev.now _
  ·rw [if_neg d, if_neg (fun hh => d hh.2)]; exact Ev.now _
 ·rw [if_neg c] at ha
  rw [if_neg (fun hh => c hh.1)]
  exact Ev.bind ha (zd (by simp) (Ev.now _))
theorem zjq {f : Int} (h : isF f) (l : List (Nat × Nat)) (hl : l.length ≤ 1000) (hw : ∀ p ∈ l, p.1 < 18446744073709551616 ∧ p.2 < 18446744073709551616) : ∀ n i : Nat, i + n = l.length →
  Ev (fun k => zaD.l0 k f (l.map fun p => ((p.1 : Int), (p.2 : Int))) (i : Int)) (if ∀ p ∈ l.drop i, p.1 < 2 * sg f ∧ p.2 < 2 * sg f then 0 else 6)
 | 0, i, hi => by
  refine zf ?_; simp only [zaD.l0]
  rw [List.drop_eq_nil_of_le (by omega), if_pos (fun p hp => by cases hp)]
  exact ze (by rw [List.length_map]; omega) (Ev.now _)
 | n + 1, i, hi => by
  have hd : l.drop i = l[i] :: l.drop (i + 1) := List.drop_eq_getElem_cons (by omega)
  have hr : rdT [.i .u64, .i .u64] (l.map fun p => ((p.1 : Int), (p.2 : Int))) (i : Int) = ((l[i].1 : Int), (l[i].2 : Int)) := by
   unfold rdT
   rw [Int.toNat_natCast, List.getD_eq_getElem?_getD, List.getElem?_map, List.getElem?_eq_getElem (by omega)]
   rfl
  obtain ⟨b1, b2⟩ := hw l[i] (List.getElem_mem _)
  have e1 : wrap64 ((i : Int) + 1) = ((i + 1 : Nat) : Int) := by rw [w64 (by omega) (by omega)]; omega
  have ih := zjq h l hl hw n (i + 1) (by omega)
  refine zf ?_; simp only [zaD.l0]
  rw [hr, e1, hd]
  refine zd (by rw [List.length_map]; omega) (zd (by omega) (zd (by rw [List.length_map]; omega) (zk (zjh h b1) ?_)))
  by_cases c : l[i].1 < 2 * sg f
  ·refine ze (by unfold zaV; rw [if_pos c]; simp) (zd (by omega) (zd (by rw [List.length_map]; omega) (zk (zjh h b2) ?_)))
   by_cases d : l[i].2 < 2 * sg f
   ·refine ze (by unfold zaV; rw [if_pos d]; simp) ?_
    refine zi ih ?_
    by_cases e : ∀ p ∈ l.drop (i + 1), p.1 < 2 * sg f ∧ p.2 < 2 * sg f
    ·rw [if_pos e, if_pos (fun p hp => by
      rcases List.mem_cons.1 hp with rfl | hp
      ·exact ⟨c, d⟩
      ·exact e p hp)]
    ·rw [if_neg e, if_neg (fun hh => e (fun p hp => hh p (List.mem_cons_of_mem _ hp)))]
   ·refine zd (by unfold zaV; rw [if_neg d]; simp) ?_
    rw [if_neg (fun hh => d (hh _ (List.mem_cons_self)).2)]
    exact Ev.now _
  ·refine zd (by unfold zaV; rw [if_neg c]; simp) ?_
   rw [if_neg (fun hh => c (hh _ (List.mem_cons_self)).1)]
   exact Ev.now _
theorem zog {f : Int} (h : isF f) (l : List (Nat × Nat)) (hl : l.length ≤ 1000) (hw : ∀ p ∈ l, p.1 < 18446744073709551616 ∧ p.2 < 18446744073709551616) :
  Ev (fun k => zaD.f k f (l.map fun p => ((p.1 : Int), (p.2 : Int)))) (if ∀ p ∈ l, p.1 < 2 * sg f ∧ p.2 < 2 * sg f then 0 else 6) := by
 unfold zaD.f
 refine zk (zgE f) ?_
 rw [decide_eq_true h]
 exact ze (by simp) (zjq h l hl hw l.length 0 (by omega))
theorem zof {f : Int} (h : ¬ isF f) (l : List (Int × Int)) : Ev (fun k => zaD.f k f l) 4 := by
 unfold zaD.f
 refine zk (zgE f) ?_
 rw [decide_eq_false h]
 exact zd rfl (Ev.now _)
theorem zhx {f : Int} (h : isF f) {a b : Nat} (ha : a < 2 * sg f) (hb : b < 2 * sg f) : Ev (fun k => zaB.f k f (a : Int) (b : Int)) (bx (ctT f a b), 0) := by
 have hg := znD h a b
 rw [if_pos ⟨ha, hb⟩] at hg
 have l1 := zep h ha
 have l2 := zep h hb
 have j1 : ∀ T : List UInt8, T.length ≤ 101 → Ev (fun k => zaB.j1 k (bx (soS f a)) (bx T)) (bx (soS f a ++ T ++ [105]), 0) := by
  intro T hT
  have z1 := zu (soS f a)
  have z2 := zu T
  have z3 := zu (soS f a ++ T)
  have e : (⟨#[105]⟩ : ByteArray) = bx [105] := rfl
  rw [List.length_append] at z3
  refine zf ?_; simp only [zaB.j1]
  rw [zU, e, zU]
  have z4 : (bx [105]).size = 1 := rfl
  exact zd (by omega) (zd (by omega) (Ev.now _))
 have hT := zmw h hb
 have e43 : (⟨#[43]⟩ : ByteArray) = bx [43] := rfl
 have hf : ctT f a b = soS f a ++ (sgC f b :: imT f b) ++ [105] := by unfold ctT; simp
 unfold zaB.f
 rw [hf, ← hT]
 refine Ev.bind hg (ze (by simp) (Ev.bind (zhi h ha) (Ev.bind (zhi h hb) (zk (zjc (soS f b)) ?_))))
 by_cases c : (soS f b).head? = some 45
 ·rw [decide_eq_true c, if_pos c]
  exact ze (by simp) (j1 _ (by omega))
 ·rw [decide_eq_false c, if_neg c]
  have z2 := zu (soS f b)
  have z4 : (bx [43]).size = 1 := rfl
  refine zd rfl ?_
  rw [e43]
  dsimp only
  refine zd (by omega) ?_
  rw [zU]
  exact j1 (43 :: soS f b) (by rw [List.length_cons]; omega)
theorem ziL {f : Int} (h : isF f) : cls f (zb9 f) = 5 ∧ zb9 f < 2 * sg f := by rcases h with rfl | rfl <;> decide +kernel
theorem zjz {f : Int} (h : isF f) {w : Nat} (hw : w < 2 * sg f) : okT (soS f w) = true := by
 by_cases ok : okT (soS f w) = true
 ·exact ok
 ·obtain ⟨fl, hb⟩ := zdC h hw
  have hl := zep h hw
  rw [zd2 (by omega) ok] at hb
  simp only [Prod.mk.injEq] at hb
  exact absurd hb.2.2 (by decide)
theorem zox {f : Int} (h : isF f) {w : Nat} (hw : w < 2 * sg f) (c5 : cls f w ≠ 5) : soS f w ≠ [110, 97, 110] := by
 intro hh
 obtain ⟨n1, n2⟩ := ziL h
 obtain ⟨fl, hb⟩ := zdC h hw
 obtain ⟨fl', hb'⟩ := zdC h n2
 rw [zeq n1, ← hh, hb] at hb'
 have e := (Prod.mk.inj hb').1
 unfold zQ at e
 rw [if_neg c5, if_pos n1] at e
 have : w = zb9 f := by omega
 rw [this] at c5
 exact c5 n1
theorem zmu {f : Int} (h : isF f) {b : Nat} (hb : b < 2 * sg f) : okT (imT f b) = true ∧ zak (sgC f b) (imT f b) = true ∧ ∃ fl, zcE f (sgC f b) (zx f 1 (imT f b)).1 = (zQ f b : Int) ∧ fl = (zx f 1 (imT f b)).2.1 := by
 have hm := zgh h b
 have ok : okT (imT f b) = true := by
  unfold imT
  by_cases c5 : cls f b = 5
  ·rw [if_pos c5]; decide
  ·rw [if_neg c5]; exact zjz h (by omega)
 refine ⟨ok, zik.2 ⟨ok, ?_, ?_⟩, _, ?_, rfl⟩
 ·unfold imT
  by_cases c5 : cls f b = 5
  ·rw [if_pos c5]; decide
  ·rw [if_neg c5]; exact zgW h (.inl (zhb h b))
 ·rintro ⟨h1, h2⟩
  unfold sgC at h1
  by_cases c5 : cls f b = 5
  ·rw [if_neg (fun hh => hh.1 c5)] at h1
   exact absurd h1 (by decide)
  ·unfold imT at h2
   rw [if_neg c5] at h2
   exact zox h (by omega) (by rw [zfX]; exact c5) h2
 ·by_cases c5 : cls f b = 5
  ·have e : imT f b = soS f b := by unfold imT; rw [if_pos c5, zeq c5]
   obtain ⟨fl, k⟩ := zdC h hb
   unfold zcE sgC
   rw [if_neg (by rw [if_neg (fun hh => hh.1 c5)]; decide), e, k]
  ·have e : imT f b = soS f (b % sg f) := by unfold imT; rw [if_neg c5]
   obtain ⟨fl, k⟩ := zdC h (w := b % sg f) (by omega)
   have hs := zey h hb
   rw [e, k, zfT c5, zfT (by rw [zfX]; exact c5)]
   unfold zcE sgC
   cases hn : zj f b with
   | true =>
    rw [hn] at hs
    rw [if_pos (if_pos ⟨c5, rfl⟩), Int.toNat_natCast]
    unfold zcX
    rw [zhb h, Nat.mod_mod]
    exact congrArg (fun x : Nat => (x : Int)) hs
   | false =>
    rw [hn] at hs
    rw [if_neg (by rw [if_neg (fun hh => by cases hh.2 : ¬ (cls f b ≠ 5 ∧ false = true))]; decide)]
    exact congrArg (fun x : Nat => (x : Int)) hs
theorem zhD {f : Int} (h : isF f) {a b : Nat} (ha : a < 2 * sg f) (hb : b < 2 * sg f) : ∃ x y, ctS f 1 (ctT f a b) = ((zQ f a : Int), (zQ f b : Int), x, y, 0) := by
 have hlen := zlu h ha b
 have oA := zjz h ha
 obtain ⟨oB, iB, fl, s1, _⟩ := zmu h hb
 obtain ⟨fa, ka⟩ := zdC h ha
 have ht : ctT f a b = (soS f a ++ sgC f b :: imT f b) ++ [105] := by unfold ctT; simp
 have isc : isS (sgC f b) = true := by unfold sgC; split <;> decide
 have hmir : zaa 1 (sgC f b) = 1 := by unfold zaa; rw [if_neg (fun hh => by omega)]
 have hno : ¬ okT (soS f a ++ sgC f b :: imT f b) = true := by
  intro hh
  obtain ⟨g1, _, _⟩ := zfi hh
  obtain ⟨_, ⟨P, c, k1, k2, _⟩, _⟩ := zfi oA
  rcases zgR _ true _ _ g1 isc with ⟨e, _⟩ | ⟨P', e⟩
  ·rw [k1] at e; simp at e
  ·rw [k1] at e
   exact k2 (List.cons.inj (List.append_inj' e rfl).2).1
 have e1 : (soS f a ++ sgC f b :: imT f b).take (soS f a).length = soS f a := by simp
 have e2 : (soS f a ++ sgC f b :: imT f b).getD (soS f a).length 0 = sgC f b := by rw [zd8 (Nat.le_refl _)]; simp
 have e3 : (soS f a ++ sgC f b :: imT f b).drop ((soS f a).length + 1) = imT f b := by
  rw [← List.drop_drop]; simp
 have hat : zft (soS f a ++ sgC f b :: imT f b) (soS f a).length := by
  unfold zft
  rw [e1, e2, e3]
  exact ⟨isc, oA, iB⟩
 have hboth := zk8 (f := f) (m := 1) (by rw [List.length_append, List.length_cons]; omega) hat
 rw [e1, e2, e3] at hboth
 unfold ctS
 rw [if_neg (by omega), ht, if_pos (List.getLast?_eq_some_iff.2 ⟨_, rfl⟩), List.dropLast_concat, if_neg hno, hboth]
 unfold zg5
 rw [hmir, ka, s1]
 exact ⟨_, _, rfl⟩
theorem zhy {f : Int} (h : isF f) {a c : Nat} (e : zQ f a = zQ f c) : a = c ∨ (cls f a = 5 ∧ cls f c = 5) := by
 have hn := (ziL h).1
 unfold zQ at e
 by_cases ca : cls f a = 5
 ·by_cases cc : cls f c = 5
  ·exact .inr ⟨ca, cc⟩
  ·rw [if_pos ca, if_neg cc] at e
   rw [← e] at cc; exact absurd hn cc
 ·by_cases cc : cls f c = 5
  ·rw [if_neg ca, if_pos cc] at e
   rw [e] at ca; exact absurd hn ca
  ·rw [if_neg ca, if_neg cc] at e
   exact .inl e
theorem zlt {f : Int} (h : isF f) {a b c d : Nat} (e1 : zQ f a = zQ f c) (e2 : zQ f b = zQ f d) : ctT f a b = ctT f c d := by
 have h1 : soS f a = soS f c := by
  rcases zhy h e1 with rfl | ⟨k1, k2⟩
  ·rfl
  ·rw [zeq k1, zeq k2]
 have h2 : sgC f b = sgC f d ∧ imT f b = imT f d := by
  rcases zhy h e2 with rfl | ⟨k1, k2⟩
  ·exact ⟨rfl, rfl⟩
  ·unfold sgC imT
   rw [if_neg (fun hh => hh.1 k1), if_neg (fun hh => hh.1 k2), if_pos k1, if_pos k2]
   exact ⟨rfl, rfl⟩
 unfold ctT
 rw [h1, h2.1, h2.2]
theorem zgL {f : Int} (h : isF f) (a b : Nat) : zb4.f f (a : Int) (b : Int) = some ((zQ f a : Int), (zQ f b : Int)) := by
 unfold zb4.f
 rw [zjg h, Option.bind_some, zjg h, Option.bind_some]
theorem zoh {f : Int} (h : isF f) (a b c d : Nat) : zdi.f f (a : Int) (b : Int) (c : Int) (d : Int) = some (decide (zQ f a = zQ f c ∧ zQ f b = zQ f d)) := by
 unfold zdi.f
 rw [zgL h, Option.bind_some, zgL h, Option.bind_some]
 congr 1
 rw [Bool.eq_iff_iff]
 simp
 omega
theorem zkt (f a b c d : Int) (ha : IntKind.u64.min ≤ a ∧ a ≤ IntKind.u64.max) (hb : IntKind.u64.min ≤ b ∧ b ≤ IntKind.u64.max) (hc : IntKind.u64.min ≤ c ∧ c ≤ IntKind.u64.max) (hd : IntKind.u64.min ≤ d ∧ d ≤ IntKind.u64.max) :
  Ev (fun k => zd0.f k f a b c d) true := by
 obtain ⟨a, rfl, hla⟩ := zfw ha
 obtain ⟨b, rfl, hlb⟩ := zfw hb
 obtain ⟨c, rfl, hlc⟩ := zfw hc
 obtain ⟨d, rfl, hld⟩ := zfw hd
 unfold zd0.f
 by_cases h : isF f
 rotate_left
 ·exact Ev.bind (zof h _) (zd (by simp) zfV)
 have hg := zog h [(a, b), (c, d)] (by simp) (fun p hp => by
  simp only [List.mem_cons, List.not_mem_nil, or_false] at hp
  rcases hp with rfl | rfl
  ·exact ⟨hla, hlb⟩
  ·exact ⟨hlc, hld⟩)
 have hg : Ev (fun k => zaD.f k f [((a : Int), (b : Int)), ((c : Int), (d : Int))]) (if ∀ p ∈ [(a, b), (c, d)], p.1 < 2 * sg f ∧ p.2 < 2 * sg f then 0 else 6) := hg
 by_cases hok : ∀ p ∈ [(a, b), (c, d)], p.1 < 2 * sg f ∧ p.2 < 2 * sg f
 rotate_left
 ·rw [if_neg hok] at hg
  exact Ev.bind hg (zd (by simp) zfV)
 rw [if_pos hok] at hg
 obtain ⟨ga, gb⟩ := hok (a, b) (by simp)
 obtain ⟨gc, gd⟩ := hok (c, d) (by simp)
 obtain ⟨x, y, hp⟩ := zhD h ga gb
 obtain ⟨x', y', hp'⟩ := zhD h gc gd
 have hparse := zlf h (m := 1) (by decide) (ctT f a b)
 rw [hp] at hparse
 refine Ev.bind hg (ze (by simp) (Ev.bind (zhx h ga gb) (Ev.bind hparse (Ev.bind (zhx h gc gd) (ze (by simp) (ze (by simp) (ze (by simp) (zk (zgL h a b) (ze (by simp) (zk (zoh h a b c d) (zd ?_ zfV)))))))))))
 refine decide_eq_decide.2 ⟨fun hh => ?_, fun hh => ?_⟩
 ·have e : ctT f a b = ctT f c d := by have := congrArg tl hh; rwa [zI, zI] at this
  rw [e, hp'] at hp
  simp only [Prod.mk.injEq] at hp
  omega
 ·show bx _ = bx _
  rw [zlt h hh.1 hh.2]
end Go.Proofs.YtnkpmjhlkmlmbaaGreatDoor.Eng.K
