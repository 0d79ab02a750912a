import Derived.Test.YtnkpmjhlkmlmbaaGreatDoorQDeciFewestK1
import Derived.Lib.Atoi
set_option linter.unusedVariables false
set_option linter.unusedSimpArgs false
namespace Go.Proofs.YtnkpmjhlkmlmbaaGreatDoor.Eng.K
open Go.RowKit Go.Proofs.YtnkpmjhlkmlmbaaGreatDoor.Eng
theorem zdv (b : Bool) : bN b < 2 := by cases b <;> decide
theorem zem (b : Bool) : bN b = 0 ↔ b = false := by cases b <;> decide
def stk (Q : Nat) (b : Bool) : Nat := 2 * Q + bN b
theorem zen {Q : Nat} (h : Q ≠ 0) (b : Bool) : bl (stk Q b) = bl Q + 1 := by
 have hb := zdv b
 have : stk Q b / 2 ^ 1 = Q := by unfold stk; omega
 have h2 := zbz (stk Q b) 1
 rw [this] at h2
 have h3 := za6 h
 have h4 : bl (stk Q b) ≠ 0 := fun e => by rw [e] at h2; omega
 omega
theorem zj2 {H r j : Nat} (h : H ≠ 0) (hr : r < 2 ^ j) : bl (H * 2 ^ j + r) = bl H + j := by
 have h1 : (H * 2 ^ j + r) / 2 ^ j = H := by
  rw [Nat.mul_comm, Nat.mul_add_div (zh j), Nat.div_eq_of_lt hr, Nat.add_zero]
 have h2 := zbz (H * 2 ^ j + r) j
 rw [h1] at h2
 have := za6 h
 omega
theorem ziw {f m : Int} (h : isF f) (s : Bool) {H r j : Nat} (hH : pr f + 1 ≤ bl H) (hr : r < 2 ^ j) (e : Int) : zt f m s (H * 2 ^ j + r) e = zt f m s (stk H (decide (r ≠ 0))) (e + j - 1) := by
 have hpr := zM h
 have h0 : H ≠ 0 := fun c => by rw [c, za7] at hH; omega
 have hb1 := zj2 h0 hr
 have hb2 := zen h0 (decide (r ≠ 0))
 rw [← zeN, ← zeN]
 have hT : e + j - 1 + (bl (stk H (decide (r ≠ 0))) : Nat) = e + (bl (H * 2 ^ j + r) : Nat) := by omega
 rw [hT]
 refine zf7 fun E hE => ?_
 obtain ⟨d, hd⟩ : ∃ d : Nat, (E - e).toNat = d + j ∧ 1 ≤ d := ⟨(E - e).toNat - j, by omega, by omega⟩
 have e1 : (e - E).toNat = 0 := by omega
 have e2 : (e + j - 1 - E).toNat = 0 := by omega
 have e3 : (E - (e + j - 1)).toNat = d + 1 := by omega
 unfold R exR stk
 rw [e1, e2, e3, hd.1, Nat.pow_zero, Nat.mul_one, Nat.mul_one]
 exact ⟨ziu m s hr hd.2, decide_eq_decide.2 (zho hr)⟩
theorem zk6 (X Y j : Nat) (hY : 0 < Y) : ∃ r, r < 2 ^ j ∧ X * 2 ^ j / Y = X / Y * 2 ^ j + r ∧ (X % Y = 0 ↔ r = 0 ∧ X * 2 ^ j % Y = 0) := by
 have h1 := Nat.div_add_mod X Y
 have h2 := Nat.mod_lt X hY
 have e : X * 2 ^ j = Y * (X / Y * 2 ^ j) + X % Y * 2 ^ j := by
  conv => lhs; rw [← h1, Nat.add_mul, Nat.mul_assoc]
 refine ⟨X % Y * 2 ^ j / Y, ?_, ?_, ?_⟩
 ·rw [Nat.div_lt_iff_lt_mul hY, Nat.mul_comm]
  exact Nat.mul_lt_mul_of_pos_left h2 (zh j)
 ·rw [e, Nat.mul_add_div hY]
 ·rw [e, Nat.mul_add_mod]
  constructor
  ·intro c; rw [c]; simp
  ·intro ⟨c1, c2⟩
   have h3 := Nat.div_add_mod (X % Y * 2 ^ j) Y
   rw [c1, c2] at h3
   have h4 : X % Y * 2 ^ j = 0 := by rw [← h3]; simp
   rcases Nat.mul_eq_zero.1 h4 with h5 | h5
   ·exact h5
   ·have := zh j; omega
theorem ziz {f m : Int} (h : isF f) (s : Bool) {A B N : Nat} (hB : 0 < B) (hn : pr f + 1 ≤ bl (A * 2 ^ N / B)) (e : Int) (j : Nat) :
  zt f m s (stk (A * 2 ^ (N + j) / B) (decide (A * 2 ^ (N + j) % B ≠ 0))) (e - (N + j : Nat) - 1) = zt f m s (stk (A * 2 ^ N / B) (decide (A * 2 ^ N % B ≠ 0))) (e - N - 1) := by
 obtain ⟨r, hr, hq, hz⟩ := zk6 (A * 2 ^ N) B j hB
 rw [Nat.pow_add, ← Nat.mul_assoc]
 rw [hq]
 have hb := zdv (decide (A * 2 ^ N * 2 ^ j % B ≠ 0))
 have hs : stk (A * 2 ^ N / B * 2 ^ j + r) (decide (A * 2 ^ N * 2 ^ j % B ≠ 0)) = A * 2 ^ N / B * 2 ^ (j + 1) + (2 * r + bN (decide (A * 2 ^ N * 2 ^ j % B ≠ 0))) := by
  unfold stk
  rw [Nat.pow_succ, ← Nat.mul_assoc]; omega
 rw [hs, ziw h s hn (by rw [Nat.pow_succ]; omega)]
 have hd : decide (2 * r + bN (decide (A * 2 ^ N * 2 ^ j % B ≠ 0)) ≠ 0) = decide (A * 2 ^ N % B ≠ 0) := by
  apply decide_eq_decide.2
  have := zem (decide (A * 2 ^ N * 2 ^ j % B ≠ 0))
  have h3 : bN (decide (A * 2 ^ N * 2 ^ j % B ≠ 0)) = 0 ↔ A * 2 ^ N * 2 ^ j % B = 0 := by rw [this]; simp
  constructor
  ·intro c c2
   have := hz.1 c2
   exact c (by rw [h3.2 this.2, this.1])
  ·intro c c2
   exact c (hz.2 ⟨by omega, h3.1 (by omega)⟩)
 rw [hd]
 congr 1
 omega
def rq (f m : Int) (s : Bool) (A B : Nat) (e : Int) : Int × Int :=
 zt f m s (stk (A * 2 ^ (bl B + 64) / B) (decide (A * 2 ^ (bl B + 64) % B ≠ 0))) (e - (bl B + 64 : Nat) - 1)
theorem zdX {A B : Nat} (hA : A ≠ 0) (hB : 0 < B) : 64 + 1 ≤ bl (A * 2 ^ (bl B + 64) / B) := by
 have := (zin hA (Nat.ne_of_gt hB) (bl B + 64) (by omega)).1
 have := za6 hA
 omega
theorem zdY {f m : Int} (h : isF f) (s : Bool) {A B : Nat} (hA : A ≠ 0) (hB : 0 < B) (e : Int) (N : Nat) (hn : pr f + 1 ≤ bl (A * 2 ^ N / B)) :
  zt f m s (stk (A * 2 ^ N / B) (decide (A * 2 ^ N % B ≠ 0))) (e - N - 1) = rq f m s A B e := by
 have hpr := zM h
 have hfb := zab h
 have hb := zdX hA hB
 unfold rq
 have h1 := ziz (m := m) h s hB hn e (bl B + 64)
 have h2 := ziz (m := m) h s (A := A) (N := bl B + 64) hB (by omega) e N
 rw [← h1, ← h2, Nat.add_comm N]
theorem zeO {f m : Int} (h : isF f) (s : Bool) {A B c : Nat} (hA : A ≠ 0) (hB : 0 < B) (hc : 0 < c) (e : Int) : rq f m s (A * c) (B * c) e = rq f m s A B e := by
 have hAc : A * c ≠ 0 := Nat.mul_ne_zero hA (by omega)
 have hBc : 0 < B * c := Nat.mul_pos hB hc
 have hpr := zM h
 have hfb := zab h
 have hb := zdX hAc hBc
 have e1 : A * c * 2 ^ (bl (B * c) + 64) = A * 2 ^ (bl (B * c) + 64) * c := Nat.mul_right_comm _ _ _
 have e2 : A * c * 2 ^ (bl (B * c) + 64) / (B * c) = A * 2 ^ (bl (B * c) + 64) / B := by rw [e1, Nat.mul_div_mul_right _ _ hc]
 have e3 : A * c * 2 ^ (bl (B * c) + 64) % (B * c) = A * 2 ^ (bl (B * c) + 64) % B * c := by rw [e1, Nat.mul_mod_mul_right]
 rw [e2] at hb
 rw [← zdY h s hA hB e (bl (B * c) + 64) (by omega)]
 unfold rq
 rw [e2, e3]
 have hd : decide (A * 2 ^ (bl (B * c) + 64) % B * c ≠ 0) = decide (A * 2 ^ (bl (B * c) + 64) % B ≠ 0) := by
  apply decide_eq_decide.2
  rw [Ne, Nat.mul_eq_zero]
  omega
 rw [hd]
theorem zeP {f m : Int} (h : isF f) (s : Bool) {A B : Nat} (hA : A ≠ 0) (hB : 0 < B) (e : Int) (j : Nat) : rq f m s (A * 2 ^ j) B e = rq f m s A B (e + j) := by
 have hAj : A * 2 ^ j ≠ 0 := Nat.mul_ne_zero hA (Nat.ne_of_gt (zh j))
 have hpr := zM h
 have hfb := zab h
 have hb := zdX hAj hB
 have e1 : A * 2 ^ j * 2 ^ (bl B + 64) = A * 2 ^ (bl B + 64 + j) := by rw [Nat.mul_assoc, ← Nat.pow_add, Nat.add_comm j]
 rw [e1] at hb
 rw [← zdY h s hA hB (e + j) (bl B + 64 + j) (by omega)]
 have e2 : e + (j : Int) - ((bl B + 64 + j : Nat) : Int) - 1 = e - ((bl B + 64 : Nat) : Int) - 1 := by omega
 rw [e2]
 unfold rq
 rw [e1]
theorem zm5 {f m : Int} (s : Bool) {A : Nat} (hA : A ≠ 0) (e : Int) (N : Nat) : zt f m s (stk (A * 2 ^ N / 1) (decide (A * 2 ^ N % 1 ≠ 0))) (e - N - 1) = zt f m s A e := by
 have e2 : stk (A * 2 ^ N / 1) (decide (A * 2 ^ N % 1 ≠ 0)) = A * 2 ^ (N + 1) := by
  have e3 : bN (decide (A * 2 ^ N % 1 ≠ 0)) = 0 := by rw [zem, decide_eq_false_iff_not]; simp [Nat.mod_one]
  unfold stk
  rw [e3, Nat.div_one, Nat.pow_succ, Nat.add_zero, ← Nat.mul_assoc A, Nat.mul_comm 2]
 rw [e2, zf8 f m s hA]
 congr 1
 omega
theorem ziA {f m : Int} (h : isF f) (s : Bool) {A : Nat} (hA : A ≠ 0) (e : Int) : rq f m s A 1 e = zt f m s A e := zm5 s hA e (bl 1 + 64)
theorem zmR {f m : Int} (h : isF f) (s : Bool) {A B A' B' : Nat} (hA : A ≠ 0) (hA' : A' ≠ 0) (hB : 0 < B) (hB' : 0 < B') (hx : A * B' = A' * B) (e : Int) : rq f m s A B e = rq f m s A' B' e := by
 rw [← zeO h s hA hB hB' e, ← zeO h s hA' hB' hB e, hx, Nat.mul_comm B B']
theorem zmQ {f m : Int} (h : isF f) (s : Bool) {A B : Nat} (hB : 0 < B) {e : Int} {k : Nat} (hk : B * 2 ^ k ≤ A) (he : wd f ≤ e + k) : rq f m s A B e = ((zcE f m s : Int), 20) := by
 have hA : A ≠ 0 := fun c => by have := Nat.mul_pos hB (zh k); omega
 have hQ : 2 ^ (k + (bl B + 64)) ≤ A * 2 ^ (bl B + 64) / B := by
  rw [Nat.le_div_iff_mul_le hB, Nat.pow_add, Nat.mul_right_comm, Nat.mul_comm (2 ^ k)]
  exact Nat.mul_le_mul_right _ hk
 have hQ0 : A * 2 ^ (bl B + 64) / B ≠ 0 := Nat.ne_of_gt (Nat.lt_of_lt_of_le (zh _) hQ)
 have hbl := zas hQ
 have h2 := zaI (v := 1) (by omega) (k + (bl B + 64))
 rw [Nat.one_mul, show bl 1 = 1 by decide] at h2
 have hst := zen hQ0 (decide (A * 2 ^ (bl B + 64) % B ≠ 0))
 unfold rq
 refine zmN h (fun c => ?_) ?_
 ·rw [c, za7] at hst; omega
 ·omega
theorem zmS {f m : Int} (h : isF f) (s : Bool) {A B : Nat} (hA : A ≠ 0) (hB : 0 < B) {e : Int} {k : Nat} (hk : A * 2 ^ k < B) (he : e - k < lo f) :
  rq f m s A B e = zt f m s 1 (lo f - 2) := by
 have hQ : A * 2 ^ (bl B + 64) / B < 2 ^ (bl B + 64 - k) := by
  have hkB : k < bl B := by
   have h1 := zP B
   have h2 : 1 * 2 ^ k ≤ A * 2 ^ k := Nat.mul_le_mul_right _ (by omega)
   exact (Nat.pow_lt_pow_iff_right (by omega)).1 (show 2 ^ k < 2 ^ bl B by omega)
  rw [Nat.div_lt_iff_lt_mul hB]
  have e1 : A * 2 ^ (bl B + 64) = 2 ^ (bl B + 64 - k) * (A * 2 ^ k) := by
   rw [Nat.mul_left_comm, ← Nat.pow_add, show bl B + 64 - k + k = bl B + 64 by omega]
  rw [e1]
  exact Nat.mul_lt_mul_of_pos_left hk (zh _)
 have hb := zdX hA hB
 have hQ0 : A * 2 ^ (bl B + 64) / B ≠ 0 := fun c => by rw [c, za7] at hb; omega
 have h2 := zI hQ
 have hst := zen hQ0 (decide (A * 2 ^ (bl B + 64) % B ≠ 0))
 have hs0 : stk (A * 2 ^ (bl B + 64) / B) (decide (A * 2 ^ (bl B + 64) % B ≠ 0)) ≠ 0 := fun c => by rw [c, za7] at hst; omega
 unfold rq
 rw [zix h hs0 (by omega), zix h (by omega) (by rw [show bl 1 = 1 by decide]; omega)]
theorem zmg {f m : Int} (h : isF f) (hm : isM m) {s s' : Bool} {l l' : List Int} {e e' : Int} (hd : My s l e) (hd' : My s' l' e') : Ev (fun k => zN.f k f m [(s, l, e), (s', l', e')]) ((pr f : Int), lo f, wd f, 0) := by
 unfold zN.f
 unfold isM at hm
 refine zk (zfA h) ?_; try dsimp only
 refine ze (by simp) (ze (by omega) (ze (by omega) ?_))
 have e1 : wrap64 (0 + 1) = 1 := by rw [zah (by omega) (by omega)]; rfl
 have e2 : wrap64 (1 + 1) = 2 := by rw [zah (by omega) (by omega)]; rfl
 have el : (([(s, l, e), (s', l', e')] : List (Bool × List Int × Int)).length : Int) = 2 := rfl
 have r0 : rdT [.b, .is .u32, .i .i64] [(s, l, e), (s', l', e')] 0 = (s, l, e) := rfl
 have r1 : rdT [.b, .is .u32, .i .i64] [(s, l, e), (s', l', e')] 1 = (s', l', e') := rfl
 refine zf ?_
 simp only [zN.l0, el, e1, r0]
 refine zd (by decide) (zd (by decide) (zd (by decide) ?_))
 refine zk (zce hd) ?_; try dsimp only
 refine ze (by simp) (zf ?_)
 simp only [zN.l0, el, e2, r1]
 refine zd (by decide) (zd (by decide) (zd (by decide) ?_))
 refine zk (zce hd') ?_; try dsimp only
 refine ze (by simp) (zf ?_)
 simp only [zN.l0]
 exact ze (by decide) (Ev.now _)
theorem zle {n j : Nat} (h : bl n + j = 64) : zJ n = n * 2 ^ j ∧ zaL n = false := by
 unfold zJ zaL
 have e1 : 64 - bl n = j := by omega
 have e2 : bl n - 64 = 0 := by omega
 rw [e1, e2, Nat.pow_zero, Nat.div_one, Nat.mod_one]
 exact ⟨rfl, rfl⟩
def qN (A B : Nat) : Nat := 65 + bl B - bl A
def qC (A B : Nat) : Nat := bl (A * 2 ^ qN A B / B) - 64
def qH (A B : Nat) : Nat := A * 2 ^ qN A B / B / 2 ^ qC A B
def qL (A B : Nat) : Bool := decide (A * 2 ^ qN A B / B % 2 ^ qC A B ≠ 0) || decide (A * 2 ^ qN A B % B ≠ 0)
theorem zf2 {A B : Nat} (hA : A ≠ 0) (hB : B ≠ 0) : 65 ≤ bl (A * 2 ^ qN A B / B) ∧ bl (A * 2 ^ qN A B / B) ≤ bl A + 66 ∧ bl (qH A B) = 64 := by
 have h1 : qN A B = 65 + bl B - bl A := rfl
 have h2 : qC A B = bl (A * 2 ^ qN A B / B) - 64 := rfl
 have := zin hA hB (qN A B) (by omega)
 have hp := za6 hA
 have hd : bl (qH A B) = bl (A * 2 ^ qN A B / B) - qC A B := zbz _ _
 refine ⟨by omega, by omega, by omega⟩
theorem zlQ {x c n : Nat} (l : Bool) (hx : bl x ≤ 33000) (hc : c = bl x - 64) (h64 : 64 ≤ bl x) (hn : n ≤ 1000000) : Ev (fun k => zbW.f k false (D x) (0 - (n : Int)) l 64) ((mk ((x / 2 ^ c : Nat) : Int) (0 - (n : Int) + (c : Int))).1, (mk ((x / 2 ^ c : Nat) : Int) (0 - (n : Int) + (c : Int))).2.1, (mk ((x / 2 ^ c : Nat) : Int) (0 - (n : Int) + (c : Int))).2.2, (decide (x % 2 ^ c ≠ 0) || l), 0) := by
 have lx := zaK (x := x) (k := 2100) (by omega)
 have hl := zda (z6 x) (by omega)
 have hs2 := zdR (z6 x) (by omega) (-(c : Int))
 rw [V_D] at hl hs2
 rw [zgc (by omega) (by omega)] at hs2
 have hm := zcd false (z6 (x / 2 ^ c)) (by
  have h1 := zbz x c
  have := zaK (x := x / 2 ^ c) (k := 2100) (by omega)
  omega) (0 - (n : Int) + (c : Int))
 rw [V_D, zch (by omega) (by have := zbz x c; omega)] at hm
 rw [show sv false (x / 2 ^ c) = ((x / 2 ^ c : Nat) : Int) from rfl] at hm
 have w4 : mx 0 (wrap64 (((bl x : Nat) : Int) - 64)) = (c : Int) := by
  rw [zeF, zdq (by omega) (by omega) (by omega) (by omega)]; omega
 have w5 : wrap64 (-(c : Int)) = -(c : Int) := zeX (by omega) (by omega)
 have w6 : wrap64 (0 - (n : Int) + (c : Int)) = 0 - (n : Int) + (c : Int) := zbP (by omega) (by omega) (by omega) (by omega)
 unfold zbW.f
 refine Ev.bind (hl) ?_; try dsimp only
 rw [w4, w5, w6]
 clear w4 w5 w6
 refine Ev.bind (hs2) ?_; try dsimp only
 refine Ev.bind (hm) ?_; try dsimp only
 refine ze (by unfold ok3; simp) ?_
 by_cases c1 : x % 2 ^ c ≠ 0
 ·refine zd (decide_eq_true c1) (zi (Ev.now _) ?_)
  rw [decide_eq_true c1, Bool.true_or]; rfl
 ·refine ze (by simpa using c1) (zi (Ev.now _) ?_)
  rw [decide_eq_false c1, Bool.false_or]; rfl
theorem zn2 {n x y : Nat} (hn : n = 65 + x - y) (h1 : x ≤ 1000000) (h2 : y ≤ 1000000) : mx 0 (wrap64 (wrap64 (wrap64 (64 + 1) + (x : Int)) - (y : Int))) = (n : Int) := by
 have e : wrap64 (wrap64 (wrap64 (64 + 1) + (x : Int)) - (y : Int)) = 65 + (x : Int) - (y : Int) := by unfold wrap64; omega
 rw [zeF, e]
 clear e
 omega
theorem zn4 {n : Nat} (h : n ≤ 1000000) : wrap64 (wrap64 (0 - 0) - (n : Int)) = 0 - (n : Int) := by unfold wrap64; omega
theorem zkP {la lb : List Int} (ha : Nm la) (hb : Nm lb) (ma : My false la 0) (mb : My false lb 0) (A0 : V la ≠ 0) (B0 : V lb ≠ 0) (l1 : bl (V la) ≤ 32000) (l2 : bl (V lb) ≤ 32000) :
  Ev (fun k => zbo.f k false la 0 false lb 0 64) ((mk (qH (V la) (V lb)) (0 - (qN (V la) (V lb) : Nat) + (qC (V la) (V lb) : Nat))).1, (mk (qH (V la) (V lb)) (0 - (qN (V la) (V lb) : Nat) + (qC (V la) (V lb) : Nat))).2.1, (mk (qH (V la) (V lb)) (0 - (qN (V la) (V lb) : Nat) + (qC (V la) (V lb) : Nat))).2.2, qL (V la) (V lb), 0) := by
 have lla := ma.len
 have llb := mb.len
 have ane : la ≠ [] := fun h => A0 (by rw [h]; rfl)
 have lne : lb ≠ [] := fun h => B0 (by rw [h]; rfl)
 have hN : qN (V la) (V lb) = 65 + bl (V lb) - bl (V la) := rfl
 have hC : qC (V la) (V lb) = bl (V la * 2 ^ qN (V la) (V lb) / V lb) - 64 := rfl
 have hH : qH (V la) (V lb) = V la * 2 ^ qN (V la) (V lb) / V lb / 2 ^ qC (V la) (V lb) := rfl
 have hL : qL (V la) (V lb) = (decide (V la * 2 ^ qN (V la) (V lb) / V lb % 2 ^ qC (V la) (V lb) ≠ 0) || decide (V la * 2 ^ qN (V la) (V lb) % V lb ≠ 0)) := rfl
 obtain ⟨b1, b2, b3⟩ := zf2 A0 B0
 have hs := zdR ha lla (qN (V la) (V lb) : Nat)
 rw [zgd (by omega)] at hs
 have hup := zfe (V la) (qN (V la) (V lb))
 have hll := zaK (x := V la * 2 ^ qN (V la) (V lb)) (k := 2100) (by omega)
 have hq := zl0 (z6 (V la * 2 ^ qN (V la) (V lb))) hb (by omega) llb
 rw [V_D] at hq
 unfold zf3 at hq
 rw [if_neg B0] at hq
 have hn6 : qN (V la) (V lb) ≤ 1000000 := by omega
 have w2 : wrap64 (131072 - ((bl (V la) : Nat) : Int)) = 131072 - ((bl (V la) : Nat) : Int) := zdq (by omega) (by omega) (by omega) (by omega)
 have w3 := zn4 hn6
 have w1 := zn2 hN (Nat.le_trans l2 (by decide)) (Nat.le_trans l1 (by decide))
 unfold zbo.f
 refine Ev.bind (zhh ma mb) ?_; try dsimp only
 refine ze (by simp) ?_
 rw [show decide ((64 : Int) < 1) = false from rfl]
 refine zf ?_
 simp only [zbo.j0]
 refine ze (by simp) ?_
 have ask : zdH.f 64 = some 0 := rfl
 refine zk (ask) ?_; try dsimp only
 refine ze (by simp) (ze (fun h => lne (zeH.1 h)) (ze (fun h => ane (zeH.1 h)) ?_))
 refine Ev.bind (zda hb llb) ?_; try dsimp only
 refine Ev.bind (zda ha lla) ?_; try dsimp only
 refine Ev.bind (zda ha lla) ?_; try dsimp only
 rw [w1, w2, w3]
 clear w1 w2 w3
 refine ze (by omega) ?_
 refine Ev.bind (hs) ?_; try dsimp only
 refine Ev.bind (hq) ?_; try dsimp only
 rw [hL, hH]
 generalize qN (V la) (V lb) = n at *
 generalize qC (V la) (V lb) = c at *
 have hdz : decide (((D (V la * 2 ^ n % V lb)).length : Int) > 0) = decide (V la * 2 ^ n % V lb ≠ 0) := by
  generalize V la * 2 ^ n % V lb = y
  exact decide_eq_decide.2 (by
   constructor
   ·intro h h2; rw [h2, zK] at h; simp at h
   ·intro h
    have : (D y) ≠ [] := fun h2 => h (by rw [← V_D y, h2]; rfl)
    exact zhK this)
 rw [hdz]
 clear hdz
 have hlen := zas (Nat.div_le_self (V la * 2 ^ n) (V lb))
 generalize V la * 2 ^ n % V lb = y at *
 generalize V la * 2 ^ n / V lb = x at *
 have hmd := zlQ (x := x) (c := c) (n := n) (decide (y ≠ 0)) (by omega) hC (by omega) (by omega)
 refine Ev.bind (hmd) ?_; try dsimp only
 exact Ev.now _
theorem zlF (x y : Nat) : (decide (x ≠ 0) || decide (y ≠ 0)) = decide (2 * x + bN (decide (y ≠ 0)) ≠ 0) := by
 by_cases c1 : x = 0
 ·subst c1
  by_cases c2 : y = 0
  ·subst c2; rfl
  ·have e : decide (y ≠ 0) = true := decide_eq_true c2
   rw [e]; rfl
 ·have e : decide (x ≠ 0) = true := decide_eq_true c1
  rw [e, Bool.true_or]
  exact (decide_eq_true (by omega)).symm
theorem zmB {f m : Int} (h : isF f) (s : Bool) {A B : Nat} (hA : A ≠ 0) (hB : B ≠ 0) (e : Int) :
  zt f m s (stk (qH A B) (qL A B)) (e - (qN A B : Nat) + (qC A B : Nat) - 1) = rq f m s A B e := by
 have hpr := zM h
 have hfb := zab h
 obtain ⟨b1, b2, b3⟩ := zf2 hA hB
 have hn := zdY (m := m) h s hA (Nat.pos_of_ne_zero hB) e (qN A B) (by omega)
 rw [← hn]
 have hH : qH A B = A * 2 ^ qN A B / B / 2 ^ qC A B := rfl
 have hL : qL A B = (decide (A * 2 ^ qN A B / B % 2 ^ qC A B ≠ 0) || decide (A * 2 ^ qN A B % B ≠ 0)) := rfl
 rw [hL]
 rw [hH] at b3 ⊢
 generalize qN A B = n at *
 generalize qC A B = c at *
 generalize A * 2 ^ n % B = y at *
 generalize A * 2 ^ n / B = x at *
 have hr := Nat.mod_lt x (zh c)
 have hx := Nat.div_add_mod x (2 ^ c)
 have hb := zdv (decide (y ≠ 0))
 have hs : stk x (decide (y ≠ 0)) = x / 2 ^ c * 2 ^ (c + 1) + (2 * (x % 2 ^ c) + bN (decide (y ≠ 0))) := by
  unfold stk
  conv => lhs; rw [← hx]
  rw [Nat.pow_succ, Nat.mul_comm (2 ^ c), ← Nat.mul_assoc]; omega
 rw [hs, ziw h s (by omega) (by rw [Nat.pow_succ]; omega)]
 have hd := zlF (x % 2 ^ c) y
 rw [hd]
 congr 1
 omega
theorem zjJ {f m : Int} (h : isF f) (s : Bool) {H : Nat} (hH : bl H = 64) (T : Int) (b : Bool) : zb1 f m s T (UP m s H T b) (XP H T b) = zt f m s (stk H b) (T - 65) := by
 have hpr := zM h
 have hfb := zab h
 have h0 : H ≠ 0 := fun c => by rw [c, za7] at hH; omega
 have hb := zen h0 b
 rw [← zeN]
 have hT : T - 65 + (bl (stk H b) : Nat) = T := by omega
 rw [hT]
 refine zf7 fun E hE => ?_
 unfold UP XP R exR stk
 have e1 : (T - 65 - E).toNat = 0 := by omega
 have e2 : (E - (T - 65)).toNat = (E - T + 64).toNat + 1 := by omega
 rw [e1, e2, Nat.pow_zero, Nat.mul_one]
 exact ⟨rfl, rfl⟩
theorem zjA {f m : Int} (h : isF f) (hm : isM m) {sa sb : Bool} {la lb : List Int} {ea eb : Int} (ha : My sa la ea) (hb : My sb lb eb) (A0 : V la ≠ 0) (B0 : V lb ≠ 0) (l1 : bl (V la) ≤ 32000) (l2 : bl (V lb) ≤ 32000) :
    Ev (fun k => zbf.f k f m sa la ea sb lb eb) ((rq f m (decide (¬ sa = sb)) (V la) (V lb) (ea - eb)).1, (rq f m (decide (¬ sa = sb)) (V la) (V lb) (ea - eb)).2, 0) := by
  have ma : My false la 0 := ⟨⟨ha.dy.nm, fun h => ⟨rfl, rfl⟩, ha.dy.odd⟩, ha.len, by omega, by omega⟩
  have mb : My false lb 0 := ⟨⟨hb.dy.nm, fun h => ⟨rfl, rfl⟩, hb.dy.odd⟩, hb.len, by omega, by omega⟩
  have h1 := ha.lo
  have h2 := ha.hi
  have h3 := hb.lo
  have h4 := hb.hi
  have hq := zkP ha.dy.nm hb.dy.nm ma mb A0 B0 l1 l2
  have hr := zmB (m := m) h (decide (¬ sa = sb)) A0 B0 (ea - eb)
  obtain ⟨b1, b2, b3⟩ := zf2 A0 B0
  have hN : qN (V la) (V lb) = 65 + bl (V lb) - bl (V la) := rfl
  have hC : qC (V la) (V lb) = bl (V la * 2 ^ qN (V la) (V lb) / V lb) - 64 := rfl
  rw [← hr]
  clear hr
  generalize qN (V la) (V lb) = n at *
  generalize qC (V la) (V lb) = c at *
  generalize qH (V la) (V lb) = H at *
  generalize qL (V la) (V lb) = L at *
  have H0 : (H : Int) ≠ 0 := fun h => by have : H = 0 := by omega
                                         rw [this, za7] at b3; omega
  obtain ⟨j, j1, j2, j3, j4⟩ := zci H0 (0 - (n : Int) + (c : Int))
  rw [Int.natAbs_natCast] at j1
  have hj : bl (V (mk (H : Int) (0 - (n : Int) + (c : Int))).2.1) + j = 64 := by
    have := zaI j4 j
    rw [← j1] at this; omega
  have hd := zeh (H : Int) (0 - (n : Int) + (c : Int))
  generalize (mk (H : Int) (0 - (n : Int) + (c : Int))) = g at *
  obtain ⟨g1, g2, g3⟩ := g
  dsimp only at *
  have hl := hd.nm.len
  have hlb := zaK (x := V g2) (k := 2) (by omega)
  have hmy : My g1 g2 g3 := ⟨hd, by omega, by omega, by omega⟩
  have hp := zid hmy j4
  obtain ⟨k1, k2⟩ := zle hj
  rw [k1, k2, ← j1] at hp
  have hT : ∀ b, zb1 f m (decide (¬ sa = sb)) (g3 + (bl (V g2) : Nat) + (ea - eb)) (UP m (decide (¬ sa = sb)) H (g3 + (bl (V g2) : Nat) + (ea - eb)) b) (XP H (g3 + (bl (V g2) : Nat) + (ea - eb)) b) = zt f m (decide (¬ sa = sb)) (stk H b) (ea - eb - (n : Int) + (c : Int) - 1) := by
    intro b
    rw [zjJ h _ b3]
    congr 1
    omega
  have HH : 2 ^ 63 ≤ H ∧ H < 2 ^ 64 := by
    have hne : H ≠ 0 := fun h => H0 (by omega)
    have u1 := zcw hne
    have u2 := zP H
    rw [b3] at u1 u2
    exact ⟨u1, u2⟩
  have w1 : wrap64 (ea - eb) = ea - eb := zdq (by omega) (by omega) (by omega) (by omega)
  have w2 : wrap64 (g3 + ((bl (V g2) : Nat) : Int) + (ea - eb)) = g3 + ((bl (V g2) : Nat) : Int) + (ea - eb) := zbP (by omega) (by omega) (by omega) (by omega)
  have hw := fun b => zif h hm (decide (¬ sa = sb)) HH (T := g3 + (bl (V g2) : Nat) + (ea - eb)) b (by omega) (by omega)
  have last : ∀ b : Bool, Ev (fun k => zbf.j1 k f m sa la ea sb lb eb (pr f : Int) (lo f) (wd f) (decide (¬ sa = sb)) (H : Int) (g3 + ((bl (V g2) : Nat) : Int)) b) ((zt f m (decide (¬ sa = sb)) (stk H b) (ea - eb - (n : Int) + (c : Int) - 1)).1, (zt f m (decide (¬ sa = sb)) (stk H b) (ea - eb - (n : Int) + (c : Int) - 1)).2, 0) := by
    intro b
    refine zf ?_
    simp only [zbf.j1, w1, w2]
    refine Ev.bind (hw b) ?_
    rw [hT b]
    exact Ev.now _
  clear w1 w2
  unfold zbf.f
  refine Ev.bind (zmg h hm ha hb) ?_; try dsimp only
  refine ze (by simp) ?_
  refine Ev.bind (zft hb) ?_; try dsimp only
  refine ze (by rw [zeQ B0]; split <;> omega) ?_
  refine Ev.bind (zft ha) ?_; try dsimp only
  refine ze (by rw [zeQ A0]; split <;> omega) ?_
  refine Ev.bind (hq) ?_; try dsimp only
  refine Ev.bind (hp) ?_; try dsimp only
  refine ze (by simp) ?_
  exact last L
theorem zkO {sa sb : Bool} {la lb : List Int} {ea eb : Int} (ha : My sa la ea) (hb : My sb lb eb) (hl : bl (V la) + bl (V lb) ≤ 131000) (h1 : -16000000 ≤ ea + eb) (h2 : ea + eb ≤ 16000000) : Ev (fun k => zcB.f k sa la ea sb lb eb) (ok3 (mk (sv sa (V la) * sv sb (V lb)) (ea + eb))) := by
 have a1 := ha.lo
 have a2 := ha.hi
 have b1 := hb.lo
 have b2 := hb.hi
 have hbl := zfd (V la) (V lb)
 have hlen := zaK (x := V la * V lb) (k := 4096) (by omega)
 have e : wrap64 (ea + eb) = ea + eb := zbP (by omega) (by omega) (by omega) (by omega)
 have m1 := zhX ha.dy.nm hb.dy.nm ha.len hb.len
 rw [zdx (by omega)] at m1
 have k1 := zcd (sa != sb) (z6 (V la * V lb)) (by omega) (ea + eb)
 rw [V_D, zch (by omega) (by omega), ← ziR] at k1
 have hne : (decide (¬ sa = sb)) = (sa != sb) := by cases sa <;> cases sb <;> rfl
 unfold zcB.f
 refine Ev.bind (zhh ha hb) ?_; try dsimp only
 refine ze (by simp) ?_
 refine Ev.bind (m1) ?_; try dsimp only
 refine ze (by simp) ?_
 rw [e, hne]
 clear e
 refine Ev.bind (k1) ?_; try dsimp only
 exact Ev.now _
theorem zdO {z e : Int} (hb : bl z.natAbs ≤ 131072) (h1 : -16777216 ≤ e) (h2 : e + (bl z.natAbs : Nat) ≤ 16777216) : My (mk z e).1 (mk z e).2.1 (mk z e).2.2 := by
 have a1 := zlT z e
 have a2 := zfG z e
 have e1 : (mk z e).2.2 = me z e := rfl
 exact ⟨zeh z e, by omega, by omega, by omega⟩
theorem zlU (za ea zb eb : Int) : mk (mz za ea * mz zb eb) (me za ea + me zb eb) = mk (za * zb) (ea + eb) := by
 by_cases c : za = 0
 ·subst c; rw [zhU, Int.zero_mul, Int.zero_mul]; rfl
 by_cases c2 : zb = 0
 ·subst c2; rw [zhU, Int.mul_zero, Int.mul_zero]; rfl
 obtain ⟨j, p1, p2, _, _⟩ := zdN c ea
 obtain ⟨i, q1, q2, _, _⟩ := zdN c2 eb
 have e3 : za * zb = mz za ea * mz zb eb * 2 ^ (j + i) := by
  conv => lhs; rw [p1, q1]
  rw [Int.pow_add, Int.mul_assoc, Int.mul_assoc]
  congr 1
  rw [Int.mul_left_comm]
 rw [e3, zfH, p2, q2]
 congr 1
 omega
theorem zej (z e : Int) : bl (V (mk z e).2.1) ≤ bl z.natAbs := by
 by_cases c : z = 0
 ·subst c; exact Nat.zero_le _
 ·obtain ⟨j, j1, _⟩ := zci c e
  rw [j1]
  have h := zfe (V (mk z e).2.1) j
  have hp : V (mk z e).2.1 ≤ V (mk z e).2.1 * 2 ^ j := Nat.le_mul_of_pos_right _ (zh j)
  exact zas hp
theorem zmj {za ea zb eb : Int} (hb : bl za.natAbs + bl zb.natAbs ≤ 131000) (h1 : -8000000 ≤ ea) (h2 : ea ≤ 7000000) (h3 : -8000000 ≤ eb) (h4 : eb ≤ 7000000) : Ev (fun k => zcB.f k (mk za ea).1 (mk za ea).2.1 (mk za ea).2.2 (mk zb eb).1 (mk zb eb).2.1 (mk zb eb).2.2) (ok3 (mk (za * zb) (ea + eb))) := by
 have a2 := zfG za ea
 have b2 := zfG zb eb
 have a3 := zej za ea
 have b3 := zej zb eb
 have e1 : (mk za ea).2.2 = me za ea := rfl
 have e2 : (mk zb eb).2.2 = me zb eb := rfl
 refine zi (zkO (zdO (z := za) (e := ea) (by omega) (by omega) (by omega)) (zdO (z := zb) (e := eb) (by omega) (by omega) (by omega)) (by omega) (by omega) (by omega)) ?_
 show ok3 (mk (mz za ea * mz zb eb) (me za ea + me zb eb)) = _
 rw [zlU]
theorem ziy {f m : Int} (h : isF f) (s : Bool) {A B : Nat} (hA : A ≠ 0) (hB : 0 < B) (e : Int) (j : Nat) : rq f m s A (B * 2 ^ j) e = rq f m s A B (e - j) := by
 have h1 := zeP (m := m) h s hA (Nat.mul_pos hB (zh j)) (e - j) j
 rw [show e - (j : Int) + j = e by omega] at h1
 rw [← h1, zeO h s hA hB (zh j)]
def zp (f m : Int) (s : Bool) (n : Nat) (x : Int) : Int × Int := rq f m s (n * 10 ^ x.toNat) (10 ^ (-x).toNat) 0
theorem za0 (n : Nat) : 0 < 10 ^ n := Nat.pow_pos (by omega)
theorem zg0 {f m : Int} (h : isF f) (s : Bool) {n : Nat} (hn : n ≠ 0) {x : Int} (hx : 400 ≤ x) : zp f m s n x = ((zcE f m s : Int), 20) := by
 have hw := zcM h
 unfold zp
 obtain ⟨K, hK⟩ : ∃ K : Nat, K = 1024 := ⟨_, rfl⟩
 refine zmQ h s (za0 _) (k := K) ?_ (by omega)
 have e1 : (-x).toNat = 0 := by omega
 rw [e1, Nat.pow_zero, Nat.one_mul]
 have h1 : 8 ^ x.toNat ≤ 10 ^ x.toNat := Nat.pow_le_pow_left (by omega) _
 have h2 : (2 : Nat) ^ K ≤ 2 ^ (3 * x.toNat) := Nat.pow_le_pow_right (by omega) (by omega)
 rw [Nat.pow_mul, show (2 : Nat) ^ 3 = 8 from rfl] at h2
 have h3 : 1 * 10 ^ x.toNat ≤ n * 10 ^ x.toNat := Nat.mul_le_mul_right _ (by omega)
 generalize (2 : Nat) ^ K = a at *
 generalize 8 ^ x.toNat = b at *
 omega
theorem zg1 {f m : Int} (h : isF f) (s : Bool) {n p : Nat} (hn : n ≠ 0) (hb : n < 10 ^ p) {x : Int} (hx : x + p ≤ -500) : zp f m s n x = zt f m s 1 (lo f - 2) := by
 have hw := zbq h
 have e1 : x.toNat = 0 := by omega
 unfold zp
 rw [e1, Nat.pow_zero, Nat.mul_one]
 obtain ⟨K, hK⟩ : ∃ K : Nat, K = 1080 := ⟨_, rfl⟩
 refine zmS h s hn (za0 _) (k := K) ?_ (by omega)
 obtain ⟨c, hc⟩ : ∃ c : Nat, (-x).toNat = p + c ∧ 500 ≤ c := ⟨(-x).toNat - p, by omega, by omega⟩
 rw [hc.1, Nat.pow_add]
 have h2 : (2 : Nat) ^ K ≤ 10 ^ c := by
  have h3 : (2 : Nat) ^ K ≤ 2 ^ (3 * c) := Nat.pow_le_pow_right (by omega) (by omega)
  rw [Nat.pow_mul] at h3
  exact Nat.le_trans h3 (Nat.pow_le_pow_left (by omega) _)
 exact Nat.mul_lt_mul_of_lt_of_le hb h2 (za0 c)
theorem zkm {f m : Int} (h : isF f) (s : Bool) {n p : Nat} (hn : n ≠ 0) (hb : n < 10 ^ p) {a b : Int} (ha : 400 ≤ a) (hB : b + p ≤ -500) (x : Int) : zp f m s n (if x > a then a else if x < b then b else x) = zp f m s n x := by
 by_cases c1 : x > a
 ·rw [if_pos c1, zg0 h s hn ha, zg0 h s hn (by omega)]
 ·rw [if_neg c1]
  by_cases c2 : x < b
  ·rw [if_pos c2, zg1 h s hn hb hB, zg1 h s hn hb (by omega)]
  ·rw [if_neg c2]
theorem zko {f m : Int} (h : isF f) (s : Bool) {n : Nat} (hn : n ≠ 0) (X : Nat) : zt f m s (n * 5 ^ X) X = zp f m s n X := by
 have h5 : n * 5 ^ X ≠ 0 := Nat.mul_ne_zero hn (Nat.ne_of_gt (Nat.pow_pos (by omega)))
 have h1 := zeP (m := m) h s h5 (B := 1) (by omega) 0 X
 rw [Int.zero_add] at h1
 unfold zp
 rw [← ziA h s h5, ← h1, Nat.mul_assoc, ← Nat.mul_pow]
 have e1 : (X : Int).toNat = X := Int.toNat_natCast X
 have e2 : (-(X : Int)).toNat = 0 := by omega
 rw [e1, e2]
theorem zgZ {f m : Int} (h : isF f) (s : Bool) {n : Nat} (hn : n ≠ 0) (Y : Nat) : rq f m s n (5 ^ Y) (-(Y : Int)) = zp f m s n (-(Y : Int)) := by
 have h1 := ziy (m := m) h s hn (B := 5 ^ Y) (Nat.pow_pos (by omega)) 0 Y
 rw [← Nat.mul_pow, Int.zero_sub] at h1
 unfold zp
 rw [← h1]
 have e1 : (-(Y : Int)).toNat = 0 := by omega
 have e2 : (-(-(Y : Int))).toNat = Y := by omega
 rw [e1, e2, Nat.pow_zero, Nat.mul_one]
theorem zjE {f m : Int} (h : isF f) (hm : isM m) (s : Bool) {n : Nat} (hn : n ≠ 0) {e : Int} (hb : bl n ≤ 100000) (h1 : -1000000 ≤ e) (h2 : e ≤ 1000000) : Ev (fun k => zcH.f k f m (mk (sv s n) e).1 (mk (sv s n) e).2.1 (mk (sv s n) e).2.2) ((zt f m s n e).1, (zt f m s n e).2, 0) := by
 have z0 : sv s n ≠ 0 := fun h => hn (zcJ.1 h)
 obtain ⟨j, j1, j2, j3, j4⟩ := zci z0 e
 have hm1 := zdO (z := sv s n) (e := e) (by rw [zaN]; omega) (by omega) (by rw [zaN]; omega)
 have hr := zjD h hm hm1 j4
 rw [zd1 hn] at j3
 rw [zaN] at j1
 have e1 := zf8 f m s j4 e j
 rw [← j1, ← j2] at e1
 have e2 : zt f m (mk (sv s n) e).1 (V (mk (sv s n) e).2.1) (mk (sv s n) e).2.2 = zt f m s n e := by rw [j3, ← e1]
 rwa [e2] at hr
theorem zeL (n : Nat) : bl (5 ^ n) ≤ 3 * n + 1 := by
 refine zI ?_
 have h1 : 5 ^ n ≤ 8 ^ n := Nat.pow_le_pow_left (by omega) n
 rw [Nat.pow_succ, Nat.pow_mul]
 have : (2 : Nat) ^ 3 = 8 := rfl
 rw [this]
 have := Nat.pow_pos (n := n) (show 0 < 8 by omega)
 omega
theorem zfX (n : Nat) : bl (10 ^ n) ≤ 4 * n + 1 := by
 refine zI ?_
 have h1 : 10 ^ n ≤ 16 ^ n := Nat.pow_le_pow_left (by omega) n
 rw [Nat.pow_succ, Nat.pow_mul]
 have : (2 : Nat) ^ 4 = 16 := rfl
 rw [this]
 have := Nat.pow_pos (n := n) (show 0 < 16 by omega)
 omega
theorem zl6 (s : Bool) : decide (¬ s = false) = s := by cases s <;> rfl
theorem zmC {f m : Int} (h : isF f) (s : Bool) {n N : Nat} {e e' : Int} (hn : n ≠ 0) (hN : N ≠ 0) : rq f m s (V (mk (sv s n) e).2.1) (V (mk (N : Int) e').2.1) ((mk (sv s n) e).2.2 - (mk (N : Int) e').2.2) = rq f m s n N (e - e') := by
 have z0 : sv s n ≠ 0 := fun h => hn (zcJ.1 h)
 have z1 : (N : Int) ≠ 0 := by omega
 obtain ⟨j, j1, j2, j3, j4⟩ := zci z0 e
 obtain ⟨i, i1, i2, i3, i4⟩ := zci z1 e'
 rw [zaN] at j1
 rw [Int.natAbs_natCast] at i1
 rw [i2, j2]
 have h1 := zeP (m := m) h s j4 (Nat.pos_of_ne_zero i4) (e - (e' + (i : Int))) j
 have h2 := ziy (m := m) h s hn (Nat.pos_of_ne_zero i4) (e - e') i
 rw [← j1] at h1
 rw [← i1] at h2
 rw [h2, show e - e' - (i : Int) = e - (e' + (i : Int)) by omega, h1]
 congr 1
 omega
theorem zg3 {f m : Int} (h : isF f) (hm : isM m) (s : Bool) {n : Nat} (hn : n ≠ 0) {p : Nat} (hp : p ≤ 1200) (hb : n < 10 ^ p) (x : Int) : Ev (fun k => zcb.f k f m s (D n) x) ((zp f m s n x).1, (zp f m s n x).2, 0) := by
 have hx := zkm (m := m) h s hn hb (a := 3000) (b := -3000) (by omega) (by omega) x
 have ex : mn 3000 (mx (-3000) x) = (if x > 3000 then 3000 else if x < -3000 then -3000 else x) := by unfold mn mx; split <;> split <;> split <;> (try split) <;> omega
 rw [← hx]
 unfold zcb.f
 rw [ex]
 have hr : -3000 ≤ (if x > 3000 then 3000 else if x < -3000 then -3000 else x) ∧ (if x > 3000 then 3000 else if x < -3000 then -3000 else x) ≤ 3000 := by split <;> (try split) <;> omega
 clear ex hx
 generalize (if x > 3000 then 3000 else if x < -3000 then -3000 else x) = y at *
 have hbn : bl n ≤ 4801 := by
  have h1 := zas (Nat.le_of_lt hb)
  have h2 := zfX p
  omega
 have lenn := zaK (x := n) (k := 200) (by omega)
 have hmk := zcd s (z6 n) (by omega) y
 rw [V_D, zch (by omega) (by omega)] at hmk
 refine Ev.bind (hmk) ?_; try dsimp only
 by_cases c : y ≥ 0
 ·refine zd c ?_
  obtain ⟨Y, rfl⟩ := Int.eq_ofNat_of_zero_le c
  have b5 := zeL Y
  have l5 := zaK (x := 5 ^ Y) (k := 400) (by omega)
  have hpw := zfN (b := 5) (n := Y) (by omega) (by omega)
  rw [zdx (by omega)] at hpw
  have hm5 := zcd false (z6 (5 ^ Y)) (by omega) 0
  rw [V_D, zch (by omega) (by omega)] at hm5
  refine Ev.bind (hpw) ?_; try dsimp only
  refine Ev.bind (hm5) ?_; try dsimp only
  have hmul := zmj (za := sv s n) (ea := (Y : Int)) (zb := sv false (5 ^ Y)) (eb := 0) (by rw [zaN, zaN]; omega) (by omega) (by omega) (by omega) (by omega)
  rw [ziR, Bool.bne_false, Int.add_zero] at hmul
  have h50 : n * 5 ^ Y ≠ 0 := Nat.mul_ne_zero hn (Nat.ne_of_gt (Nat.pow_pos (by omega)))
  have hro := zjE h hm s h50 (e := (Y : Int)) (by have := zfd n (5 ^ Y); omega) (by omega) (by omega)
  rw [zko h s hn Y] at hro
  refine Ev.bind (hmul) ?_; try dsimp only
  refine Ev.bind (hro) ?_; try dsimp only
  exact Ev.now _
 ·refine ze c ?_
  obtain ⟨Y, hY⟩ : ∃ Y : Nat, y = -(Y : Int) := ⟨(-y).toNat, by omega⟩
  subst hY
  have b5 := zeL Y
  have l5 := zaK (x := 5 ^ Y) (k := 400) (by omega)
  have hpw := zfN (b := 5) (n := Y) (by omega) (by omega)
  rw [zdx (by omega)] at hpw
  have hm5 := zcd false (z6 (5 ^ Y)) (by omega) 0
  rw [V_D, zch (by omega) (by omega)] at hm5
  rw [show wrap64 (-(-(Y : Int))) = (Y : Int) by rw [zeX (by omega) (by omega)]; omega]
  refine Ev.bind (hpw) ?_; try dsimp only
  refine Ev.bind (hm5) ?_; try dsimp only
  have z0 : sv s n ≠ 0 := fun h => hn (zcJ.1 h)
  have h50 : 5 ^ Y ≠ 0 := Nat.ne_of_gt (Nat.pow_pos (by omega))
  have z1 : sv false (5 ^ Y) ≠ 0 := fun h => h50 (zcJ.1 h)
  have m1 := zdO (z := sv s n) (e := -(Y : Int)) (by rw [zaN]; omega) (by omega) (by rw [zaN]; omega)
  have m2 := zdO (z := sv false (5 ^ Y)) (e := 0) (by rw [zaN]; omega) (by omega) (by rw [zaN]; omega)
  obtain ⟨j, j1, j2, j3, j4⟩ := zci z0 (-(Y : Int))
  obtain ⟨i, i1, i2, i3, i4⟩ := zci z1 0
  have v1 := zej (sv s n) (-(Y : Int))
  have v2 := zej (sv false (5 ^ Y)) 0
  rw [zaN] at v1 v2
  have hq := zjA h hm m1 m2 j4 i4 (by omega) (by omega)
  have hsg : decide (¬ (mk (sv s n) (-(Y : Int))).1 = (mk (sv false (5 ^ Y)) 0).1) = s := by
   rw [j3, i3, zd1 hn, zd1 h50]; exact zl6 s
  rw [hsg] at hq
  have hpt := zmC (m := m) h s (e := -(Y : Int)) (e' := 0) hn h50
  rw [Int.sub_zero, zgZ h s hn Y] at hpt
  rw [show sv false (5 ^ Y) = ((5 ^ Y : Nat) : Int) from rfl] at *
  rw [hpt] at hq
  refine Ev.bind (hq) ?_; try dsimp only
  exact Ev.now _
def bx (l : List UInt8) : ByteArray := ⟨l.toArray⟩
theorem zao (l : List UInt8) : tl (bx l) = l := rfl
theorem zkb (s : ByteArray) : bx (tl s) = s := za1.1 rfl
theorem zE (l : List UInt8) : (bx l).size = l.length := by rw [zdg, zao]
theorem zaP {l : List UInt8} : bx l = (⟨#[]⟩ : ByteArray) ↔ l = [] := by rw [← zi1, zao]
theorem zfw {s : ByteArray} {A B C : List UInt8} (h : tl s = A ++ (B ++ C)) : s.extract A.length (A.length + B.length) = bx B := by
 apply za1.1
 rw [zeS, zao, h, ← List.append_assoc, List.take_append_of_le_length (by simp), List.take_of_length_le (by simp), List.drop_left]
theorem zhq {s : ByteArray} {A B : List UInt8} (h : tl s = A ++ B) : s.extract A.length s.size = bx B := by
 have hz := zaX h
 have := zfw (s := s) (A := A) (B := B) (C := []) (by simpa using h)
 rw [hz]; exact this
def zbv (d : List UInt8) (x : Int) (l : List UInt8) : Option (List UInt8 × Int) :=
 if l = [] then some (d, x) else if l.head? = some 101 ∧ zaU l.tail = true then some (d, x + zc5 l.tail) else none
def zbJ (l : List UInt8) : Option (List UInt8 × Int) :=
 if l.takeWhile isD = [] then none
 else if (l.dropWhile isD).head? = some 46 then
  if (l.dropWhile isD).tail.takeWhile isD = [] then none
  else zbv (l.takeWhile isD ++ (l.dropWhile isD).tail.takeWhile isD) (-(((l.dropWhile isD).tail.takeWhile isD).length : Int)) ((l.dropWhile isD).tail.dropWhile isD)
 else zbv (l.takeWhile isD) 0 (l.dropWhile isD)
def zdB (f m : Int) (s : Bool) (n : Nat) (x : Int) : Int × Int × Int := if n = 0 then ((sgn f s : Int), 0, 0) else ((zp f m s n x).1, (zp f m s n x).2, 0)
def zgY (f m : Int) (s : Bool) : Option (List UInt8 × Int) → Int × Int × Int
 | some x => zdB f m s (zg x.1 0) x.2
 | none => (0, 0, 12)
def zes (f m : Int) (s : Bool) (l : List UInt8) : Int × Int × Int :=
 if l = [105, 110, 102] then (((mo f * 2 ^ fb f + sgn f s : Nat) : Int), 0, 0) else zgY f m s (zbJ l)
def zbC (f m : Int) (l : List UInt8) : Int × Int × Int :=
 if 1200 < l.length then (0, 0, 3) else if l = [110, 97, 110] then ((zdP f : Int), 0, 0) else zes f m (zC l) (za8 l)
theorem zcg {b : UInt8} : isD b = true ↔ 48 ≤ (b.toNat : Int) ∧ (b.toNat : Int) ≤ 57 := by unfold isD; rw [decide_eq_true_iff]; omega
section
variable {s : ByteArray} (hs : s.size ≤ 1000000)
include hs
theorem ziB (A0 : List UInt8) : ∀ (B C : List UInt8), tl s = A0 ++ (C ++ B) →
  Ev (fun k => zaB.l0 k s ((A0.length + C.length : Nat) : Int) (A0.length : Int)) (bx (C ++ B.takeWhile isD), s, ((A0.length + (C ++ B.takeWhile isD).length : Nat) : Int))
 | [], C, he => by
  have hz := zaX (A := A0 ++ C) (B := []) (by simpa using he)
  simp only [List.length_append, List.length_nil] at hz
  have hx := zfw (s := s) (A := A0) (B := C) (C := []) (by simpa using he)
  refine zf ?_; simp only [zaB.l0]
  refine ze (by omega) (zd (by omega) (zd (by omega) (zd (by omega) ?_)))
  rw [Int.toNat_natCast, Int.toNat_natCast, hx]
  exact zi (Ev.now _) (by simp)
 | b :: B, C, he => by
  have he2 : tl s = (A0 ++ C) ++ b :: B := by rw [he]; simp
  have hz := zaX he2
  simp only [List.length_append, List.length_cons] at hz
  have hb := zbT he2
  rw [List.length_append] at hb
  have hx := zfw (s := s) (A := A0) (B := C) (C := b :: B) he
  have stop : Ev (fun k => (if 0 ≤ ((A0.length : Nat) : Int) then (if ((A0.length : Nat) : Int) ≤ ((A0.length + C.length : Nat) : Int) then (if ((A0.length + C.length : Nat) : Int) ≤ (s.size : Int) then (some (s.extract ((A0.length : Nat) : Int).toNat (((A0.length + C.length : Nat) : Int)).toNat, s, ((A0.length + C.length : Nat) : Int))) else (none)) else (none)) else (none))) (bx C, s, ((A0.length + C.length : Nat) : Int)) := by
   refine zd (by omega) (zd (by omega) (zd (by omega) ?_))
   rw [Int.toNat_natCast, Int.toNat_natCast, hx]
   exact Ev.now _
  refine zf ?_; simp only [zaB.l0]
  rw [hb]
  refine zd (by omega) (zd (by omega) (zd (by omega) ?_))
  by_cases c1 : 48 ≤ (b.toNat : Int)
  ·refine zd c1 (zd (by omega) (zd (by omega) ?_))
   by_cases c2 : (b.toNat : Int) ≤ 57
   ·refine zd c2 ?_
    have e1 : wrap64 (((A0.length + C.length : Nat) : Int) + 1) = ((A0.length + (C ++ [b]).length : Nat) : Int) := by
     rw [List.length_append, List.length_singleton, w64 (by omega) (by omega)]; omega
    rw [e1]
    clear e1
    have := ziB A0 B (C ++ [b]) (by rw [he]; simp)
    rw [List.append_assoc, List.singleton_append] at this
    rw [List.takeWhile_cons, zcg.2 ⟨c1, c2⟩]
    simpa using this
   ·refine ze c2 ?_
    have : isD b = false := by rw [Bool.eq_false_iff]; intro h; exact c2 (zcg.1 h).2
    rw [List.takeWhile_cons, this]
    simpa using stop
  ·refine ze c1 ?_
   have : isD b = false := by rw [Bool.eq_false_iff]; intro h; exact c1 (zcg.1 h).1
   rw [List.takeWhile_cons, this]
   simpa using stop
theorem zga {A B : List UInt8} (he : tl s = A ++ B) : Ev (fun k => zaB.f k s (A.length : Int)) (bx (B.takeWhile isD), s, (((A ++ B.takeWhile isD).length : Nat) : Int)) := by
 unfold zaB.f
 have := ziB hs A B [] (by simpa using he)
 simpa using this
theorem zd2 {A r : List UInt8} {x : UInt8} (he : tl s = A ++ x :: r) {c : ByteArray} (hc : x ∈ tl c) : Ev (fun k => zT.f k s (A.length : Int) c) ((x.toNat : Int), true, s, (((A ++ [x]).length : Nat) : Int)) := by
 have hz := zaX he
 simp only [List.length_cons] at hz
 have hb := zbT he
 have hi : zcm.f c (x.toNat : Int) = some (Lib.indexByte (tl c) x) := by
  unfold zcm.f zbp.f
  have : ((x.toNat : Int)).toNat.toUInt8 = x := by rw [Int.toNat_natCast]; exact UInt8.ofNat_toNat
  rw [this]; rfl
 have h0 : decide (Lib.indexByte (tl c) x ≥ 0) = true := by
  rcases zhy (tl c) x with ⟨_, h2⟩ | ⟨P, Q, _, _, h3⟩
  ·exact absurd hc h2
  ·rw [h3]; exact decide_eq_true (by omega)
 have e1 : wrap64 ((A.length : Int) + 1) = ((A.length + 1 : Nat) : Int) := by rw [w64 (by omega) (by omega)]; omega
 have e2 : wrap64 (((A.length + 1 : Nat) : Int) - 1) = (A.length : Int) := by clear e1; rw [w64 (by omega) (by omega)]; omega
 unfold zT.f
 rw [hb]
 refine zd (by omega) (zd (by omega) (zd (by omega) (zk hi ?_)))
 rw [h0]
 refine zf ?_; simp only [zT.j0]
 rw [e1, e2, hb]
 clear e1 e2
 refine zd trivial (zd (by omega) (zd (by omega) (zi (Ev.now _) ?_)))
 rw [List.length_append]; rfl
theorem zd3 {A B : List UInt8} (he : tl s = A ++ B) {c : ByteArray} (hc : ∀ x r, B = x :: r → x ∉ tl c) : Ev (fun k => zT.f k s (A.length : Int) c) (0, false, s, (A.length : Int)) := by
 have hs' := hs
 have hz := zaX he
 have no : Ev (fun k => zT.j0 k s (A.length : Int) false) (0, false, s, (A.length : Int)) := by
  refine zf ?_; simp only [zT.j0]
  exact ze (by simp) (Ev.now _)
 unfold zT.f
 cases B with
 | nil =>
  simp only [List.length_nil] at hz
  exact ze (by omega) no
 | cons x r =>
  simp only [List.length_cons] at hz
  have hb := zbT he
  have hi : zcm.f c (x.toNat : Int) = some (Lib.indexByte (tl c) x) := by
   unfold zcm.f zbp.f
   have : ((x.toNat : Int)).toNat.toUInt8 = x := by rw [Int.toNat_natCast]; exact UInt8.ofNat_toNat
   rw [this]; rfl
  have h0 : decide (Lib.indexByte (tl c) x ≥ 0) = false := by
   rcases zhy (tl c) x with ⟨h2, _⟩ | ⟨P, Q, h3, _, _⟩
   ·rw [h2]; rfl
   ·exact absurd (by rw [h3]; simp) (hc x r rfl)
  rw [hb]
  refine zd (by omega) (zd (by omega) (zd (by omega) (zk hi ?_)))
  rw [h0]
  exact no
end
theorem zgX : ∀ (l : List UInt8) (a : Nat), l.all isD = true → Lib.decFrom a l = some (zg l a)
 | [], a, _ => rfl
 | b :: l, a, h => by
  simp only [List.all_cons, Bool.and_eq_true] at h
  have hb := zcg.1 h.1
  unfold Lib.decFrom
  have hd : Lib.digitVal b = some (b.toNat - 48) := by unfold Lib.digitVal; rw [if_pos (by omega)]
  rw [hd]
  show Lib.decFrom (a * 10 + (b.toNat - 48)) l = _
  rw [zgX l _ h.2]
  show _ = some (zg l (10 * a + (b.toNat - 48)))
  rw [Nat.mul_comm]
theorem zjX {l : List UInt8} (h : l.all isD = true) (h0 : l ≠ []) : Lib.atoi l = some ((zg l 0 : Nat) : Int) := by
 cases l with
 | nil => exact absurd rfl h0
 | cons b r =>
  have hb : isD b = true := by simp only [List.all_cons, Bool.and_eq_true] at h; exact h.1
  have hb := zcg.1 hb
  have n1 : (b == 45) = false := by rw [beq_eq_false_iff_ne]; intro h; rw [h] at hb; exact absurd hb.1 (by decide)
  have n2 : (b == 43) = false := by rw [beq_eq_false_iff_ne]; intro h; rw [h] at hb; exact absurd hb.1 (by decide)
  unfold Lib.atoi
  simp only [n1, n2, Bool.false_eq_true, if_false]
  have : Lib.decNat (b :: r) = some (zg (b :: r) 0) := by
   unfold Lib.decNat
   simp only [List.isEmpty_cons, Bool.false_eq_true, if_false]
   exact zgX _ 0 h
  rw [this]; rfl
theorem zk2 (E : List UInt8) : (∃ r, E = 45 :: r ∧ zw E = r ∧ zcf E = true) ∨ (∃ r, E = 43 :: r ∧ zw E = r ∧ zcf E = false) ∨ ((∀ x r, E = x :: r → x ≠ 45 ∧ x ≠ 43) ∧ zw E = E ∧ zcf E = false) := by
 cases E with
 | nil => exact .inr (.inr ⟨by simp, rfl, rfl⟩)
 | cons x r =>
  by_cases c1 : x = 45
  ·subst c1; exact .inl ⟨r, rfl, rfl, rfl⟩
  by_cases c2 : x = 43
  ·subst c2; exact .inr (.inl ⟨r, rfl, rfl, rfl⟩)
  obtain ⟨h1, h2⟩ := zk1 (l := x :: r) (by simpa using c1) (by simpa using c2)
  refine .inr (.inr ⟨?_, h2, h1⟩)
  intro y t h
  rw [← (List.cons.inj h).1]
  exact ⟨c1, c2⟩
theorem znm {l : List UInt8} {p : UInt8 → Bool} (h : l.dropWhile p = []) : l.all p = true ∧ l.takeWhile p = l := by
 have h1 := zb3 p l
 rw [h, List.append_nil] at h1
 have h2 := zdi p l
 rw [h1] at h2
 exact ⟨h2, h1⟩
theorem zhe {l : List UInt8} {p : UInt8 → Bool} (h : l.all p = true) : l.dropWhile p = [] ∧ l.takeWhile p = l := by
 induction l with
 | nil => exact ⟨rfl, rfl⟩
 | cons a l ih =>
  simp only [List.all_cons, Bool.and_eq_true] at h
  obtain ⟨h1, h2⟩ := ih h.2
  simp [h.1, h1, h2]
def ze3 (s : ByteArray) (o : Option (List UInt8 × Int)) (r : ByteArray × Int × Bool × ByteArray × Int) : Prop :=
 match o with
 | some (d, x) => r.1 = bx d ∧ r.2.1 = x ∧ r.2.2.1 = true
 | none => r.2.2.1 = false
theorem zg4 {s : ByteArray} (hs : s.size ≤ 1000000) {A B d : List UInt8} (he : tl s = A ++ B) {x : Int} (hx : -1000000 ≤ x ∧ x ≤ 1000000) :
  ∃ r, Ev (fun k => zH.j2 k s (A.length : Int) (bx d) x) r ∧ ze3 s (zbv d x B) r := by
 have hz := zaX he
 have last : ∀ (a : Int) (y : Int), Ev (fun k => zH.j6 k s a (bx d) y) (bx d, y, decide (a = (s.size : Int)), s, a) := by
  intro a y
  refine zf ?_; simp only [zH.j6]
  exact Ev.now _
 by_cases c0 : B.head? = some 101
 ·obtain ⟨E, hB⟩ : ∃ E, B = 101 :: E := by
   cases B with
   | nil => simp at c0
   | cons y E => simp at c0; exact ⟨E, by rw [c0]⟩
  subst hB
  have he2 : tl s = (A ++ [101]) ++ E := by rw [he]; simp
  have ht := zd2 hs he (c := (⟨#[101]⟩ : ByteArray)) (by simp [tl])
  have hT : zbv d x (101 :: E) = if zaU E = true then some (d, x + zc5 E) else none := by
   unfold zbv
   rw [if_neg (by simp)]
   simp
  rw [hT]
  obtain ⟨A2, b, ok, hA2, hsg, hbn⟩ : ∃ (A2 : List UInt8) (b : Int) (ok : Bool), tl s = A2 ++ zw E ∧ Ev (fun k => zT.f k s (((A ++ [101]).length : Nat) : Int) (⟨#[43, 45]⟩ : ByteArray)) (b, ok, s, (A2.length : Int)) ∧ (b = 45 ↔ zcf E = true) := by
   rcases zk2 E with ⟨r, h1, h2, h3⟩ | ⟨r, h1, h2, h3⟩ | ⟨h1, h2, h3⟩
   ·subst h1
    refine ⟨A ++ [101] ++ [45], 45, true, by rw [he2, h2]; simp, ?_, by simp [h3]⟩
    exact zd2 hs he2 (c := (⟨#[43, 45]⟩ : ByteArray)) (by simp [tl])
   ·subst h1
    refine ⟨A ++ [101] ++ [43], 43, true, by rw [he2, h2]; simp, ?_, by simp [h3]⟩
    exact zd2 hs he2 (c := (⟨#[43, 45]⟩ : ByteArray)) (by simp [tl])
   ·refine ⟨A ++ [101], 0, false, by rw [he2, h2], ?_, by simp [h3]⟩
    refine zd3 hs he2 (c := (⟨#[43, 45]⟩ : ByteArray)) ?_
    intro y t h
    have := h1 y t h
    simp [tl, this.1, this.2]
  have hd := zga hs hA2
  have htw := zb3 isD (zw E)
  have hz2 := zaX (s := s) (A := A2 ++ (zw E).takeWhile isD) (B := (zw E).dropWhile isD) (by rw [hA2, List.append_assoc, htw])
  by_cases k1 : (zw E).takeWhile isD = []
  ·have hno : zaU E = false := by
    unfold zaU
    by_cases c : zw E = []
    ·simp [c]
    ·cases hE : zw E with
     | nil => exact absurd hE c
     | cons y t =>
      rw [hE] at k1
      have : isD y = false := by
       by_cases hy : isD y = true
       ·rw [List.takeWhile_cons, hy] at k1; simp at k1
       ·simpa using hy
      simp [this]
   rw [if_neg (by rw [hno]; simp)]
   refine ⟨((⟨#[]⟩ : ByteArray), 0, false, s, (((A2 ++ (zw E).takeWhile isD).length : Nat) : Int)), ?_, rfl⟩
   refine zf ?_; simp only [zH.j2]
   refine Ev.bind (ht) ?_; try dsimp only
   refine zd rfl ?_
   refine Ev.bind (hsg) ?_; try dsimp only
   refine Ev.bind (hd) ?_; try dsimp only
   exact zd (zaP.2 k1) (Ev.now _)
  by_cases k2 : 6 < ((zw E).takeWhile isD).length
  ·have hno : zaU E = false := by
    unfold zaU
    have h1 := congrArg List.length htw
    rw [List.length_append] at h1
    have : decide ((zw E).length ≤ 6) = false := decide_eq_false (by omega)
    rw [this]; simp
   rw [if_neg (by rw [hno]; simp)]
   refine ⟨((⟨#[]⟩ : ByteArray), 0, false, s, (((A2 ++ (zw E).takeWhile isD).length : Nat) : Int)), ?_, rfl⟩
   refine zf ?_; simp only [zH.j2]
   refine Ev.bind (ht) ?_; try dsimp only
   refine zd rfl ?_
   refine Ev.bind (hsg) ?_; try dsimp only
   refine Ev.bind (hd) ?_; try dsimp only
   refine ze (fun h => k1 (zaP.1 h)) (zd ?_ (Ev.now _))
   rw [zE]; omega
  ·have hat := zjX (zdi isD (zw E)) k1
   have hv := zhc (zdi isD (zw E)) (by omega)
   have hsc : zaY.f (bx ((zw E).takeWhile isD)) = some ((zg ((zw E).takeWhile isD) 0 : Nat) : Int) := by
    unfold zaY.f
    rw [if_pos (by rw [zE]; omega)]
    exact hat
   have main : ∃ y : Int, Ev (fun k => zH.j2 k s (A.length : Int) (bx d) x) (bx d, y, decide ((((A2 ++ (zw E).takeWhile isD).length : Nat) : Int) = (s.size : Int)), s, (((A2 ++ (zw E).takeWhile isD).length : Nat) : Int)) ∧ (zaU E = true → y = x + zc5 E) := by
    refine ⟨x + (if zcf E = true then -((zg ((zw E).takeWhile isD) 0 : Nat) : Int) else ((zg ((zw E).takeWhile isD) 0 : Nat) : Int)), ?_, ?_⟩
    ·refine zf ?_; simp only [zH.j2]
     refine Ev.bind (ht) ?_; try dsimp only
     refine zd rfl ?_
     refine Ev.bind (hsg) ?_; try dsimp only
     refine Ev.bind (hd) ?_; try dsimp only
     refine ze (fun h => k1 (zaP.1 h)) (ze (by rw [zE]; omega) ?_)
     refine zk (hsc) ?_; try dsimp only
     by_cases c : b = 45
     ·rw [if_pos (hbn.1 c)]
      refine zd c ?_
      have w : wrap64 (x + wrap64 (-((zg ((zw E).takeWhile isD) 0 : Nat) : Int))) = x + -((zg ((zw E).takeWhile isD) 0 : Nat) : Int) := by
       rw [zeX (by omega) (by omega), zbP (by omega) (by omega) (by omega) (by omega)]
      rw [w]
      exact last _ _
     ·rw [if_neg (fun h => c (hbn.2 h))]
      refine ze c ?_
      rw [zbP (by omega) (by omega) (by omega) (by omega)]
      exact last _ _
    ·intro hok
     unfold zaU at hok
     simp only [Bool.and_eq_true, decide_eq_true_eq] at hok
     rw [(zhe hok.2).2]
     rfl
   obtain ⟨y, hy, hyv⟩ := main
   refine ⟨_, hy, ?_⟩
   by_cases hok : zaU E = true
   ·rw [if_pos hok]
    refine ⟨rfl, hyv hok, ?_⟩
    unfold zaU at hok
    simp only [Bool.and_eq_true, decide_eq_true_eq] at hok
    rw [(zhe hok.2).1, List.length_nil] at hz2
    exact decide_eq_true (by omega)
   ·rw [if_neg hok]
    refine decide_eq_false ?_
    intro h
    have h3 : (zw E).dropWhile isD = [] := List.eq_nil_of_length_eq_zero (by omega)
    obtain ⟨h4, h5⟩ := znm h3
    refine hok ?_
    unfold zaU
    rw [h5] at k1 k2
    rw [h4, decide_eq_true (show zw E ≠ [] from k1), decide_eq_true (show (zw E).length ≤ 6 by omega)]; rfl
 ·have ht := zd3 hs he (c := (⟨#[101]⟩ : ByteArray)) (by intro y t h; rw [h] at c0; simpa [tl] using c0)
  refine ⟨(bx d, x, decide ((A.length : Int) = (s.size : Int)), s, (A.length : Int)), ?_, ?_⟩
  ·refine zf ?_; simp only [zH.j2]
   refine Ev.bind (ht) ?_; try dsimp only
   exact ze (by simp) (last _ _)
  ·unfold zbv
   by_cases c1 : B = []
   ·rw [if_pos c1]
    subst c1
    exact ⟨rfl, rfl, decide_eq_true (by rw [List.length_nil] at hz; omega)⟩
   ·rw [if_neg c1, if_neg (fun h => c0 h.1)]
    have : 0 < B.length := by cases B with | nil => exact absurd rfl c1 | cons _ _ => simp
    exact decide_eq_false (by omega)
theorem zks {s : ByteArray} (hs : s.size ≤ 1000000) {A B : List UInt8} (he : tl s = A ++ B) :
  ∃ r, Ev (fun k => zH.f k s (A.length : Int)) r ∧ ze3 s (zbJ B) r := by
 have hz := zaX he
 have hd := zga hs he
 have htw := zb3 isD B
 unfold zbJ
 by_cases c0 : B.takeWhile isD = []
 ·rw [if_pos c0]
  refine ⟨((⟨#[]⟩ : ByteArray), 0, false, s, (((A ++ B.takeWhile isD).length : Nat) : Int)), ?_, rfl⟩
  unfold zH.f
  refine Ev.bind (hd) ?_; try dsimp only
  exact zd (zaP.2 c0) (Ev.now _)
 rw [if_neg c0]
 have he2 : tl s = (A ++ B.takeWhile isD) ++ B.dropWhile isD := by rw [he, List.append_assoc, htw]
 have hz2 := zaX he2
 by_cases c1 : (B.dropWhile isD).head? = some 46
 ·rw [if_pos c1]
  obtain ⟨r, hr⟩ : ∃ r, B.dropWhile isD = 46 :: r := by
   cases hB : B.dropWhile isD with
   | nil => rw [hB] at c1; simp at c1
   | cons y E => rw [hB] at c1; simp at c1; exact ⟨E, by rw [c1]⟩
  rw [hr] at he2 ⊢
  have ht := zd2 hs he2 (c := (⟨#[46]⟩ : ByteArray)) (by simp [tl])
  have he3 : tl s = (A ++ B.takeWhile isD ++ [46]) ++ r := by rw [he2]; simp
  have hz3 := zaX he3
  have hd2 := zga hs he3
  have htw2 := zb3 isD r
  have hl2 := congrArg List.length htw2
  rw [List.length_append] at hl2
  simp only [List.length_append, List.length_singleton] at hz3
  show ∃ r_1, _ ∧ ze3 s (if r.takeWhile isD = [] then none else zbv (B.takeWhile isD ++ r.takeWhile isD) (-((r.takeWhile isD).length : Int)) (r.dropWhile isD)) r_1
  by_cases c2 : r.takeWhile isD = []
  ·rw [if_pos c2]
   refine ⟨((⟨#[]⟩ : ByteArray), 0, false, s, (((A ++ B.takeWhile isD ++ [46] ++ r.takeWhile isD).length : Nat) : Int)), ?_, rfl⟩
   unfold zH.f
   refine Ev.bind (hd) ?_; try dsimp only
   refine ze (fun h => c0 (zaP.1 h)) ?_
   refine Ev.bind (ht) ?_; try dsimp only
   refine zd rfl ?_
   refine Ev.bind (hd2) ?_; try dsimp only
   exact zd (zaP.2 c2) (Ev.now _)
  rw [if_neg c2]
  have he4 : tl s = (A ++ B.takeWhile isD ++ [46] ++ r.takeWhile isD) ++ r.dropWhile isD := by rw [he3]; simp [htw2]
  obtain ⟨q, hq, hok⟩ := zg4 hs he4 (d := B.takeWhile isD ++ r.takeWhile isD) (x := -((r.takeWhile isD).length : Int)) (by omega)
  refine ⟨q, ?_, hok⟩
  unfold zH.f
  refine Ev.bind (hd) ?_; try dsimp only
  refine ze (fun h => c0 (zaP.1 h)) ?_
  refine Ev.bind (ht) ?_; try dsimp only
  refine zd rfl ?_
  refine Ev.bind (hd2) ?_; try dsimp only
  refine ze (fun h => c2 (zaP.1 h)) (zd (by rw [zE, zE]; omega) ?_)
  have e1 : bx (B.takeWhile isD) ++ bx (r.takeWhile isD) = bx (B.takeWhile isD ++ r.takeWhile isD) := za1.1 (by rw [ziZ, zao, zao, zao])
  rw [e1, zE, zeX (by omega) (by omega)]
  exact hq
 ·rw [if_neg c1]
  have ht := zd3 hs he2 (c := (⟨#[46]⟩ : ByteArray)) (by intro y t h; rw [h] at c1; simpa [tl] using c1)
  obtain ⟨q, hq, hok⟩ := zg4 hs he2 (d := B.takeWhile isD) (x := 0) (by omega)
  refine ⟨q, ?_, hok⟩
  unfold zH.f
  refine Ev.bind (hd) ?_; try dsimp only
  refine ze (fun h => c0 (zaP.1 h)) ?_
  refine Ev.bind (ht) ?_; try dsimp only
  exact ze (by simp) hq
theorem zcx (l : List UInt8) : qcB (bx l) = l.map fun b => (b.toNat : Int) := rfl
theorem zfY : ∀ (l : List UInt8) (a : Nat), pvA a (l.map fun b => (b.toNat : Int)) = zg l a
 | [], a => rfl
 | b :: l, a => by
  have e : ((b.toNat : Int) - 48).toNat = b.toNat - 48 := by omega
  rw [List.map_cons, pvA, e, zfY l]
  rfl
theorem zdU (l : List UInt8) : pv (qcB (bx l)) = zg l 0 := zfY l 0
theorem zfm {l : List UInt8} (h : l.all isD = true) : zaT (qcB (bx l)) := by
 intro x hx
 rw [zcx, List.mem_map] at hx
 obtain ⟨b, hb, rfl⟩ := hx
 exact zcg.1 (List.all_eq_true.1 h b hb)
theorem zcc {l : List UInt8} (h : l.all isD = true) : zg l 0 < 10 ^ l.length := by
 have := zil (zfm h)
 rw [zdU, zcx, List.length_map] at this
 exact this
def tz0 (l : List UInt8) : List UInt8 := l.dropWhile (· == 48)
theorem zdF (l : List UInt8) : zg (tz0 l) 0 = zg l 0 := by
 induction l with
 | nil => rfl
 | cons b l ih =>
  unfold tz0 at *
  by_cases c : b = 48
  ·subst c; rw [List.dropWhile_cons]; simp only [beq_self_eq_true, if_true]; rw [ih]; rfl
  ·rw [List.dropWhile_cons, if_neg (by simpa using c)]
theorem zeV {l : List UInt8} (h : l.all isD = true) : (tz0 l).all isD = true := by
 induction l with
 | nil => rfl
 | cons b l ih =>
  have h' := h
  simp only [List.all_cons, Bool.and_eq_true] at h
  unfold tz0 at *
  by_cases c : b = 48
  ·subst c; rw [List.dropWhile_cons]; simpa using ih h.2
  ·rw [List.dropWhile_cons, if_neg (by simpa using c)]; exact h'
theorem zgn (l : List UInt8) : (tz0 l).length ≤ l.length := by
 have h := congrArg List.length (zb3 (· == 48) l)
 rw [List.length_append] at h
 unfold tz0; omega
theorem zeW {l : List UInt8} {b : UInt8} {r : List UInt8} (h : tz0 l = b :: r) : b ≠ 48 := by
 have := zhd _ l h
 simpa using this
theorem zfD {l : List UInt8} {b : UInt8} {r : List UInt8} (h : l.all isD = true) (e : tz0 l = b :: r) : isT (qcB (bx (b :: r))) = true := by
 have h1 := zeV h
 rw [e] at h1
 have h2 := zeW e
 have hd : decide (zaT (qcB (bx (b :: r)))) = true := decide_eq_true (zfm h1)
 unfold isT
 rw [hd, zcx]
 have h3 : (b.toNat : Int) ≠ 48 := fun c => h2 (UInt8.toNat_inj.1 (by show _ = 48; omega))
 cases r with
 | nil => rfl
 | cons c t => simp [h3]
theorem zd6 {l : List UInt8} (h : l.all isD = true) : tz0 l = [] ↔ zg l 0 = 0 := by
 constructor
 ·intro e; rw [← zdF, e]; rfl
 ·intro e
  cases ht : tz0 l with
  | nil => rfl
  | cons b r =>
   have h1 := zeV h
   have h2 := zeW ht
   have h3 := zdF l
   rw [ht] at h1 h3
   have h4 := zf0 (l := qcB (bx (b :: r))) (zfm h1) (by
    rw [zcx]; show ((b.toNat : Int)) ≠ 48
    exact fun c => h2 (UInt8.toNat_inj.1 (by show _ = 48; omega))) (by rw [zcx]; simp)
   rw [zdU] at h4
   have := za0 ((qcB (bx (b :: r))).length - 1)
   omega
theorem zmm {l : List UInt8} (h : l.all isD = true) (hl : l.length ≤ 1200) (h0 : zg l 0 ≠ 0) : zb0 (qcB (bx (tz0 l))) = (D (zg l 0), 0) := by
 cases ht : tz0 l with
 | nil => exact absurd ((zd6 h).1 ht) h0
 | cons b r =>
  have h3 := zdF l
  rw [ht] at h3
  unfold zb0
  rw [if_pos (zfD h ht), zdU, h3, zdx]
  have h5 := zas (Nat.le_of_lt (zcc h))
  have h6 := zfX l.length
  omega
theorem zi6 : ∀ (l : List UInt8), l.length ≤ 1000000 → Ev (fun k => zbg.l0 k (bx l) 48) (bx (tz0 l))
 | [], _ => by
  refine zf ?_; simp only [zbg.l0]
  exact ze (by decide) (Ev.now _)
 | b :: l, hl => by
  have hz := zE (b :: l)
  simp only [List.length_cons] at hz hl
  have hb := zbT (s := bx (b :: l)) (A := []) (B := l) (b := b) (by rw [zao]; rfl)
  rw [List.length_nil, show ((0 : Nat) : Int) = 0 from rfl] at hb
  refine zf ?_; simp only [zbg.l0]
  rw [hb]
  refine zd (by omega) (zd (by omega) ?_)
  by_cases c : b = 48
  ·subst c
   refine zd rfl (zd (by decide) (zd (by omega) ?_))
   have hx := zhq (s := bx (48 :: l)) (A := [48]) (B := l) (by rw [zao]; rfl)
   have e1 : (1 : Int).toNat = ([48] : List UInt8).length := rfl
   rw [e1, hx]
   have ih := zi6 l (by omega)
   have e2 : tz0 (48 :: l) = tz0 l := by unfold tz0; rw [List.dropWhile_cons]; simp
   rw [e2]
   exact ih
  ·refine ze (fun h => c (UInt8.toNat_inj.1 (by show _ = 48; omega))) ?_
   have e2 : tz0 (b :: l) = b :: l := by unfold tz0; rw [List.dropWhile_cons, if_neg (by simpa using c)]
   rw [e2]
   exact Ev.now _
theorem znl {l : List UInt8} (hl : l.length ≤ 1000000) : Ev (fun k => zbu.f k (bx l) (⟨#[48]⟩ : ByteArray)) (bx (tz0 l)) := by
 unfold zbu.f
 by_cases c : l = []
 ·subst c
  exact zd rfl (Ev.now _)
 ·refine ze (fun h => c (zaP.1 h)) (ze (by decide) (zd (by decide) (zd (by decide) ?_)))
  have e : decide (bt (⟨#[48]⟩ : ByteArray) 0 < 128) = true := by decide
  have e2 : bt (⟨#[48]⟩ : ByteArray) 0 = 48 := by decide
  rw [e]
  refine zf ?_; simp only [zbu.j2]
  rw [e2]
  refine zd trivial (zd (by decide) ?_)
  unfold zbg.f
  exact Ev.bind (zi6 l hl) (Ev.now _)
theorem zk0 {E : List UInt8} (h : zaU E = true) : -1000000 < zc5 E ∧ zc5 E < 1000000 := by
 unfold zaU at h
 simp only [Bool.and_eq_true, decide_eq_true_eq] at h
 have := zhc h.2 h.1.2
 unfold zc5
 split <;> omega
theorem ziV {d : List UInt8} {x : Int} {l : List UInt8} {y : List UInt8 × Int} (h : zbv d x l = some y) : y.1 = d ∧ x - 1000000 < y.2 ∧ y.2 < x + 1000000 := by
 unfold zbv at h
 split at h
 ·cases h; exact ⟨rfl, by omega, by omega⟩
 ·split at h
  ·rename_i h2
   cases h
   have := zk0 h2.2
   exact ⟨rfl, by omega, by omega⟩
  ·cases h
theorem zir {l : List UInt8} {y : List UInt8 × Int} (h : zbJ l = some y) : y.1.all isD = true ∧ y.1 ≠ [] ∧ y.1.length ≤ l.length ∧ -(l.length : Int) - 1000000 < y.2 ∧ y.2 < 1000000 := by
 have h1 := congrArg List.length (zb3 isD l)
 rw [List.length_append] at h1
 unfold zbJ at h
 split at h
 ·cases h
 rename_i c0
 split at h
 ·rename_i c1
  obtain ⟨r, hr⟩ : ∃ r, l.dropWhile isD = 46 :: r := by
   cases hB : l.dropWhile isD with
   | nil => rw [hB] at c1; simp at c1
   | cons y E => rw [hB] at c1; simp at c1; exact ⟨E, by rw [c1]⟩
  rw [hr] at h h1
  rw [List.tail_cons] at h
  simp only [List.length_cons] at h1
  have h2 := congrArg List.length (zb3 isD r)
  rw [List.length_append] at h2
  split at h
  ·cases h
  obtain ⟨h3, h4, h5⟩ := ziV h
  rw [h3]
  refine ⟨by rw [List.all_append, zdi, zdi]; rfl, fun h => c0 (List.append_eq_nil_iff.1 h).1, ?_, by omega, by omega⟩
  rw [List.length_append]; omega
 ·obtain ⟨h3, h4, h5⟩ := ziV h
  rw [h3]
  exact ⟨zdi _ _, c0, by omega, by omega, by omega⟩
theorem zjz {f m : Int} (h : isF f) (hm : isM m) (s : ByteArray) : Ev (fun k => zbl.f k f m s) (zbC f m (tl s)) := by
 unfold zbl.f zbC
 refine Ev.bind (zgx h hm false) (ze (by simp) ?_)
 by_cases c0 : 1200 < (tl s).length
 ·rw [if_pos c0]
  exact zd (by rw [zdg]; omega) (Ev.now _)
 rw [if_neg c0]
 refine ze (by rw [zdg]; omega) ?_
 by_cases c1 : s = (⟨#[110, 97, 110]⟩ : ByteArray)
 ·rw [if_pos (by rw [c1]; rfl)]
  exact zd c1 (Ev.bind (znU h) (Ev.now _))
 rw [if_neg (fun h => c1 (za1.1 (by rw [h]; rfl)))]
 refine ze c1 ?_
 have hs : s.size ≤ 1200 := by rw [zdg]; omega
 obtain ⟨A, b, hA, ht⟩ : ∃ (A : List UInt8) (b : Int), tl s = A ++ za8 (tl s) ∧ Ev (fun k => zT.f k s 0 (⟨#[45]⟩ : ByteArray)) (b, zC (tl s), s, (A.length : Int)) := by
  cases hl : tl s with
  | nil =>
   refine ⟨[], 0, rfl, ?_⟩
   exact zd3 (A := []) (B := []) (by omega) (by rw [hl]; rfl) (by simp)
  | cons x r =>
   by_cases c2 : x = 45
   ·subst c2
    refine ⟨[45], 45, rfl, ?_⟩
    exact zd2 (A := []) (r := r) (x := 45) (by omega) (by rw [hl]; rfl) (by simp [tl])
   ·have n1 : zC (x :: r) = false := by
     unfold zC; split
     ·rename_i h; exact absurd (List.cons.inj h).1 c2
     ·rfl
    have n2 : za8 (x :: r) = x :: r := by
     unfold za8; split
     ·rename_i h; exact absurd (List.cons.inj h).1 c2
     ·rfl
    rw [n1, n2]
    refine ⟨[], 0, rfl, ?_⟩
    exact zd3 (A := []) (B := x :: r) (by omega) (by rw [hl]; rfl) (by intro y t h; rw [← (List.cons.inj h).1]; simpa [tl] using c2)
 refine Ev.bind (ht) ?_; try dsimp only
 have hz := zaX hA
 refine zd (by omega) (zd (by omega) ?_)
 rw [Int.toNat_natCast, zhq hA]
 unfold zes
 by_cases c2 : za8 (tl s) = [105, 110, 102]
 ·rw [if_pos c2]
  exact zd (by rw [c2]; rfl) (Ev.bind (zjm h _) (Ev.now _))
 rw [if_neg c2]
 refine ze (fun h => c2 (za1.2 h)) ?_
 obtain ⟨q, hq, hok⟩ := zks (by omega) hA
 refine Ev.bind (hq) ?_; try dsimp only
 cases ho : zbJ (za8 (tl s)) with
 | none =>
  rw [ho] at hok
  have hok : q.2.2.1 = false := hok
  rw [hok]
  exact zd rfl (Ev.now _)
 | some y =>
  rw [ho] at hok
  obtain ⟨k1, k2, k3⟩ : q.1 = bx y.1 ∧ q.2.1 = y.2 ∧ q.2.2.1 = true := hok
  obtain ⟨b1, b2, b3, b4, b5⟩ := zir ho
  rw [k1, k2, k3]
  refine ze (by simp) ?_
  have hl : y.1.length ≤ 1200 := by omega
  refine Ev.bind (znl (l := y.1) (by omega)) ?_; try dsimp only
  show Ev _ (zdB f m (zC (tl s)) (zg y.1 0) y.2)
  unfold zdB
  by_cases c3 : zg y.1 0 = 0
  ·rw [if_pos c3]
   refine zd (zaP.2 ((zd6 b1).2 c3)) ?_
   refine Ev.bind (zjn h _) ?_; try dsimp only
   exact Ev.now _
  ·rw [if_neg c3]
   refine ze (fun h => c3 ((zd6 b1).1 (zaP.1 h))) ?_
   have hp := zhY (s := bx (tz0 y.1)) (by rw [zE]; have := zgn y.1; omega)
   rw [zmm b1 hl c3] at hp
   refine Ev.bind (hp) ?_; try dsimp only
   have hr := zg3 h hm (zC (tl s)) c3 (p := y.1.length) hl (zcc b1) y.2
   refine Ev.bind (hr) ?_; try dsimp only
   exact Ev.now _
theorem zml {l : List UInt8} (h : isT (qcB (bx l)) = true) (hd : l.all isD = true) (hl : l.length ≤ 20000) : zb0 (qcB (bx l)) = (D (zg l 0), 0) := by
 unfold zb0
 rw [if_pos h, zdU, zdx]
 have h5 := zas (Nat.le_of_lt (zcc hd))
 have h6 := zfX l.length
 omega
section
variable {s : ByteArray} (hs : s.size ≤ 1200) (a : Bool) (b : ByteArray) (c : List Int) (d : Int)
include hs
end
open Go.RowKit Go.Proofs Go.Proofs.YtnkpmjhlkmlmbaaGreatDoor.Eng
set_option maxRecDepth 100000
theorem zkz (k : Nat) : zr.f (k + 140) 2 4591870180066957722 = some ((⟨#[48, 46, 49]⟩ : ByteArray), 0) := by kernel_rfl
theorem zkA (k : Nat) : zbl.f (k + 60) 1 1 (⟨#[49, 54, 55, 55, 55, 50, 49, 55]⟩ : ByteArray) = some (1266679808, 16, 0) := by kernel_rfl
theorem zkB : Ev (fun k => z7.f k) true := by
 unfold z7.f
 refine Ev.bind (zhj zkz) (Ev.bind (zhj zkA) ?_)
 exact zd rfl (zd rfl (zd rfl (zd rfl (zi (Ev.now _) (by simp)))))
theorem zdD : Ev (fun k => (z7.f k).bind fun t => some t) true := Ev.bind zkB (Ev.now _)
theorem zkC {f m : Int} (h : fmE f m ≠ 0) (l : List Int) : Ev (fun k => zaQ.f k f m l) (fmE f m) := by
 unfold zaQ.f
 unfold fmE at *
 refine zk (ziq f) ?_
 by_cases c : isF f
 ·rw [if_pos c] at h ⊢
  have hm : ¬ isM m := fun k => h (by rw [if_pos k])
  rw [if_neg hm, decide_eq_true c]
  refine ze (by simp) (zk (zip m) ?_)
  rw [decide_eq_false hm]
  exact zd rfl (Ev.now _)
 ·rw [if_neg c, decide_eq_false c]
  exact zd rfl (Ev.now _)
theorem zkD {f m : Int} (h : isF f) (hm : isM m) : Ev (fun k => zaQ.f k f m []) 0 := by
 unfold zaQ.f
 refine zk (ziq f) ?_
 rw [decide_eq_true h]
 refine ze (by simp) (zk (zip m) ?_)
 rw [decide_eq_true hm]
 refine ze (by simp) ?_
 refine zf ?_; simp only [zaQ.l0]
 exact ze (by simp) (Ev.now _)
def dx (n : Nat) : List UInt8 := tl (qfL (txt n))
theorem ziP (n : Nat) : qfL (txt n) = bx (dx n) := (zkb _).symm
theorem zeu (n : Nat) : (dx n).map (fun b => (b.toNat : Int)) = txt n := zj8 n
theorem zbn (n : Nat) : (dx n).all isD = true := by
 rw [List.all_eq_true]
 intro b hb
 have : ((b.toNat : Int)) ∈ txt n := by rw [← zeu]; exact List.mem_map.2 ⟨b, hb, rfl⟩
 exact zcg.2 (zja n _ this)
theorem zbV (n : Nat) : zg (dx n) 0 = n := by rw [← zfY, zeu]; exact zmA n
theorem zi2 {a b : UInt8} (h : (a.toNat : Int) = (b.toNat : Int)) : a = b := UInt8.toNat_inj.1 (by omega)
theorem zc4 {l r : List UInt8} {b : UInt8} (h : l.all isD = true) (e : l = b :: r) (hb : b ≠ 48) : dx (zg l 0) = l := by
 have e1 : tz0 l = b :: r := by
  subst e
  unfold tz0
  rw [List.dropWhile_cons, if_neg (by simpa using hb)]
 have h1 := znq (zfD h e1)
 rw [← e, zdU] at h1
 have h2 := (zeu (zg l 0)).trans h1
 rw [zcx] at h2
 exact (List.map_inj_right (fun x y hxy => zi2 hxy)).1 h2
theorem zai {n : Nat} (h : n ≠ 0) : ∃ b r, dx n = b :: r ∧ b ≠ 48 := by
 cases e : tz0 (dx n) with
 | nil => exact absurd ((zd6 (zbn n)).1 e) (by rw [zbV]; exact h)
 | cons b r =>
  have hb := zeW e
  have h1 := zeV (zbn n)
  have h2 := zdF (dx n)
  rw [e] at h1 h2
  rw [zbV] at h2
  have h3 := zc4 h1 rfl hb
  rw [h2] at h3
  exact ⟨b, r, h3, hb⟩
theorem zdG {n : Nat} (h : n ≠ 0) : 0 < (dx n).length := by
 obtain ⟨b, r, e, _⟩ := zai h
 rw [e]; simp
theorem zhf {n k : Nat} (h : n < 10 ^ k) (hk : 1 ≤ k) : (dx n).length ≤ k := by
 have := znp h hk
 rw [← zeu, List.length_map] at this
 exact this
theorem zfq (n : Nat) : n < 10 ^ (dx n).length := by
 have := zcc (zbn n)
 rwa [zbV] at this
theorem zcC {b : UInt8} (h : isD b = true) : 48 ≤ b.toNat ∧ b.toNat ≤ 57 := by
 have := zcg.1 h
 omega
theorem zbU (b : UInt8) (r : List UInt8) : zg (b :: r) 0 = (b.toNat - 48) * 10 ^ r.length + zg r 0 := by
 have e : zg (b :: r) 0 = zg r (10 * 0 + (b.toNat - 48)) := rfl
 rw [e, zhb]; simp
theorem zcO {b : UInt8} {r : List UInt8} (h : (b :: r).all isD = true) : isD b = true ∧ r.all isD = true := by
 simpa only [List.all_cons, Bool.and_eq_true] using h
theorem zbQ {a b : List UInt8} (h : (a ++ b).all isD = true) : a.all isD = true ∧ b.all isD = true := by
 simpa only [List.all_append, Bool.and_eq_true] using h
theorem zfQ {b : UInt8} (h : isD b = true) (hb : b ≠ 48) : 49 ≤ b.toNat := by
 have h1 := zcC h
 have h2 : b.toNat ≠ 48 := fun c => hb (UInt8.toNat_inj.1 (by rw [c]; rfl))
 omega
theorem zfp {n : Nat} (h : n ≠ 0) : 10 ^ ((dx n).length - 1) ≤ n := by
 obtain ⟨b, r, e, hb⟩ := zai h
 have h1 := zbn n
 have h2 := zbV n
 rw [e] at h1 h2 ⊢
 rw [zbU] at h2
 have h3 := zfQ (zcO h1).1 hb
 have h4 : 1 * 10 ^ r.length ≤ (b.toNat - 48) * 10 ^ r.length := Nat.mul_le_mul_right _ (by omega)
 have h5 : (b :: r).length - 1 = r.length := by simp
 rw [h5]
 omega
theorem zbE (a b : List UInt8) : zg (a ++ b) 0 = zg a 0 * 10 ^ b.length + zg b 0 := by rw [zkI, zhb]
theorem zc3 : ∀ j : Nat, zg (List.replicate j 48) 0 = 0
 | 0 => rfl
 | j + 1 => by rw [List.replicate_succ, zbU, zc3 j, show (48 : UInt8).toNat - 48 = 0 from rfl, Nat.zero_mul]
theorem zhg {n : Nat} (h : n ≠ 0) {A B : List UInt8} (e : dx n = A ++ B) (hA : A ≠ []) : dx (n / 10 ^ B.length) = A ∧ n % 10 ^ B.length = zg B 0 := by
 have h1 := zbn n
 have h2 := zbV n
 obtain ⟨b, r, e2, hb⟩ := zai h
 rw [e] at h1 h2 e2
 rw [zbE] at h2
 have h3 := zcc (zbQ h1).2
 have hd : n / 10 ^ B.length = zg A 0 := by
  rw [← h2, Nat.mul_comm, Nat.mul_add_div (Nat.pow_pos (by omega)), Nat.div_eq_of_lt h3]; omega
 have hm : n % 10 ^ B.length = zg B 0 := by
  rw [← h2, Nat.mul_comm, Nat.mul_add_mod, Nat.mod_eq_of_lt h3]
 refine ⟨?_, hm⟩
 cases A with
 | nil => exact absurd rfl hA
 | cons a A =>
  rw [hd]
  have : a = b := (List.cons.inj e2).1
  exact zc4 (zbQ h1).1 rfl (this ▸ hb)
theorem ze9 (j : Nat) : (List.replicate j (48 : UInt8)).all isD = true := by
 rw [List.all_eq_true]
 intro x hx
 rw [(List.mem_replicate.1 hx).2]; decide
theorem zfs {n : Nat} (h : n ≠ 0) (j : Nat) : dx (n * 10 ^ j) = dx n ++ List.replicate j 48 := by
 obtain ⟨b, r, e, hb⟩ := zai h
 have h1 : (dx n ++ List.replicate j 48).all isD = true := by rw [List.all_append, zbn, ze9]; rfl
 have h2 := zc4 (b := b) (r := r ++ List.replicate j 48) h1 (by rw [e]; rfl) hb
 rw [zbE, zbV, zc3, List.length_replicate] at h2
 exact h2
def tr (l : List UInt8) : List UInt8 := (l.reverse.dropWhile (· == 48)).reverse
theorem zeU (l : List UInt8) : tr (l ++ [48]) = tr l := by unfold tr; rw [List.reverse_append]; rfl
theorem zcK (l : List UInt8) {d : UInt8} (h : d ≠ 48) : tr (l ++ [d]) = l ++ [d] := by
 unfold tr
 rw [List.reverse_append]
 show ((d :: l.reverse).dropWhile (· == 48)).reverse = _
 rw [List.dropWhile_cons, if_neg (by simpa using h)]
 simp
theorem zd4 (l : List UInt8) : ∀ j : Nat, tr (l ++ List.replicate j 48) = tr l
 | 0 => by simp
 | j + 1 => by rw [List.replicate_succ', ← List.append_assoc, zeU, zd4 l j]
theorem zco (l : List UInt8) : ∃ j, l = tr l ++ List.replicate j 48 := by
 rcases List.eq_nil_or_concat l with rfl | ⟨a, d, rfl⟩
 ·exact ⟨0, rfl⟩
 ·rw [List.concat_eq_append]
  by_cases c : d = 48
  ·subst c
   rw [zeU]
   obtain ⟨j, hj⟩ := zco a
   refine ⟨j + 1, ?_⟩
   rw [List.replicate_succ', ← List.append_assoc, ← hj]
  ·exact ⟨0, by rw [zcK _ c]; simp⟩
termination_by l.length
decreasing_by subst_vars; simp
theorem zgj {l A : List UInt8} {d : UInt8} (h : tr l = A ++ [d]) : d ≠ 48 := by
 have h1 : l.reverse.dropWhile (· == 48) = d :: A.reverse := by
  have := congrArg List.reverse h
  unfold tr at this
  rw [List.reverse_reverse, List.reverse_append] at this
  exact this
 have := zhd _ _ h1
 simpa using this
theorem zbi {l r : List UInt8} {b : UInt8} (e : l = b :: r) (hb : b ≠ 48) : ∃ r', tr l = b :: r' := by
 obtain ⟨j, hj⟩ := zco l
 cases h : tr l with
 | nil =>
  rw [h, e] at hj
  cases j with
  | zero => cases hj
  | succ j => rw [List.replicate_succ] at hj; exact absurd (List.cons.inj hj).1 hb
 | cons c r' =>
  rw [h, e] at hj
  exact ⟨r', by rw [(List.cons.inj hj).1]⟩
theorem zaO (l : List UInt8) : (tr l).length ≤ l.length := by
 obtain ⟨j, hj⟩ := zco l
 have := congrArg List.length hj
 rw [List.length_append] at this
 omega
theorem zdh {l : List UInt8} (h : l.all isD = true) : (tr l).all isD = true := by
 obtain ⟨j, hj⟩ := zco l
 rw [hj] at h
 exact (zbQ h).1
theorem zgk (l : List UInt8) : tr (tr l) = tr l := by
 rcases List.eq_nil_or_concat (tr l) with h | ⟨a, d, h⟩
 ·rw [h]; rfl
 ·rw [List.concat_eq_append] at h
  rw [h, zcK _ (zgj h)]
theorem zkL (l : List UInt8) : zg l 0 = zg (tr l) 0 * 10 ^ (l.length - (tr l).length) := by
 obtain ⟨j, hj⟩ := zco l
 have h1 := congrArg List.length hj
 rw [List.length_append, List.length_replicate] at h1
 have h2 := congrArg (fun x => zg x 0) hj
 simp only [zbE, zc3, List.length_replicate] at h2
 rw [show l.length - (tr l).length = j by omega, h2]; rfl
theorem zha {l : List UInt8} (h : l.all isD = true) {A B : List UInt8} (e : l = A ++ B) : zg B 0 ≠ 0 ↔ A.length < (tr l).length := by
 obtain ⟨j, hj⟩ := zco l
 constructor
 ·intro hB
  apply Nat.lt_of_not_le
  intro hle
  apply hB
  have e1 : A ++ B = tr l ++ List.replicate j 48 := e ▸ hj
  obtain ⟨C, hC⟩ : ∃ C, A = tr l ++ C := by
   refine ⟨A.drop (tr l).length, ?_⟩
   have h2 := congrArg (List.take (tr l).length) e1
   rw [List.take_append_of_le_length hle, List.take_append_of_le_length (Nat.le_refl _), List.take_length] at h2
   rw [← h2]
   exact (by
    have := List.take_append_drop (tr l).length A
    rw [h2] at this ⊢
    exact this.symm)
  rw [hC, List.append_assoc] at e1
  have e2 := List.append_cancel_left e1
  have h3 : ∀ x ∈ B, x = 48 := fun x hx => (List.mem_replicate.1 (e2 ▸ List.mem_append_right C hx)).2
  rw [List.eq_replicate_of_mem h3, zc3]
 ·intro hlt hB
  rcases List.eq_nil_or_concat (tr l) with h0 | ⟨a, d, h0⟩
  ·rw [h0] at hlt; simp at hlt
  ·rw [List.concat_eq_append] at h0
   have hd := zgj h0
   rw [h0] at hlt hj
   have e1 : A ++ B = a ++ ([d] ++ List.replicate j 48) := by rw [← e, hj, List.append_assoc]
   have hla : A.length ≤ a.length := by simp at hlt; omega
   obtain ⟨C, hC⟩ : ∃ C, a = A ++ C := by
    refine ⟨a.drop A.length, ?_⟩
    have h2 := congrArg (List.take A.length) e1
    rw [List.take_append_of_le_length (Nat.le_refl _), List.take_length, List.take_append_of_le_length hla] at h2
    have := List.take_append_drop A.length a
    rw [← h2] at this
    exact this.symm
   rw [hC, List.append_assoc] at e1
   have e2 := List.append_cancel_left e1
   have hdd : isD d = true := by
    have := zdh h
    rw [h0] at this
    simpa using (zbQ this).2
   have hd1 := zfQ hdd hd
   rw [e2, ← List.append_assoc, zbE, zc3, zbE, zbU] at hB
   have hp : 0 < 10 ^ (List.replicate j (48 : UInt8)).length := Nat.pow_pos (by omega)
   have : 0 < (zg C 0 * 10 ^ [d].length + ((d.toNat - 48) * 10 ^ ([] : List UInt8).length + zg [] 0)) * 10 ^ (List.replicate j (48 : UInt8)).length := by
    apply Nat.mul_pos _ hp
    have : zg ([] : List UInt8) 0 = 0 := rfl
    simp only [List.length_nil, Nat.pow_zero, Nat.mul_one]
    omega
   omega
theorem zfo : ∀ j : Nat, zg (List.replicate j 57) 0 + 1 = 10 ^ j
 | 0 => rfl
 | j + 1 => by
  have := zfo j
  rw [List.replicate_succ, zbU, List.length_replicate, Nat.pow_succ, show (57 : UInt8).toNat - 48 = 9 from rfl]
  omega
theorem zhz {d : UInt8} (h : isD d = true) (hd : d ≠ 57) : isD (d + 1) = true ∧ (d + 1).toNat = d.toNat + 1 ∧ d + 1 ≠ 48 := by
 have h1 := zcC h
 have h2 : d.toNat ≠ 57 := fun c => hd (UInt8.toNat_inj.1 (by rw [c]; rfl))
 have e : (d + 1).toNat = d.toNat + 1 := by rw [UInt8.toNat_add]; show (d.toNat + 1) % 256 = _; omega
 refine ⟨decide_eq_true (by omega), e, fun c => ?_⟩
 rw [c] at e
 have : (48 : UInt8).toNat = 48 := rfl
 omega
theorem zkM {A : List UInt8} {d : UInt8} {j : Nat} (hA : (A ++ [d]).all isD = true) (hd : d ≠ 57) (h0 : ∀ b r, A ++ [d] = b :: r → b ≠ 48) :
  dx (zg (A ++ [d] ++ List.replicate j 57) 0 + 1) = A ++ [d + 1] ++ List.replicate j 48 ∧ tr (dx (zg (A ++ [d] ++ List.replicate j 57) 0 + 1)) = A ++ [d + 1] := by
 obtain ⟨a1, a2⟩ := zbQ hA
 have hdd : isD d = true := by simpa using a2
 obtain ⟨u1, u2, u3⟩ := zhz hdd hd
 have l1 := zcC hdd
 have e1 : zg (A ++ [d + 1]) 0 = zg (A ++ [d]) 0 + 1 := by
  rw [zbE, zbE, zbU, zbU, u2]
  show _ * 10 ^ 1 + ((d.toNat + 1 - 48) * 10 ^ 0 + 0) = _ * 10 ^ 1 + ((d.toNat - 48) * 10 ^ 0 + 0) + 1
  omega
 have e2 : zg (A ++ [d] ++ List.replicate j 57) 0 + 1 = zg (A ++ [d + 1]) 0 * 10 ^ j := by
  rw [zbE, List.length_replicate, Nat.add_assoc, zfo, e1, Nat.add_mul]; omega
 have h2 : (A ++ [d + 1]).all isD = true := by rw [List.all_append, a1]; simpa using u1
 obtain ⟨b, r, hb, hb0⟩ : ∃ b r, A ++ [d + 1] = b :: r ∧ b ≠ 48 := by
  cases A with
  | nil => exact ⟨d + 1, [], rfl, u3⟩
  | cons b r => exact ⟨b, r ++ [d + 1], rfl, h0 b (r ++ [d]) rfl⟩
 have h3 : dx (zg (A ++ [d + 1]) 0) = A ++ [d + 1] := zc4 h2 hb hb0
 have h4 : zg (A ++ [d + 1]) 0 ≠ 0 := by rw [e1]; omega
 have h5 : dx (zg (A ++ [d] ++ List.replicate j 57) 0 + 1) = A ++ [d + 1] ++ List.replicate j 48 := by rw [e2, zfs h4, h3]
 exact ⟨h5, by rw [h5, zd4, zcK _ u3]⟩
theorem zkN {j : Nat} (hj : 0 < j) : dx (zg (List.replicate j 57) 0 + 1) = 49 :: List.replicate j 48 ∧ tr (dx (zg (List.replicate j 57) 0 + 1)) = [49] := by
 have h1 : dx 1 = [49] := zc4 (l := [49]) (r := []) (b := 49) (by decide) rfl (by decide)
 have h5 : dx (zg (List.replicate j 57) 0 + 1) = [49] ++ List.replicate j 48 := by
  rw [zfo, ← Nat.one_mul (10 ^ j), zfs (by omega), h1]
 exact ⟨h5, by rw [h5, zd4]; rfl⟩
def hlf (r p : Nat) : Int := if 2 * r < p then -1 else if p < 2 * r then 1 else 0
theorem zlf {d : UInt8} {Rr : List UInt8} (h : (d :: Rr).all isD = true) : hlf (zg (d :: Rr) 0) (10 ^ (d :: Rr).length) =
  if d.toNat < 53 then -1 else if 53 < d.toNat then 1 else if zg Rr 0 ≠ 0 then 1 else 0 := by
 obtain ⟨h1, h2⟩ := zcO h
 have l1 := zcC h1
 have l2 := zcc h2
 have e : 10 ^ (d :: Rr).length = 10 * 10 ^ Rr.length := by rw [List.length_cons, Nat.pow_succ]; omega
 rw [zbU, e]
 obtain ⟨p, hp⟩ : ∃ p, p = 10 ^ Rr.length := ⟨_, rfl⟩
 obtain ⟨v, hv⟩ : ∃ v, v = zg Rr 0 := ⟨_, rfl⟩
 rw [← hp, ← hv] at l2 ⊢
 unfold hlf
 by_cases c1 : d.toNat < 53
 ·have : (d.toNat - 48) * p ≤ 4 * p := Nat.mul_le_mul_right _ (by omega)
  rw [if_pos c1, if_pos (by omega)]
 ·rw [if_neg c1]
  by_cases c2 : 53 < d.toNat
  ·have : 6 * p ≤ (d.toNat - 48) * p := Nat.mul_le_mul_right _ (by omega)
   rw [if_pos c2, if_neg (by omega), if_pos (by omega)]
  ·have e5 : d.toNat - 48 = 5 := by omega
   rw [if_neg c2, e5, if_neg (by omega)]
   by_cases c3 : v ≠ 0
   ·rw [if_pos c3, if_pos (by omega)]
   ·rw [if_neg c3, if_neg (by omega)]
def zbs (s : Bool) (d : List UInt8) (x : Int) : List UInt8 := sgT s ++
  (if x < -5 ∨ x > 20 then d.take 1 ++ (if 1 < d.length then 46 :: d.drop 1 else []) ++ 101 :: etx x
   else if x < 0 then 48 :: 46 :: (List.replicate (-x - 1).toNat 48 ++ d)
   else if x + 1 < (d.length : Int) then d.take (x + 1).toNat ++ 46 :: d.drop (x + 1).toNat
   else d ++ List.replicate (x + 1 - (d.length : Int)).toNat 48)
def zbN (s : Bool) (q : Nat) (x : Int) : List UInt8 := zbs s (tr (dx q)) (x + ((dx q).length : Nat) - 1)
theorem zfa {l : List UInt8} (h : l.all isD = true) (n : Nat) : (l.take n).all isD = true := by
 rw [List.all_eq_true] at *
 exact fun x hx => h x (List.mem_of_mem_take hx)
theorem zgF {l : List UInt8} (h : l.all isD = true) (n : Nat) : (l.drop n).all isD = true := by
 rw [List.all_eq_true] at *
 exact fun x hx => h x (List.mem_of_mem_drop hx)
theorem zg2 {f m : Int} (h : isF f) (s : Bool) {n : Nat} (hn : n ≠ 0) (i : Nat) (x : Int) : zp f m s (n * 10 ^ i) x = zp f m s n (x + i) := by
 unfold zp
 have hp : ∀ j : Nat, 0 < 10 ^ j := fun j => Nat.pow_pos (by omega)
 refine zmR h s (Nat.mul_ne_zero (Nat.mul_ne_zero hn (Nat.ne_of_gt (hp _))) (Nat.ne_of_gt (hp _))) (Nat.mul_ne_zero hn (Nat.ne_of_gt (hp _))) (hp _) (hp _) ?_ 0
 rw [Nat.mul_assoc n, Nat.mul_assoc n, Nat.mul_assoc n, ← Nat.pow_add, ← Nat.pow_add, ← Nat.pow_add]
 congr 2; omega
theorem zfW (s : Bool) (d : List UInt8) (x : Int) : zbs s d x = sgT s ++ zbs false d x := rfl
theorem zii (d : List UInt8) (x : Int) : (zbs false d x).length ≤ d.length + 30 := by
 unfold zbs
 rw [show sgT false = [] from rfl, List.nil_append]
 have := zhi x
 by_cases c1 : x < -5 ∨ x > 20
 ·rw [if_pos c1]; split <;> simp <;> omega
 rw [if_neg c1]
 by_cases c2 : x < 0
 ·rw [if_pos c2]; simp; omega
 rw [if_neg c2]
 by_cases c3 : x + 1 < (d.length : Int)
 ·rw [if_pos c3]; simp; omega
 ·rw [if_neg c3]; simp; omega
theorem zkS (f : Int) {n : Nat} (h : n ≠ 0) (e : Int) (j : Nat) : zav f (n * 2 ^ j) e = zav f n (e + j) := by
 unfold zav
 rw [zhN h, Nat.pow_add, Nat.mul_div_mul_right _ _ (zh j)]
 congr 1; omega
theorem zkQ {f : Int} (h : isF f) {q : Nat} {u : Int} (hu : lo f ≤ u) (hq : q ≤ 2 ^ pr f) (hn : u = lo f ∨ 2 ^ fb f ≤ q) (h0 : q ≠ 0) : zav f q u = (u - lo f).toNat * 2 ^ fb f + q := by
 have hpr := zM h
 have hp := zh (fb f)
 have hs : 2 ^ pr f = 2 ^ fb f * 2 := by rw [hpr, Nat.pow_succ]
 by_cases c : q = 2 ^ pr f
 ·have hb : bl (2 ^ fb f) = fb f + 1 := by
   have := zaI (v := 1) (by omega) (fb f)
   rw [Nat.one_mul, show bl 1 = 1 by decide] at this
   omega
  have e1 : zo f (2 ^ fb f) (u + 1) = u + 1 := by unfold zo; rw [hb, hpr]; omega
  rw [c, hs, ← Nat.pow_one 2, Nat.pow_one, show 2 ^ fb f * 2 = 2 ^ fb f * 2 ^ 1 from rfl, zkS f (by omega), zfu (by omega) (by rw [show u + ((1 : Nat) : Int) = u + 1 from rfl, e1]; omega), show u + ((1 : Nat) : Int) = u + 1 from rfl, e1, show (u + 1 - (u + 1)).toNat = 0 by omega, Nat.pow_zero, Nat.mul_one,
   show (u + 1 - lo f).toNat = (u - lo f).toNat + 1 by omega, Nat.add_mul, show 2 ^ fb f * 2 ^ 1 = 2 ^ fb f * 2 from rfl]
  omega
 ·have hlt : q < 2 ^ pr f := by omega
  have hb : bl q ≤ pr f := zI hlt
  have e1 : zo f q u = u := by
   unfold zo
   rcases hn with hn | hn
   ·omega
   ·have := zas hn
    have h2 := zaI (v := 1) (by omega) (fb f)
    rw [Nat.one_mul, show bl 1 = 1 by decide] at h2
    omega
  rw [zfu h0 (by omega), e1, show (u - u).toNat = 0 by omega, Nat.pow_zero, Nat.mul_one]
theorem znD (m : Int) (s o : Bool) {x y p : Nat} (h : x ≤ y) (hy : y < p) (kx : 2 * x % p ≠ 0 ↔ x ≠ 0 ∧ 2 * x ≠ p) (ky : 2 * y % p ≠ 0 ↔ y ≠ 0 ∧ 2 * y ≠ p) :
  upB m s o (decide (p ≤ 2 * x)) (decide (2 * x % p ≠ 0)) = true → upB m s o (decide (p ≤ 2 * y)) (decide (2 * y % p ≠ 0)) = true := by
 unfold upB
 by_cases c1 : m = 1
 ·rw [if_pos c1, if_pos c1]
  simp only [Bool.and_eq_true, Bool.or_eq_true, decide_eq_true_eq, kx, ky]
  rintro ⟨g1, g2⟩
  refine ⟨by omega, ?_⟩
  by_cases c2 : 2 * y = p
  ·exact .inr (g2.resolve_left (by omega))
  ·exact .inl (by omega)
 rw [if_neg c1, if_neg c1]
 by_cases c2 : m = 2
 ·rw [if_pos c2, if_pos c2]
  simp only [decide_eq_true_eq]
  omega
 rw [if_neg c2, if_neg c2]
 by_cases c4 : m = 4
 ·rw [if_pos c4, if_pos c4]
  simp only [Bool.and_eq_true, Bool.or_eq_true, decide_eq_true_eq, kx, ky]
  rintro ⟨g1, g2⟩
  exact ⟨g1, by omega⟩
 rw [if_neg c4, if_neg c4]
 by_cases c5 : m = 5
 ·rw [if_pos c5, if_pos c5]
  simp only [Bool.and_eq_true, Bool.or_eq_true, decide_eq_true_eq, kx, ky]
  rintro ⟨g1, g2⟩
  exact ⟨g1, by omega⟩
 rw [if_neg c5, if_neg c5]
 exact id
theorem zmJ (m : Int) (s : Bool) {a b k : Nat} (h : a ≤ b) : rnd m s a k ≤ rnd m s b k := by
 have hp := zh k
 have h1 : a / 2 ^ k ≤ b / 2 ^ k := Nat.div_le_div_right h
 unfold rnd
 by_cases c : a / 2 ^ k = b / 2 ^ k
 ·have h2 : a % 2 ^ k ≤ b % 2 ^ k := by
   have ea := Nat.div_add_mod a (2 ^ k)
   have eb := Nat.div_add_mod b (2 ^ k)
   rw [c] at ea
   omega
  have h3 := Nat.mod_lt b hp
  rw [c]
  suffices hh : upB m s (decide (b / 2 ^ k % 2 = 1)) (decide (2 ^ k ≤ 2 * (a % 2 ^ k))) (decide (2 * (a % 2 ^ k) % 2 ^ k ≠ 0)) = true → upB m s (decide (b / 2 ^ k % 2 = 1)) (decide (2 ^ k ≤ 2 * (b % 2 ^ k))) (decide (2 * (b % 2 ^ k) % 2 ^ k ≠ 0)) = true by
   split
   ·rename_i hu; rw [if_pos (hh hu)]; omega
   ·split <;> omega
  have key : ∀ r, r < 2 ^ k → (2 * r % 2 ^ k ≠ 0 ↔ r ≠ 0 ∧ 2 * r ≠ 2 ^ k) := by
   intro r hr
   by_cases c1 : 2 * r < 2 ^ k
   ·rw [Nat.mod_eq_of_lt c1]; omega
   ·rw [Nat.mod_eq_sub_mod (by omega), Nat.mod_eq_of_lt (by omega)]; omega
  have ka := key (a % 2 ^ k) (by omega)
  have kb := key (b % 2 ^ k) h3
  exact znD m s _ h2 h3 ka kb
 ·have h2 : a / 2 ^ k < b / 2 ^ k := by omega
  split <;> split <;> omega
def zdT (f m : Int) (s : Bool) : Nat := if inw m s = true then mo f * 2 ^ fb f - 1 else mo f * 2 ^ fb f
def zcy (f m : Int) (s : Bool) (n : Nat) (e : Int) : Nat :=
 if (bl (R m s n e (zl f n e)) : Int) + zl f n e > wd f then zdT f m s
 else if R m s n e (zl f n e) = 0 then 0 else zav f (R m s n e (zl f n e)) (zl f n e)
theorem ziv (f m : Int) (s : Bool) (n : Nat) (e : Int) : (zt f m s n e).1 = ((zcy f m s n e + sgn f s : Nat) : Int) := by
 unfold zt zcy
 dsimp only
 by_cases c : (bl (R m s n e (zl f n e)) : Int) + zl f n e > wd f
 ·rw [if_pos c, if_pos c]; rfl
 ·rw [if_neg c, if_neg c]
def zb7 (f m : Int) (s : Bool) (n : Nat) (e : Int) : Nat := (zl f n e - lo f).toNat * 2 ^ fb f + R m s n e (zl f n e)
theorem zgo {f m : Int} (h : isF f) (s : Bool) {n : Nat} (hn : n ≠ 0) (e : Int) : lo f ≤ zl f n e ∧ R m s n e (zl f n e) ≤ 2 ^ pr f ∧ (zl f n e = lo f ∨ 2 ^ fb f ≤ R m s n e (zl f n e)) := by
 have hpr := zM h
 refine ⟨by unfold zl; omega, zjC (p := pr f) (by unfold zl; omega), ?_⟩
 by_cases c : zl f n e = lo f
 ·exact .inl c
 ·right
  have hu : zl f n e = e + (bl n : Nat) - (pr f : Nat) := by unfold zl at c ⊢; omega
  obtain ⟨h1, _⟩ := ze6 (m := m) (s := s) (e := e) hn (E := zl f n e) (by omega)
  have h2 : R m s n e (zl f n e) ≠ 0 := by
   intro hz
   rw [hz, za7] at h1
   omega
  have h3 := zcw h2
  exact Nat.le_trans (Nat.pow_le_pow_right (by omega) (by omega)) h3
theorem zgT {f m : Int} (h : isF f) (s : Bool) {n : Nat} (hn : n ≠ 0) (e : Int) : zcy f m s n e = if mo f * 2 ^ fb f ≤ zb7 f m s n e then zdT f m s else zb7 f m s n e := by
 obtain ⟨h1, h2, h3⟩ := zgo (m := m) h s hn e
 have hpr := zM h
 have hro := zfz h
 have hmo := zcD h
 have hp := zh (fb f)
 have hs : 2 ^ pr f = 2 * 2 ^ fb f := by rw [hpr, Nat.pow_succ]; omega
 have hiff : (bl (R m s n e (zl f n e)) : Int) + zl f n e > wd f ↔ mo f * 2 ^ fb f ≤ zb7 f m s n e := by
  unfold zb7
  obtain ⟨u, hu⟩ : ∃ u, u = zl f n e := ⟨_, rfl⟩
  obtain ⟨q, hq⟩ : ∃ q, q = R m s n e u := ⟨_, rfl⟩
  rw [← hu] at h1 h2 h3 ⊢
  rw [← hq] at h2 h3 ⊢
  obtain ⟨d, hd⟩ : ∃ d, d = (u - lo f).toNat := ⟨_, rfl⟩
  rw [← hd]
  have hud : u = lo f + (d : Int) := by omega
  by_cases c : q = 2 ^ pr f
  ·have hb : bl q = pr f + 1 := by
    have := zaI (v := 1) (by omega) (pr f)
    rw [Nat.one_mul, show bl 1 = 1 by decide] at this
    rw [c]; omega
   rw [hb, c, hs]
   have : d * 2 ^ fb f + 2 * 2 ^ fb f = (d + 2) * 2 ^ fb f := by rw [Nat.add_mul]
   rw [this, Nat.mul_le_mul_right_iff hp]
   omega
  ·have hlt : q < 2 * 2 ^ fb f := by omega
   have hb : bl q ≤ pr f := zI (by omega)
   rcases h3 with h3 | h3
   ·have : d = 0 := by omega
    subst this
    have h5 : 2 * 2 ^ fb f ≤ mo f * 2 ^ fb f := Nat.mul_le_mul_right _ (by omega)
    constructor
    ·intro; omega
    ·intro; omega
   ·have h4 := zas h3
    have h5 := zaI (v := 1) (by omega) (fb f)
    rw [Nat.one_mul, show bl 1 = 1 by decide] at h5
    have hb2 : bl q = pr f := by omega
    rw [hb2]
    constructor
    ·intro hh
     have h6 : (mo f - 1) * 2 ^ fb f ≤ d * 2 ^ fb f := Nat.mul_le_mul_right _ (by omega)
     have h7 : mo f * 2 ^ fb f = (mo f - 1) * 2 ^ fb f + 2 ^ fb f := by
      rw [← Nat.succ_mul]; congr 1; omega
     omega
    ·intro hh
     apply Int.lt_of_not_ge
     intro hc
     have h6 : d * 2 ^ fb f ≤ (mo f - 2) * 2 ^ fb f := Nat.mul_le_mul_right _ (by omega)
     have h7 : mo f * 2 ^ fb f = (mo f - 2) * 2 ^ fb f + 2 * 2 ^ fb f := by
      rw [← Nat.add_mul]; congr 1; omega
     omega
 unfold zcy
 by_cases c : (bl (R m s n e (zl f n e)) : Int) + zl f n e > wd f
 ·rw [if_pos c, if_pos (hiff.1 c)]
 ·rw [if_neg c, if_neg (fun hh => c (hiff.2 hh))]
  by_cases c0 : R m s n e (zl f n e) = 0
  ·rw [if_pos c0]
   have : zl f n e = lo f := h3.resolve_right (by omega)
   unfold zb7
   rw [c0, this, show (lo f - lo f).toNat = 0 by omega, Nat.zero_mul]
  ·rw [if_neg c0, zkQ h h1 h2 h3 c0]; rfl
theorem zkg {f m : Int} (h : isF f) (s : Bool) {n n' : Nat} (hn : n ≠ 0) (hle : n ≤ n') (e : Int) : zb7 f m s n e ≤ zb7 f m s n' e := by
 obtain ⟨h1, h2, h3⟩ := zgo (m := m) h s hn e
 obtain ⟨k1, k2, k3⟩ := zgo (m := m) h s (n := n') (by omega) e
 have hpr := zM h
 have hs : 2 ^ pr f = 2 * 2 ^ fb f := by rw [hpr, Nat.pow_succ]; omega
 have hb := zas hle
 have hu : zl f n e ≤ zl f n' e := by unfold zl; omega
 unfold zb7
 by_cases c : zl f n e = zl f n' e
 ·rw [← c]
  have : R m s n e (zl f n e) ≤ R m s n' e (zl f n e) := by
   unfold R
   exact zmJ m s (Nat.mul_le_mul_right _ hle)
  omega
 ·have k4 := k3.resolve_left (by omega)
  have e1 : ((zl f n e - lo f).toNat + 1) * 2 ^ fb f ≤ (zl f n' e - lo f).toNat * 2 ^ fb f := Nat.mul_le_mul_right _ (by omega)
  rw [Nat.add_mul] at e1
  omega
theorem zkh {f m : Int} (h : isF f) (s : Bool) {n n' : Nat} (hn : n ≠ 0) (hle : n ≤ n') (e : Int) : zcy f m s n e ≤ zcy f m s n' e ∧ zcy f m s n' e ≤ mo f * 2 ^ fb f := by
 have h1 := zkg (m := m) h s hn hle e
 rw [zgT h s hn, zgT h s (n := n') (by omega)]
 have hm : zdT f m s ≤ mo f * 2 ^ fb f ∧ mo f * 2 ^ fb f - 1 ≤ zdT f m s := by unfold zdT; split <;> omega
 constructor
 ·split <;> split <;> omega
 ·split <;> omega
theorem zm4 {A B A' B' : Nat} (hB : 0 < B) (hB' : 0 < B') (hx : A * B' ≤ A' * B) : stk (A / B) (decide (A % B ≠ 0)) ≤ stk (A' / B') (decide (A' % B' ≠ 0)) := by
 have ea := Nat.div_add_mod A B
 have ea' := Nat.div_add_mod A' B'
 have hl' := Nat.mod_lt A' hB'
 have hq : A / B ≤ A' / B' := by
  rw [Nat.le_div_iff_mul_le hB']
  have h1 : A / B * B * B' ≤ A * B' := Nat.mul_le_mul_right _ (Nat.div_mul_le_self A B)
  have h2 : A / B * B' * B ≤ A' * B := by
   rw [Nat.mul_assoc, Nat.mul_comm B' B, ← Nat.mul_assoc]; omega
  exact Nat.le_of_mul_le_mul_right h2 hB
 unfold stk
 have hb1 := zdv (decide (A % B ≠ 0))
 have hb2 := zdv (decide (A' % B' ≠ 0))
 by_cases c : A / B = A' / B'
 ·by_cases c0 : A % B = 0
  ·have : bN (decide (A % B ≠ 0)) = 0 := by rw [zem]; exact decide_eq_false (by simpa using c0)
   omega
  ·have c1 : A' % B' ≠ 0 := by
    intro hz
    rw [hz, Nat.add_zero] at ea'
    rw [← ea, ← ea', ← c, Nat.add_mul] at hx
    have h3 : B * (A / B) * B' = B' * (A / B) * B := by
     rw [Nat.mul_comm B, Nat.mul_assoc, Nat.mul_comm B B', ← Nat.mul_assoc, Nat.mul_comm (A / B) B']
    rw [h3] at hx
    have h4 : 0 < A % B * B' := Nat.mul_pos (by omega) hB'
    omega
   have : bN (decide (A' % B' ≠ 0)) = 1 := by
    have : bN (decide (A' % B' ≠ 0)) ≠ 0 := fun hz => by
     rw [zem] at hz
     exact absurd (of_decide_eq_false hz) (by simpa using c1)
    omega
   omega
 ·omega
theorem zmP {f m : Int} (h : isF f) (s : Bool) {A B A' B' : Nat} (hA : A ≠ 0) (hA' : A' ≠ 0) (hB : 0 < B) (hB' : 0 < B') (hx : A * B' ≤ A' * B) (e : Int) :
  ∃ c c' : Nat, (rq f m s A B e).1 = ((c + sgn f s : Nat) : Int) ∧ (rq f m s A' B' e).1 = ((c' + sgn f s : Nat) : Int) ∧ c ≤ c' ∧ c' ≤ mo f * 2 ^ fb f := by
 obtain ⟨N, hN⟩ : ∃ N, N = max (bl B + 64) (bl B' + 64) := ⟨_, rfl⟩
 have bits : ∀ {A B : Nat}, A ≠ 0 → 0 < B → bl B + 64 ≤ N → pr f + 1 ≤ bl (A * 2 ^ N / B) ∧ A * 2 ^ N / B ≠ 0 := by
  intro A B hA hB hle
  have h1 := zdX hA hB
  have h2 : A * 2 ^ (bl B + 64) / B ≤ A * 2 ^ N / B := Nat.div_le_div_right (Nat.mul_le_mul_left _ (Nat.pow_le_pow_right (by omega) hle))
  have h3 := zas h2
  have h4 : pr f ≤ 53 := by rcases h with rfl | rfl <;> decide
  refine ⟨by omega, fun hz => ?_⟩
  rw [hz, za7] at h3
  omega
 have b1 := bits hA hB (by omega)
 have b2 := bits hA' hB' (by omega)
 have hm := zm4 (A := A * 2 ^ N) (A' := A' * 2 ^ N) hB hB' (by
  rw [Nat.mul_right_comm, Nat.mul_right_comm A']
  exact Nat.mul_le_mul_right _ hx)
 have hne : stk (A * 2 ^ N / B) (decide (A * 2 ^ N % B ≠ 0)) ≠ 0 := by unfold stk; omega
 obtain ⟨g1, g2⟩ := zkh (m := m) h s hne hm (e - N - 1)
 exact ⟨_, _, by rw [← zdY h s hA hB e N b1.1, ziv], by rw [← zdY h s hA' hB' e N b2.1, ziv], g1, g2⟩
def exN (z : Nat) (e : Int) : Nat := z * 2 ^ e.toNat * 5 ^ (-e).toNat
def exG (e : Int) : Nat := (-e).toNat
theorem zfv {z : Nat} (h : z ≠ 0) (e : Int) : exN z e ≠ 0 := Nat.mul_ne_zero (Nat.mul_ne_zero h (Nat.ne_of_gt (zh _))) (Nat.ne_of_gt (Nat.pow_pos (by omega)))
theorem zkl {f m : Int} (h : isF f) (s : Bool) {z : Nat} (hz : z ≠ 0) (e : Int) : zp f m s (exN z e) (-(exG e : Int)) = zt f m s z e := by
 have h5 := zfv hz e
 rw [← zgZ h s h5]
 unfold exN exG
 have e1 := zeO (m := m) h s (A := z * 2 ^ e.toNat) (B := 1) (c := 5 ^ (-e).toNat) (Nat.mul_ne_zero hz (Nat.ne_of_gt (zh _))) (by omega) (Nat.pow_pos (by omega)) (-(((-e).toNat : Nat) : Int))
 rw [Nat.one_mul] at e1
 rw [e1, zeP h s hz (by omega), ziA h s hz]
 congr 1
 omega
def zbI (g : Nat) (t : List UInt8) : List UInt8 := List.replicate (g + 1 - t.length) 48 ++ t
theorem zeK (g : Nat) (t : List UInt8) : g + 1 ≤ (zbI g t).length ∧ (zbI g t).length = max (g + 1) t.length := by
 unfold zbI
 rw [List.length_append, List.length_replicate]; omega
def exW (z : Nat) (e : Int) : List UInt8 := if 0 ≤ e then dx (exN z e) else (zbI (exG e) (dx (exN z e))).take ((zbI (exG e) (dx (exN z e))).length - exG e)
def exP (z : Nat) (e : Int) : List UInt8 := if 0 ≤ e then [] else (zbI (exG e) (dx (exN z e))).drop ((zbI (exG e) (dx (exN z e))).length - exG e)
theorem zkW (z : Nat) (e : Int) : (exP z e).length = exG e := by
 unfold exP
 by_cases c : 0 ≤ e
 ·rw [if_pos c]; unfold exG; simp; omega
 ·rw [if_neg c, List.length_drop]
  have := (zeK (exG e) (dx (exN z e))).1
  omega
theorem zkY {z : Nat} (hz : z ≠ 0) (e : Int) : 0 < (exW z e).length ∧ (exW z e).length ≤ (dx (exN z e)).length + 1 := by
 unfold exW
 have := zdG (zfv hz e)
 by_cases c : 0 ≤ e
 ·rw [if_pos c]; omega
 ·rw [if_neg c, List.length_take]
  have := (zeK (exG e) (dx (exN z e)))
  omega
theorem zkX (z : Nat) (e : Int) : ∃ j, exW z e ++ exP z e = List.replicate j 48 ++ dx (exN z e) ∧ j = (exW z e).length + exG e - (dx (exN z e)).length := by
 unfold exW exP
 by_cases c : 0 ≤ e
 ·rw [if_pos c, if_pos c]
  exact ⟨0, by simp, by unfold exG; omega⟩
 ·rw [if_neg c, if_neg c, List.take_append_drop]
  refine ⟨_, rfl, ?_⟩
  have := (zeK (exG e) (dx (exN z e)))
  rw [List.length_take]
  omega
theorem zms (n : Nat) : 5 ^ n ≤ 10 ^ (7 * (n / 10 + 1)) := by
 have h1 : 5 ^ n ≤ 5 ^ (10 * (n / 10 + 1)) := Nat.pow_le_pow_right (by omega) (by omega)
 have h2 : (5 ^ 10) ^ (n / 10 + 1) ≤ (10 ^ 7) ^ (n / 10 + 1) := Nat.pow_le_pow_left (by decide) _
 rw [← Nat.pow_mul, ← Nat.pow_mul] at h2
 omega
theorem zmr (n : Nat) : 2 ^ n ≤ 10 ^ (3 * (n / 8 + 1)) := by
 have h1 : 2 ^ n ≤ 2 ^ (8 * (n / 8 + 1)) := Nat.pow_le_pow_right (by omega) (by omega)
 have h2 : (2 ^ 8) ^ (n / 8 + 1) ≤ (10 ^ 3) ^ (n / 8 + 1) := Nat.pow_le_pow_left (by decide) _
 rw [← Nat.pow_mul, ← Nat.pow_mul] at h2
 omega
theorem zhJ {z y p K : Nat} (hz : z < 10 ^ 16) (hy : y ≤ 10 ^ p) (hp : 16 + p ≤ K) : z * y < 10 ^ K := by
 have h5 : z * y ≤ z * 10 ^ p := Nat.mul_le_mul_left _ hy
 have h6 : z * 10 ^ p < 10 ^ 16 * 10 ^ p := Nat.mul_lt_mul_of_pos_right hz (Nat.pow_pos (by omega))
 rw [← Nat.pow_add] at h6
 exact Nat.lt_of_le_of_lt h5 (Nat.lt_of_lt_of_le h6 (Nat.pow_le_pow_right (by omega) hp))
theorem zhn {z : Nat} {e : Int} (hb : bl z ≤ 53) (h1 : -1074 ≤ e) (h2 : e ≤ 1024) : (dx (exN z e)).length ≤ 800 := by
 obtain ⟨K, hK⟩ : ∃ K : Nat, K = 800 := ⟨_, rfl⟩
 rw [← hK]
 apply zhf _ (by omega)
 unfold exN
 have hz : z < 2 ^ bl z := zP z
 have hz2 : 2 ^ bl z ≤ 2 ^ 53 := Nat.pow_le_pow_right (by omega) hb
 have hz3 : z < 10 ^ 16 := Nat.lt_of_lt_of_le (Nat.lt_of_lt_of_le hz hz2) (by decide)
 by_cases c : 0 ≤ e
 ·rw [show (-e).toNat = 0 by omega, Nat.pow_zero, Nat.mul_one]
  exact zhJ hz3 (zmr e.toNat) (by omega)
 ·rw [show e.toNat = 0 by omega, Nat.pow_zero, Nat.mul_one]
  exact zhJ hz3 (zms (-e).toNat) (by omega)
theorem zaa (a b : List UInt8) : bx a ++ bx b = bx (a ++ b) := za1.1 (by rw [ziZ]; rfl)
theorem zcT (T : List UInt8) (n : Nat) : (bx T).extract 0 n = bx (T.take n) := za1.1 (by rw [zeS]; rfl)
theorem zeo (T : List UInt8) (n : Nat) : (bx T).extract n (bx T).size = bx (T.drop n) := za1.1 (by rw [zeS, zE, zao, zao, List.take_length])
theorem zka (T : List UInt8) (i j : Nat) : (bx T).extract i j = bx ((T.take j).drop i) := za1.1 (by rw [zeS]; rfl)
theorem zf5 {n : Int} (h0 : 0 ≤ n) (h1 : n ≤ 1000000) : zag.f (⟨#[48]⟩ : ByteArray) n = some (bx (List.replicate n.toNat 48)) := by
 unfold zag.f
 have hs : (⟨#[48]⟩ : ByteArray).size = 1 := rfl
 rw [if_pos ⟨h0, by rw [hs]; omega, by omega⟩]
 have : Lib.repeatL (⟨#[48]⟩ : ByteArray).data.toList n.toNat = List.replicate n.toNat 48 := zis 48 _
 rw [this]; rfl
def nmT (f : Int) (w : Nat) : List UInt8 := if cls f w = 5 then [110, 97, 110] else if cls f w = 4 then sgT (zq f w) ++ [105, 110, 102] else if cls f w = 1 then sgT (zq f w) ++ [48] else []
def zc6 (f : Int) (w : Nat) : Bool := decide (cls f w = 5 ∨ cls f w = 4 ∨ cls f w = 1)
theorem zlj {f : Int} {w : Nat} (h : zc6 f w = false) : cls f w ≠ 5 ∧ cls f w ≠ 4 ∧ cls f w ≠ 1 := by
 have := of_decide_eq_false h
 exact ⟨fun c => this (.inl c), fun c => this (.inr (.inl c)), fun c => this (.inr (.inr c))⟩
theorem zhV (s : Bool) (a b : Int) {t : List UInt8} (ht : t.length ≤ 10) : Ev (fun k => zbb.j1 k s a b (bx t)) (bx (sgT s ++ t), true, 0) := by
 refine zf ?_; simp only [zbb.j1]
 have hs := zE t
 cases s with
 | true => exact zd rfl (zd (show 1 + (bx t).size < 35184372088832 by omega) (zi (Ev.now _) (by rw [show (⟨#[45]⟩ : ByteArray) = bx [45] from rfl, zaa]; rfl)))
 | false => exact ze (by simp) (Ev.now _)
theorem zlZ {f : Int} (h : isF f) {w : Nat} (hw : w < 2 * sg f) : Ev (fun k => zbb.f k f (w : Int)) (bx (nmT f w), zc6 f w, 0) := by
 unfold zbb.f
 refine Ev.bind (znS h hw) (ze (by simp) (Ev.bind (znX h hw) ?_))
 unfold nmT zc6
 by_cases c5 : cls f w = 5
 ·rw [if_pos c5, decide_eq_true (.inl c5)]
  exact zd c5 (Ev.now _)
 rw [if_neg c5]
 by_cases c4 : cls f w = 4
 ·rw [if_pos c4, decide_eq_true (.inr (.inl c4))]
  exact ze c5 (zd c4 (zhV (t := [105, 110, 102]) _ _ _ (by decide)))
 rw [if_neg c4]
 by_cases c1 : cls f w = 1
 ·rw [if_pos c1, decide_eq_true (.inr (.inr c1))]
  exact ze c5 (ze c4 (zd c1 (zhV (t := [48]) _ _ _ (by decide))))
 ·rw [if_neg c1, decide_eq_false (by rintro (c | c | c); exact c5 c; exact c4 c; exact c1 c)]
  exact ze c5 (ze c4 (ze c1 (Ev.now _)))
theorem zhk (z : Nat) {e : Int} (h : 0 ≤ e) : exN z e = z * 2 ^ e.toNat := by unfold exN; rw [show (-e).toNat = 0 by omega, Nat.pow_zero, Nat.mul_one]
theorem zhl (z : Nat) {e : Int} (h : e < 0) : exN z e = z * 5 ^ (-e).toNat := by unfold exN; rw [show e.toNat = 0 by omega, Nat.pow_zero, Nat.mul_one]
theorem zkZ {z : Nat} {e : Int} (hb : bl z ≤ 53) (h1 : -1074 ≤ e) (h2 : e ≤ 1024) : bl (exN z e) ≤ 3300 := by
 by_cases c : 0 ≤ e
 ·rw [zhk z c]
  have := zfe z e.toNat
  omega
 ·rw [zhl z (by omega)]
  have := zfd z (5 ^ (-e).toNat)
  have := zeL (-e).toNat
  omega
theorem zlJ {n k : Nat} (hb : bl n ≤ 32 * k) : n < 4294967296 ^ k := by
 have h1 := zP n
 have h2 : (4294967296 : Nat) ^ k = 2 ^ (32 * k) := by rw [Nat.pow_mul]
 rw [h2]
 exact Nat.lt_of_lt_of_le h1 (Nat.pow_le_pow_right (by omega) hb)
theorem zgs {n k : Nat} (hb : bl n ≤ 32 * k) : (D n).length ≤ k := zbx (zlJ hb)
def dz (f : Int) (w : Nat) : Nat := V (wv f w).2.1
def we (f : Int) (w : Nat) : Int := (wv f w).2.2
structure Wd (f : Int) (w : Nat) : Prop where
 eq : wv f w = (zq f w, D (dz f w), we f w)
 my : My (zq f w) (D (dz f w)) (we f w)
 ne : dz f w ≠ 0
 b : bl (dz f w) ≤ 53
 lo : -1074 ≤ we f w
 hi : we f w + (bl (dz f w) : Nat) ≤ 1024
theorem zd8 {f : Int} (h : isF f) {w : Nat} (c1 : cls f w ≠ 1) (c4 : cls f w < 4) : Wd f w := by
 obtain ⟨my, ne, b, lo, hi, hs⟩ := zmv h c1 c4
 have hb := (zjp h c1 c4).b
 have hpr : pr f ≤ 53 := by rcases h with rfl | rfl <;> decide
 have e : wv f w = (zq f w, D (dz f w), we f w) := by
  have hn : D (V (wv f w).2.1) = (wv f w).2.1 := my.dy.nm
  unfold dz we
  rw [hn, ← hs]
 refine ⟨e, ?_, ne, ?_, lo, hi⟩
 ·rw [e] at my; exact my
 ·exact Nat.le_trans hb hpr
theorem zn1 {f : Int} (h : isF f) {w : Nat} (hw : w < 2 * sg f) (c1 : cls f w ≠ 1) (c4 : cls f w < 4) : Ev (fun k => za2.f k f (w : Int)) (zq f w, D (dz f w), we f w, 0) := by
 have hv := znY h hw c4
 have hwv : mk (sv (zq f w) (zu f w)) (wex f w) = wv f w := rfl
 rw [hwv, (zd8 h c1 c4).eq] at hv
 exact hv
theorem zhp (s : Bool) (l : List Int) {e : Int} {T : List UInt8} (h1 : -1074 ≤ e) (h2 : e < 0) (hT : (-e).toNat ≤ T.length) (hl : T.length ≤ 10000) :
  Ev (fun k => zba.j1 k s l e (bx T)) (s, bx (T.take (T.length - (-e).toNat)), bx (T.drop (T.length - (-e).toNat))) := by
 have hs := zE T
 have hw : wrap64 (((bx T).size : Int) + e) = ((T.length - (-e).toNat : Nat) : Int) := by rw [w64 (by omega) (by omega)]; omega
 refine zf ?_; simp only [zba.j1]
 rw [hw, Int.toNat_natCast, zcT, zeo]
 exact zd (by omega) (zd (by omega) (zd (by omega) (zd (by omega) (Ev.now _))))
theorem zkr {f : Int} (h : isF f) {w : Nat} (hw : w < 2 * sg f) (c1 : cls f w ≠ 1) (c4 : cls f w < 4) :
  Ev (fun k => zba.f k f (w : Int)) (zq f w, bx (exW (dz f w) (we f w)), bx (exP (dz f w) (we f w))) := by
 have W := zd8 h c1 c4
 have hv := zn1 h hw c1 c4
 obtain ⟨_, my, ne, b, lo, hi⟩ := W
 have hbp := za6 ne
 revert hv my ne b lo hi hbp
 generalize zq f w = s
 generalize dz f w = z
 generalize we f w = e
 intro hv my ne b lo hi hbp
 have hN : (D (exN z e)).length ≤ 104 := zgs (by have := zkZ b lo (by omega); omega)
 have hx := zhn b lo (by omega)
 unfold zba.f
 refine Ev.bind hv ?_
 by_cases c : 0 ≤ e
 ·have e1 : zbL (V (D z)) e = (D (exN z e), false, 0) := by
   unfold zbL
   rw [V_D, if_neg ne, if_neg (by omega), if_neg (by omega), if_neg (by omega), zhk z c]
  have hsh := zdR my.dy.nm my.len e
  rw [e1] at hsh
  have ht := zhZ (z6 (exN z e)) (by omega)
  rw [V_D, ziP] at ht
  refine zd c (Ev.bind hsh (Ev.bind ht ?_))
  unfold exW exP
  rw [if_pos c, if_pos c]
  exact Ev.now _
 ·have c' : e < 0 := by omega
  have hg : exG e = (-e).toNat := rfl
  have e1 : wrap64 (-e) = (((-e).toNat : Nat) : Int) := by rw [w64 (by omega) (by omega)]; omega
  have h5 : (D (5 ^ (-e).toNat)).length ≤ 104 := zgs (by have := zeL (-e).toNat; omega)
  have hp := zfN (b := 5) (n := (-e).toNat) (by omega) (by omega)
  rw [zdy (by omega)] at hp
  have hm := zhX (z6 z) (z6 (5 ^ (-e).toNat)) my.len (by omega)
  rw [V_D, V_D, ← zhl z c', zdy (by omega)] at hm
  have ht := zhZ (z6 (exN z e)) (by omega)
  rw [V_D, ziP] at ht
  have hsz := zE (dx (exN z e))
  have hpd := zeK (exG e) (dx (exN z e))
  unfold exW exP
  rw [if_neg c, if_neg c]
  refine ze c ?_
  rw [e1]
  refine Ev.bind hp (Ev.bind hm (Ev.bind ht ?_))
  dsimp only
  have e2 : wrap64 ((((-e).toNat : Nat) : Int) - ((bx (dx (exN z e))).size : Int)) = (((-e).toNat : Nat) : Int) - ((dx (exN z e)).length : Int) := by rw [hsz, w64 (by omega) (by omega)]
  rw [e2]
  by_cases ck : (((-e).toNat : Nat) : Int) - ((dx (exN z e)).length : Int) ≥ 0
  ·have e3 : wrap64 ((((-e).toNat : Nat) : Int) - ((dx (exN z e)).length : Int) + 1) = ((exG e + 1 - (dx (exN z e)).length : Nat) : Int) := by rw [w64 (by omega) (by omega), hg]; omega
   rw [e3]
   refine zd ck (zk (zf5 (by omega) (by omega)) ?_)
   rw [Int.toNat_natCast, zaa]
   have hz : (bx (List.replicate (exG e + 1 - (dx (exN z e)).length) 48)).size = exG e + 1 - (dx (exN z e)).length := by rw [zE, List.length_replicate]
   refine zd (by omega) ?_
   have := zhp s (D z) (T := zbI (exG e) (dx (exN z e))) lo c' (by omega) (by omega)
   exact this
  ·refine ze ck ?_
   have hpt : zbI (exG e) (dx (exN z e)) = dx (exN z e) := by
    unfold zbI
    rw [show exG e + 1 - (dx (exN z e)).length = 0 by omega]; rfl
   rw [hpt, hg]
   exact zhp s (D z) (T := dx (exN z e)) lo c' (by omega) (by omega)
theorem zk3 {f : Int} (h : isF f) {w : Nat} (c5 : cls f w ≠ 5) (c4 : cls f w ≠ 4) : cls f w < 4 := by have := zgQ h w; omega
theorem zhv {f m : Int} (h : ¬ isF f) : fmE f m = 4 := by unfold fmE; rw [if_neg h]
theorem zj9 (a : List UInt8) (d : UInt8) : bt (bx (a ++ [d])) (a.length : Int) = (d.toNat : Int) := zbT (s := bx (a ++ [d])) (A := a) (B := []) (b := d) (by rw [zao])
theorem zm8 (a : List UInt8) (d : UInt8) : (a ++ [d]).take a.length = a := by simp
theorem zh1 {d e : UInt8} (h : d ≠ e) : (d.toNat : Int) ≠ (e.toNat : Int) := fun c => h (zi2 c)
theorem zi8 : ∀ (n : Nat) (l : List UInt8), l.length = n → l.length ≤ 1000000 → Ev (fun k => zbh.l0 k (bx l) 48) (bx (tr l))
 | 0, l, hn, _ => by
  have : l = [] := List.length_eq_zero_iff.1 hn
  subst this
  refine zf ?_; simp only [zbh.l0]
  exact ze (by decide) (Ev.now _)
 | n + 1, l, hn, hl => by
  rcases List.eq_nil_or_concat l with rfl | ⟨a, d, rfl⟩
  ·simp at hn
  rw [List.concat_eq_append] at hn hl ⊢
  have hz := zE (a ++ [d])
  rw [List.length_append, List.length_singleton] at hz hn hl
  have e1 : wrap64 (((bx (a ++ [d])).size : Int) - 1) = (a.length : Int) := by rw [w64 (by omega) (by omega)]; omega
  refine zf ?_; simp only [zbh.l0]
  rw [e1, zj9, Int.toNat_natCast, zcT, zm8]
  refine zd (by omega) (zd (by omega) (zd (by omega) ?_))
  by_cases c : d = 48
  ·subst c
   rw [zeU]
   exact zd rfl (zd (by omega) (zd (by omega) (zi8 n a (by omega) (by omega))))
  ·rw [zcK _ c]
   exact ze (zh1 c) (Ev.now _)
theorem zi7 {l : List UInt8} (hl : l.length ≤ 1000000) : Ev (fun k => zaZ.f k (bx l) (⟨#[48]⟩ : ByteArray)) (bx (tr l)) := by
 unfold zaZ.f
 by_cases c : l = []
 ·subst c
  exact zd rfl (Ev.now _)
 ·refine ze (fun h => c (zaP.1 h)) (ze (by decide) (zd (by decide) (zd (by decide) ?_)))
  have e : decide (bt (⟨#[48]⟩ : ByteArray) 0 < 128) = true := by decide
  have e2 : bt (⟨#[48]⟩ : ByteArray) 0 = 48 := by decide
  rw [e]
  refine zf ?_; simp only [zaZ.j2]
  rw [e2]
  refine zd trivial (zd (by decide) ?_)
  unfold zbh.f
  exact Ev.bind (zi8 _ l rfl hl) (Ev.now _)
theorem zgG (s p : Bool) (q : ByteArray) (o : Int) {L r : List UInt8} {b : UInt8} (e : L = b :: r) (hb : b ≠ 48) (hL : L.length ≤ 2000) : ∀ (j : Nat) (x : Int), j ≤ 2000 → -10000 ≤ x - j → x ≤ 10000 →
  Ev (fun k => zaR.l0 k p q o s x (bx (List.replicate j 48 ++ L))) (s, bx (tr L), x - j)
 | 0, x, _, h1, h2 => by
  subst e
  have hz := zE (b :: r)
  rw [List.length_cons] at hz
  have hb0 := zbT (s := bx (b :: r)) (A := []) (B := r) (b := b) (by rw [zao]; rfl)
  rw [List.length_nil, show ((0 : Nat) : Int) = 0 from rfl] at hb0
  rw [show List.replicate 0 (48 : UInt8) ++ b :: r = b :: r from rfl]
  refine zf ?_; simp only [zaR.l0]
  rw [hb0]
  refine zd (by omega) (ze (zh1 hb) (Ev.bind (zi7 (by omega)) (zi (Ev.now _) ?_)))
  rw [show x - ((0 : Nat) : Int) = x by omega]
 | j + 1, x, hj, h1, h2 => by
  have hz := zE (List.replicate (j + 1) 48 ++ L)
  rw [List.length_append, List.length_replicate] at hz
  have e0 : List.replicate (j + 1) (48 : UInt8) ++ L = 48 :: (List.replicate j 48 ++ L) := by rw [List.replicate_succ]; rfl
  have hb0 := zbT (s := bx (List.replicate (j + 1) 48 ++ L)) (A := []) (B := List.replicate j 48 ++ L) (b := 48) (by rw [zao, e0]; rfl)
  rw [List.length_nil, show ((0 : Nat) : Int) = 0 from rfl] at hb0
  have ih := zgG s p q o e hb hL j (x - 1) (by omega) (by omega) (by omega)
  refine zf ?_; simp only [zaR.l0]
  have hz' : 1 ≤ (bx (List.replicate (j + 1) 48 ++ L)).size := by omega
  rw [hb0, show (1 : Int).toNat = 1 from rfl, zeo, w64 (n := x - 1) (by omega) (by omega)]
  refine zd (by omega) (zd rfl (zd (by decide) (zd (by omega) ?_)))
  rw [e0, show (48 :: (List.replicate j 48 ++ L)).drop 1 = List.replicate j 48 ++ L from rfl]
  rw [show x - ((j + 1 : Nat) : Int) = x - 1 - (j : Int) by omega]
  exact ih
def nN (f : Int) (w : Nat) : Nat := exN (dz f w) (we f w)
def nG (f : Int) (w : Nat) : Nat := exG (we f w)
structure Nw (f : Int) (w : Nat) : Prop where
 ne : nN f w ≠ 0
 len : (dx (nN f w)).length ≤ 800
 g : nG f w ≤ 1074
theorem zeI {f : Int} (h : isF f) {w : Nat} (c1 : cls f w ≠ 1) (c4 : cls f w < 4) : Nw f w := by
 have W := zd8 h c1 c4
 have h3 := W.lo
 have h4 := W.hi
 exact ⟨zfv W.ne _, zhn W.b W.lo (by omega), by unfold nG exG; omega⟩
theorem zkp {f : Int} (h : isF f) {w : Nat} (hw : w < 2 * sg f) (c1 : cls f w ≠ 1) (c4 : cls f w < 4) :
  Ev (fun k => zaR.f k f (w : Int)) (zq f w, bx (tr (dx (nN f w))), ((dx (nN f w)).length : Int) - 1 - (nG f w : Nat)) := by
 have W := zd8 h c1 c4
 obtain ⟨ne, hl, hg⟩ := zeI h c1 c4
 have h1 := zkY W.ne (we f w)
 have h2 := zkW (dz f w) (we f w)
 obtain ⟨j, hj, hj2⟩ := zkX (dz f w) (we f w)
 have hj3 := congrArg List.length hj
 rw [List.length_append, List.length_append, List.length_replicate, h2] at hj3
 obtain ⟨b, r, e, hb⟩ := zai ne
 have s1 := zE (exP (dz f w) (we f w))
 have s2 := zE (exW (dz f w) (we f w))
 unfold nN nG at *
 unfold zaR.f
 refine Ev.bind (zkr h hw c1 c4) (zd (show (bx (exW (dz f w) (we f w))).size + (bx (exP (dz f w) (we f w))).size < 35184372088832 by omega) ?_)
 dsimp only
 rw [w64 (n := ((bx (exW (dz f w) (we f w))).size : Int) - 1) (by omega) (by omega), s2, zaa, hj]
 have := zgG (zq f w) false (⟨#[]⟩ : ByteArray) 0 e hb (by omega) j (((exW (dz f w) (we f w)).length : Int) - 1) (by omega) (by omega) (by omega)
 rw [show ((exW (dz f w) (we f w)).length : Int) - 1 - (j : Int) = ((dx (exN (dz f w) (we f w))).length : Int) - 1 - (exG (we f w) : Nat) by omega] at this
 exact this
theorem zm6 (l : List UInt8) : qfL (l.map fun b => (b.toNat : Int)) = bx l := by
 refine za1.1 ?_
 rw [zng, zao, List.map_map]
 conv => rhs; rw [← List.map_id l]
 congr 1
 funext b
 show UInt8.ofNat ((b.toNat : Int)).toNat = b
 rw [Int.toNat_natCast, UInt8.ofNat_toNat]
theorem zhQ (s p : Bool) (q : ByteArray) (o x : Int) (hx : -100000 ≤ x ∧ x ≤ 100000) (q0 : ByteArray) {T : List UInt8} (hT : T.all isD = true) (hT0 : ∀ b r, T = b :: r → b ≠ 48) (hne : T ≠ []) (hl : T.length ≤ 2000) :
  ∀ (n : Nat) (P : List UInt8) (j : Nat), P.length = n → T = P ++ List.replicate j 57 →
  Ev (fun k => zaS.l0 k s q0 x p q o (T.map fun b => (b.toNat : Int)) ((P.length : Int) - 1)) (s, bx (tr (dx (zg T 0 + 1))), x + ((dx (zg T 0 + 1)).length : Int) - (T.length : Int))
 | 0, P, j, hn, hP => by
  have : P = [] := List.length_eq_zero_iff.1 hn
  subst this
  rw [List.nil_append] at hP
  have hj : 0 < j := by
   rcases Nat.eq_zero_or_pos j with h | h
   ·subst h; exact absurd hP hne
   ·exact h
  obtain ⟨m1, m2⟩ := zkN hj
  rw [← hP] at m1 m2
  have hlen : T.length = j := by rw [hP, List.length_replicate]
  rw [m2, m1]
  refine zf ?_; simp only [zaS.l0]
  refine ze (by simp) (zi (Ev.now _) ?_)
  rw [w64 (n := x + 1) (by omega) (by omega), hlen, List.length_cons, List.length_replicate, show x + ((j + 1 : Nat) : Int) - (j : Int) = x + 1 by omega]
  rfl
 | n + 1, P, j, hn, hP => by
  rcases List.eq_nil_or_concat P with rfl | ⟨a, d, rfl⟩
  ·simp at hn
  rw [List.concat_eq_append] at hn hP ⊢
  rw [List.length_append, List.length_singleton] at hn ⊢
  have hlen : T.length = a.length + 1 + j := by rw [hP]; simp; omega
  have hml : (T.map fun b => (b.toNat : Int)).length = a.length + 1 + j := by rw [List.length_map, hlen]
  have ei : ((a.length + 1 : Nat) : Int) - 1 = (a.length : Int) := by omega
  have hrd : rd (T.map fun b => (b.toNat : Int)) (a.length : Int) = (d.toNat : Int) := by
   rw [rdn, hP]; simp
  have hd : isD d = true := by
   rw [hP, List.append_assoc] at hT
   exact (zcO (zbQ hT).2).1
  have hdl := zcC hd
  rw [ei]
  refine zf ?_; simp only [zaS.l0]
  rw [hrd, Int.toNat_natCast]
  refine zd (by omega) (zd (by omega) (zd (by omega) ?_))
  by_cases c : d = 57
  ·subst c
   have ih := zhQ s p q o x hx q0 hT hT0 hne hl n a (j + 1) (by omega) (by rw [hP, List.append_assoc, List.replicate_succ]; rfl)
   refine ze (by decide) ?_
   rw [w64 (n := (a.length : Int) - 1) (by omega) (by omega)]
   exact ih
  ·have hdn : d.toNat ≠ 57 := fun hh => c (UInt8.toNat_inj.1 (by rw [hh]; rfl))
   obtain ⟨u1, u2, u3⟩ := zhz hd c
   obtain ⟨m1, m2⟩ := zkM (A := a) (d := d) (j := j) (by rw [hP] at hT; exact (zbQ hT).1) c (fun b r hbr => hT0 b (r ++ List.replicate j 57) (by rw [hP, hbr]; rfl))
   rw [← hP] at m1 m2
   have em : ((d.toNat : Int) + 1) % 256 = ((d + 1).toNat : Int) := by rw [u2]; omega
   have e1 : wrap64 ((a.length : Int) + 1) = ((a.length + 1 : Nat) : Int) := by rw [w64 (by omega) (by omega)]; omega
   have es : ((T.map fun b => (b.toNat : Int)).set a.length ((d + 1).toNat : Int)).take (a.length + 1) = (a ++ [d + 1]).map fun b => (b.toNat : Int) := by
    rw [hP, List.map_append, List.map_append, List.append_assoc]
    have hm : (a.map fun b => (b.toNat : Int)).length = a.length := List.length_map ..
    rw [← hm]
    generalize hA : (a.map fun b => (b.toNat : Int)) = A
    rw [List.set_append_right _ _ (Nat.le_refl _), Nat.sub_self, List.take_append, List.take_of_length_le (by omega), Nat.add_sub_cancel_left, List.map_append]
    simp [hA]
   rw [em, e1, Int.toNat_natCast, es, zm6, m2, m1]
   clear m1 m2 es hrd hT hT0 hP em e1
   refine zd (by omega) (zd (by omega) (zd (by omega) (zd (by omega) (zd (by omega) (zd (by omega) (zd (by rw [List.length_set, hml]; omega) (zi (Ev.now _) ?_)))))))
   rw [hlen, List.length_append, List.length_append, List.length_singleton, List.length_replicate, show x + ((a.length + 1 + j : Nat) : Int) - ((a.length + 1 + j : Nat) : Int) = x by omega]
theorem ziW {d r : List UInt8} {b : UInt8} (e : d = b :: r) {n : Nat} (hn : 1 ≤ n) : ∃ t, d.take n = b :: t := by
 subst e
 obtain ⟨m, rfl⟩ : ∃ m, n = m + 1 := ⟨n - 1, by omega⟩
 exact ⟨r.take m, rfl⟩
theorem zlV (s : Bool) {d r : List UInt8} {b : UInt8} (hd : d.all isD = true) (e : d = b :: r) (hb : b ≠ 48) (hl : d.length ≤ 2000) {x : Int} (hx : -100000 ≤ x ∧ x ≤ 100000) {n : Nat} (h1 : 1 ≤ n) (h2 : n ≤ d.length) :
  Ev (fun k => zaS.f k s (bx d) x (n : Int)) (s, bx (tr (dx (zg (d.take n) 0 + 1))), x + ((dx (zg (d.take n) 0 + 1)).length : Int) - (n : Int)) := by
 have hz := zE d
 obtain ⟨t, ht⟩ := ziW e h1
 have hlen : (d.take n).length = n := by rw [List.length_take]; omega
 have := zhQ s false (⟨#[]⟩ : ByteArray) 0 x hx (bx d) (T := d.take n) (zfa hd n) (fun b' r' h => by rw [ht] at h; rw [← (List.cons.inj h).1]; exact hb) (by rw [ht]; simp) (by omega) n (d.take n) 0 hlen (by simp)
 rw [hlen] at this
 unfold zaS.f
 rw [Int.toNat_natCast, zcT, zcx, w64 (n := (n : Int) - 1) (by omega) (by omega)]
 exact zd (by omega) (zd (by omega) this)
theorem zlw (s : Bool) {d : List UInt8} (hl : d.length ≤ 2000) (x : Int) {n : Nat} (h2 : n ≤ d.length) : Ev (fun k => zcZ.f k s (bx d) x (n : Int)) (s, bx (tr (d.take n)), x) := by
 have hz := zE d
 unfold zcZ.f
 rw [Int.toNat_natCast, zcT]
 exact zd (by omega) (zd (by omega) (Ev.bind (zi7 (by rw [List.length_take]; omega)) (Ev.now _)))
theorem zmH (s : Bool) {A B : List UInt8} {c : UInt8} (x : Int) (hl : (A ++ c :: B).length ≤ 2000) :
  zc0.f s (bx (A ++ c :: B)) x (A.length : Int) = some (if c.toNat < 53 then -1 else if 53 < c.toNat then 1 else if B ≠ [] then 1 else 0) := by
 have hz := zE (A ++ c :: B)
 rw [List.length_append, List.length_cons] at hz hl
 have e1 : wrap64 ((A.length : Int) + 1) = ((A.length + 1 : Nat) : Int) := by rw [w64 (by omega) (by omega)]; omega
 unfold zc0.f
 rw [e1, if_pos (by omega), if_pos (by omega), if_pos (by omega), Int.toNat_natCast, Int.toNat_natCast, zka]
 have e2 : ((A ++ c :: B).take (A.length + 1)).drop A.length = [c] := by simp [List.take_append, List.drop_append]
 rw [e2]
 unfold zbM.f
 have e3 : Lib.compareBytes (bx [c]).data.toList (⟨#[53]⟩ : ByteArray).data.toList = if c < 53 then -1 else if 53 < c then 1 else 0 := rfl
 have l1 : c < 53 ↔ c.toNat < 53 := UInt8.lt_iff_toNat_lt
 have l2 : 53 < c ↔ 53 < c.toNat := UInt8.lt_iff_toNat_lt
 rw [e3, Option.bind_some]
 by_cases c1 : c.toNat < 53
 ·rw [if_pos (l1.2 c1), if_pos c1, if_pos (by decide)]
 rw [if_neg (fun h => c1 (l1.1 h)), if_neg c1]
 by_cases c2 : 53 < c.toNat
 ·rw [if_pos (l2.2 c2), if_pos c2, if_pos (by decide)]
 rw [if_neg (fun h => c2 (l2.1 h)), if_neg c2, if_neg (by decide)]
 by_cases c3 : B = []
 ·subst c3
  rw [if_neg (by rw [List.length_nil] at hz; omega), if_neg (by simp)]
 ·have : 0 < B.length := List.length_pos_iff.2 c3
  rw [if_pos (by omega), if_pos c3]
theorem zjW (n : Nat) (h : n < 256) : Go.bits .and .u8 (n : Int) 1 = ((n % 2 : Nat) : Int) := by
 have : ∀ n : Fin 256, Go.bits .and .u8 (n.1 : Int) 1 = ((n.1 % 2 : Nat) : Int) := by decide +kernel
 exact this ⟨n, h⟩
theorem zma (s : Bool) {d A B : List UInt8} {c : UInt8} (hd : d.all isD = true) (x : Int) (hl : d.length ≤ 2000) (e : d = A ++ c :: B) :
  zcA.f s (bx d) x ((A.length + 1 : Nat) : Int) = some (decide (zg (A ++ [c]) 0 % 2 = 1)) := by
 subst e
 have hz := zE (A ++ c :: B)
 rw [List.length_append, List.length_cons] at hz hl
 have hc := zcC (zcO (zbQ hd).2).1
 have e1 : wrap64 (((A.length + 1 : Nat) : Int) - 1) = (A.length : Int) := by rw [w64 (by omega) (by omega)]; omega
 have hb := zbT (s := bx (A ++ c :: B)) (A := A) (B := B) (b := c) (by rw [zao])
 have e2 : ((c.toNat : Int) - 48) % 256 = ((c.toNat - 48 : Nat) : Int) := by omega
 have e3 : zg (A ++ [c]) 0 = 10 * zg A 0 + (c.toNat - 48) := by rw [zbE, zbU]; show _ * 10 ^ 1 + (_ * 10 ^ 0 + 0) = _; omega
 unfold zcA.f
 rw [e1, if_pos (by omega), if_pos (by omega), hb, e2, zjW _ (by omega), e3]
 congr 1
 apply decide_eq_decide.2
 omega
theorem zmq (s : Bool) : (if s = true then (⟨#[45]⟩ : ByteArray) else (⟨#[]⟩ : ByteArray)) = bx (sgT s) := by cases s <;> rfl
theorem zfV (s : Bool) {d r : List UInt8} {b : UInt8} (e : d = b :: r) (hl : d.length ≤ 2000) {x : Int} (h1 : -1100 ≤ x) (h2 : x < 1100) : Ev (fun k => zS.f k s (bx d) x) (bx (zbs s d x)) := by
 have hz := zE d
 have hlen : d.length = r.length + 1 := by rw [e]; simp
 unfold zS.f zbs
 refine zd ⟨by omega, by omega, by omega⟩ ?_
 rw [zmq]
 by_cases c1 : x < -5 ∨ x > 20
 ·obtain ⟨t, ht, ht2⟩ := zjv h1 h2
  have hts : t = bx (etx x) := za1.1 (by rw [ht2, zao])
  have hts2 := zhi x
  have hts3 := zE (etx x)
  subst hts
  refine zd c1 (zd (by omega) (Ev.bind ht (zd (by omega) (zi (Ev.now _) ?_))))
  rw [if_pos c1, zcT, zeo, show (⟨#[46]⟩ : ByteArray) = bx [46] from rfl, show (⟨#[101]⟩ : ByteArray) = bx [101] from rfl, show (⟨#[]⟩ : ByteArray) = bx [] from rfl, zaa, zaa, zaa]
  by_cases c2 : 1 < d.length
  ·rw [if_pos (by omega), if_pos c2, zaa, zaa]; simp
  ·rw [if_neg (by omega), if_neg c2, zaa, zaa]; simp
 refine ze c1 ?_
 rw [if_neg c1]
 by_cases c2 : x < 0
 ·refine zd c2 (zk (zf5 (by omega) (by omega)) (zi (Ev.now _) ?_))
  rw [if_pos c2, show (⟨#[48, 46]⟩ : ByteArray) = bx [48, 46] from rfl, zaa, zaa, zaa]; simp
 refine ze c2 ?_
 rw [if_neg c2]
 by_cases c3 : x + 1 < (d.length : Int)
 ·refine zd (by omega) (zi (Ev.now _) ?_)
  rw [if_pos c3, zcT, zeo, show (⟨#[46]⟩ : ByteArray) = bx [46] from rfl, zaa, zaa, zaa]; simp
 ·refine ze (by omega) ?_
  rw [hz]
  refine zk (zf5 (by omega) (by omega)) (zi (Ev.now _) ?_)
  rw [if_neg c3, zaa, zaa]
theorem zlg (r p : Nat) : hlf r p = -1 ∨ hlf r p = 0 ∨ hlf r p = 1 := by unfold hlf; split <;> (try split) <;> simp
theorem qgn {N n : Nat} (hN : N ≠ 0) (h1 : 1 ≤ n) (h2 : n < (tr (dx N)).length) : ∃ (A : List UInt8) (c : UInt8) (B : List UInt8), tr (dx N) = A ++ c :: B ∧ A.length = n ∧ dx (N / 10 ^ ((dx N).length - n)) = A ∧
  hlf (N % 10 ^ ((dx N).length - n)) (10 ^ ((dx N).length - n)) = (if c.toNat < 53 then -1 else if 53 < c.toNat then 1 else if B ≠ [] then 1 else 0) ∧ N % 10 ^ ((dx N).length - n) ≠ 0 := by
 obtain ⟨j, hj⟩ := zco (dx N)
 have hall := zbn N
 cases hd : (tr (dx N)).drop n with
 | nil =>
  have := congrArg List.length hd
  rw [List.length_drop] at this
  simp at this; omega
 | cons c B =>
  have e1 : tr (dx N) = (tr (dx N)).take n ++ c :: B := by rw [← hd, List.take_append_drop]
  have hlA : ((tr (dx N)).take n).length = n := by rw [List.length_take]; omega
  generalize hA : (tr (dx N)).take n = A at e1 hlA
  have e2 : dx N = A ++ (c :: (B ++ List.replicate j 48)) := by
   conv => lhs; rw [hj, e1]
   simp
  have e3 : (c :: (B ++ List.replicate j 48)).length = (dx N).length - n := by
   have := congrArg List.length e2
   rw [List.length_append] at this
   omega
  obtain ⟨p1, p2⟩ := zhg hN e2 (fun h => by rw [h] at hlA; simp at hlA; omega)
  rw [e3] at p1 p2
  have hR : (c :: (B ++ List.replicate j 48)).all isD = true := by rw [e2] at hall; exact (zbQ hall).2
  have hne : zg (B ++ List.replicate j 48) 0 ≠ 0 ↔ B ≠ [] := by
   rw [zha hall (A := A ++ [c]) (B := B ++ List.replicate j 48) (by rw [e2]; simp), e1]
   rw [List.length_append, List.length_append, List.length_singleton, List.length_cons]
   constructor
   ·intro h hB; rw [hB] at h; simp at h
   ·intro h; have := List.length_pos_iff.2 h; omega
  refine ⟨A, c, B, e1, hlA, p1, ?_, ?_⟩
  ·rw [p2, ← e3, zlf hR]
   by_cases d1 : c.toNat < 53
   ·rw [if_pos d1, if_pos d1]
   rw [if_neg d1, if_neg d1]
   by_cases d2 : 53 < c.toNat
   ·rw [if_pos d2, if_pos d2]
   rw [if_neg d2, if_neg d2]
   by_cases c1 : B = []
   ·rw [if_neg (fun h => hne.1 h c1), if_neg (fun h => h c1)]
   ·rw [if_pos (hne.2 c1), if_pos c1]
  ·rw [p2]
   exact (zha hall e2).2 (by rw [hlA]; exact h2)
def upS (m : Int) (s : Bool) (c : Int) (o : Bool) : Bool := if m = 4 then !s else if m = 5 then s else if m = 2 then decide (0 ≤ c) else if m = 1 then (decide (0 < c) || (decide (c = 0) && o)) else false
theorem zki {N n : Nat} {A : List UInt8} (h1 : 1 ≤ n) (hA : A.length = n) (h : dx (N / 10 ^ ((dx N).length - n)) = A) (hh : ∀ b r, A = b :: r → b ≠ 48) : N / 10 ^ ((dx N).length - n) ≠ 0 := by
 intro hz
 rw [hz] at h
 have : dx 0 = [48] := by decide
 rw [this] at h
 exact hh 48 [] h.symm rfl
theorem zm9 {l A B : List UInt8} (e : l = A ++ B) : l.take A.length = A := by rw [e]; simp
theorem zkw {N : Nat} (hN : N ≠ 0) {A R : List UInt8} (e : tr (dx N) = A ++ R) : ∀ b r, A = b :: r → b ≠ 48 := by
 intro b r hb
 obtain ⟨b0, r0, e0, h0⟩ := zai hN
 obtain ⟨r1, h1⟩ := zbi e0 h0
 rw [h1, hb] at e
 rw [← (List.cons.inj e).1]; exact h0
theorem zfT {N n : Nat} (hN : N ≠ 0) (h1 : 1 ≤ n) (h2 : n ≤ (dx N).length) : (dx (N / 10 ^ ((dx N).length - n))).length = n ∧ N / 10 ^ ((dx N).length - n) ≠ 0 := by
 have e2 : dx N = (dx N).take n ++ (dx N).drop n := (List.take_append_drop n _).symm
 have hl : ((dx N).take n).length = n := by rw [List.length_take]; omega
 obtain ⟨p1, p2⟩ := zhg hN e2 (fun hh => by rw [hh] at hl; simp at hl; omega)
 rw [List.length_drop] at p1
 refine ⟨by rw [p1, hl], fun hz => ?_⟩
 obtain ⟨b, r, hb, hb0⟩ := zai hN
 obtain ⟨t, ht⟩ := ziW hb h1
 rw [hz, ht] at p1
 have h0 : dx 0 = [48] := by decide
 rw [h0] at p1
 exact hb0 (List.cons.inj p1).1.symm
theorem zfr {q n : Nat} (h : (dx q).length = n) (hq : q ≠ 0) : (dx (q + 1)).length ≤ n + 1 ∧ n ≤ (dx (q + 1)).length := by
 have hp := zdG hq
 have k0 := zfq q
 have k1 := zfp hq
 rw [h] at k0 k1 hp
 constructor
 ·apply zhf _ (by omega)
  rw [Nat.pow_succ]; omega
 ·apply Nat.le_of_not_lt
  intro hlt
  have k2 := zfq (q + 1)
  have k3 : 10 ^ (dx (q + 1)).length ≤ 10 ^ (n - 1) := Nat.pow_le_pow_right (by omega) (by omega)
  omega
theorem zkK {d r : List UInt8} {b : UInt8} (hd : d.all isD = true) (e : d = b :: r) (hb : b ≠ 48) : zg d 0 ≠ 0 := by
 subst e
 rw [zbU]
 have h1 := zfQ (zcO hd).1 hb
 have hp : 0 < 10 ^ r.length := Nat.pow_pos (by omega)
 have : 1 * 10 ^ r.length ≤ (b.toNat - 48) * 10 ^ r.length := Nat.mul_le_mul_right _ (by omega)
 omega
theorem zll {f : Int} (h : isF f) (s : Bool) {d r : List UInt8} {b : UInt8} (hd : d.all isD = true) (e : d = b :: r) (hb : b ≠ 48) (hl : d.length ≤ 1200) {x : Int} (hx : -100000 ≤ x ∧ x ≤ 100000) (w : Int) :
  Ev (fun k => zca.f k s (bx d) x f w) (decide ((zp f 1 s (zg d 0) (x - (d.length : Int) + 1)).1 = w)) := by
 have hz := zE d
 have e1 : tz0 d = b :: r := by
  subst e
  unfold tz0
  rw [List.dropWhile_cons, if_neg (by simpa using hb)]
 have hT := zfD hd e1
 rw [← e] at hT
 have hp := zhY (s := bx d) (by omega)
 rw [zml hT hd (by omega)] at hp
 have hr := zg3 h (m := 1) (by decide) s (zkK hd e hb) (p := d.length) hl (zcc hd) (x - (d.length : Int) + 1)
 have hw : Ev (fun k => zc1.f k s (bx d) x f 1) ((zp f 1 s (zg d 0) (x - (d.length : Int) + 1)).1, (zp f 1 s (zg d 0) (x - (d.length : Int) + 1)).2, 0) := by
  unfold zc1.f
  rw [hz, w64 (n := x - (d.length : Int)) (by omega) (by omega), w64 (n := x - (d.length : Int) + 1) (by omega) (by omega)]
  exact Ev.bind hp (Ev.bind hr (Ev.now _))
 unfold zca.f
 exact Ev.bind hw (Ev.now _)
theorem zkn {f m : Int} (h : isF f) (s : Bool) {q : Nat} (hq : q ≠ 0) (x : Int) : zp f m s (zg (tr (dx q)) 0) (x + ((dx q).length : Int) - ((tr (dx q)).length : Int)) = zp f m s q x := by
 have h1 := zkL (dx q)
 have h2 := zaO (dx q)
 rw [zbV] at h1
 have h3 : zg (tr (dx q)) 0 ≠ 0 := fun hz => hq (by rw [h1, hz, Nat.zero_mul])
 have := zg2 (m := m) h s h3 ((dx q).length - (tr (dx q)).length) x
 rw [← h1] at this
 rw [this]
 congr 1; omega
theorem zhB {f : Int} (h : isF f) (s : Bool) {q : Nat} (hq : q ≠ 0) (hl : (dx q).length ≤ 1200) {x : Int} (hx : -50000 ≤ x ∧ x ≤ 50000) (w : Int) :
  Ev (fun k => zca.f k s (bx (tr (dx q))) (x + ((dx q).length : Int) - 1) f w) (decide ((zp f 1 s q x).1 = w)) := by
 obtain ⟨b, r, e, hb⟩ := zai hq
 obtain ⟨r', e'⟩ := zbi e hb
 have h2 := zaO (dx q)
 have := zll h s (zdh (zbn q)) e' hb (by omega) (x := x + ((dx q).length : Int) - 1) (by omega) w
 rw [show x + ((dx q).length : Int) - 1 - ((tr (dx q)).length : Int) + 1 = x + ((dx q).length : Int) - ((tr (dx q)).length : Int) by omega, zkn h s hq] at this
 exact this
def srt (f w : Int) (s : Bool) (N G : Nat) : Nat → Nat → List UInt8
 | 0, n => zbs s (tr (dx N)) (((dx N).length : Int) - 1 - G)
 | j + 1, n =>
  if (zp f 1 s (N / 10 ^ ((dx N).length - n)) (((dx N).length : Int) - G - n)).1 = w ∧ ¬ ((zp f 1 s (N / 10 ^ ((dx N).length - n) + 1) (((dx N).length : Int) - G - n)).1 = w ∧ upS 1 s (hlf (N % 10 ^ ((dx N).length - n)) (10 ^ ((dx N).length - n))) (decide (N / 10 ^ ((dx N).length - n) % 2 = 1)) = true) then
   zbN s (N / 10 ^ ((dx N).length - n)) (((dx N).length : Int) - G - n)
  else if (zp f 1 s (N / 10 ^ ((dx N).length - n) + 1) (((dx N).length : Int) - G - n)).1 = w then zbN s (N / 10 ^ ((dx N).length - n) + 1) (((dx N).length : Int) - G - n)
  else srt f w s N G j (n + 1)
theorem znJ {s : Bool} {c : Int} {o : Bool} : upS 1 s c o = (decide (0 < c) || (decide (c = 0) && o)) := rfl
theorem ziF {f : Int} (h : isF f) (s : Bool) {N G : Nat} (hN : N ≠ 0) (hl : (dx N).length ≤ 800) (hg : G ≤ 1074) (w : Int) : ∀ (j n : Nat), 1 ≤ n → n + j = (tr (dx N)).length →
  Ev (fun k => zr.l0 k s (bx (tr (dx N))) (((dx N).length : Int) - 1 - G) f w (n : Int)) (bx (srt f w s N G j n), 0)
 | 0, n, h1, hj => by
  obtain ⟨b, r, e, hb⟩ := zai hN
  obtain ⟨r', e'⟩ := zbi e hb
  have htl := zaO (dx N)
  have hz := zE (tr (dx N))
  have hpos := zdG hN
  refine zf ?_; simp only [zr.l0]
  exact ze (by omega) (Ev.bind (zfV s e' (by omega) (by omega) (by omega)) (Ev.now _))
 | j + 1, n, h1, hj => by
  obtain ⟨b, r, e, hb⟩ := zai hN
  obtain ⟨r', e'⟩ := zbi e hb
  have htl := zaO (dx N)
  have hz := zE (tr (dx N))
  have hpos := zdG hN
  have ih := ziF h s hN hl hg w j (n + 1) (by omega) (by omega)
  have hct : n < (tr (dx N)).length := by omega
  obtain ⟨A, d, B, t1, t2, t3, t4, t5⟩ := qgn hN h1 hct
  have hhead := zkw hN t1
  have hq := zki h1 t2 t3 hhead
  have hDall := zdh (zbn N)
  have hrest := zmH s (A := A) (B := B) (c := d) (((dx N).length : Int) - 1 - G) (by rw [← t1]; omega)
  rw [← t1, t2, ← t4] at hrest
  have hA0 : A ≠ [] := fun hh => by rw [hh] at t2; simp at t2; omega
  have hodd : zcA.f s (bx (tr (dx N))) (((dx N).length : Int) - 1 - G) (n : Int) = some (decide (N / 10 ^ ((dx N).length - n) % 2 = 1)) := by
   rcases List.eq_nil_or_concat A with hh | ⟨A', c', hh⟩
   ·exact absurd hh hA0
   ·rw [List.concat_eq_append] at hh
    have := zma s (A := A') (B := d :: B) (c := c') hDall (((dx N).length : Int) - 1 - G) (by omega) (by rw [t1, hh]; simp)
    rw [← hh] at this
    have hl2 : n = A'.length + 1 := by rw [← t2, hh]; simp
    rw [hl2, this, ← hl2, ← t3, zbV]
  have htk : (tr (dx N)).take n = A := by rw [← t2]; exact zm9 t1
  have hv : zg ((tr (dx N)).take n) 0 = N / 10 ^ ((dx N).length - n) := by rw [htk, ← t3, zbV]
  have hmore := zlV s hDall e' hb (by omega) (x := ((dx N).length : Int) - 1 - G) (by omega) h1 (by omega)
  have hless := zlw s (d := tr (dx N)) (by omega) (((dx N).length : Int) - 1 - G) (n := n) (by omega)
  rw [hv] at hmore
  rw [htk] at hless
  unfold srt
  generalize hc : hlf (N % 10 ^ ((dx N).length - n)) (10 ^ ((dx N).length - n)) = c at hrest ⊢
  have hcr : c = -1 ∨ c = 0 ∨ c = 1 := hc ▸ zlg _ _
  generalize hqq : N / 10 ^ ((dx N).length - n) = q at hmore hodd hq t3 ⊢
  have hlq : (dx q).length = n := by rw [t3, t2]
  obtain ⟨u1, u2⟩ := zfr hlq hq
  have exx : ((dx N).length : Int) - 1 - G = ((dx N).length : Int) - G - n + ((dx q).length : Int) - 1 := by rw [hlq]; omega
  have exu : ((dx N).length : Int) - 1 - G + ((dx (q + 1)).length : Int) - n = ((dx N).length : Int) - G - n + ((dx (q + 1)).length : Int) - 1 := by omega
  rw [exu] at hmore
  rw [← t3] at hless
  have i1 := zhB h s hq (by omega) (x := ((dx N).length : Int) - G - n) (by omega) w
  rw [← exx] at i1
  have i2 := zhB h s (q := q + 1) (Nat.succ_ne_zero q) (by omega) (x := ((dx N).length : Int) - G - n) (by omega) w
  have hp1 : Ev (fun k => zS.f k s (bx (tr (dx q))) (((dx N).length : Int) - 1 - G)) (bx (zbN s q (((dx N).length : Int) - G - n))) := by
   obtain ⟨b2, r2, e2, hb2⟩ := zai hq
   obtain ⟨r3, e3⟩ := zbi e2 hb2
   have hl3 := zaO (dx q)
   have := zfV s e3 (x := ((dx N).length : Int) - 1 - G) (by omega) (by omega) (by omega)
   unfold zbN
   rw [← exx]
   exact this
  have hp2 : Ev (fun k => zS.f k s (bx (tr (dx (q + 1)))) (((dx N).length : Int) - G - n + ((dx (q + 1)).length : Int) - 1)) (bx (zbN s (q + 1) (((dx N).length : Int) - G - n))) := by
   obtain ⟨b2, r2, e2, hb2⟩ := zai (n := q + 1) (Nat.succ_ne_zero q)
   obtain ⟨r3, e3⟩ := zbi e2 hb2
   have hl3 := zaO (dx (q + 1))
   exact zfV s e3 (by omega) (by omega) (by omega)
  generalize hx : ((dx N).length : Int) - G - n + ((dx (q + 1)).length : Int) - 1 = xu at hmore i2 hp2
  generalize hP : ((dx N).length : Int) - 1 - G = P at *
  have j5 : ∀ (a b : Bool) {r : ByteArray}, (a = true → r = bx (zbN s q (((dx N).length : Int) - G - n))) → (a = false → b = true → r = bx (zbN s (q + 1) (((dx N).length : Int) - G - n))) →
    (a = false → b = false → r = bx (srt f w s N G j (n + 1))) →
    Ev (fun k => zr.j5 k s (bx (tr (dx N))) P f w (n : Int) s (bx (tr (dx q))) P s (bx (tr (dx (q + 1)))) xu a b) (r, 0) := by
   intro a b r ha hb' hc'
   refine zf ?_; simp only [zr.j5]
   cases a with
   | true => rw [ha rfl]; exact zd rfl (Ev.bind hp1 (Ev.now _))
   | false =>
    refine ze (by simp) ?_
    cases b with
    | true => rw [hb' rfl rfl]; exact zd rfl (Ev.bind hp2 (Ev.now _))
    | false =>
     rw [hc' rfl rfl, w64 (n := (n : Int) + 1) (by omega) (by omega)]
     exact ze (by simp) ih
  refine zf ?_; simp only [zr.l0]
  refine zd (by omega) (Ev.bind hless (Ev.bind hmore (Ev.bind i1 (Ev.bind i2 ?_))))
  dsimp only
  by_cases ca : (zp f 1 s q (((dx N).length : Int) - G - n)).1 = w
  ·rw [decide_eq_true ca]
   refine zd rfl ?_
   by_cases cb : (zp f 1 s (q + 1) (((dx N).length : Int) - G - n)).1 = w
   ·rw [decide_eq_true cb]
    refine zf ?_; simp only [zr.j3]
    refine zd trivial (zk hrest ?_)
    rw [znJ]
    rcases hcr with rfl | rfl | rfl
    ·refine zd (by decide) (j5 _ _ (fun _ => ?_) (fun hh => by cases hh) (fun hh => by cases hh))
     rw [if_pos ⟨ca, fun hh => by revert hh; simp⟩]
    ·generalize decide (q % 2 = 1) = o at hodd ⊢
     refine ze (by decide) (zd rfl (zk hodd ?_))
     cases o with
     | false => exact j5 _ _ (fun _ => by rw [if_pos ⟨ca, fun hh => absurd hh.2 (by decide)⟩]) (fun hh => by cases hh) (fun hh => by cases hh)
     | true => exact j5 _ _ (fun hh => by cases hh) (fun _ _ => by rw [if_neg (fun hh => hh.2 ⟨cb, by decide⟩), if_pos cb]) (fun _ hh => by cases hh)
    ·refine ze (by decide) (ze (by decide) (j5 _ _ (fun hh => by cases hh) (fun _ _ => ?_) (fun _ hh => by cases hh)))
     rw [if_neg (fun hh2 => hh2.2 ⟨cb, by simp⟩), if_pos cb]
   ·rw [decide_eq_false cb]
    refine zf ?_; simp only [zr.j3]
    refine ze (by simp) (j5 _ _ (fun _ => ?_) (fun hh => by cases hh) (fun hh => by cases hh))
    rw [if_pos ⟨ca, fun hh => cb hh.1⟩]
  ·rw [decide_eq_false ca]
   refine ze (by simp) ?_
   refine zf ?_; simp only [zr.j3]
   refine ze (by simp) (j5 _ _ (fun hh => by cases hh) (fun _ hh => ?_) (fun _ hh => ?_))
   ·rw [if_neg (fun hh2 => ca hh2.1), if_pos (of_decide_eq_true hh)]
   ·rw [if_neg (fun hh2 => ca hh2.1), if_neg (of_decide_eq_false hh)]
def soS (f : Int) (w : Nat) : List UInt8 := if zc6 f w = true then nmT f w else srt f (w : Int) (zq f w) (nN f w) (nG f w) ((tr (dx (nN f w))).length - 1) 1
theorem zjF {f : Int} (h : isF f) {w : Nat} (hw : w < 2 * sg f) : Ev (fun k => zr.f k f (w : Int)) (bx (soS f w), 0) := by
 unfold zr.f soS
 refine Ev.bind (zlZ h hw) ?_
 by_cases hn : zc6 f w = true
 ·rw [if_pos hn]
  refine zd hn ?_
  refine zf ?_; simp only [zr.j0]
  exact zd trivial (Ev.now _)
 ·rw [if_neg hn]
  obtain ⟨c5, c4, c1⟩ := zlj (by simpa using hn)
  have hf := zk3 h c5 c4
  obtain ⟨hN, hl, hg⟩ := zeI h c1 hf
  obtain ⟨b, r, e, hb⟩ := zai hN
  obtain ⟨r', e'⟩ := zbi e hb
  have hp : 1 ≤ (tr (dx (nN f w))).length := by rw [e']; simp
  refine ze hn ?_
  rw [show decide (¬ (0 : Int) = 0) = false from rfl]
  refine zf ?_; simp only [zr.j0]
  refine ze (by simp) (Ev.bind (zkp h hw c1 hf) ?_)
  exact ziF h (zq f w) hN hl hg (w : Int) ((tr (dx (nN f w))).length - 1) 1 (by omega) (by omega)
theorem zkq {f m : Int} (h : isF f) {w : Nat} (hw : w < 2 * sg f) (c1 : cls f w ≠ 1) (c4 : cls f w < 4) : zp f m (zq f w) (nN f w) (-(nG f w : Int)) = ((w : Int), 0) := by
 have W := zd8 h c1 c4
 have h1 := zmO h (m := m) hw c1 c4
 rw [W.eq, V_D] at h1
 have h2 := zkl (m := m) h (zq f w) W.ne (we f w)
 rw [h1] at h2
 exact h2
def ziS (f : Int) (w : Nat) : Int := if zq f w = true then -((w % sg f : Nat) : Int) else ((w % sg f : Nat) : Int)
theorem zew {f : Int} (h : isF f) : 0 < mo f * 2 ^ fb f ∧ mo f * 2 ^ fb f < sg f := by
 have := zev h
 have := zh (fb f)
 have := zcD h
 exact ⟨Nat.mul_pos (by omega) (zh _), by omega⟩
theorem zkd {f : Int} (h : isF f) {w : Nat} (c5 : cls f w ≠ 5) : w % sg f ≤ mo f * 2 ^ fb f ∧ (w % sg f = mo f * 2 ^ fb f ↔ ¬ cls f w < 4) := by
 have hi := zew h
 have h2 := zh (fb f)
 have h3 : 2 ^ fb f ≤ mo f * 2 ^ fb f := Nat.le_mul_of_pos_left _ (by have := zcD h; omega)
 unfold cls at c5 ⊢
 split
 ·omega
 ·split
  ·omega
  ·split
   ·omega
   ·split
    ·omega
    ·rename_i a1 a2 a3 a4
     rw [if_neg a1, if_neg a2, if_neg a3, if_neg a4] at c5
     exact absurd rfl c5
theorem zmt {n n' a b a' b' : Nat} (e : a + b' = a' + b) (h : n * 10 ^ a ≤ n' * 10 ^ b) : n * 10 ^ a' ≤ n' * 10 ^ b' := by
 have h1 : n * 10 ^ a * 10 ^ b' ≤ n' * 10 ^ b * 10 ^ b' := Nat.mul_le_mul_right _ h
 rw [Nat.mul_assoc, ← Nat.pow_add, e, Nat.pow_add, ← Nat.mul_assoc, Nat.mul_right_comm n'] at h1
 exact Nat.le_of_mul_le_mul_right h1 (za0 b)
theorem zdC {f m : Int} (h : isF f) (s : Bool) {n n' : Nat} (hn : n ≠ 0) (hn' : n' ≠ 0) {x x' : Int} {a b : Nat} (hx : (a : Int) - b = x - x') (hle : n * 10 ^ a ≤ n' * 10 ^ b) :
  ∃ c c' : Nat, (zp f m s n x).1 = ((c + sgn f s : Nat) : Int) ∧ (zp f m s n' x').1 = ((c' + sgn f s : Nat) : Int) ∧ c ≤ c' ∧ c' ≤ mo f * 2 ^ fb f := by
 have h1 := zmt (a' := x.toNat + (-x').toNat) (b' := x'.toNat + (-x).toNat) (by omega) hle
 rw [Nat.pow_add, Nat.pow_add, ← Nat.mul_assoc, ← Nat.mul_assoc] at h1
 exact zmP (m := m) h s (Nat.mul_ne_zero hn (Nat.ne_of_gt (za0 _))) (Nat.mul_ne_zero hn' (Nat.ne_of_gt (za0 _))) (za0 _) (za0 _) h1 0
theorem ziT {f : Int} (h : isF f) (s : Bool) {c : Nat} (hc : c ≤ mo f * 2 ^ fb f) : ziS f (c + sgn f s) = (if s = true then -(c : Int) else (c : Int)) ∧ c + sgn f s < 2 * sg f ∧ cls f (c + sgn f s) ≠ 5 := by
 have hi := zew h
 have hm := zgg h (x := c) (by omega) s
 have e : zq f (c + sgn f s) = s := by
  unfold zq sgn
  cases s
  ·rw [if_neg (by simp)]; exact decide_eq_false (by omega)
  ·rw [if_pos rfl]; exact decide_eq_true (by omega)
 refine ⟨?_, ?_, ?_⟩
 ·unfold ziS
  rw [hm, e]
 ·unfold sgn; split <;> omega
 ·unfold cls
  rw [hm]
  split
  ·omega
  ·split
   ·omega
   ·split
    ·omega
    ·split <;> omega
def z8 (l : List UInt8) : Int := if tz0 l = [] then -1 else (l.length : Int) - ((tz0 l).length : Int)
def zax (l : List UInt8) : Int := ((tr l).length : Int) - 1
def zbt (l : List UInt8) : Int := zax l - z8 l + 1
theorem zjc (l : List UInt8) (c : UInt8) : tz0 (l ++ [c]) = if tz0 l = [] then tz0 [c] else tz0 l ++ [c] := by
 induction l with
 | nil => rfl
 | cons b l ih =>
  unfold tz0 at *
  by_cases hb : b = 48
  ·subst hb
   rw [List.cons_append, List.dropWhile_cons, List.dropWhile_cons]
   simpa using ih
  ·simp [hb]
theorem zns {c : UInt8} (h : c ≠ 48) : tz0 [c] = [c] := by unfold tz0; rw [List.dropWhile_cons, if_neg (by simpa using h)]
theorem znr : tz0 [48] = [] := by decide
theorem zk8 (l : List UInt8) {c : UInt8} (h : c ≠ 48) : z8 (l ++ [c]) = if z8 l < 0 then (l.length : Int) else z8 l := by
 have hl := zgn l
 unfold z8
 rw [zjc, zns h]
 by_cases e : tz0 l = []
 ·simp [e]
 ·simp only [if_neg e]
  rw [if_neg (by simp), if_neg (by omega)]
  simp; omega
theorem zk7 (l : List UInt8) : z8 (l ++ [48]) = z8 l := by
 unfold z8
 rw [zjc, znr]
 by_cases e : tz0 l = []
 ·simp [e]
 ·simp only [if_neg e]
  rw [if_neg (by simp)]
  simp; omega
theorem zlI (l : List UInt8) {c : UInt8} (h : c ≠ 48) : zax (l ++ [c]) = (l.length : Int) := by
 unfold zax; rw [zcK l h]; simp
theorem zlH (l : List UInt8) : zax (l ++ [48]) = zax l := by unfold zax; rw [zeU]
theorem zhu (l : List UInt8) : -1 ≤ z8 l ∧ z8 l ≤ l.length ∧ -1 ≤ zax l ∧ zax l ≤ l.length := by
 have h1 := zaO l
 have h2 := zgn l
 unfold z8 zax
 split <;> omega
def dg (t : List UInt8) : List UInt8 := (t.takeWhile (· != 101)).filter isD
theorem zfx {s : ByteArray} (hs : s.size ≤ 1000000) : ∀ (B A E : List UInt8), tl s = A ++ B → E.length ≤ A.length →
  Ev (fun k => zO.l0 k s (z8 E) (zax E) (E.length : Int) (A.length : Int)) (zbt (E ++ dg B))
 | [], A, E, he, hE => by
  have hz := zaX he
  simp only [List.length_nil] at hz
  obtain ⟨f1, f2, f3, f4⟩ := zhu E
  refine zf ?_; simp only [zO.l0]
  refine ze (by omega) (zi (Ev.now _) ?_)
  rw [w64 (n := zax E - z8 E) (by omega) (by omega), w64 (n := zax E - z8 E + 1) (by omega) (by omega), show dg [] = [] from rfl, List.append_nil]; rfl
 | c :: B, A, E, he, hE => by
  have hz := zaX he
  simp only [List.length_cons] at hz
  have hb := zbT he
  obtain ⟨f1, f2, f3, f4⟩ := zhu E
  have he2 : tl s = (A ++ [c]) ++ B := by rw [he]; simp
  have hl : ((A ++ [c]).length : Int) = (A.length : Int) + 1 := by simp
  have nx : wrap64 ((A.length : Int) + 1) = ((A ++ [c]).length : Int) := by rw [w64 (by omega) (by omega), hl]
  have ne : wrap64 ((E.length : Int) + 1) = ((E ++ [c]).length : Int) := by rw [w64 (by omega) (by omega)]; simp
  refine zf ?_; simp only [zO.l0]
  rw [hb, nx, ne]
  refine zd (by omega) (zd (by omega) (zd (by omega) ?_))
  by_cases c1 : c = 101
  ·subst c1
   refine ze (by decide) (zi (Ev.now _) ?_)
   rw [w64 (n := zax E - z8 E) (by omega) (by omega), w64 (n := zax E - z8 E + 1) (by omega) (by omega), show dg (101 :: B) = [] from rfl, List.append_nil]; rfl
  ·have c1' : (c.toNat : Int) ≠ 101 := fun hh => c1 (UInt8.toNat_inj.1 (by show _ = 101; omega))
   have hdg : dg (c :: B) = if isD c = true then c :: dg B else dg B := by
    unfold dg
    rw [List.takeWhile_cons, if_pos (by simpa using c1), List.filter_cons]
   refine zd c1' (zd (by omega) (zd (by omega) ?_))
   have skip : isD c = false → Ev (fun k => zO.l0 k s (z8 E) (zax E) (E.length : Int) ((A ++ [c]).length : Int)) (zbt (E ++ dg (c :: B))) := by
    intro hd
    rw [hdg, if_neg (by simp [hd])]
    exact zfx hs B (A ++ [c]) E he2 (by simp; omega)
   by_cases c2 : (c.toNat : Int) < 48
   ·exact zd c2 (skip (by unfold isD; exact decide_eq_false (by omega)))
   refine ze c2 (zd (by omega) (zd (by omega) ?_))
   by_cases c3 : (c.toNat : Int) > 57
   ·exact zd c3 (skip (by unfold isD; exact decide_eq_false (by omega)))
   refine ze c3 (zd (by omega) (zd (by omega) ?_))
   have hd : isD c = true := by unfold isD; exact decide_eq_true (by omega)
   have ih := zfx hs B (A ++ [c]) (E ++ [c]) he2 (by simp; omega)
   rw [hdg, if_pos hd, show E ++ c :: dg B = E ++ [c] ++ dg B by simp]
   by_cases c4 : c = 48
   ·subst c4
    rw [zk7, zlH] at ih
    exact ze (by decide) ih
   ·have c4' : (c.toNat : Int) ≠ 48 := fun hh => c4 (UInt8.toNat_inj.1 (by show _ = 48; omega))
    rw [zk8 E c4, zlI E c4] at ih
    refine zd c4' ?_
    by_cases c5 : z8 E < 0
    ·rw [if_pos c5] at ih
     exact zd c5 ih
    ·rw [if_neg c5] at ih
     exact ze c5 ih
theorem zhr {s : ByteArray} (hs : s.size ≤ 1000000) : Ev (fun k => zO.f k s) (zbt (dg (tl s))) := by
 have := zfx hs (tl s) [] [] (by simp) (by simp)
 rw [List.nil_append] at this
 unfold zO.f
 exact this
theorem znt (i : Nat) (l : List UInt8) : tz0 (List.replicate i 48 ++ l) = tz0 l := by
 induction i with
 | zero => rfl
 | succ i ih =>
  rw [List.replicate_succ, List.cons_append]
  have : tz0 (48 :: (List.replicate i 48 ++ l)) = tz0 (List.replicate i 48 ++ l) := by unfold tz0; rw [List.dropWhile_cons]; simp
  rw [this, ih]
theorem zjb {l r : List UInt8} {b : UInt8} (e : l = b :: r) (hb : b ≠ 48) : tz0 l = l := by
 subst e; unfold tz0; rw [List.dropWhile_cons, if_neg (by simpa using hb)]
theorem ziG (i j : Nat) {d r : List UInt8} {b : UInt8} (e : d = b :: r) (hb : b ≠ 48) (ht : tr d = d) : zbt (List.replicate i 48 ++ d ++ List.replicate j 48) = d.length := by
 have h1 : tz0 (List.replicate i 48 ++ d ++ List.replicate j 48) = d ++ List.replicate j 48 := by
  rw [List.append_assoc, znt]
  exact zjb (r := r ++ List.replicate j 48) (by rw [e]; rfl) hb
 have h2 : tr (List.replicate i 48 ++ d ++ List.replicate j 48) = List.replicate i 48 ++ d := by
  rw [zd4]
  rcases List.eq_nil_or_concat d with hd | ⟨a, x, hd⟩
  ·rw [e] at hd; cases hd
  ·rw [List.concat_eq_append] at hd
   have hx : x ≠ 48 := zgj (l := d) (by rw [ht]; exact hd)
   rw [hd, ← List.append_assoc, zcK _ hx]
 have hne : d ++ List.replicate j 48 ≠ [] := by rw [e]; simp
 unfold zbt z8 zax
 rw [h1, h2, if_neg hne]
 simp only [List.length_append, List.length_replicate]
 omega
theorem zbD {l : List UInt8} (h : l.all isD = true) (T : List UInt8) : dg (l ++ T) = l ++ dg T := by
 induction l with
 | nil => rfl
 | cons c l ih =>
  obtain ⟨h1, h2⟩ := zcO h
  have hc := zcC h1
  have : c ≠ 101 := fun hh => by rw [hh] at hc; revert hc; decide
  rw [List.cons_append, List.cons_append, ← ih h2]
  unfold dg
  rw [List.takeWhile_cons, if_pos (by simpa using this), List.filter_cons, if_pos h1]
theorem zc2 {c : UInt8} (h1 : c ≠ 101) (h2 : isD c = false) (T : List UInt8) : dg (c :: T) = dg T := by
 unfold dg
 rw [List.takeWhile_cons, if_pos (by simpa using h1), List.filter_cons, if_neg (by simp [h2])]
theorem zg5 (T : List UInt8) : dg (101 :: T) = [] := rfl
theorem zfl {l : List UInt8} (h : l.all isD = true) : dg l = l := by
 have := zbD h []
 rw [List.append_nil] at this
 rw [this, show dg [] = [] from rfl, List.append_nil]
theorem zkv (s : Bool) (T : List UInt8) : dg (sgT s ++ T) = dg T := by
 cases s
 ·rfl
 ·exact zc2 (by decide) (by decide) T
theorem zhs (s : Bool) {d r : List UInt8} {b : UInt8} (hd : d.all isD = true) (e : d = b :: r) (hb : b ≠ 48) (ht : tr d = d) (x : Int) : zbt (dg (zbs s d x)) = d.length := by
 have key : ∃ i j, dg (zbs false d x) = List.replicate i 48 ++ d ++ List.replicate j 48 := by
  unfold zbs
  rw [show sgT false = [] from rfl, List.nil_append]
  by_cases c1 : x < -5 ∨ x > 20
  ·rw [if_pos c1, List.append_assoc, zbD (zfa hd 1)]
   refine ⟨0, 0, ?_⟩
   by_cases c2 : 1 < d.length
   ·rw [if_pos c2, List.cons_append, zc2 (by decide) (by decide), zbD (zgF hd 1), zg5, List.append_nil, List.take_append_drop]
    simp
   ·rw [if_neg c2, List.nil_append, zg5, List.take_of_length_le (by omega)]
    simp
  rw [if_neg c1]
  by_cases c2 : x < 0
  ·rw [if_pos c2]
   refine ⟨(-x - 1).toNat + 1, 0, ?_⟩
   have h0 : dg (48 :: 46 :: (List.replicate (-x - 1).toNat 48 ++ d)) = 48 :: dg (46 :: (List.replicate (-x - 1).toNat 48 ++ d)) := zbD (l := [48]) (by decide) _
   rw [h0, zc2 (by decide) (by decide), zbD (ze9 _), zfl hd, List.replicate_succ]
   simp
  rw [if_neg c2]
  by_cases c3 : x + 1 < (d.length : Int)
  ·rw [if_pos c3]
   refine ⟨0, 0, ?_⟩
   rw [zbD (zfa hd _), zc2 (by decide) (by decide), zfl (zgF hd _)]
   simp
  ·rw [if_neg c3]
   refine ⟨0, (x + 1 - (d.length : Int)).toNat, ?_⟩
   rw [zbD hd, zfl (ze9 _)]
   simp
 obtain ⟨i, j, hij⟩ := key
 rw [zfW, zkv, hij]
 exact ziG i j e hb ht
theorem zht (s : Bool) {q : Nat} (hq : q ≠ 0) (x : Int) : zbt (dg (zbN s q x)) = ((tr (dx q)).length : Int) := by
 obtain ⟨b, r, e, hb⟩ := zai hq
 obtain ⟨r', e'⟩ := zbi e hb
 exact zhs s (zdh (zbn q)) e' hb (zgk _) _
theorem zgl : ∀ l : List UInt8, (l.takeWhile isD).all isD = true
 | [] => rfl
 | c :: l => by
  rw [List.takeWhile_cons]
  split
  ·rename_i h
   rw [List.all_cons, h, zgl l]; rfl
  ·rfl
theorem zku {l : List UInt8} {y : List UInt8 × Int} (h : zbJ l = some y) : dg l = y.1 := by
 have tail : ∀ {d : List UInt8} {x : Int} {t : List UInt8}, zbv d x t = some y → y.1 = d ∧ dg t = [] := by
  intro d x t ht
  unfold zbv at ht
  split at ht
  ·rename_i h0
   rw [h0]
   exact ⟨(congrArg Prod.fst (Option.some.inj ht)).symm, rfl⟩
  ·split at ht
   ·rename_i h0 h1
    cases t with
    | nil => exact absurd rfl h0
    | cons c t =>
     have : c = 101 := by simpa using h1.1
     subst this
     exact ⟨(congrArg Prod.fst (Option.some.inj ht)).symm, rfl⟩
   ·cases ht
 have e1 := zb3 isD l
 have a1 : (l.takeWhile isD).all isD = true := zgl _
 unfold zbJ at h
 split at h
 ·cases h
 ·split at h
  ·rename_i h0 h1
   split at h
   ·cases h
   ·cases hd : l.dropWhile isD with
    | nil => rw [hd] at h1; cases h1
    | cons c t =>
     rw [hd] at h h1 e1
     have hc : c = 46 := by simpa using h1
     subst hc
     rw [List.tail_cons] at h
     have e2 := zb3 isD t
     have a2 : (t.takeWhile isD).all isD = true := zgl _
     obtain ⟨t1, t2⟩ := tail h
     rw [← e1, zbD a1, zc2 (by decide) (by decide), ← e2, zbD a2, t2, t1, List.append_nil]
  ·obtain ⟨t1, t2⟩ := tail h
   rw [← e1, zbD a1, t2, t1, List.append_nil]
theorem sne (q : Nat) : q + 1 ≠ 0 := Nat.succ_ne_zero q
theorem znH {q n : Nat} (h : (dx q).length = n) (hq : q ≠ 0) : (tr (dx (q + 1))).length ≤ n := by
 have hp := zdG hq
 obtain ⟨u1, u2⟩ := zfr h hq
 by_cases c : (dx (q + 1)).length ≤ n
 ·exact Nat.le_trans (zaO _) c
 ·have k0 := zfq q
  have k1 := zfp (n := q + 1) (Nat.succ_ne_zero q)
  rw [h] at k0
  rw [show (dx (q + 1)).length - 1 = n by omega] at k1
  have hq1 : q + 1 = 1 * 10 ^ n := by omega
  have h1 : dx 1 = [49] := zc4 (l := [49]) (r := []) (b := 49) (by decide) rfl (by decide)
  rw [hq1, zfs (by omega), zd4, h1]
  have : tr [49] = [49] := zcK [] (by decide)
  rw [this]
  show 1 ≤ n
  omega
theorem zl7 {f : Int} (h : isF f) (s : Bool) {N G : Nat} (hN : N ≠ 0) {y n : Nat} (hy : y ≠ 0) (hyn : y < 10 ^ n) (h1 : 1 ≤ n) (h2 : n ≤ (dx N).length) {Y w : Int} (e1 : (zp f 1 s y Y).1 = w) (e2 : (zp f 1 s N (-(G : Int))).1 = w) :
  (zp f 1 s (N / 10 ^ ((dx N).length - n)) (((dx N).length : Int) - G - n)).1 = w ∨ (zp f 1 s (N / 10 ^ ((dx N).length - n) + 1) (((dx N).length : Int) - G - n)).1 = w := by
 obtain ⟨q1, q2⟩ := zfT hN h1 h2
 have hge := zfp q2
 rw [q1] at hge
 obtain ⟨K, hK⟩ : ∃ K : Nat, K = Y.natAbs + G + (dx N).length + n := ⟨_, rfl⟩
 obtain ⟨x, hx⟩ : ∃ x, x = ((dx N).length : Int) - G - n := ⟨_, rfl⟩
 obtain ⟨a, ha⟩ : ∃ a : Nat, (a : Int) = Y + K := ⟨(Y + K).toNat, by omega⟩
 obtain ⟨b, hb⟩ : ∃ b : Nat, (b : Int) = -(G : Int) + K := ⟨(-(G : Int) + K).toNat, by omega⟩
 obtain ⟨c, hc⟩ : ∃ c : Nat, (c : Int) = x + K := ⟨(x + K).toNat, by omega⟩
 rw [← hx]
 have hcb : c = (dx N).length - n + b := by omega
 have hdm : N / 10 ^ ((dx N).length - n) * 10 ^ ((dx N).length - n) ≤ N := Nat.div_mul_le_self _ _
 have hup : N < (N / 10 ^ ((dx N).length - n) + 1) * 10 ^ ((dx N).length - n) := by rw [Nat.mul_comm]; exact Nat.lt_mul_div_succ _ (za0 _)
 have hp : 0 < 10 ^ ((dx N).length - n) := za0 _
 have hdiv : ∀ t, t * 10 ^ ((dx N).length - n) ≤ N → t ≤ N / 10 ^ ((dx N).length - n) := fun t ht => (Nat.le_div_iff_mul_le hp).2 ht
 generalize N / 10 ^ ((dx N).length - n) = q at *
 have small : Y < x → y * 10 ^ a < q * 10 ^ c := by
  intro hlt
  have k1 : y * 10 ^ a < 10 ^ n * 10 ^ a := Nat.mul_lt_mul_of_pos_right hyn (za0 a)
  rw [← Nat.pow_add] at k1
  have k2 : 10 ^ (n + a) ≤ 10 ^ (n - 1 + c) := Nat.pow_le_pow_right (by omega) (by omega)
  have k3 : 10 ^ (n - 1) * 10 ^ c ≤ q * 10 ^ c := Nat.mul_le_mul_right _ hge
  rw [← Nat.pow_add] at k3
  omega
 have big : ∀ t : Nat, x ≤ Y → t * 10 ^ (a - c) * 10 ^ c = t * 10 ^ a := by
  intro t hle
  rw [Nat.mul_assoc, ← Nat.pow_add, show a - c + c = a by omega]
 have hqN : q * 10 ^ c ≤ N * 10 ^ b := by
  rw [hcb, Nat.pow_add, ← Nat.mul_assoc]
  exact Nat.mul_le_mul_right _ hdm
 have hNq : N * 10 ^ b ≤ (q + 1) * 10 ^ c := by
  rw [hcb, Nat.pow_add, ← Nat.mul_assoc]
  exact Nat.mul_le_mul_right _ (Nat.le_of_lt hup)
 by_cases cs : y * 10 ^ a ≤ N * 10 ^ b
 ·left
  have hyq : y * 10 ^ a ≤ q * 10 ^ c := by
   by_cases cy : x ≤ Y
   ·rw [← big y cy]
    apply Nat.mul_le_mul_right
    apply hdiv
    rw [← big y cy, hcb, Nat.pow_add, ← Nat.mul_assoc] at cs
    rw [hcb]
    exact Nat.le_of_mul_le_mul_right cs (za0 b)
   ·exact Nat.le_of_lt (small (by omega))
  obtain ⟨c1, c2, p1, p2, p3, _⟩ := zdC (m := 1) h s hy q2 (x := Y) (x' := x) (by omega) hyq
  obtain ⟨c3, c4, r1, r2, r3, _⟩ := zdC (m := 1) h s q2 hN (x := x) (x' := -(G : Int)) (by omega) hqN
  rw [e1] at p1
  rw [e2] at r2
  omega
 ·right
  have hyq : (q + 1) * 10 ^ c ≤ y * 10 ^ a := by
   by_cases cy : x ≤ Y
   ·rw [← big y cy]
    apply Nat.mul_le_mul_right
    apply Nat.lt_of_not_le
    intro hle
    apply cs
    rw [← big y cy]
    exact Nat.le_trans (Nat.mul_le_mul_right _ hle) hqN
   ·have := small (by omega)
    omega
  obtain ⟨c1, c2, p1, p2, p3, _⟩ := zdC (m := 1) h s (sne q) hy (x := x) (x' := Y) (by omega) hyq
  obtain ⟨c3, c4, r1, r2, r3, _⟩ := zdC (m := 1) h s hN (sne q) (x := -(G : Int)) (x' := x) (by omega) hNq
  rw [e1] at p2
  rw [e2] at r1
  omega
theorem ziL {f w : Int} {s : Bool} {N G k0 : Nat} (hN : N ≠ 0) (hk : (tr (dx N)).length ≤ k0 ∨ ((zp f 1 s (N / 10 ^ ((dx N).length - k0)) (((dx N).length : Int) - G - k0)).1 = w ∨ (zp f 1 s (N / 10 ^ ((dx N).length - k0) + 1) (((dx N).length : Int) - G - k0)).1 = w)) :
  ∀ (j n : Nat), 1 ≤ n → n ≤ k0 → n + j = (tr (dx N)).length → zbt (dg (srt f w s N G j n)) ≤ k0
 | 0, n, h1, hn, hj => by
  obtain ⟨b, r, e, hb⟩ := zai hN
  obtain ⟨r', e'⟩ := zbi e hb
  unfold srt
  rw [zhs s (zdh (zbn N)) e' hb (zgk _)]
  omega
 | j + 1, n, h1, hn, hj => by
  have htl := zaO (dx N)
  obtain ⟨q1, q2⟩ := zfT hN h1 (by omega)
  have ih := ziL (f := f) (w := w) (s := s) (G := G) hN hk j (n + 1) (by omega)
  have t1 := zaO (dx (N / 10 ^ ((dx N).length - n)))
  have t2 := znH q1 q2
  unfold srt
  split
  ·rw [zht s q2]; omega
  ·rename_i c1
   split
   ·rw [zht s (sne _)]; omega
   ·rename_i c2
    have c3 : ¬ (zp f 1 s (N / 10 ^ ((dx N).length - n)) (((dx N).length : Int) - G - n)).1 = w := fun hh => c1 ⟨hh, fun hc => c2 hc.1⟩
    have hne : n ≠ k0 := by
     intro he
     subst he
     rcases hk with hk | hk | hk
     ·omega
     ·exact c3 hk
     ·exact c2 hk
    exact ih (by omega) (by omega)
theorem znR {f : Int} (h : isF f) (s : Bool) {c : Nat} (hc : c ≤ mo f * 2 ^ fb f) : zq f (c + sgn f s) = s := by
 have hi := zew h
 unfold zq sgn
 cases s
 ·rw [if_neg (by simp)]; exact decide_eq_false (by omega)
 ·rw [if_pos rfl]; exact decide_eq_true (by omega)
theorem zkx {E : List UInt8} (h : E.all isD = true) (h0 : zg E 0 ≠ 0) : ∃ (i j : Nat) (d : List UInt8) (b : UInt8) (r : List UInt8), E = List.replicate i 48 ++ d ++ List.replicate j 48 ∧ d = b :: r ∧ b ≠ 48 ∧ tr d = d ∧ d.all isD = true ∧ zg E 0 = zg d 0 * 10 ^ j := by
 have h1 := zeV h
 have hne : tz0 E ≠ [] := fun hh => h0 ((zd6 h).1 hh)
 have e1 : ∃ i, E = List.replicate i 48 ++ tz0 E := by
  clear h h0 h1 hne
  induction E with
  | nil => exact ⟨0, rfl⟩
  | cons b l ih =>
   obtain ⟨i, hi⟩ := ih
   by_cases c : b = 48
   ·subst c
    refine ⟨i + 1, ?_⟩
    have : tz0 (48 :: l) = tz0 l := by unfold tz0; rw [List.dropWhile_cons]; simp
    rw [this, List.replicate_succ, List.cons_append, ← hi]
   ·exact ⟨0, by rw [zjb rfl c]; rfl⟩
 obtain ⟨i, hi⟩ := e1
 obtain ⟨j, hj⟩ := zco (tz0 E)
 cases hz : tz0 E with
 | nil => exact absurd hz hne
 | cons b r =>
  have hb := zeW hz
  obtain ⟨r', e'⟩ := zbi hz hb
  refine ⟨i, j, tr (tz0 E), b, r', ?_, e', hb, zgk _, zdh h1, ?_⟩
  ·rw [List.append_assoc, ← hj]; exact hi
  ·have := zdF E
   rw [← this]
   conv => lhs; rw [hj]
   rw [zbE, zc3, List.length_replicate]; simp
theorem zkt (t : List UInt8) : dg t = dg (za8 t) := by
 cases t with
 | nil => rfl
 | cons c t =>
  by_cases hc : c = 45
  ·subst hc
   exact zc2 (by decide) (by decide) t
  ·have : za8 (c :: t) = c :: t := by unfold za8; split <;> simp_all
   rw [this]
theorem zm0 {f : Int} (h : isF f) {w : Nat} (c1 : cls f w ≠ 1) (c4 : cls f w < 4) : (soS f w).length ≤ 1000 := by
 have hnm : ¬ zc6 f w = true := fun hh => by have := of_decide_eq_true hh; omega
 obtain ⟨hN, hl, hg⟩ := zeI h c1 c4
 obtain ⟨b, r, e, hb⟩ := zai hN
 obtain ⟨r', e'⟩ := zbi e hb
 have hp : 1 ≤ (tr (dx (nN f w))).length := by rw [e']; simp
 have hsg := ziC (zq f w)
 have tl : ∀ (s : Bool) (q : Nat) (x : Int), sgT s = sgT s → (dx q).length ≤ 802 → (zbN s q x).length ≤ 1000 := by
  intro s q x _ hq
  have h1 := zii (tr (dx q)) (x + ((dx q).length : Int) - 1)
  have h2 := zaO (dx q)
  have h3 := ziC s
  unfold zbN
  rw [zfW, List.length_append]; omega
 unfold soS
 rw [if_neg hnm]
 have key : ∀ (j n : Nat), 1 ≤ n → n + j = (tr (dx (nN f w))).length → (srt f (w : Int) (zq f w) (nN f w) (nG f w) j n).length ≤ 1000 := by
  intro j
  induction j with
  | zero =>
   intro n h1 hj
   unfold srt
   have h1 := zii (tr (dx (nN f w))) (((dx (nN f w)).length : Int) - 1 - (nG f w : Nat))
   have h2 := zaO (dx (nN f w))
   rw [zfW, List.length_append]; omega
  | succ j ih =>
   intro n h1 hj
   have htl := zaO (dx (nN f w))
   obtain ⟨q1, q2⟩ := zfT hN h1 (by omega)
   obtain ⟨u1, u2⟩ := zfr q1 q2
   unfold srt
   split
   ·exact tl _ _ _ rfl (by omega)
   ·split
    ·exact tl _ _ _ rfl (by omega)
    ·exact ih (n + 1) (by omega) (by omega)
 exact key _ 1 (by omega) (by omega)
theorem zjt (f : Int) (t : ByteArray) : Ev (fun k => zdA.f k f t) true := by
 unfold zdA.f
 by_cases h : isF f
 rotate_left
 ·have ho := zkC (f := f) (m := 1) (by rw [zhv h]; decide) []
  rw [zhv h] at ho
  exact Ev.bind ho (zd (by simp) zdD)
 refine Ev.bind (zkD h (m := 1) (by decide)) (ze (by simp) ?_)
 have hp := zjz h (m := 1) (by decide) t
 have other : ∀ {w : Nat} {fl : Int}, zbC f 1 (tl t) = ((w : Int), fl, 0) → ¬ cls f w < 4 ∨ cls f w = 1 → Ev (fun k => (zbl.f k f 1 t).bind fun t1504 => (if ¬ (t1504.2.2 = 0) then ((z7.f k).bind fun t1505 => (some t1505)) else ((zb8.f f t1504.1).bind fun t1506 => (if (!t1506) = true then ((z7.f k).bind fun t1507 => (some t1507)) else ((zbB.f f t1504.1).bind fun t1508 => (if t1508 = 1 then ((z7.f k).bind fun t1509 => (some t1509)) else ((zr.f k f t1504.1).bind fun t1510 => (if t1510.2 = 0 then ((zO.f k t1510.1).bind fun t1511 => ((zO.f k t).bind fun t1512 => (if t1511 ≤ t1512 then ((z7.f k).bind fun t1513 => (some t1513)) else (some false)))) else (some false))))))))) true := by
  intro w fl he hc
  rw [he] at hp
  refine Ev.bind hp (ze (by simp) (zk (zio h w) ?_))
  by_cases c4 : cls f w < 4
  ·rw [decide_eq_true c4]
   exact ze (by simp) (zk (zf4 h w) (zd (hc.resolve_left (fun hh => hh c4)) zdD))
  ·rw [decide_eq_false c4]
   exact zd rfl zdD
 have err : ∀ {x : Int × Int × Int}, zbC f 1 (tl t) = x → x.2.2 ≠ 0 → Ev (fun k => (zbl.f k f 1 t).bind fun t1504 => (if ¬ (t1504.2.2 = 0) then ((z7.f k).bind fun t1505 => (some t1505)) else ((zb8.f f t1504.1).bind fun t1506 => (if (!t1506) = true then ((z7.f k).bind fun t1507 => (some t1507)) else ((zbB.f f t1504.1).bind fun t1508 => (if t1508 = 1 then ((z7.f k).bind fun t1509 => (some t1509)) else ((zr.f k f t1504.1).bind fun t1510 => (if t1510.2 = 0 then ((zO.f k t1510.1).bind fun t1511 => ((zO.f k t).bind fun t1512 => (if t1511 ≤ t1512 then ((z7.f k).bind fun t1513 => (some t1513)) else (some false)))) else (some false))))))))) true := by
  intro x he hx
  rw [he] at hp
  exact Ev.bind hp (zd (by simpa using hx) zdD)
 have hi := zew h
 by_cases l1 : 1200 < (tl t).length
 ·exact err (x := (0, 0, 3)) (by unfold zbC; rw [if_pos l1]) (by decide)
 by_cases l2 : tl t = [110, 97, 110]
 ·exact other (w := zdP f) (fl := 0) (by unfold zbC; rw [if_neg l1, if_pos l2]) (.inl (by rcases h with rfl | rfl <;> decide))
 by_cases l3 : za8 (tl t) = [105, 110, 102]
 ·have hw := ziT h (zC (tl t)) (c := mo f * 2 ^ fb f) (Nat.le_refl _)
  refine other (w := mo f * 2 ^ fb f + sgn f (zC (tl t))) (fl := 0) (by unfold zbC zes; rw [if_neg l1, if_neg l2, if_pos l3]) (.inl ?_)
  exact (zkd h hw.2.2).2.1 (zgg h hi.2 _)
 have hd : zbC f 1 (tl t) = zgY f 1 (zC (tl t)) (zbJ (za8 (tl t))) := by unfold zbC zes; rw [if_neg l1, if_neg l2, if_neg l3]
 cases hr : zbJ (za8 (tl t)) with
 | none => exact err (x := (0, 0, 12)) (by rw [hd, hr]; rfl) (by decide)
 | some y =>
  rw [hr] at hd
  have hd : zbC f 1 (tl t) = zdB f 1 (zC (tl t)) (zg y.1 0) y.2 := hd
  obtain ⟨y1, y2, y3, _⟩ := zir hr
  unfold zdB at hd
  by_cases c0 : zg y.1 0 = 0
  ·rw [if_pos c0] at hd
   have hw := zgg h (x := 0) (by omega) (zC (tl t))
   rw [Nat.zero_add] at hw
   refine other hd (.inr ?_)
   unfold cls
   rw [hw, if_pos rfl]
  rw [if_neg c0] at hd
  obtain ⟨c, c', p1, _, p3, p4⟩ := zdC (m := 1) h (zC (tl t)) c0 c0 (x := y.2) (x' := y.2) (a := 0) (b := 0) (by omega) (Nat.le_refl _)
  have hcm : c ≤ mo f * 2 ^ fb f := by omega
  obtain ⟨s1, s2, s3⟩ := ziT h (zC (tl t)) hcm
  have hwn := znR h (zC (tl t)) hcm
  rw [p1] at hd
  by_cases c4 : cls f (c + sgn f (zC (tl t))) < 4
  rotate_left
  ·exact other hd (.inl c4)
  by_cases c1 : cls f (c + sgn f (zC (tl t))) = 1
  ·exact other hd (.inr c1)
  have hsh := zjF h s2
  have hsl := zm0 h c1 c4
  have g1 := zhr (s := bx (soS f (c + sgn f (zC (tl t))))) (by rw [zE]; omega)
  have g2 := zhr (s := t) (by rw [zdg]; omega)
  rw [zao] at g1
  have hexW := zkq (m := 1) h s2 c1 c4
  rw [hwn] at hexW
  have hsd : soS f (c + sgn f (zC (tl t))) = srt f ((c + sgn f (zC (tl t)) : Nat) : Int) (zC (tl t)) (nN f (c + sgn f (zC (tl t)))) (nG f (c + sgn f (zC (tl t)))) ((tr (dx (nN f (c + sgn f (zC (tl t)))))).length - 1) 1 := by
   unfold soS
   rw [if_neg (fun hh => by have := of_decide_eq_true hh; omega), hwn]
  obtain ⟨hN, hl, hg⟩ := zeI h c1 c4
  have e1 : (zp f 1 (zC (tl t)) (zg y.1 0) y.2).1 = ((c + sgn f (zC (tl t)) : Nat) : Int) := p1
  have hfin : zbt (dg (soS f (c + sgn f (zC (tl t))))) ≤ zbt (dg (tl t)) := by
   rw [zkt (tl t), zku hr]
   obtain ⟨i, j, d, b, r, m1, m2, m3, m4, m5, m6⟩ := zkx y1 c0
   have hsig : zbt y.1 = d.length := by rw [m1]; exact ziG i j m2 m3 m4
   rw [hsig, hsd]
   have hy : zg d 0 ≠ 0 := fun hh => c0 (by rw [m6, hh, Nat.zero_mul])
   rw [m6, zg2 h _ hy] at e1
   have hdl : 1 ≤ d.length := by rw [m2]; simp
   obtain ⟨b0, r0, e0, hb0⟩ := zai hN
   obtain ⟨r0', e0'⟩ := zbi e0 hb0
   have hp1 : 1 ≤ (tr (dx (nN f (c + sgn f (zC (tl t)))))).length := by rw [e0']; simp
   have htl := zaO (dx (nN f (c + sgn f (zC (tl t)))))
   refine ziL hN ?_ _ 1 (by omega) hdl (by omega)
   by_cases cl : (tr (dx (nN f (c + sgn f (zC (tl t)))))).length ≤ d.length
   ·exact .inl cl
   ·exact .inr (zl7 h (zC (tl t)) hN hy (zcc m5) hdl (by omega) e1 (by rw [hexW]))
  rw [hd] at hp
  refine Ev.bind hp (ze (by simp) (zk (zio h _) ?_))
  rw [decide_eq_true c4]
  exact ze (by simp) (zk (zf4 h _) (ze c1 (Ev.bind hsh (zd rfl (Ev.bind g1 (Ev.bind g2 (zd hfin zdD)))))))
end Go.Proofs.YtnkpmjhlkmlmbaaGreatDoor.Eng.K
