import Derived.Test.YtnkpmjhlkmlmbaaGreatDoorQDeciReadsK1
import Derived.Lib.Atoi
set_option linter.unusedVariables false
set_option linter.unusedSimpArgs false
namespace Go.Proofs.YtnkpmjhlkmlmbaaGreatDoor.Eng.K
open Go.RowKit
def qe7 (f : Int) (n : Nat) (e : Int) : Nat := enc f (n / 2 ^ lw n) (e + (lw n : Nat))
def qh (f : Int) (n : Nat) (e : Int) : Int := max (e + (bl n : Nat) - (pr f : Nat)) (lo f)
def qP (f m : Int) (s : Bool) (n : Nat) (e : Int) : Int × Int :=
 let q := R m s n e (qh f n e)
 if (bl q : Int) + qh f n e > wd f then ((qdW f m s : Int), 20)
 else ((((if q = 0 then 0 else qe7 f q (qh f n e)) + sgn f s : Nat) : Int),
  if exR n e (qh f n e) = true then 0
  else if (bl (R m s n e (e + (bl n : Nat) - (pr f : Nat))) : Int) + (e + (bl n : Nat) - (pr f : Nat)) < lo f + (pr f : Nat) then 24 else 16)
theorem qlK {m : Int} {s : Bool} {n : Nat} {e E : Int} {p : Nat} (h : e + (bl n : Nat) - (p : Nat) ≤ E) : R m s n e E ≤ 2 ^ p := by
 have h1 := qan n
 unfold R
 by_cases c : E ≤ e
 ·have e1 : (E - e).toNat = 0 := by omega
  rw [e1, qfU]
  have h2 : n * 2 ^ (e - E).toNat < 2 ^ bl n * 2 ^ (e - E).toNat := Nat.mul_lt_mul_of_pos_right h1 (qm _)
  rw [← Nat.pow_add] at h2
  exact Nat.le_trans (Nat.le_of_lt h2) (Nat.pow_le_pow_right (by omega) (by omega))
 ·have e1 : (e - E).toNat = 0 := by omega
  rw [e1, Nat.pow_zero, Nat.mul_one]
  have h3 : n / 2 ^ (E - e).toNat < 2 ^ p := by
   rw [Nat.div_lt_iff_lt_mul (qm _), ← Nat.pow_add]
   exact Nat.lt_of_lt_of_le h1 (Nat.pow_le_pow_right (by omega) (by omega))
  unfold rnd
  split <;> omega
theorem qpE {q p : Nat} (h0 : q ≠ 0) (h : q ≤ 2 ^ p) : bl (q / 2 ^ lw q) ≤ p ∨ p = 0 := by
 rcases Nat.eq_zero_or_pos p with hp | hp
 ·exact .inr hp
 left
 rcases Nat.lt_or_ge q (2 ^ p) with c | c
 ·exact qao (Nat.lt_of_le_of_lt (Nat.div_le_self _ _) c)
 ·have e : q = 2 ^ p := by omega
  have hw : lw q = p := qhC ⟨0, by rw [e]; omega⟩
  rw [hw, e, Nat.div_self (qm p)]
  have : bl 1 = 1 := by decide
  omega
theorem quZ {f m : Int} {s : Bool} {n : Nat} {e : Int} (h : isF f) (hn : n ≠ 0) (hq : R m s n e (qh f n e) = 0) : qh f n e = lo f := by
 have hpr := qaH h
 unfold qh at *
 rcases Int.le_total (e + (bl n : Nat) - (pr f : Nat)) (lo f) with c | c
 ·omega
 ·exfalso
  have h1 := (qjo (m := m) (s := s) (n := n) (e := e) (E := max (e + (bl n : Nat) - (pr f : Nat)) (lo f)) hn (by omega)).1
  rw [hq] at h1
  have b0 : bl 0 = 0 := qby
  rw [b0] at h1
  omega
theorem qlL {n : Nat} (h : n ≠ 0) : bl (n / 2 ^ lw n) + lw n = bl n := by
 have := qfP h
 rw [qc5]; omega
theorem qu0 {f m : Int} {s : Bool} {n : Nat} {e : Int} (h : isF f) (hq : R m s n e (qh f n e) ≠ 0) (hw : ¬ ((bl (R m s n e (qh f n e)) : Int) + qh f n e > wd f)) :
  bl (R m s n e (qh f n e) / 2 ^ lw (R m s n e (qh f n e))) ≤ pr f ∧ lo f ≤ qh f n e + (lw (R m s n e (qh f n e)) : Nat) ∧ qh f n e + (lw (R m s n e (qh f n e)) : Nat) + (bl (R m s n e (qh f n e) / 2 ^ lw (R m s n e (qh f n e))) : Nat) ≤ wd f := by
 have hpr := qaH h
 have h1 : R m s n e (qh f n e) ≤ 2 ^ pr f := qlK (by unfold qh; omega)
 have h2 := (qpE hq h1).resolve_right (by omega)
 have h3 := qlL hq
 refine ⟨h2, by unfold qh; omega, by omega⟩
theorem qjp (m z e E : Int) : (TK m z e E).natAbs = R m (decide (z < 0)) z.natAbs e E := by unfold TK; exact qaf _ _
theorem qjq (m z e E : Int) : TK m z e E = 0 ↔ R m (decide (z < 0)) z.natAbs e E = 0 := by unfold TK; exact qbP
theorem qu1 (m z e E : Int) : top (TK m z e E) E = if R m (decide (z < 0)) z.natAbs e E = 0 then 0 else E + (bl (R m (decide (z < 0)) z.natAbs e E) : Nat) := by
 unfold top
 by_cases c : R m (decide (z < 0)) z.natAbs e E = 0
 ·rw [if_pos c, if_pos ((qjq m z e E).2 c)]
 ·rw [if_neg c, if_neg (fun h => c ((qjq m z e E).1 h)), qjp]
theorem qpF {m z e E : Int} : (mk z e = mk (TK m z e E) E) ↔ exR z.natAbs e E = true := by
 constructor
 ·intro h
  unfold exR
  apply decide_eq_true
  by_cases c : E ≤ e
  ·have e1 : (E - e).toNat = 0 := by omega
   rw [e1, Nat.pow_zero, Nat.mod_one]
  ·have hE : E = e + ((E - e).toNat : Nat) := by omega
   rw [hE, ← qc6, ← hE] at h
   have h1 := qlF h
   have h2 : (2 ^ (E - e).toNat : Int) ∣ z := ⟨TK m z e E, by rw [Int.mul_comm]; exact h1⟩
   have h3 : ((2 ^ (E - e).toNat : Nat) : Int) ∣ z := by rw [Int.natCast_pow]; exact h2
   exact Nat.mod_eq_zero_of_dvd (Int.ofNat_dvd_left.1 h3)
 ·intro h; exact (qpz h).symm
theorem qu2 {f m : Int} (h : isF f) (hm : isM m) {z e : Int} (hz : z ≠ 0) (hb : bl z.natAbs ≤ 3000000) (h1 : -900000 ≤ e) (h2 : e ≤ 900000) :
  Ev (fun k => qca.j1 k f m (mk z e).1 (mk z e).2.1 (mk z e).2.2 (pr f : Nat) (e + (bl z.natAbs : Nat) - (pr f : Nat)) (qh f z.natAbs e)) (qP f m (decide (z < 0)) z.natAbs e) := by
 have hl := qc8 h
 have hwb := qfR h
 have hpr := qaH h
 have hfb := qba h
 have hu : qh f z.natAbs e = max (e + (bl z.natAbs : Nat) - (pr f : Nat)) (lo f) := rfl
 have t1 := qpD hm hz (e := e) (E := qh f z.natAbs e) (by omega) (by omega) (by omega) (by omega) (by omega)
 have t2 := qpD hm hz (e := e) (E := e + (bl z.natAbs : Nat) - (pr f : Nat)) (by omega) (by omega) (by omega) (by omega) (by omega)
 have hq : R m (decide (z < 0)) z.natAbs e (qh f z.natAbs e) ≤ 2 ^ pr f := qlK (by omega)
 have hqb : bl (R m (decide (z < 0)) z.natAbs e (qh f z.natAbs e)) ≤ pr f + 1 := qao (Nat.lt_of_le_of_lt hq (by rw [Nat.pow_succ]; have := qm (pr f); omega))
 have hq2 : R m (decide (z < 0)) z.natAbs e (e + (bl z.natAbs : Nat) - (pr f : Nat)) ≤ 2 ^ pr f := qlK (by omega)
 have hqb2 : bl (R m (decide (z < 0)) z.natAbs e (e + (bl z.natAbs : Nat) - (pr f : Nat))) ≤ pr f + 1 := qao (Nat.lt_of_le_of_lt hq2 (by rw [Nat.pow_succ]; have := qm (pr f); omega))
 have hza : z.natAbs ≠ 0 := by omega
 have hfine := (qjo (m := m) (s := decide (z < 0)) (n := z.natAbs) (e := e) (E := e + (bl z.natAbs : Nat) - (pr f : Nat)) hza (by omega)).1
 have tp1 := qjm (z := TK m z e (qh f z.natAbs e)) (e := qh f z.natAbs e) ⟨by rw [qjp]; omega, by omega, by omega⟩
 have tp2 := qjm (z := TK m z e (e + (bl z.natAbs : Nat) - (pr f : Nat))) (e := e + (bl z.natAbs : Nat) - (pr f : Nat)) ⟨by rw [qjp]; omega, by omega, by omega⟩
 rw [qu1] at tp1 tp2
 have hs : (mk z e).1 = decide (z < 0) := by unfold mk; rw [if_neg hz]
 have hsm := qlE z e (TK m z e (qh f z.natAbs e)) (qh f z.natAbs e) (by omega)
 have hok := fun hq hw => qu0 (f := f) (m := m) (s := decide (z < 0)) (n := z.natAbs) (e := e) h hq hw
 have hz0 := fun hq => quZ (f := f) (m := m) (s := decide (z < 0)) (n := z.natAbs) (e := e) h hza hq
 have eRS : qP f m (decide (z < 0)) z.natAbs e = if (bl (R m (decide (z < 0)) z.natAbs e (qh f z.natAbs e)) : Int) + qh f z.natAbs e > wd f then ((qdW f m (decide (z < 0)) : Int), 20)
  else ((((if R m (decide (z < 0)) z.natAbs e (qh f z.natAbs e) = 0 then 0 else qe7 f (R m (decide (z < 0)) z.natAbs e (qh f z.natAbs e)) (qh f z.natAbs e)) + sgn f (decide (z < 0)) : Nat) : Int),
  if exR z.natAbs e (qh f z.natAbs e) = true then 0
  else if (bl (R m (decide (z < 0)) z.natAbs e (e + (bl z.natAbs : Nat) - (pr f : Nat))) : Int) + (e + (bl z.natAbs : Nat) - (pr f : Nat)) < lo f + (pr f : Nat) then 24 else 16) := rfl
 rw [eRS]
 clear eRS
 refine qc ?_
 simp only [qca.j1]
 refine Ev.bind (t1) ?_; try dsimp only
 refine Ev.bind (tp1) ?_; try dsimp only
 refine qi (qpl h) ?_; try dsimp only
 have cT : ((if R m (decide (z < 0)) z.natAbs e (qh f z.natAbs e) = 0 then 0 else qh f z.natAbs e + (bl (R m (decide (z < 0)) z.natAbs e (qh f z.natAbs e)) : Nat)) > wd f) ↔ ((bl (R m (decide (z < 0)) z.natAbs e (qh f z.natAbs e)) : Int) + qh f z.natAbs e > wd f) := by
  by_cases c : R m (decide (z < 0)) z.natAbs e (qh f z.natAbs e) = 0
  ·have := hz0 c
   have b0 : bl 0 = 0 := qby
   rw [if_pos c, c, b0]; omega
  ·rw [if_neg c]; omega
 by_cases c : ((bl (R m (decide (z < 0)) z.natAbs e (qh f z.natAbs e)) : Int) + qh f z.natAbs e > wd f)
 ·rw [if_pos c]
  refine qa (cT.2 c) ?_
  rw [hs]
  refine Ev.bind (quU h m (decide (z < 0))) ?_; try dsimp only
  exact Ev.now _
 rw [if_neg c]
 refine qb (fun h => c (cT.1 h)) ?_
 clear cT
 have hword : Ev (fun k => qa3.f k f false (mk (TK m z e (qh f z.natAbs e)) (qh f z.natAbs e)).2.1 (mk (TK m z e (qh f z.natAbs e)) (qh f z.natAbs e)).2.2) ((((if R m (decide (z < 0)) z.natAbs e (qh f z.natAbs e) = 0 then 0 else qe7 f (R m (decide (z < 0)) z.natAbs e (qh f z.natAbs e)) (qh f z.natAbs e)) : Nat) : Int), true) ∧ (if R m (decide (z < 0)) z.natAbs e (qh f z.natAbs e) = 0 then 0 else qe7 f (R m (decide (z < 0)) z.natAbs e (qh f z.natAbs e)) (qh f z.natAbs e)) < sg f := by
  have hab := qjp m z e (qh f z.natAbs e)
  have hil := qfS h
  have hp := qm (fb f)
  by_cases cq : R m (decide (z < 0)) z.natAbs e (qh f z.natAbs e) = 0
  ·rw [if_pos cq]
   refine ⟨?_, (qdV h).1⟩
   have : TK m z e (qh f z.natAbs e) = 0 := (qjq m z e _).2 cq
   rw [this, qoY]
   unfold qa3.f
   exact qi (a := 0) rfl (qa rfl (Ev.now _))
  ·rw [if_neg cq]
   obtain ⟨o1, o2, o3⟩ := hok cq c
   have hT : TK m z e (qh f z.natAbs e) ≠ 0 := fun h => cq ((qjq m z e _).1 h)
   have hmk : mk (TK m z e (qh f z.natAbs e)) (qh f z.natAbs e) = (decide (TK m z e (qh f z.natAbs e) < 0), D (R m (decide (z < 0)) z.natAbs e (qh f z.natAbs e) / 2 ^ lw (R m (decide (z < 0)) z.natAbs e (qh f z.natAbs e))), qh f z.natAbs e + (lw (R m (decide (z < 0)) z.natAbs e (qh f z.natAbs e)) : Nat)) := by
    unfold mk; rw [if_neg hT, hab]
   have hdy := qaG (TK m z e (qh f z.natAbs e)) (qh f z.natAbs e)
   rw [hmk] at hdy ⊢
   have hne : D (R m (decide (z < 0)) z.natAbs e (qh f z.natAbs e) / 2 ^ lw (R m (decide (z < 0)) z.natAbs e (qh f z.natAbs e))) ≠ [] := by
    intro h0
    have h1 : V (D (R m (decide (z < 0)) z.natAbs e (qh f z.natAbs e) / 2 ^ lw (R m (decide (z < 0)) z.natAbs e (qh f z.natAbs e)))) = 0 := by rw [h0]; rfl
    rw [V_D] at h1
    have h2 := qlL cq
    rw [h1, qby] at h2
    have := qfP cq
    omega
   have hd0 : Dy false (D (R m (decide (z < 0)) z.natAbs e (qh f z.natAbs e) / 2 ^ lw (R m (decide (z < 0)) z.natAbs e (qh f z.natAbs e)))) (qh f z.natAbs e + (lw (R m (decide (z < 0)) z.natAbs e (qh f z.natAbs e)) : Nat)) := ⟨hdy.nm, fun h => absurd h hne, hdy.odd⟩
   have := quY h hd0 hne (by rw [V_D]; exact o1) o2 (by rw [V_D]; exact o3)
   rw [V_D] at this
   have hlt := (qlw h (n := R m (decide (z < 0)) z.natAbs e (qh f z.natAbs e) / 2 ^ lw (R m (decide (z < 0)) z.natAbs e (qh f z.natAbs e))) o1 o2 o3).1
   refine ⟨qd this ?_, ?_⟩
   ·show ((((enc f _ _ + 0 : Nat)) : Int), true) = _
    rw [Nat.add_zero]; rfl
   ·unfold qe7; omega
 have hab2 : qho.f (mk (TK m z e (qh f z.natAbs e)) (qh f z.natAbs e)).1 (mk (TK m z e (qh f z.natAbs e)) (qh f z.natAbs e)).2.1 (mk (TK m z e (qh f z.natAbs e)) (qh f z.natAbs e)).2.2 = some (false, (mk (TK m z e (qh f z.natAbs e)) (qh f z.natAbs e)).2.1, (mk (TK m z e (qh f z.natAbs e)) (qh f z.natAbs e)).2.2) := rfl
 refine qi (hab2) ?_; try dsimp only
 refine Ev.bind (hword.1) ?_; try dsimp only
 rw [hs]
 refine qi (qpm h _ _) ?_; try dsimp only
 rw [Nat.mod_eq_of_lt hword.2]
 rw [hs] at hsm t2
 refine Ev.bind (hsm) ?_; try dsimp only
 cases cx : exR z.natAbs e (qh f z.natAbs e)
 ·refine qb (by rw [decide_eq_false (fun h => by have := qpF.1 h; rw [cx] at this; cases this)]; simp) ?_
  rw [if_neg Bool.false_ne_true]
  refine Ev.bind (t2) ?_; try dsimp only
  refine Ev.bind (tp2) ?_; try dsimp only
  refine qi (qfT h) ?_; try dsimp only
  have w1 : wrap64 (lo f + ((pr f : Nat) : Int)) = lo f + ((pr f : Nat) : Int) := by unfold wrap64; omega
  rw [w1]
  clear w1
  have hne : R m (decide (z < 0)) z.natAbs e (e + (bl z.natAbs : Nat) - (pr f : Nat)) ≠ 0 := by
   intro h0
   rw [h0, qby] at hfine
   omega
  rw [if_neg hne]
  by_cases cu : (bl (R m (decide (z < 0)) z.natAbs e (e + (bl z.natAbs : Nat) - (pr f : Nat))) : Int) + (e + (bl z.natAbs : Nat) - (pr f : Nat)) < lo f + (pr f : Nat)
  ·rw [if_pos cu]
   refine qa (by omega) ?_
   exact Ev.now _
  ·rw [if_neg cu]
   refine qb (by omega) ?_
   exact Ev.now _
 ·refine qa (decide_eq_true (qpF.2 cx)) ?_
  rw [if_pos rfl]
  exact Ev.now _
theorem qlM {f m : Int} (h : isF f) (hm : isM m) {z e : Int} (hz : z ≠ 0) (hb : bl z.natAbs ≤ 3000000) (h1 : -900000 ≤ e) (h2 : e ≤ 900000) :
  Ev (fun k => qca.f k f m (mk z e).1 (mk z e).2.1 (mk z e).2.2) (qP f m (decide (z < 0)) z.natAbs e) := by
 have hl := qc8 h
 have hpr := qaH h
 have hfb := qba h
 have j := qu2 h hm hz hb h1 h2
 have tp := qjm (z := z) (e := e) ⟨by omega, by omega, by omega⟩
 have et : top z e = e + (bl z.natAbs : Nat) := by unfold top; rw [if_neg hz]
 rw [et] at tp
 have hu : qh f z.natAbs e = max (e + (bl z.natAbs : Nat) - (pr f : Nat)) (lo f) := rfl
 unfold qca.f
 refine qi (quG z e) ?_; try dsimp only
 refine qb (fun h => hz (by rcases qdt z with ⟨_, c⟩ | ⟨c, _⟩ | ⟨_, c⟩ <;> omega)) ?_
 refine qi (qgy h) ?_; try dsimp only
 refine Ev.bind (tp) ?_; try dsimp only
 refine qi (qfT h) ?_; try dsimp only
 have w1 : wrap64 ((fb f : Int) + 1) = ((pr f : Nat) : Int) := by unfold wrap64; omega
 rw [w1]
 clear w1
 have w2 : wrap64 (e + ((bl z.natAbs : Nat) : Int) - ((pr f : Nat) : Int)) = e + ((bl z.natAbs : Nat) : Int) - ((pr f : Nat) : Int) := by unfold wrap64; omega
 rw [w2]
 clear w2
 by_cases c : e + ((bl z.natAbs : Nat) : Int) - ((pr f : Nat) : Int) < lo f
 ·refine qa c ?_
  refine qi (qfT h) ?_; try dsimp only
  have : lo f = qh f z.natAbs e := by omega
  rw [this]
  exact j
 ·refine qb c ?_
  have : qh f z.natAbs e = e + ((bl z.natAbs : Nat) : Int) - ((pr f : Nat) : Int) := by omega
  rw [this] at j
  exact j
def bN (b : Bool) : Nat := if b = true then 1 else 0
theorem qu3 {m : Int} {s : Bool} {n k n' k' : Nat} (h1 : n / 2 ^ k = n' / 2 ^ k') (h2 : 2 ^ k ≤ 2 * (n % 2 ^ k) ↔ 2 ^ k' ≤ 2 * (n' % 2 ^ k')) (h3 : 2 * (n % 2 ^ k) % 2 ^ k = 0 ↔ 2 * (n' % 2 ^ k') % 2 ^ k' = 0) : rnd m s n k = rnd m s n' k' := by
 unfold rnd
 rw [h1, decide_eq_decide.2 h2, decide_eq_decide.2 (show 2 * (n % 2 ^ k) % 2 ^ k ≠ 0 ↔ 2 * (n' % 2 ^ k') % 2 ^ k' ≠ 0 from not_congr h3)]
theorem qlN {x M : Nat} (h : x < M) : 2 * x % M = 0 ↔ x = 0 ∨ 2 * x = M := by
 by_cases c : 2 * x < M
 ·rw [Nat.mod_eq_of_lt c]; omega
 ·have : 2 * x % M = 2 * x - M := by rw [Nat.mod_eq_sub_mod (by omega), Nat.mod_eq_of_lt (by omega)]
  rw [this]; omega
theorem qgz {H j r d : Nat} (hr : r < 2 ^ j) : (H * 2 ^ j + r) / 2 ^ (d + j) = H / 2 ^ d ∧ (H * 2 ^ j + r) % 2 ^ (d + j) = H % 2 ^ d * 2 ^ j + r := by
 have := qfL (X := H) (P := 2 ^ j) (Q := 2 ^ d) (c := r) (qm j) hr
 rw [Nat.pow_add, Nat.mul_comm (2 ^ d)]
 exact ⟨this.1, by rw [this.2, Nat.mul_comm]⟩
theorem qpG (m : Int) (s : Bool) {H j r d : Nat} (hr : r < 2 ^ j) (hd : 1 ≤ d) : rnd m s (H * 2 ^ j + r) (d + j) = rnd m s (2 * H + bN (decide (r ≠ 0))) (d + 1) := by
 have hb : bN (decide (r ≠ 0)) < 2 ^ 1 := by unfold bN; split <;> omega
 have hb0 : bN (decide (r ≠ 0)) = 0 ↔ r = 0 := by
  unfold bN
  by_cases c : r = 0
  ·simp [c]
  ·simp [c]
 have e0 : 2 * H + bN (decide (r ≠ 0)) = H * 2 ^ 1 + bN (decide (r ≠ 0)) := by omega
 rw [e0]
 generalize bN (decide (r ≠ 0)) = b at *
 obtain ⟨a1, a2⟩ := qgz (H := H) (d := d) hr
 obtain ⟨b1, b2⟩ := qgz (H := H) (d := d) hb
 have hh := Nat.mod_lt H (qm d)
 have hj := qm j
 obtain ⟨d', rfl⟩ : ∃ d', d = d' + 1 := ⟨d - 1, by omega⟩
 have he : 2 ^ (d' + 1) = 2 * 2 ^ d' := by rw [Nat.pow_succ, Nat.mul_comm]
 refine qu3 (by rw [a1, b1]) ?_ ?_
 ·rw [a2, b2, Nat.pow_add 2 (d' + 1) j, Nat.pow_add 2 (d' + 1) 1, he]
  rw [he] at hh
  generalize H % (2 * 2 ^ d') = h at *
  generalize 2 ^ d' = p at *
  generalize 2 ^ j = q at *
  constructor
  ·intro h1
   rcases Nat.lt_or_ge h p with c | c
   ·exfalso
    have h2 : (h + 1) * q ≤ p * q := Nat.mul_le_mul_right _ c
    rw [Nat.add_mul, Nat.one_mul] at h2
    rw [Nat.mul_assoc] at h1
    omega
   ·omega
  ·intro h1
   have h2 : p * q ≤ h * q := Nat.mul_le_mul_right _ (by omega)
   rw [Nat.mul_assoc]; omega
 ·have l1 : H % 2 ^ (d' + 1) * 2 ^ j + r < 2 ^ (d' + 1 + j) := by
   rw [Nat.pow_add 2 (d' + 1) j]
   have h2 : (H % 2 ^ (d' + 1) + 1) * 2 ^ j ≤ 2 ^ (d' + 1) * 2 ^ j := Nat.mul_le_mul_right _ hh
   rw [Nat.add_mul, Nat.one_mul] at h2
   omega
  have l2 : H % 2 ^ (d' + 1) * 2 ^ 1 + b < 2 ^ (d' + 1 + 1) := by rw [Nat.pow_add 2 (d' + 1) 1]; omega
  rw [a2, b2, qlN l1, qlN l2, Nat.pow_add 2 (d' + 1) j, Nat.pow_add 2 (d' + 1) 1, he]
  rw [he] at hh
  generalize H % (2 * 2 ^ d') = h at *
  generalize 2 ^ d' = p at *
  generalize 2 ^ j = q at *
  constructor
  ·rintro (h1 | h1)
   ·have h2 : h * q = 0 := by omega
    rcases Nat.mul_eq_zero.1 h2 with h3 | h3
    ·left; have := hb0.2 (by omega); omega
    ·omega
   ·right
    rw [Nat.mul_assoc] at h1
    rcases Nat.lt_trichotomy h p with c | c | c
    ·have h2 : (h + 1) * q ≤ p * q := Nat.mul_le_mul_right _ c
     rw [Nat.add_mul, Nat.one_mul] at h2
     omega
    ·subst c
     have := hb0.2 (by omega)
     omega
    ·have h2 : (p + 1) * q ≤ h * q := Nat.mul_le_mul_right _ c
     rw [Nat.add_mul, Nat.one_mul] at h2
     omega
  ·rintro (h1 | h1)
   ·left
    have h2 : h = 0 := by omega
    have h3 := hb0.1 (by omega)
    rw [h2, h3]; omega
   ·right
    have h2 : h = p := by omega
    have h3 := hb0.1 (by omega)
    rw [h2, h3, Nat.mul_assoc]; omega
theorem qpH {H j r d : Nat} (hr : r < 2 ^ j) : (H * 2 ^ j + r) % 2 ^ (d + j) = 0 ↔ (2 * H + bN (decide (r ≠ 0))) % 2 ^ (d + 1) = 0 := by
 have hb : bN (decide (r ≠ 0)) < 2 ^ 1 := by unfold bN; split <;> omega
 have hb0 : bN (decide (r ≠ 0)) = 0 ↔ r = 0 := by
  unfold bN
  by_cases c : r = 0
  ·simp [c]
  ·simp [c]
 have e0 : 2 * H + bN (decide (r ≠ 0)) = H * 2 ^ 1 + bN (decide (r ≠ 0)) := by omega
 rw [e0]
 generalize bN (decide (r ≠ 0)) = b at *
 rw [(qgz (H := H) (d := d) hr).2, (qgz (H := H) (d := d) hb).2]
 have hj := qm j
 constructor
 ·intro h
  have h2 : H % 2 ^ d * 2 ^ j = 0 := by omega
  rcases Nat.mul_eq_zero.1 h2 with h3 | h3
  ·have := hb0.2 (by omega); omega
  ·omega
 ·intro h
  have h2 : H % 2 ^ d = 0 := by omega
  have h3 := hb0.1 (by omega)
  rw [h2, h3]; omega
def UP (m : Int) (s : Bool) (H : Nat) (T : Int) (b : Bool) (E : Int) : Nat := rnd m s (2 * H + bN b) ((E - T + 64).toNat + 1)
def XP (H : Nat) (T : Int) (b : Bool) (E : Int) : Bool := decide ((2 * H + bN b) % 2 ^ ((E - T + 64).toNat + 1) = 0)
def qap (n : Nat) : Nat := n * 2 ^ (64 - bl n) / 2 ^ (bl n - 64)
def qce (n : Nat) : Bool := decide (n % 2 ^ (bl n - 64) ≠ 0)
theorem qpI {n : Nat} (h : n ≠ 0) : 2 ^ 63 ≤ qap n ∧ qap n < 2 ^ 64 := by
 have h1 := qan n
 have h2 := qe0 h
 have hp := qcD h
 unfold qap
 by_cases c : bl n ≤ 64
 ·have e1 : bl n - 64 = 0 := by omega
  rw [e1, Nat.pow_zero, Nat.div_one]
  have h3 : 2 ^ (bl n - 1) * 2 ^ (64 - bl n) ≤ n * 2 ^ (64 - bl n) := Nat.mul_le_mul_right _ h2
  have h4 : n * 2 ^ (64 - bl n) < 2 ^ bl n * 2 ^ (64 - bl n) := Nat.mul_lt_mul_of_pos_right h1 (qm _)
  rw [← Nat.pow_add] at h3 h4
  rw [show bl n - 1 + (64 - bl n) = 63 by omega] at h3
  rw [show bl n + (64 - bl n) = 64 by omega] at h4
  exact ⟨h3, h4⟩
 ·have e1 : 64 - bl n = 0 := by omega
  rw [e1, Nat.pow_zero, Nat.mul_one]
  constructor
  ·rw [Nat.le_div_iff_mul_le (qm _), ← Nat.pow_add, show 63 + (bl n - 64) = bl n - 1 by omega]; exact h2
  ·rw [Nat.div_lt_iff_lt_mul (qm _), ← Nat.pow_add, show 64 + (bl n - 64) = bl n by omega]; exact h1
theorem qu4 (m : Int) (s : Bool) {n : Nat} (hn : n ≠ 0) {e E : Int} (h : 1 ≤ E - (e + (bl n : Nat)) + 64) : UP m s (qap n) (e + (bl n : Nat)) (qce n) E = R m s n e E ∧ XP (qap n) (e + (bl n : Nat)) (qce n) E = exR n e E := by
 have hp := qcD hn
 generalize hd : (E - (e + (bl n : Nat)) + 64).toNat = d
 by_cases c : 64 ≤ bl n
 ·have e1 : 64 - bl n = 0 := by omega
  have hH : qap n = n / 2 ^ (bl n - 64) := by unfold qap; rw [e1, Nat.pow_zero, Nat.mul_one]
  have hsp : n = qap n * 2 ^ (bl n - 64) + n % 2 ^ (bl n - 64) := by
   rw [hH]
   have := Nat.div_add_mod n (2 ^ (bl n - 64))
   rw [Nat.mul_comm] at this
   exact this.symm
  have hr := Nat.mod_lt n (qm (bl n - 64))
  have hk : (E - e).toNat = d + (bl n - 64) := by omega
  have hz : (e - E).toNat = 0 := by omega
  have st := qpG m s (H := qap n) (d := d) hr (by omega)
  have ex := qpH (H := qap n) (d := d) hr
  rw [← hsp] at st ex
  unfold UP XP R exR qce
  rw [hd, hk, hz, Nat.pow_zero, Nat.mul_one]
  exact ⟨st.symm, decide_eq_decide.2 ex.symm⟩
 ·have e1 : bl n - 64 = 0 := by omega
  have hH : qap n = n * 2 ^ (64 - bl n) := by unfold qap; rw [e1, Nat.pow_zero, Nat.div_one]
  have hm : qce n = false := by unfold qce; rw [e1, Nat.pow_zero, Nat.mod_one]; rfl
  have hR := qpx m s n (e - (64 - bl n : Nat)) E (64 - bl n)
  have hX := qpy n (e - (64 - bl n : Nat)) E (64 - bl n)
  rw [show e - ((64 - bl n : Nat) : Int) + ((64 - bl n : Nat) : Int) = e by omega, ← hH] at hR hX
  rw [← hR, ← hX, hm]
  unfold UP XP R exR bN
  rw [if_neg (by simp), Nat.add_zero, hd, show (e - ((64 - bl n : Nat) : Int) - E).toNat = 0 by omega, show (E - (e - ((64 - bl n : Nat) : Int))).toNat = d by omega, Nat.pow_zero, Nat.mul_one]
  have := qlG m s (qap n) d 1
  rw [Nat.pow_one, Nat.mul_comm] at this
  refine ⟨this, ?_⟩
  apply decide_eq_decide.2
  rw [Nat.pow_succ, Nat.mul_comm 2, Nat.mul_mod_mul_right]
  omega
theorem qpJ (m : Int) (s odd qaF more : Bool) : qfA.f m s odd qaF more = some (upB m s odd qaF more) := by
 unfold qfA.f upB
 by_cases c1 : m = 1
 ·rw [if_pos c1, if_pos c1]; cases more <;> cases odd <;> cases qaF <;> rfl
 rw [if_neg c1, if_neg c1]
 by_cases c2 : m = 2
 ·rw [if_pos c2, if_pos c2]
 rw [if_neg c2, if_neg c2]
 by_cases c4 : m = 4
 ·rw [if_pos c4, if_pos c4]; cases s <;> cases qaF <;> cases more <;> rfl
 rw [if_neg c4, if_neg c4]
 by_cases c5 : m = 5
 ·rw [if_pos c5, if_pos c5]; cases s <;> cases qaF <;> cases more <;> rfl
 ·rw [if_neg c5, if_neg c5]
theorem qpK (b : Bool) : qgg.f b = some (bN b : Int) := by cases b <;> rfl
theorem qpL (a : Nat) (ha : a < 18446744073709551616) : Go.bits .and .u64 (a : Int) 1 = ((a % 2 : Nat) : Int) := qpb a 1 ha (by omega)
theorem qpM (m : Int) (s : Bool) {W : Nat} (hW : W < 9223372036854775808) (qaF more : Bool) : Ev (fun k => qa1.j2 k m s (W : Int) qaF more) (((W + bN (upB m s (decide (W % 2 = 1)) qaF more) : Nat) : Int), !qaF && !more) := by
 have hb : bN (upB m s (decide (W % 2 = 1)) qaF more) ≤ 1 := by unfold bN; split <;> omega
 refine qc ?_
 simp only [qa1.j2]
 rw [qpL W (by omega)]
 have e1 : decide (((W % 2 : Nat) : Int) = 1) = decide (W % 2 = 1) := decide_eq_decide.2 (by omega)
 rw [e1]
 refine qi (qpJ _ _ _ _ _) ?_; try dsimp only
 refine qi (qpK _) ?_; try dsimp only
 rw [← Int.natCast_add, qbA (by omega)]
 cases qaF
 ·exact qa rfl (Ev.now _)
 ·exact qb (by simp) (Ev.now _)
theorem qu5 {H d : Nat} (b : Bool) (hd : 1 ≤ d) : (2 * H + bN b) / 2 ^ (d + 1) = H / 2 ^ d ∧
  decide (2 ^ (d + 1) ≤ 2 * ((2 * H + bN b) % 2 ^ (d + 1))) = decide (H / 2 ^ (d - 1) % 2 = 1) ∧
  decide (2 * ((2 * H + bN b) % 2 ^ (d + 1)) % 2 ^ (d + 1) ≠ 0) = (b || decide (H % 2 ^ (d - 1) ≠ 0)) ∧
  decide ((2 * H + bN b) % 2 ^ (d + 1) = 0) = (!decide (H / 2 ^ (d - 1) % 2 = 1) && !(b || decide (H % 2 ^ (d - 1) ≠ 0))) := by
 have hb : bN b < 2 ^ 1 := by unfold bN; split <;> omega
 have hb0 : bN b = 0 ↔ b = false := by unfold bN; cases b <;> simp
 have hb1 : bN b ≤ 1 := by unfold bN; split <;> omega
 obtain ⟨d', rfl⟩ : ∃ d', d = d' + 1 := ⟨d - 1, by omega⟩
 have hs := qgz (H := H) (d := d' + 1) hb
 have e0 : H * 2 ^ 1 + bN b = 2 * H + bN b := by omega
 rw [e0] at hs
 have hm : H % 2 ^ (d' + 1) = H % 2 ^ d' + 2 ^ d' * (H / 2 ^ d' % 2) := by rw [Nat.pow_succ, Nat.mod_mul]
 have hl := Nat.mod_lt H (qm d')
 have h2 : H / 2 ^ d' % 2 = 0 ∨ H / 2 ^ d' % 2 = 1 := by omega
 have hp : 2 ^ (d' + 1 + 1) = 4 * 2 ^ d' := by rw [Nat.pow_succ, Nat.pow_succ]; omega
 have hx : H % 2 ^ (d' + 1) * 2 ^ 1 + bN b < 4 * 2 ^ d' := by
  rw [hm]; rcases h2 with h | h <;> rw [h] <;> omega
 rw [hs.1, hs.2, hp]
 rw [show d' + 1 - 1 = d' from rfl]
 refine ⟨rfl, ?_, ?_, ?_⟩
 ·apply decide_eq_decide.2
  rw [hm]; rcases h2 with h | h <;> rw [h] <;> constructor <;> intro h3 <;> omega
 ·have e3 : (b || decide (H % 2 ^ d' ≠ 0)) = decide (¬ (bN b = 0 ∧ H % 2 ^ d' = 0)) := by
   by_cases c : H % 2 ^ d' = 0
   ·cases b <;> simp [c, bN]
   ·cases b <;> simp [c, bN]
  rw [e3]
  apply decide_eq_decide.2
  apply not_congr
  rw [qlN hx, hm]
  rcases h2 with h | h <;> rw [h] <;> constructor
  ·rintro (h3 | h3) <;> omega
  ·rintro ⟨h3, h4⟩; left; omega
  ·rintro (h3 | h3) <;> omega
  ·rintro ⟨h3, h4⟩; right; omega
 ·have e3 : (!decide (H / 2 ^ d' % 2 = 1) && !(b || decide (H % 2 ^ d' ≠ 0))) = decide (¬ (H / 2 ^ d' % 2 = 1) ∧ (bN b = 0 ∧ H % 2 ^ d' = 0)) := by
   by_cases c : H % 2 ^ d' = 0
   ·rcases h2 with h | h <;> cases b <;> simp [c, h, bN]
   ·rcases h2 with h | h <;> cases b <;> simp [c, h, bN]
  rw [e3]
  apply decide_eq_decide.2
  rw [hm]
  rcases h2 with h | h <;> rw [h] <;> constructor <;> intro h3 <;> omega
theorem qpN (m : Int) (s : Bool) {H : Nat} (hH : 2 ^ 63 ≤ H ∧ H < 2 ^ 64) {T E : Int} (b : Bool) (hd : 1 ≤ E - T + 64) (h1 : -1000000000 ≤ T) (h2 : T ≤ 1000000000) (h3 : -1000000000 ≤ E) (h4 : E ≤ 1000000000) :
  Ev (fun k => qa1.f k (H : Int) T b m s E) ((UP m s H T b E : Int), XP H T b E) := by
 have ew : wrap64 (wrap64 (E - T) + 64) = E - T + 64 := by unfold wrap64; omega
 unfold qa1.f
 rw [ew]
 clear ew
 obtain ⟨d, hdd⟩ := Int.eq_ofNat_of_zero_le (show 0 ≤ E - T + 64 by omega)
 have hdn : (E - T + 64).toNat = d := by omega
 unfold UP XP
 rw [hdn, hdd]
 rw [hdd] at hd
 clear hdn hdd
 have hd1 : 1 ≤ d := by omega
 have hbb : bN b ≤ 1 := by unfold bN; split <;> omega
 by_cases c : d > 64
 ·have hp : 2 ^ 66 ≤ 2 ^ (d + 1) := Nat.pow_le_pow_right (by omega) (by omega)
  have e1 : rnd m s (2 * H + bN b) (d + 1) = bN (upB m s false false true) := by
   unfold rnd
   rw [Nat.div_eq_of_lt (by omega), Nat.mod_eq_of_lt (a := 2 * H + bN b) (by omega), Nat.mod_eq_of_lt (a := 2 * (2 * H + bN b)) (by omega)]
   rw [decide_eq_false (by omega : ¬ (0 % 2 = 1)), decide_eq_false (by omega : ¬ (2 ^ (d + 1) ≤ 2 * (2 * H + bN b))), decide_eq_true (by omega : 2 * (2 * H + bN b) ≠ 0), Nat.zero_add]
   rfl
  have e2 : decide ((2 * H + bN b) % 2 ^ (d + 1) = 0) = false := decide_eq_false (by rw [Nat.mod_eq_of_lt (by omega)]; omega)
  rw [e1, e2]
  refine qa (by omega) ?_
  refine qi (qpJ _ _ _ _ _) ?_; try dsimp only
  refine qi (qpK _) ?_; try dsimp only
  exact Ev.now _
 refine qb (by omega) ?_
 obtain ⟨a1, a2, a3, a4⟩ := qu5 (H := H) b hd1
 have e1 : rnd m s (2 * H + bN b) (d + 1) = H / 2 ^ d + bN (upB m s (decide (H / 2 ^ d % 2 = 1)) (decide (H / 2 ^ (d - 1) % 2 = 1)) (b || decide (H % 2 ^ (d - 1) ≠ 0))) := by
  unfold rnd
  rw [a1, a2, a3]; rfl
 rw [e1, a4]
 clear a1 a2 a3 a4 e1
 have hW : H / 2 ^ d < 9223372036854775808 := by
  rw [Nat.div_lt_iff_lt_mul (qm d)]
  have : 2 ^ 1 ≤ 2 ^ d := Nat.pow_le_pow_right (by omega) hd1
  have := Nat.mul_le_mul_left 9223372036854775808 this
  omega
 have last : Ev (fun k => qa1.j1 k m s (H : Int) T b (d : Int) ((H / 2 ^ d : Nat) : Int) false b) (((H / 2 ^ d + bN (upB m s (decide (H / 2 ^ d % 2 = 1)) (decide (H / 2 ^ (d - 1) % 2 = 1)) (b || decide (H % 2 ^ (d - 1) ≠ 0))) : Nat) : Int), (!decide (H / 2 ^ (d - 1) % 2 = 1) && !(b || decide (H % 2 ^ (d - 1) ≠ 0)))) := by
  have ew : wrap64 ((d : Int) - 1) = ((d - 1 : Nat) : Int) := by unfold wrap64; omega
  have hp64 : 2 ^ (d - 1) ≤ 2 ^ 63 := Nat.pow_le_pow_right (by omega) (by omega)
  have hpp := qm (d - 1)
  have hq : H / 2 ^ (d - 1) ≤ H := Nat.div_le_self _ _
  refine qc ?_
  simp only [qa1.j1]
  rw [ew]
  clear ew
  rw [qe1 H (d - 1) (by show d - 1 ≤ 64; omega), qpL _ (by omega)]
  have e2 : decide (((H / 2 ^ (d - 1) % 2 : Nat) : Int) = 1) = decide (H / 2 ^ (d - 1) % 2 = 1) := decide_eq_decide.2 (by omega)
  have e3 : shl .u64 1 ((d - 1 : Nat) : Int) = ((2 ^ (d - 1) : Nat) : Int) := by
   have := qjj (X := 1) (s := d - 1) (by omega) (by omega)
   rw [Nat.one_mul] at this
   exact this
  have e4 : IntKind.u64.wrap (((2 ^ (d - 1) : Nat) : Int) - 1) = ((2 ^ (d - 1) - 1 : Nat) : Int) := by
   rw [show ((2 ^ (d - 1) : Nat) : Int) - 1 = ((2 ^ (d - 1) - 1 : Nat) : Int) by omega]
   exact qbA (by omega)
  have e5 : decide (¬ (((H % 2 ^ (d - 1) : Nat) : Int) = 0)) = decide (H % 2 ^ (d - 1) ≠ 0) := decide_eq_decide.2 (by omega)
  rw [e2, e3, e4, qpb H (d - 1) (by omega) (by omega), e5]
  refine qa (by omega) (qa (by omega) ?_)
  cases b
  ·refine qb (by simp) (qa (by omega) ?_)
   exact qpM m s hW _ _
  ·refine qa rfl ?_
   exact qpM m s hW _ _
 by_cases c2 : d < 64
 ·refine qa (by omega) (qa (by omega) ?_)
  rw [qe1 H d (by show d ≤ 64; omega)]
  exact last
 ·have qap : d = 64 := by omega
  have e0 : H / 2 ^ d = 0 := Nat.div_eq_of_lt (by rw [qap]; exact hH.2)
  refine qb (by omega) ?_
  rw [e0] at last ⊢
  exact last
def qep (f m : Int) (s : Bool) (T : Int) (U : Int → Nat) (X : Int → Bool) : Int × Int :=
 if (bl (U (max (T - (pr f : Nat)) (lo f))) : Int) + max (T - (pr f : Nat)) (lo f) > wd f then ((qdW f m s : Int), 20)
 else ((((if U (max (T - (pr f : Nat)) (lo f)) = 0 then 0 else qe7 f (U (max (T - (pr f : Nat)) (lo f))) (max (T - (pr f : Nat)) (lo f))) + sgn f s : Nat) : Int),
  if X (max (T - (pr f : Nat)) (lo f)) = true then 0
  else if (bl (U (T - (pr f : Nat))) : Int) + (T - (pr f : Nat)) < lo f + (pr f : Nat) then 24 else 16)
theorem qjr (f m : Int) (s : Bool) (n : Nat) (e : Int) : qep f m s (e + (bl n : Nat)) (R m s n e) (exR n e) = qP f m s n e := rfl
theorem qlO {f m : Int} {s : Bool} {T : Int} {U U' : Int → Nat} {X X' : Int → Bool} (h : ∀ E, T - (pr f : Nat) ≤ E → U E = U' E ∧ X E = X' E) : qep f m s T U X = qep f m s T U' X' := by
 unfold qep
 rw [(h (max (T - (pr f : Nat)) (lo f)) (by omega)).1, (h (max (T - (pr f : Nat)) (lo f)) (by omega)).2, (h (T - (pr f : Nat)) (by omega)).1]
theorem qjs {f : Int} (h : isF f) : qfy.f f = some ((pr f : Int), lo f, wd f, true) := by rcases h with rfl | rfl <;> rfl
theorem qu6 {f : Int} (h : ¬ isF f) : qfy.f f = some (0, 0, 0, false) := by
 unfold qfy.f
 rw [if_neg (fun e => h (.inl e)), if_neg (fun e => h (.inr e))]
def fmE (f m : Int) : Int := if isF f then (if isM m then 0 else 5) else 4
theorem qu7 {f m : Int} (h : isF f) (hm : isM m) : Ev (fun k => qae.f k f m []) ((pr f : Int), lo f, wd f, 0) := by
 unfold qae.f
 unfold isM at hm
 refine qi (qjs h) ?_; try dsimp only
 refine qb (by simp) (qb (by omega) (qb (by omega) ?_))
 refine qc ?_
 simp only [qae.l0]
 exact qb (by simp) (Ev.now _)
theorem qu8 {f m : Int} (h : fmE f m ≠ 0) : ∃ r : Int × Int × Int × Int, r.2.2.2 = fmE f m ∧ Ev (fun k => qae.f k f m []) r ∧ ∀ d, Ev (fun k => qae.f k f m [d]) r := by
 unfold fmE at *
 by_cases c : isF f
 ·rw [if_pos c] at h ⊢
  by_cases hm : isM m
  ·rw [if_pos hm] at h; exact absurd rfl h
  ·rw [if_neg hm]
   unfold isM at hm
   have : ∀ l, Ev (fun k => qae.f k f m l) ((pr f : Int), lo f, wd f, 5) := by
    intro l
    unfold qae.f
    refine qi (qjs c) ?_; try dsimp only
    refine qb (by simp) ?_
    by_cases c : m < 1
    ·exact qa c (Ev.now _)
    ·exact qb c (qa (by omega) (Ev.now _))
   exact ⟨((pr f : Int), lo f, wd f, 5), rfl, this _, fun d => this _⟩
 ·rw [if_neg c]
  have : ∀ l, Ev (fun k => qae.f k f m l) (0, 0, 0, 4) := by
   intro l
   unfold qae.f
   refine qi (qu6 c) ?_; try dsimp only
   exact qa (by simp) (Ev.now _)
  exact ⟨(0, 0, 0, 4), rfl, this _, fun d => this _⟩
theorem qu9 {f m : Int} (h : isF f) (hm : isM m) {s : Bool} {l : List Int} {e : Int} (hd : My s l e) : Ev (fun k => qae.f k f m [(s, l, e)]) ((pr f : Int), lo f, wd f, 0) := by
 unfold qae.f
 unfold isM at hm
 refine qi (qjs h) ?_; try dsimp only
 refine qb (by simp) (qb (by omega) (qb (by omega) ?_))
 have e1 : wrap64 (0 + 1) = 1 := by rw [qbx (by omega) (by omega)]; rfl
 have el : (([(s, l, e)] : List (Bool × List Int × Int)).length : Int) = 1 := rfl
 have r0 : rdT [.b, .is .u32, .i .i64] [(s, l, e)] 0 = (s, l, e) := rfl
 refine qc ?_
 simp only [qae.l0, el, e1, r0]
 clear e1
 refine qa (by omega) (qa (by omega) (qa (by omega) ?_))
 refine qi (qe5 hd) ?_; try dsimp only
 refine qb (by simp) (qc ?_)
 simp only [qae.l0]
 exact qb (by omega) (Ev.now _)
theorem qva {f : Int} (h : isF f) (s b : Bool) : Ev (fun k => qaZ.j1 k f s b) ((((if b = true then mo f * 2 ^ fb f - 1 else mo f * 2 ^ fb f) + sgn f s : Nat) : Int), 0) := by
 refine qc ?_
 simp only [qaZ.j1]
 cases b
 ·refine qb (by simp) ?_
  refine Ev.bind (qph h s) ?_; try dsimp only
  exact Ev.now _
 ·refine qa rfl ?_
  refine Ev.bind (quu h s) ?_; try dsimp only
  exact Ev.now _
theorem qpO {f m : Int} (h : isF f) (hm : isM m) (s : Bool) : Ev (fun k => qaZ.f k f m s) ((qdW f m s : Int), 0) := by
 have j := fun b => qva h s b
 unfold qaZ.f qdW
 refine Ev.bind (qu7 h hm) ?_; try dsimp only
 refine qb (by simp) ?_
 by_cases c3 : m = 3
 ·refine qa c3 ?_
  have e : inw m s = true := by unfold inw; simp [c3]
  rw [e]; exact j true
 refine qb c3 ?_
 by_cases c4 : m = 4
 ·refine qa c4 ?_
  have e : inw m s = s := by unfold inw; simp [c4]
  rw [e]
  cases s
  ·exact qb (by simp) (qb (by omega) (j false))
  ·exact qa rfl (j true)
 refine qb c4 ?_
 by_cases c5 : m = 5
 ·refine qa c5 ?_
  have e : inw m s = !s := by unfold inw; simp [c5]
  rw [e]; exact j (!s)
 ·refine qb c5 ?_
  have e : inw m s = false := by unfold inw; simp [c3, c4, c5]
  rw [e]; exact j false
theorem qvb {f m : Int} (h : fmE f m ≠ 0) (s : Bool) : Ev (fun k => qaZ.f k f m s) (0, fmE f m) := by
 obtain ⟨r, hr, ho, _⟩ := qu8 h
 unfold qaZ.f
 refine Ev.bind (ho) ?_; try dsimp only
 rw [hr]
 exact qa h (Ev.now _)
theorem qvc {f : Int} (h : isF f) : Ev (fun k => qed.f k f false [] 0) (0, 0) := by
 have hm : My false [] 0 := ⟨⟨qfK, fun _ => ⟨rfl, rfl⟩, fun h => absurd rfl h⟩, by simp, by omega, by omega⟩
 have hn := qkX Dg.nil (by simp)
 have e1 : qc3 [] = true := qlx qfK (by simp)
 rw [e1, if_pos rfl] at hn
 have hl := qhx (x := 0) (by omega)
 have b0 : bl (Int.toNat 0) = 0 := qby
 rw [b0] at hl
 have hfb := qba h
 have w1 : wrap64 ((fb f : Int) + 1) = (fb f : Int) + 1 := by unfold wrap64; omega
 unfold qed.f
 refine Ev.bind (qgx h) ?_; try dsimp only
 refine qb (fun h => h rfl) ?_
 refine qi (qe5 hm) ?_; try dsimp only
 refine qb (by simp) ?_
 refine Ev.bind (hn) ?_; try dsimp only
 refine Ev.bind (hl) ?_; try dsimp only
 rw [w1]
 clear w1
 refine qb (by simp) (qb (by omega) (qb (by simp) ?_))
 exact qa rfl (Ev.now _)
theorem qpP {m : Int} {s : Bool} {H : Nat} (hH : H < 2 ^ 64) {T E : Int} {b : Bool} {p : Nat} (hp : p ≤ 64) (h : T - (p : Nat) ≤ E) : UP m s H T b E ≤ 2 ^ p := by
 have hb : bN b ≤ 1 := by unfold bN; split <;> omega
 have h1 : (2 * H + bN b) / 2 ^ ((E - T + 64).toNat + 1) < 2 ^ p := by
  rw [Nat.div_lt_iff_lt_mul (qm _), ← Nat.pow_add]
  have : 2 ^ 65 ≤ 2 ^ (p + ((E - T + 64).toNat + 1)) := Nat.pow_le_pow_right (by omega) (by omega)
  omega
 unfold UP rnd
 split <;> omega
theorem qvd {f : Int} (h : isF f) (s : Bool) {q : Nat} {E : Int} (hq : q ≤ 2 ^ pr f) (hE : lo f ≤ E) (hw : (bl q : Int) + E ≤ wd f) (h0 : q ≠ 0) : Ev (fun k => qed.f k f (mk (sv s q) E).1 (mk (sv s q) E).2.1 (mk (sv s q) E).2.2) (((qe7 f q E + sgn f s : Nat) : Int), 0) := by
 have hpr := qaH h
 have hfb := qba h
 have hl := qc8 h
 have hwb := qfR h
 have h2 := (qpE h0 hq).resolve_right (by omega)
 have h3 := qlL h0
 have hdy := qaG (sv s q) E
 rw [qfO s h0] at hdy ⊢
 have hne : D (q / 2 ^ lw q) ≠ [] := by
  intro hc
  have h1 : V (D (q / 2 ^ lw q)) = 0 := by rw [hc]; rfl
  rw [V_D] at h1
  rw [h1, qby] at h3
  have := qfP h0
  omega
 have hmy : My s (D (q / 2 ^ lw q)) (E + (lw q : Nat)) := ⟨hdy, qa9 (by omega), by omega, by omega⟩
 have := qut h hmy hne (by rw [V_D]; exact h2) (by omega) (by rw [V_D]; omega)
 rw [V_D] at this
 exact this
theorem qve {f m : Int} (h : isF f) (s : Bool) {H : Nat} (hH : 2 ^ 63 ≤ H ∧ H < 2 ^ 64) {T : Int} (b : Bool) (h1 : -100000000 ≤ T) (h2 : T ≤ 100000000) (x : Bool) (w : Int) :
  Ev (fun k => qb7.j1 k m s (H : Int) T b (pr f : Int) (lo f) (wd f) x w) (w, if x = true then 0 else if (bl (UP m s H T b (T - (pr f : Nat))) : Int) + (T - (pr f : Nat)) < lo f + (pr f : Nat) then 24 else 16) := by
 have hpr := qaH h
 have hfb := qba h
 have hl := qc8 h
 have hu := qpN m s hH (T := T) (E := T - (pr f : Nat)) b (by omega) (by omega) (by omega) (by omega) (by omega)
 have hle := qpP (m := m) (s := s) (H := H) (b := b) hH.2 (T := T) (E := T - (pr f : Nat)) (p := pr f) (by omega) (Int.le_refl _)
 have h2f := qhL h
 have hlen := qhx (x := (UP m s H T b (T - (pr f : Nat)) : Int)) ⟨by omega, by omega⟩
 rw [Int.toNat_natCast] at hlen
 have hb : bl (UP m s H T b (T - (pr f : Nat))) ≤ 64 := qao (by omega)
 refine qc ?_
 simp only [qb7.j1]
 cases x
 ·refine qb (by simp) ?_
  have w0 : wrap64 (T - ((pr f : Nat) : Int)) = T - ((pr f : Nat) : Int) := by unfold wrap64; omega
  rw [w0]
  clear w0
  refine Ev.bind (hu) ?_; try dsimp only
  refine Ev.bind (hlen) ?_; try dsimp only
  have w1 : wrap64 (wrap64 ((bl (UP m s H T b (T - (pr f : Nat))) : Int) + T) - ((pr f : Nat) : Int)) = (bl (UP m s H T b (T - (pr f : Nat))) : Int) + (T - (pr f : Nat)) := by unfold wrap64; omega
  have w2 : wrap64 (lo f + ((pr f : Nat) : Int)) = lo f + ((pr f : Nat) : Int) := by clear w1; unfold wrap64; omega
  rw [w1, w2]
  clear w1 w2
  rw [if_neg Bool.false_ne_true]
  by_cases c : (bl (UP m s H T b (T - (pr f : Nat))) : Int) + (T - (pr f : Nat)) < lo f + (pr f : Nat)
  ·exact qa c (qd (Ev.now _) (by rw [if_pos c]))
  ·exact qb c (qd (Ev.now _) (by rw [if_neg c]))
 ·exact qa rfl (Ev.now _)
theorem qpQ {f m : Int} (h : isF f) (hm : isM m) (s : Bool) {H : Nat} (hH : 2 ^ 63 ≤ H ∧ H < 2 ^ 64) {T : Int} (b : Bool) (h1 : -100000000 ≤ T) (h2 : T ≤ 100000000) :
  Ev (fun k => qb7.f k (H : Int) T b f (pr f : Int) (lo f) (wd f) m s) (qep f m s T (UP m s H T b) (XP H T b)) := by
 have hpr := qaH h
 have hfb := qba h
 have hl := qc8 h
 have hwb := qfR h
 have h2f := qhL h
 obtain ⟨E, hE⟩ : ∃ E, E = max (T - (pr f : Nat)) (lo f) := ⟨_, rfl⟩
 have hu := qpN m s hH (T := T) (E := E) b (by omega) (by omega) (by omega) (by omega) (by omega)
 have hle := qpP (m := m) (s := s) (H := H) (b := b) hH.2 (T := T) (E := E) (p := pr f) (by omega) (by omega)
 have hlen := qhx (x := (UP m s H T b E : Int)) ⟨by omega, by omega⟩
 rw [Int.toNat_natCast] at hlen
 have hb : bl (UP m s H T b E) ≤ 64 := qao (by omega)
 have ho := qkN (n := (UP m s H T b E : Int)) (by omega) (by omega)
 rw [Int.toNat_natCast] at ho
 have hj := qve (m := m) h s hH (T := T) b h1 h2 (XP H T b E)
 have hwos := qvd h s (q := UP m s H T b E) (E := E) hle (by omega)
 have em : mx (wrap64 (T - ((pr f : Nat) : Int))) (lo f) = E := by rw [qi6, qe6 (by omega) (by omega) (by omega) (by omega), hE]
 unfold qb7.f qep
 rw [em, ← hE]
 clear em
 refine Ev.bind (hu) ?_; try dsimp only
 refine Ev.bind (hlen) ?_; try dsimp only
 have w1 : wrap64 ((bl (UP m s H T b E) : Int) + E) = (bl (UP m s H T b E) : Int) + E := qcd (by omega) (by omega) (by omega) (by omega)
 rw [w1]
 clear w1
 by_cases c : (bl (UP m s H T b E) : Int) + E > wd f
 ·rw [if_pos c]
  refine qa c ?_
  refine Ev.bind (qpO h hm s) ?_; try dsimp only
  exact Ev.now _
 rw [if_neg c]
 refine qb c ?_
 refine Ev.bind (ho) ?_; try dsimp only
 have m1 := qgv s (q7 (UP m s H T b E)) (qa9 (by omega)) E
 rw [V_D, qgw (by omega) (by omega)] at m1
 refine Ev.bind (m1) ?_; try dsimp only
 by_cases c0 : UP m s H T b E = 0
 ·have hz := qvc h
  rw [if_pos c0]
  rw [c0, qcE, qoY]
  refine Ev.bind (hz) ?_; try dsimp only
  refine qa rfl ?_
  refine Ev.bind (qpg h s) ?_; try dsimp only
  rw [Nat.zero_add]
  exact hj _
 ·rw [if_neg c0]
  refine Ev.bind (hwos (by omega) c0) ?_; try dsimp only
  refine qb (by omega) ?_
  exact hj _
theorem qpR {s : Bool} {l : List Int} {e : Int} (hd : My s l e) (h0 : V l ≠ 0) : Ev (fun k => qeC.f k s l e) ((qap (V l) : Int), e + (bl (V l) : Nat), qce (V l)) := by
 have hlen := hd.len
 have hb := qcc hd.dy.nm.dg
 have hlo := hd.lo
 have hhi := hd.hi
 have hH := qpI h0
 unfold qeC.f
 refine Ev.bind (qgt hd.dy.nm hlen) ?_; try dsimp only
 have w1 : wrap64 (e + ((bl (V l) : Nat) : Int)) = e + ((bl (V l) : Nat) : Int) := qcd (by omega) (by omega) (by omega) (by omega)
 have w2 : wrap64 (64 - ((bl (V l) : Nat) : Int)) = 64 - ((bl (V l) : Nat) : Int) := by clear w1; unfold wrap64; omega
 rw [w1, w2]
 clear w1 w2
 have hs := qi7 hd.dy.nm hlen (64 - ((bl (V l) : Nat) : Int))
 have es : qe4 (V l) (64 - ((bl (V l) : Nat) : Int)) = (D (qap (V l)), qce (V l), 0) := by
  by_cases c : bl (V l) ≤ 64
  ·have e1 : 64 - ((bl (V l) : Nat) : Int) = ((64 - bl (V l) : Nat) : Int) := by omega
   have e2 : bl (V l) - 64 = 0 := by omega
   rw [e1, qlm (by omega)]
   unfold qap qce
   rw [e2, Nat.pow_zero, Nat.div_one, Nat.mod_one]; rfl
  ·have e1 : 64 - ((bl (V l) : Nat) : Int) = -((bl (V l) - 64 : Nat) : Int) := by omega
   have e2 : 64 - bl (V l) = 0 := by omega
   rw [e1, qln (by omega) (by omega)]
   unfold qap qce
   rw [e2, Nat.pow_zero, Nat.mul_one]
 rw [es] at hs
 refine Ev.bind (hs) ?_; try dsimp only
 have hl2 : (D (qap (V l))).length ≤ 2 := qbz (by omega)
 have hn := qkX (qas (qap (V l))) (by omega)
 rw [qlx (q7 _) (by rw [V_D]; omega), if_pos rfl, V_D] at hn
 refine Ev.bind (hn) ?_; try dsimp only
 exact Ev.now _
theorem qvf {f m : Int} (h : isF f) (hm : isM m) {s : Bool} {l : List Int} {e : Int} (hd : My s l e) (h0 : V l ≠ 0) : Ev (fun k => qfC.f k f m s l e) ((qP f m s (V l) e).1, (qP f m s (V l) e).2, 0) := by
 have hb := qcc hd.dy.nm.dg
 have hlen := hd.len
 have hlo := hd.lo
 have hhi := hd.hi
 have hpr := qaH h
 have hfb := qba h
 have hp := qpQ h hm s (qpI h0) (T := e + (bl (V l) : Nat)) (qce (V l)) (by omega) (by omega)
 have hg : qep f m s (e + (bl (V l) : Nat)) (UP m s (qap (V l)) (e + (bl (V l) : Nat)) (qce (V l))) (XP (qap (V l)) (e + (bl (V l) : Nat)) (qce (V l))) = qP f m s (V l) e := by
  rw [← qjr]
  refine qlO ?_
  intro E hE
  exact qu4 m s h0 (by omega)
 rw [hg] at hp
 unfold qfC.f
 refine Ev.bind (qu9 h hm hd) ?_; try dsimp only
 refine qb (by simp) ?_
 refine Ev.bind (qlt hd) ?_; try dsimp only
 refine qb (by rw [qfQ h0]; split <;> omega) ?_
 refine Ev.bind (qpR hd h0) ?_; try dsimp only
 refine Ev.bind (hp) ?_; try dsimp only
 exact Ev.now _
theorem qlP (f m : Int) (s : Bool) {n : Nat} (hn : n ≠ 0) (e : Int) (j : Nat) : qP f m s (n * 2 ^ j) e = qP f m s n (e + j) := by
 have hu : qh f (n * 2 ^ j) e = qh f n (e + j) := by unfold qh; rw [qdr hn]; congr 1; omega
 have hb : e + (bl (n * 2 ^ j) : Nat) - (pr f : Nat) = e + j + (bl n : Nat) - (pr f : Nat) := by rw [qdr hn]; omega
 unfold qP
 simp only [hu, hb, qpx, qpy]
theorem qvg {s : Bool} {n : Nat} (h : n ≠ 0) : decide (sv s n < 0) = s ∧ (sv s n).natAbs = n ∧ sv s n ≠ 0 := ⟨qds h, qaf s n, fun h2 => h (qbP.1 h2)⟩
theorem qdu {z : Int} (h : z ≠ 0) (e : Int) : ∃ j : Nat, z.natAbs = V (mk z e).2.1 * 2 ^ j ∧ (mk z e).2.2 = e + j ∧ (mk z e).1 = decide (z < 0) ∧ V (mk z e).2.1 ≠ 0 := by
 have hza : z.natAbs ≠ 0 := by omega
 obtain ⟨q, hq⟩ := qe3 hza
 have hd : z.natAbs / 2 ^ lw z.natAbs = 2 * q + 1 := by
  have : z.natAbs / 2 ^ lw z.natAbs = 2 ^ lw z.natAbs * (2 * q + 1) / 2 ^ lw z.natAbs := by rw [← hq]
  rw [this, Nat.mul_div_cancel_left _ (qm _)]
 have hm : mk z e = (decide (z < 0), D (z.natAbs / 2 ^ lw z.natAbs), e + (lw z.natAbs : Nat)) := by unfold mk; rw [if_neg h]
 refine ⟨lw z.natAbs, ?_, by rw [hm], by rw [hm], ?_⟩
 ·rw [hm]
  show _ = V (D _) * _
  rw [V_D, hd, Nat.mul_comm]; exact hq
 ·rw [hm]
  show V (D _) ≠ 0
  rw [V_D, hd]; omega
theorem qvh (n j b : Nat) (hn : n ≠ 0) (s : Bool) (e : Int) : mk (sv s (n * 2 ^ j / 2 ^ (bl (n * 2 ^ j) - b))) (e + ((bl (n * 2 ^ j) - b : Nat) : Int)) = mk (sv s (n / 2 ^ (bl n - b))) (e + j + ((bl n - b : Nat) : Int)) ∧ (n * 2 ^ j % 2 ^ (bl (n * 2 ^ j) - b) = 0 ↔ n % 2 ^ (bl n - b) = 0) := by
 rw [qdr hn]
 by_cases c : bl n ≤ b
 ·have e1 : bl n - b = 0 := by omega
  have e2 : bl n + j - b ≤ j := by omega
  generalize bl n + j - b = t at *
  have h1 : n * 2 ^ j = n * 2 ^ (j - t) * 2 ^ t := by rw [Nat.mul_assoc, ← Nat.pow_add]; congr 2; omega
  rw [e1, Nat.pow_zero, Nat.div_one, Nat.mod_one, h1, Nat.mul_div_cancel _ (qm t), Nat.mul_mod_left]
  refine ⟨?_, Iff.rfl⟩
  have h2 : sv s (n * 2 ^ (j - t)) = sv s n * 2 ^ (j - t) := by
   unfold sv; split
   ·rw [Int.neg_mul, Int.natCast_mul, Int.natCast_pow]; rfl
   ·rw [Int.natCast_mul, Int.natCast_pow]; rfl
  rw [h2, qc6]; congr 1; omega
 ·have e1 : bl n + j - b = bl n - b + j := by omega
  rw [e1]
  have h1 := qgz (H := n) (j := j) (r := 0) (d := bl n - b) (qm j)
  rw [Nat.add_zero] at h1
  rw [h1.1, h1.2]
  refine ⟨by congr 1; omega, ?_⟩
  constructor
  ·intro h
   have h2 : n % 2 ^ (bl n - b) * 2 ^ j = 0 := by omega
   rcases Nat.mul_eq_zero.1 h2 with h3 | h3
   ·exact h3
   ·have := qm j; omega
  ·intro h; rw [h]; omega
theorem qvi {z : Int} (hz : z ≠ 0) {e : Int} (hb : bl z.natAbs ≤ 20000000) (h1 : -90000000000000 ≤ e) (h2 : e ≤ 90000000000000) (b : Nat) (hbb : b ≤ 100000000) : Ev (fun k => qfJ.f k (mk z e).1 (mk z e).2.1 (mk z e).2.2 b) ((mk (sv (decide (z < 0)) (z.natAbs / 2 ^ (bl z.natAbs - b))) (e + ((bl z.natAbs - b : Nat) : Int))).1, (mk (sv (decide (z < 0)) (z.natAbs / 2 ^ (bl z.natAbs - b))) (e + ((bl z.natAbs - b : Nat) : Int))).2.1, (mk (sv (decide (z < 0)) (z.natAbs / 2 ^ (bl z.natAbs - b))) (e + ((bl z.natAbs - b : Nat) : Int))).2.2, decide (z.natAbs % 2 ^ (bl z.natAbs - b) ≠ 0)) := by
 have a1 := qen z e
 have a2 := qb2 z e
 have e1 : (mk z e).2.2 = me z e := rfl
 obtain ⟨j, j1, j2, j3, j4⟩ := qdu hz e
 have := qt9 (qaG z e) (by omega) (by omega) (by omega) b hbb
 refine qd this ?_
 have hc := qvh (V (mk z e).2.1) j b j4 (decide (z < 0)) e
 rw [← j1] at hc
 rw [j2, j3, ← hc.1]
 have : decide (V (mk z e).2.1 % 2 ^ (bl (V (mk z e).2.1) - b) ≠ 0) = decide (z.natAbs % 2 ^ (bl z.natAbs - b) ≠ 0) := decide_eq_decide.2 (not_congr hc.2.symm)
 rw [this]
def qA (A B b : Nat) : Nat := b + 1 + bl B - bl A
def qat (A B b : Nat) : Nat := bl (A * 2 ^ qA A B b / B) - b
def qcf (A B b : Nat) : Nat := A * 2 ^ qA A B b / (B * 2 ^ qat A B b)
def qe8 (A B b : Nat) : Bool := decide (A * 2 ^ qA A B b % (B * 2 ^ qat A B b) ≠ 0)
theorem qvj {ea eb : Int} {n : Nat} (h1 : -1000000000 ≤ ea) (h2 : ea ≤ 1000000000) (h3 : -1000000000 ≤ eb) (h4 : eb ≤ 1000000000) (hn : n ≤ 100000000) : wrap64 (wrap64 (ea - eb) - (n : Int)) = ea - eb - (n : Int) := by unfold wrap64; omega
theorem qvk {b x y : Nat} (h1 : b ≤ 1000000) (h2 : x ≤ 10000000) (h3 : y ≤ 10000000) : wrap64 (wrap64 (wrap64 ((b : Int) + 1) + (x : Int)) - (y : Int)) = (b : Int) + 1 + (x : Int) - (y : Int) := by unfold wrap64; omega
theorem qvl {sa sb : Bool} {la lb : List Int} {ea eb : Int} (ha : Dy sa la ea) (hb : Dy sb lb eb) (A0 : V la ≠ 0) (B0 : V lb ≠ 0) (l1 : la.length ≤ 100000) (l2 : lb.length ≤ 100000) (h1 : -1000000000 ≤ ea) (h2 : ea ≤ 1000000000) (h3 : -1000000000 ≤ eb) (h4 : eb ≤ 1000000000) (b : Nat) (hbb : b ≤ 1000000) :
  Ev (fun k => qc0.f k sa la ea sb lb eb b) ((mk (sv (sa != sb) (qcf (V la) (V lb) b)) (ea - eb - (qA (V la) (V lb) b : Nat) + (qat (V la) (V lb) b : Nat))).1, (mk (sv (sa != sb) (qcf (V la) (V lb) b)) (ea - eb - (qA (V la) (V lb) b : Nat) + (qat (V la) (V lb) b : Nat))).2.1, (mk (sv (sa != sb) (qcf (V la) (V lb) b)) (ea - eb - (qA (V la) (V lb) b : Nat) + (qat (V la) (V lb) b : Nat))).2.2, qe8 (V la) (V lb) b) := by
 have b1 := qcc ha.nm.dg
 have b2 := qcc hb.nm.dg
 have lne : lb ≠ [] := fun h => B0 (by rw [h]; rfl)
 have ane : la ≠ [] := fun h => A0 (by rw [h]; rfl)
 have hN : qA (V la) (V lb) b = b + 1 + bl (V lb) - bl (V la) := rfl
 have hC : qat (V la) (V lb) b = bl (V la * 2 ^ qA (V la) (V lb) b / V lb) - b := rfl
 have hup := qhz ha.nm.dg (by omega) (qA (V la) (V lb) b) (by omega)
 have hul := qlr ha.nm.dg (n := qA (V la) (V lb) b)
 have hq := qto (q7 (V la * 2 ^ qA (V la) (V lb) b)) hb.nm (by omega) (by omega) lne
 rw [V_D] at hq
 have last : ∀ u v w, Ev (fun k => qc0.j1 k b sa la ea sb lb eb u v w (qA (V la) (V lb) b : Nat)) ((mk (sv (sa != sb) (qcf (V la) (V lb) b)) (ea - eb - (qA (V la) (V lb) b : Nat) + (qat (V la) (V lb) b : Nat))).1, (mk (sv (sa != sb) (qcf (V la) (V lb) b)) (ea - eb - (qA (V la) (V lb) b : Nat) + (qat (V la) (V lb) b : Nat))).2.1, (mk (sv (sa != sb) (qcf (V la) (V lb) b)) (ea - eb - (qA (V la) (V lb) b : Nat) + (qat (V la) (V lb) b : Nat))).2.2, qe8 (V la) (V lb) b) := by
  intro u v w
  refine qc ?_
  simp only [qc0.j1]
  refine Ev.bind (hup) ?_; try dsimp only
  refine Ev.bind (hq) ?_; try dsimp only
  rw [qvj h1 h2 h3 h4 (by omega), qo3]
  have eQ : qcf (V la) (V lb) b = V la * 2 ^ qA (V la) (V lb) b / V lb / 2 ^ qat (V la) (V lb) b := by unfold qcf; rw [Nat.div_div_eq_div_mul]
  have eL : qe8 (V la) (V lb) b = (decide (V la * 2 ^ qA (V la) (V lb) b / V lb % 2 ^ qat (V la) (V lb) b ≠ 0) || decide (V la * 2 ^ qA (V la) (V lb) b % V lb ≠ 0)) := by
   unfold qe8
   rw [Nat.mod_mul]
   have hB : 0 < V lb := by omega
   generalize V la * 2 ^ qA (V la) (V lb) b / V lb % 2 ^ qat (V la) (V lb) b = x
   generalize V la * 2 ^ qA (V la) (V lb) b % V lb = y
   by_cases c : x = 0
   ·subst c; simp
   ·have : V lb * x ≠ 0 := Nat.mul_ne_zero (by omega) c
    rw [decide_eq_true (show y + V lb * x ≠ 0 by omega), decide_eq_true c, Bool.true_or]
  have hqb : bl (V la * 2 ^ qA (V la) (V lb) b / V lb) ≤ bl (V la) + qA (V la) (V lb) b := Nat.le_trans (qcb (Nat.div_le_self _ _)) (qhD _ _)
  have hQ0 : V la * 2 ^ qA (V la) (V lb) b / V lb ≠ 0 := by
   have h5 := qan (V lb)
   have h6 : 2 ^ bl (V lb) ≤ V la * 2 ^ qA (V la) (V lb) b := by
    have h7 := qe0 A0
    have h8 : 2 ^ (bl (V la) - 1) * 2 ^ qA (V la) (V lb) b ≤ V la * 2 ^ qA (V la) (V lb) b := Nat.mul_le_mul_right _ h7
    rw [← Nat.pow_add] at h8
    have h9 := qcD A0
    exact Nat.le_trans (Nat.pow_le_pow_right (by omega) (by omega)) h8
   have := Nat.div_pos (show V lb ≤ V la * 2 ^ qA (V la) (V lb) b by omega) (by omega)
   omega
  rw [eL, eQ]
  generalize hNN : qA (V la) (V lb) b = n at *
  generalize hCC : qat (V la) (V lb) b = c at *
  generalize V la * 2 ^ n % V lb = y
  generalize hx : V la * 2 ^ n / V lb = x at *
  clear hup hq
  have hf := qdT (sa != sb) (q7 x) (by have := qa9 (x := x) (k := 300000) (by omega); omega) (e := ea - eb - (n : Int)) (by omega) (by omega)
  rw [V_D] at hf
  refine Ev.bind (hf) ?_; try dsimp only
  obtain ⟨a1, a2, a3⟩ := qvg (s := (sa != sb)) hQ0
  have hc := qvi a3 (e := ea - eb - (n : Int)) (by rw [a2]; omega) (by omega) (by omega) b (by omega)
  rw [a1, a2, ← hC] at hc
  refine Ev.bind (hc) ?_; try dsimp only
  cases hcx : decide (x % 2 ^ c ≠ 0)
  ·refine qb (by simp) (qd (Ev.now _) ?_)
   rw [Bool.false_or]
   have : decide (((D y).length : Int) > 0) = decide (y ≠ 0) := decide_eq_decide.2 (by
    constructor
    ·intro h h2; rw [h2, qU] at h; simp at h
    ·intro h
     have : (D y) ≠ [] := fun h2 => h (by rw [← V_D y, h2]; rfl)
     exact qhH this)
   rw [this]
  ·refine qa rfl (qd (Ev.now _) ?_)
   rw [Bool.true_or]
 unfold qc0.f
 refine qb (fun h => ane (qc7.1 h)) ?_
 refine Ev.bind (qdq hb.nm (by omega)) ?_; try dsimp only
 refine Ev.bind (qdq ha.nm (by omega)) ?_; try dsimp only
 rw [qvk hbb (by omega) (by omega)]
 by_cases c : (b : Int) + 1 + (bl (V lb) : Nat) - (bl (V la) : Nat) < 0
 ·refine qa c ?_
  have : ((qA (V la) (V lb) b : Nat) : Int) = 0 := by omega
  rw [← this]
  exact last _ _ _
 ·refine qb c ?_
  have : (b : Int) + 1 + (bl (V lb) : Nat) - (bl (V la) : Nat) = ((qA (V la) (V lb) b : Nat) : Int) := by omega
  rw [this]
  exact last _ _ _
theorem qhN {A B : Nat} (hA : A ≠ 0) (hB : B ≠ 0) (n : Nat) (h : bl B ≤ bl A + n) : bl A + n - bl B ≤ bl (A * 2 ^ n / B) ∧ bl (A * 2 ^ n / B) ≤ bl A + n - bl B + 1 := by
 have h1 := qe0 hA
 have h2 := qan A
 have h3 := qe0 hB
 have h4 := qan B
 have h5 := qcD hA
 have h6 := qcD hB
 have lo : 2 ^ (bl A - 1 + n) ≤ A * 2 ^ n := by rw [Nat.pow_add]; exact Nat.mul_le_mul_right _ h1
 have hi : A * 2 ^ n < 2 ^ (bl A + n) := by rw [Nat.pow_add]; exact Nat.mul_lt_mul_of_pos_right h2 (qm n)
 constructor
 ·rcases Nat.eq_zero_or_pos (bl A + n - bl B) with c | c
  ·omega
  ·have h7 : 2 ^ (bl A + n - bl B - 1) ≤ A * 2 ^ n / B := by
    rw [Nat.le_div_iff_mul_le (by omega)]
    have h8 : 2 ^ (bl A + n - bl B - 1) * B ≤ 2 ^ (bl A + n - bl B - 1) * 2 ^ bl B := Nat.mul_le_mul_left _ (by omega)
    rw [← Nat.pow_add, show bl A + n - bl B - 1 + bl B = bl A - 1 + n by omega] at h8
    omega
   have h9 := qcb h7
   have : bl (2 ^ (bl A + n - bl B - 1)) = bl A + n - bl B := by
    have := qdr (v := 1) (by omega) (bl A + n - bl B - 1)
    rw [Nat.one_mul] at this
    rw [this, show bl 1 = 1 by decide]; omega
   omega
 ·refine qao ?_
  rw [Nat.div_lt_iff_lt_mul (by omega)]
  have h8 : 2 ^ (bl A + n - bl B + 1) * 2 ^ (bl B - 1) ≤ 2 ^ (bl A + n - bl B + 1) * B := Nat.mul_le_mul_left _ h3
  rw [← Nat.pow_add, show bl A + n - bl B + 1 + (bl B - 1) = bl A + n by omega] at h8
  omega
theorem qvm {A B b : Nat} (hA : A ≠ 0) (hB : B ≠ 0) : qA A B b + bl A = b + qat A B b + bl B ∨ qA A B b + bl A + 1 = b + qat A B b + bl B := by
 have h := qhN hA hB (qA A B b) (by unfold qA; omega)
 have hN : qA A B b = b + 1 + bl B - bl A := rfl
 have hC : qat A B b = bl (A * 2 ^ qA A B b / B) - b := rfl
 omega
theorem qvn {A B b : Nat} (hA : A ≠ 0) (hB : B ≠ 0) : bl (qcf A B b) = b := by
 have h := qhN hA hB (qA A B b) (by unfold qA; omega)
 have hN : qA A B b = b + 1 + bl B - bl A := rfl
 have hC : qat A B b = bl (A * 2 ^ qA A B b / B) - b := rfl
 unfold qcf
 rw [← Nat.div_div_eq_div_mul, qc5]
 omega
theorem qlQ (x y : Nat) : bl (x * y) ≤ bl x + bl y := qao (by rw [Nat.pow_add]; exact Nat.mul_lt_mul'' (qan x) (qan y))
theorem qvo {f m : Int} {s : Bool} {n : Nat} {e : Int} (h : isF f) (hn : n ≠ 0) (ht : e + (bl n : Nat) > wd f) : qP f m s n e = ((qdW f m s : Int), 20) := by
 have hp := qaH h
 have hl := qc8 h
 have hw : 128 ≤ wd f := by rcases h with rfl | rfl <;> decide
 have hu : qh f n e ≤ e + (bl n : Nat) - 1 := by unfold qh; omega
 have hm := (qjo (m := m) (s := s) hn hu).1
 show (if (bl (R m s n e (qh f n e)) : Int) + qh f n e > wd f then _ else _) = _
 rw [if_pos (by omega)]
def qe9 (m : Int) (s : Bool) : Nat := if upB m s false false true = true then 1 else 0
theorem qvp (m : Int) (s : Bool) {n k : Nat} (hn : n ≠ 0) (h : 2 * n < 2 ^ k) : rnd m s n k = qe9 m s := by
 unfold rnd qe9
 rw [Nat.div_eq_of_lt (by omega), Nat.mod_eq_of_lt (by omega : n < 2 ^ k), Nat.mod_eq_of_lt h, Nat.zero_add]
 have e1 : decide (2 ^ k ≤ 2 * n) = false := decide_eq_false (by omega)
 have e2 : decide (2 * n ≠ 0) = true := decide_eq_true (by omega)
 rw [e1, e2]
 rfl
theorem qpS {f m : Int} {s : Bool} {n : Nat} {e : Int} (h : isF f) (hn : n ≠ 0) (ht : e + (bl n : Nat) < lo f) :
  qP f m s n e = ((((if qe9 m s = 0 then 0 else qe7 f (qe9 m s) (lo f)) + sgn f s : Nat) : Int), 24) := by
 have hp := qaH h
 have hl := qc8 h
 have hw : 128 ≤ wd f := by rcases h with rfl | rfl <;> decide
 have hu : qh f n e = lo f := by unfold qh; omega
 obtain ⟨k, hk⟩ : ∃ k : Nat, (lo f - e).toNat = k := ⟨_, rfl⟩
 have hk1 : bl n + 1 ≤ k := by omega
 have h2 : 2 * n < 2 ^ k := by
  have h3 := qan n
  have h4 : 2 ^ (bl n + 1) ≤ 2 ^ k := Nat.pow_le_pow_right (by omega) hk1
  rw [Nat.pow_succ] at h4
  omega
 have hR : R m s n e (lo f) = qe9 m s := by
  unfold R
  rw [show (e - lo f).toNat = 0 by omega, hk, Nat.pow_zero, Nat.mul_one]
  exact qvp m s hn h2
 have hx : exR n e (lo f) = false := by
  unfold exR
  rw [hk, Nat.mod_eq_of_lt (by omega)]
  exact decide_eq_false hn
 have hm := (qjo (m := m) (s := s) hn (show e + (bl n : Nat) - (pr f : Nat) ≤ e + (bl n : Nat) - 1 by omega)).2
 have hb : bl (qe9 m s) ≤ 1 := by unfold qe9; split <;> decide
 show (if (bl (R m s n e (qh f n e)) : Int) + qh f n e > wd f then _ else _) = _
 rw [hu, hR, hx, if_neg (show ¬ ((bl (qe9 m s) : Int) + lo f > wd f) by omega), if_neg (show ¬ (false = true) by simp), if_pos (show (bl (R m s n e (e + (bl n : Nat) - (pr f : Nat))) : Int) + (e + (bl n : Nat) - (pr f : Nat)) < lo f + (pr f : Nat) by omega)]
def qdv : List UInt8 → Bool
 | 45 :: _ => true
 | _ => false
def qcG : List UInt8 → List UInt8
 | 45 :: r => r
 | r => r
open Go.RowKit Go.Proofs Go.Proofs.YtnkpmjhlkmlmbaaGreatDoor.Eng
theorem qpT (l : List UInt8) (c : UInt8) : (Lib.indexByte l c = -1 ∧ c ∉ l) ∨ ∃ A B, l = A ++ c :: B ∧ c ∉ A ∧ Lib.indexByte l c = (A.length : Int) := by
 induction l with
 | nil => exact .inl ⟨rfl, by simp⟩
 | cons b l ih =>
  unfold Lib.indexByte
  by_cases h : b = c
  ·subst h
   exact .inr ⟨[], l, rfl, by simp, by simp⟩
  ·have hb : (b == c) = false := by simpa using h
   rw [hb]
   rcases ih with ⟨h1, h2⟩ | ⟨A, B, h1, h2, h3⟩
   ·exact .inl ⟨by simp [h1], by simp [h2, Ne.symm h]⟩
   ·refine .inr ⟨b :: A, B, by rw [h1]; rfl, by simp [h2, Ne.symm h], ?_⟩
    have : (Lib.indexByte l c == -1) = false := by rw [h3]; simp
    rw [this, h3]
    simp
theorem qvq (a b : List UInt8) (n : Nat) : qs (a ++ b) n = qs b (qs a n) := by unfold qs; rw [List.foldl_append]
theorem qjt {l : List UInt8} (h : l.all isD = true) (hl : l.length ≤ 6) : qs l 0 < 1000000 := by
 have h1 := qsO l h 0
 have h2 : 10 ^ l.length ≤ 10 ^ 6 := Nat.pow_le_pow_right (by omega) hl
 omega
theorem qvr {l : List UInt8} (h1 : ¬ l.take 1 = [45]) (h2 : ¬ l.take 1 = [43]) : qei l = false ∧ qI l = l := by
 cases l with
 | nil => exact ⟨rfl, rfl⟩
 | cons a l =>
  have n1 : a ≠ 45 := by rintro rfl; exact h1 rfl
  have n2 : a ≠ 43 := by rintro rfl; exact h2 rfl
  constructor
  ·unfold qei; split
   ·rename_i h; exact absurd (List.cons.inj h).1 n1
   ·rfl
  ·unfold qI; split
   ·rename_i h; exact absurd (List.cons.inj h).1 n1
   ·rename_i h; exact absurd (List.cons.inj h).1 n2
   ·rfl
theorem qcg {s : ByteArray} {A B : List UInt8} {b : UInt8} (h : tl s = A ++ b :: B) : bt s (A.length : Int) = (b.toNat : Int) := by
 rw [qnR, h, Int.toNat_natCast]
 simp [List.getD]
theorem qaI {s : ByteArray} {A B : List UInt8} (h : tl s = A ++ B) : s.size = A.length + B.length := by
 rw [qdO, h, List.length_append]
abbrev RT := Bool × ByteArray × List Int × Int × Bool
def rF : RT := (false, ⟨#[]⟩, [], 0, false)
theorem qvs (l : List UInt8) : (qcG l).length ≤ l.length := by
 unfold qcG; split <;> simp
set_option maxRecDepth 100000
theorem qpU {α : Type} {g : Nat → Option α} {r : α} {n : Nat} (h : ∀ k, g (k + n) = some r) : Ev g r := ⟨n, fun k hk => by have := h (k - n); rwa [Nat.sub_add_cancel hk] at this⟩
open Go.RowKit Go.Proofs.YtnkpmjhlkmlmbaaGreatDoor.Eng
def pvA : Nat → List Int → Nat
 | a, [] => a
 | a, c :: l => pvA (10 * a + (c - 48).toNat) l
theorem qlR : ∀ (l : List Int) (a : Nat), pvA a l = a * 10 ^ l.length + pvA 0 l
 | [], a => by simp [pvA]
 | c :: l, a => by
  rw [pvA, pvA, qlR l (10 * a + (c - 48).toNat), qlR l (10 * 0 + (c - 48).toNat), List.length_cons, Nat.pow_succ]
  grind
theorem qvt (l m : List Int) (a : Nat) : pvA a (l ++ m) = pvA (pvA a l) m := by
 induction l generalizing a with
 | nil => rfl
 | cons c l ih => simp [pvA, ih]
def pv (l : List Int) : Nat := pvA 0 l
theorem qgA (l m : List Int) : pv (l ++ m) = pv l * 10 ^ m.length + pv m := by
 unfold pv; rw [qvt, qlR]
theorem qvu (l : List Int) (c : Int) : pv (l ++ [c]) = 10 * pv l + (c - 48).toNat := by
 rw [qgA]; simp [pv, pvA]; omega
def qbC (l : List Int) : Prop := ∀ x ∈ l, 48 ≤ x ∧ x ≤ 57
instance (l : List Int) : Decidable (qbC l) := inferInstanceAs (Decidable (∀ x ∈ l, 48 ≤ x ∧ x ≤ 57))
theorem qlS {l : List Int} (h : qbC l) : pv l < 10 ^ l.length := by
 induction l with
 | nil => simp [pv, pvA]
 | cons c l ih =>
  have h1 := h c (by simp)
  have h2 := ih (fun x hx => h x (by simp [hx]))
  have e : pv (c :: l) = (c - 48).toNat * 10 ^ l.length + pv l := by
   have := qgA [c] l
   simpa [pv, pvA] using this
  rw [e, List.length_cons, Nat.pow_succ]
  have h3 : (c - 48).toNat * 10 ^ l.length ≤ 9 * 10 ^ l.length := Nat.mul_le_mul_right _ (by omega)
  omega
theorem qvv (l : List Int) (n : Nat) : pv (l.take n) ≤ pv l := by
 have h := qgA (l.take n) (l.drop n)
 rw [List.take_append_drop] at h
 have : pv (l.take n) * 1 ≤ pv (l.take n) * 10 ^ (l.drop n).length := Nat.mul_le_mul_left _ (Nat.one_le_pow _ _ (by omega))
 omega
def isT (l : List Int) : Bool := decide (qbC l) && (decide (l.length = 1) || decide (1 < l.length) && decide (l.getD 0 0 ≠ 48))
theorem qvw {l : List Int} (h : Dg l) (k : l = [] ∨ 4294967296 ^ (l.length - 1) ≤ V l) : Nm l := by
 rw [qkL h]
 rcases k with k | k
 ·exact .inl k
 ·by_cases e : l = []
  ·exact .inl e
  ·right
   intro h0
   have hl : l.length ≠ 0 := fun e' => e (List.eq_nil_of_length_eq_zero e')
   have h1 := qhu (l := l) (n := l.length - 1) (by omega)
   rw [Nat.sub_add_cancel (by omega), List.take_length, h0] at h1
   have h2 := qhv h (n := l.length - 1) (by omega)
   simp at h1
   omega
def qaJ : List Int → Nat → Nat → List Int
 | [], _, c => if c = 0 then [] else [((c : Nat) : Int)]
 | x :: l, t, c => (((x.toNat * t + c) % 4294967296 : Nat) : Int) :: qaJ l t ((x.toNat * t + c) / 4294967296)
theorem qlT {x t c : Nat} (hx : x < 4294967296) (hc : c < t) : (x * t + c) / 4294967296 < t := by
 apply (Nat.div_lt_iff_lt_mul (by omega)).2
 have h1 : x * t ≤ 4294967295 * t := Nat.mul_le_mul_right _ (by omega)
 omega
theorem qvx {l : List Int} (h : Dg l) {t c : Nat} (hc : c < t) (ht : t < 4294967296) : V (qaJ l t c) = V l * t + c ∧ Dg (qaJ l t c) := by
 induction l generalizing c with
 | nil =>
  unfold qaJ
  split
  ·subst c; exact ⟨by simp, Dg.nil⟩
  ·exact ⟨by simp, Dg.cons (by omega) (by omega) Dg.nil⟩
 | cons x l ih =>
  have hx := h.head
  have hb := qlT (x := x.toNat) (by omega) hc
  have := ih h.tail hb
  refine ⟨?_, Dg.cons (by omega) (by omega) this.2⟩
  rw [qaJ, qO, this.1, qO, Nat.add_mul, Nat.mul_add, Nat.mul_assoc]
  generalize x.toNat * t = p
  generalize V l * t = q
  rw [Int.toNat_natCast]
  omega
theorem qpV {n t c : Nat} (hc : c < t) (ht : t < 4294967296) : qaJ (D n) t c = D (n * t + c) := by
 have h := qvx (qas n) hc ht
 rw [V_D] at h
 have hlen : ∀ (l : List Int) (c : Nat), qaJ l t c = [] ∨ (qaJ l t c).length = l.length ∨ ∃ m d, qaJ l t c = m ++ [d] ∧ d ≠ 0 := by
  intro l
  induction l with
  | nil =>
   intro c
   unfold qaJ
   split
   ·exact .inl rfl
   ·exact .inr (.inr ⟨[], _, rfl, by omega⟩)
  | cons x l ih =>
   intro c
   rw [qaJ]
   rcases ih ((x.toNat * t + c) / 4294967296) with h | h | ⟨m, d, h, hd⟩
   ·rw [h]
    cases l with
    | nil => exact .inr (.inl rfl)
    | cons y l => simp [qaJ] at h
   ·exact .inr (.inl (by simp [h]))
   ·exact .inr (.inr ⟨_ :: m, d, by rw [h]; rfl, hd⟩)
 have key : Nm (qaJ (D n) t c) := by
  rcases hlen (D n) c with e | e | ⟨m, d, e, hd⟩
  ·rw [e]; exact qfK
  ·by_cases hn : n = 0
   ·subst hn
    rw [qU] at e
    have e2 : qaJ (D 0) t c = [] := by rw [qU]; exact List.eq_nil_of_length_eq_zero e
    rw [e2]; exact qfK
   ·apply qvw h.2
    right
    rw [e, h.1]
    have := qkM hn
    have h2 : n * 1 ≤ n * t := Nat.mul_le_mul_left _ (by omega)
    omega
  ·have hg := h.2
   rw [e] at hg ⊢
   have := hg d (by simp)
   exact qhs hg.left (by omega) this.2
 rw [← key, h.1]
theorem uu {x t c : Int} (hx : 0 ≤ x ∧ x < 4294967296) (ht : 0 ≤ t ∧ t < 4294967296) (hc : 0 ≤ c ∧ c < 4294967296) : IntKind.u64.wrap (c + IntKind.u64.wrap (IntKind.u64.wrap x * t)) = x * t + c := by
 have hp := qhw hx ht
 rw [u64 hx.1 (by omega), u64 hp.1 (by omega), u64 (by omega) (by omega)]; omega
theorem qvy (x : Int) (t c : Nat) (hx : 0 ≤ x) : x * (t : Int) + (c : Int) = ((x.toNat * t + c : Nat) : Int) := by
 obtain ⟨X, rfl⟩ := Int.eq_ofNat_of_zero_le hx
 simp
theorem nd (a : Nat) : ((a : Nat) : Int) % 4294967296 = ((a % 4294967296 : Nat) : Int) ∧ ((a : Nat) : Int) / 4294967296 = ((a / 4294967296 : Nat) : Int) := by omega
section
variable (s : ByteArray)
theorem qpW (at' t : Nat) (ht : t < 4294967296) {res : List Int × Int} (full : List Int) (hf : full.length < 1000000000) : ∀ (l done : List Int) (c : Nat), c < t → Dg l → done.length + l.length < 1000000000 → full = done ++ qaJ l t c →
  (Ev (fun k => if (full.length : Int) > 4096 then some ([], 3) else qz.l1 k s full (at' : Int)) res) →
  Ev (fun k => qz.l3 k s (done ++ l) at' t c ((done.length + l.length : Nat) : Int) done.length) res
 | [], done, c, hc, hg, hl, hfull, H => by
  have hj : Ev (fun k => qz.j10 k s full (at' : Int)) res := by
   refine qc ?_
   simp only [qz.j10]
   exact H
  refine qc ?_
  simp only [qz.l3]
  refine qb (by simp) ?_
  rw [List.append_nil]
  by_cases h0 : c = 0
  ·have e : full = done := by rw [hfull]; simp [qaJ, h0]
   rw [e] at hj
   exact qb (by omega) hj
  ·have e : full = done ++ [((c : Nat) : Int) % 4294967296] := by
    rw [hfull]; simp [qaJ, h0]; omega
   rw [e] at hj
   exact qa (by omega) (qa (by simp at hl ⊢; omega) hj)
 | x :: l, done, c, hc, hg, hl, hfull, H => by
  have hx := hg.head
  have hb := qlT (x := x.toNat) (by omega) hc
  have hu := uu hx (t := (t : Int)) (by omega) (c := (c : Int)) (by omega)
  rw [qvy x t c hx.1] at hu
  have hn := nd (x.toNat * t + c)
  have hr : rd (done ++ x :: l) (done.length : Int) = x := qaC rfl
  refine qc ?_
  simp only [qz.l3, hr, hu, hn.1, hn.2, qcC rfl, qak (n := done.length) (by omega)]
  clear hu hn
  refine qa (by simp; omega) (qa (by omega) (qa (by simp; omega) (qa (by omega) (qa (by simp; omega) ?_))))
  have := qpW at' t ht full hf l (done ++ [((((x.toNat * t + c) % 4294967296 : Nat)) : Int)]) _ hb hg.tail (by simp at hl ⊢; omega) (by rw [hfull, qaJ]; simp) H
  rw [List.length_append, List.length_singleton] at this
  have e : done.length + (x :: l).length = done.length + 1 + l.length := by simp; omega
  rw [e]; exact this
omit s in
theorem qdX (s : ByteArray) : (qe s).length = s.size := by unfold qe; rw [List.length_map, Array.length_toList]; rfl
theorem qgB (i : Nat) : bt s (i : Int) = (qe s).getD i 0 := by
 rw [qnR, Int.toNat_natCast]
 have e : qe s = (tl s).map fun b => (b.toNat : Int) := rfl
 rw [e, List.getD_eq_getElem?_getD, List.getD_eq_getElem?_getD, List.getElem?_map]
 cases (tl s)[i]? <;> rfl
theorem qpX (hd : qbC (qe s)) (n next : Nat) (hn : next ≤ s.size) (hs : s.size < 1000000000000) {res : List Int × Int} (hln : (D n).length < 100000000)
  (H : ∀ t c, t < 4294967296 → c < t → t = t → Ev (fun k => qz.l3 k s (D n) next t c ((D n).length : Int) 0) res → True) :
  ∀ (d i t c : Nat), i + d = next → t * 10 ^ d ≤ 1000000000 → c < t →
  Ev (fun k => qz.l3 k s (D n) next ((t * 10 ^ d : Nat) : Int) ((c * 10 ^ d + pv (((qe s).drop i).take d) : Nat) : Int) ((D n).length : Int) 0) res →
  Ev (fun k => qz.l2 k s (D n) i next t c) res
 | 0, i, t, c, hi, ht, hc, h => by
  refine qc ?_
  simp only [qz.l2]
  refine qb (by omega) ?_
  rw [show next = i by omega] at h
  simpa [pv, pvA] using h
 | d + 1, i, t, c, hi, ht, hc, h => by
  have hlen : (qe s).length = s.size := qdX s
  have hget : (qe s).drop i = (qe s).getD i 0 :: (qe s).drop (i + 1) := by
   rw [List.drop_eq_getElem_cons (by omega)]; simp [show i < (qe s).length by omega]
  have hdi := hd ((qe s).getD i 0) (by
   have : i < (qe s).length := by omega
   rw [List.getD_eq_getElem?_getD, List.getElem?_eq_getElem this]; exact List.getElem_mem this)
  generalize hx : (qe s).getD i 0 = x at hget hdi
  have hp : 1 ≤ 10 ^ d := Nat.one_le_pow _ _ (by omega)
  have ht10 : t * 10 * 10 ^ d = t * 10 ^ (d + 1) := by rw [Nat.pow_succ, Nat.mul_assoc, Nat.mul_comm 10]
  have ht9 : t * 10 ≤ 1000000000 := by
   have : t * 10 * 1 ≤ t * 10 * 10 ^ d := Nat.mul_le_mul_left _ hp
   omega
  refine qc ?_
  simp only [qz.l2, qak (n := i) (by omega), qgB, hx]
  refine qa (by omega) (qa (by omega) (qa (by omega) ?_))
  have e1 : IntKind.u64.wrap ((t : Int) * 10) = ((t * 10 : Nat) : Int) := by rw [u64 (by omega) (by omega)]; omega
  have e2 : IntKind.u64.wrap (IntKind.u64.wrap (10 * (c : Int)) + IntKind.u64.wrap ((x - 48) % 256)) = ((10 * c + (x - 48).toNat : Nat) : Int) := by
   rw [u64 (n := 10 * (c : Int)) (by omega) (by omega), u64 (n := (x - 48) % 256) (by omega) (by omega), u64 (by omega) (by omega)]; omega
  rw [e1, e2]
  clear e1 e2
  refine qpX hd n next hn hs hln H d (i + 1) (t * 10) (10 * c + (x - 48).toNat) (by omega) (by omega) (by omega) ?_
  rw [hget, List.take_succ_cons] at h
  have e3 : c * 10 ^ (d + 1) + pv (x :: ((qe s).drop (i + 1)).take d) = (10 * c + (x - 48).toNat) * 10 ^ d + pv (((qe s).drop (i + 1)).take d) := by
   have hq := qgA [x] (((qe s).drop (i + 1)).take d)
   have hl : (((qe s).drop (i + 1)).take d).length = d := by rw [List.length_take, List.length_drop]; omega
   rw [hl] at hq
   have hq1 : pv [x] = (x - 48).toNat := by simp [pv, pvA]
   rw [hq1] at hq
   rw [List.singleton_append] at hq
   rw [hq, Nat.pow_succ, Nat.add_mul, Nat.mul_comm 10 c, Nat.mul_assoc, Nat.mul_comm (10 ^ d) 10, Nat.add_assoc]
  rw [e3, ← ht10] at h
  exact h
theorem qvz (l : List Int) (i d : Nat) : l.take (i + d) = l.take i ++ (l.drop i).take d := by
 rw [List.take_add]
theorem qvA (hd : qbC (qe s)) (hs : s.size < 100000000) : ∀ (r i : Nat), i + r = s.size → (D (pv ((qe s).take i))).length ≤ 4096 → Ev (fun k => qz.l1 k s (D (pv ((qe s).take i))) i) (qab (pv (qe s))) := by
 intro r
 induction r using Nat.strongRecOn with
 | _ r ih =>
  intro i hi hl
  have hlen : (qe s).length = s.size := qdX s
  refine qc ?_
  simp only [qz.l1]
  by_cases c : r = 0
  ·refine qb (by omega) (qd (Ev.now _) ?_)
   have e : (qe s).take i = qe s := List.take_of_length_le (by omega)
   rw [e] at hl ⊢
   unfold qab; rw [if_neg (by omega)]
  ·refine qa (by omega) ?_
   have chunk : ∀ d, 0 < d → d ≤ 9 → d ≤ r → Ev (fun k => qz.j7 k s (D (pv ((qe s).take i))) i ((i + d : Nat) : Int)) (qab (pv (qe s))) := by
    intro d h0 h9 hr
    refine qc ?_
    simp only [qz.j7]
    have hp9 : 1 * 10 ^ d ≤ 1000000000 := by
     have : 10 ^ d ≤ 10 ^ 9 := Nat.pow_le_pow_right (by omega) h9
     omega
    have hlc : (((qe s).drop i).take d).length = d := by rw [List.length_take, List.length_drop]; omega
    have hpl : pv (((qe s).drop i).take d) < 10 ^ d := by
     have := qlS (l := ((qe s).drop i).take d) (fun x hx => hd x (List.mem_of_mem_drop (List.mem_of_mem_take hx)))
     rwa [hlc] at this
    refine qpX s hd _ (i + d) (by omega) (by omega) (by omega) (fun _ _ _ _ _ _ => trivial) d i 1 0 rfl hp9 (by omega) ?_
    rw [Nat.one_mul, Nat.zero_mul, Nat.zero_add]
    have e : pv ((qe s).take (i + d)) = pv ((qe s).take i) * 10 ^ d + pv (((qe s).drop i).take d) := by
     rw [qvz, qgA, hlc]
    have hD := qpV (n := pv ((qe s).take i)) hpl (by omega)
    rw [← e] at hD
    have hDl : (D (pv ((qe s).take (i + d)))).length < 1000000000 := by
     have h1 := qdp (pv ((qe s).take i))
     have h2 : pv ((qe s).take (i + d)) < 4294967296 ^ ((D (pv ((qe s).take i))).length + 1) := by
      rw [e, Nat.pow_succ]
      have h3 : (pv ((qe s).take i) + 1) * 10 ^ d ≤ 4294967296 ^ (D (pv ((qe s).take i))).length * 4294967296 := Nat.mul_le_mul h1 (by omega)
      rw [Nat.add_mul] at h3
      omega
     have := qeW h2
     omega
    have := qpW s (i + d) (10 ^ d) (by omega) (res := qab (pv (qe s))) (D (pv ((qe s).take (i + d)))) hDl (D (pv ((qe s).take i))) [] (pv (((qe s).drop i).take d)) hpl (qas _) (by simp; omega) (by rw [hD]; rfl) ?_
    ·simpa using this
    ·by_cases c2 : (D (pv ((qe s).take (i + d)))).length > 4096
     ·refine qa (by omega) (qd (Ev.now _) ?_)
      have := qgp (qvv (qe s) (i + d))
      unfold qab; rw [if_pos (by omega)]
     ·exact qb (by omega) (ih (r - d) (by omega) (i + d) (by omega) (by omega))
   have e9 : mn (s.size : Int) (wrap64 ((i : Int) + 9)) = ((i + min r 9 : Nat) : Int) := by
    have : wrap64 ((i : Int) + 9) = (i : Int) + 9 := by unfold wrap64; omega
    rw [this]; unfold mn; split <;> omega
   have j3 := chunk (min r 9) (by omega) (by omega) (by omega)
   rw [e9]
   clear e9
   have em : Int.tmod (s.size : Int) 9 = ((s.size % 9 : Nat) : Int) := qlh s.size 9
   by_cases c1 : i = 0
   ·refine qa (by omega) ?_
    rw [em]
    by_cases c2 : s.size % 9 = 0
    ·exact qb (by omega) j3
    ·refine qa (by omega) ?_
     have := chunk (s.size % 9) (by omega) (by omega) (by omega)
     have e : ((i + s.size % 9 : Nat) : Int) = ((s.size % 9 : Nat) : Int) := by omega
     rw [e] at this; exact this
   ·exact qb (by omega) j3
theorem qlU {l : List Int} {i : Nat} (h : i < l.length) : l.getD i 0 ∈ l := by
 rw [List.getD_eq_getElem?_getD, List.getElem?_eq_getElem h]; exact List.getElem_mem h
theorem qpY (hs : s.size < 100000000) : ∀ (r i : Nat), i + r = s.size → (∀ j, j < i → 48 ≤ (qe s).getD j 0 ∧ (qe s).getD j 0 ≤ 57) → Ev (fun k => qz.l0 k s s.size i) (if qbC (qe s) then qab (pv (qe s)) else ([], 12))
 | 0, i, hi, hj => by
  have hlen : (qe s).length = s.size := qdX s
  have hd : qbC (qe s) := by
   intro x hx
   obtain ⟨j, hj', rfl⟩ := List.getElem_of_mem hx
   have := hj j (by omega)
   simpa [hj'] using this
  refine qc ?_
  simp only [qz.l0]
  refine qb (by omega) ?_
  rw [if_pos hd]
  have := qvA s hd hs s.size 0 (by omega) (by simp [pv, pvA, qU])
  simpa [pv, pvA, qU] using this
 | r + 1, i, hi, hj => by
  have hlen : (qe s).length = s.size := qdX s
  have hm := qlU (l := qe s) (i := i) (by omega)
  refine qc ?_
  simp only [qz.l0, qgB, qak (n := i) (by omega)]
  refine qa (by omega) (qa (by omega) (qa (by omega) ?_))
  by_cases c1 : (qe s).getD i 0 < 48
  ·refine qa c1 (qd (Ev.now _) ?_)
   rw [if_neg]; intro hd; have := hd _ hm; omega
  ·refine qb c1 (qa (by omega) (qa (by omega) ?_))
   by_cases c2 : (qe s).getD i 0 > 57
   ·refine qa c2 (qd (Ev.now _) ?_)
    rw [if_neg]; intro hd; have := hd _ hm; omega
   ·refine qb c2 (qpY hs r (i + 1) (by omega) ?_)
    intro j hj'
    by_cases e : j = i
    ·subst e; omega
    ·exact hj j (by omega)
def qdw (l : List Int) : List Int × Int := if isT l then qab (pv l) else ([], 12)
theorem qvB (hs : s.size < 100000000) : Ev (fun k => qz.f k s) (qdw (qe s)) := by
 have hlen : (qe s).length = s.size := qdX s
 have yes : (isT (qe s) = decide (qbC (qe s))) → Ev (fun k => qz.l0 k s (s.size : Int) 0) (qdw (qe s)) := by
  intro h
  have := qpY s hs s.size 0 (by omega) (fun j hj => by omega)
  refine qd this ?_
  unfold qdw; rw [h]
  simp only [decide_eq_true_eq]
 unfold qz.f
 by_cases c0 : s.size = 0
 ·have hn : s = (⟨#[]⟩ : ByteArray) := qnQ.1 (List.eq_nil_of_length_eq_zero (by rw [qnO]; exact c0))
  refine qa hn ?_
  have : isT (qe s) = false := by unfold isT; simp [hlen, c0]
  unfold qdw; rw [this]; exact Ev.now _
 ·refine qb (fun h => c0 (by rw [h]; rfl)) ?_
  by_cases c1 : s.size > 1
  ·refine qa (by omega) (qa (by omega) ?_)
   have e : bt s 0 = (qe s).getD 0 0 := qgB s 0
   rw [e]
   by_cases c2 : (qe s).getD 0 0 = 48
   ·refine qa c2 ?_
    have : isT (qe s) = false := by unfold isT; rw [hlen, c2]; simp; omega
    unfold qdw; rw [this]; exact Ev.now _
   ·refine qb c2 (yes ?_)
    unfold isT; rw [hlen, decide_eq_true c1, decide_eq_true c2]; simp
  ·refine qb (by omega) (yes ?_)
   unfold isT; rw [hlen]; simp [show s.size = 1 by omega]
end
section
variable (s : ByteArray)
theorem qpZ (i : Nat) (hi : i < 1000000000) {res : List Int × Int} (full : List Int) : ∀ (l done : List Int) (c : Nat), c < 10 → Dg l → done.length + l.length < 1000000000 → full = done ++ qaJ l 10 c →
  (Ev (fun k => qax.l0 k s full ((i + 1 : Nat) : Int)) res) →
  Ev (fun k => qax.l1 k s (done ++ l) i c done.length) res
 | [], done, c, hc, hg, hl, hfull, H => by
  refine qc ?_
  simp only [qax.l1, qak (n := i) (by omega)]
  refine qb (by simp) ?_
  rw [List.append_nil]
  by_cases h0 : c = 0
  ·have e : full = done := by rw [hfull]; simp [qaJ, h0]
   rw [e] at H
   exact qb (by omega) H
  ·have e : full = done ++ [((c : Nat) : Int) % 4294967296] := by
    rw [hfull]; simp [qaJ, h0]; omega
   rw [e] at H
   exact qa (by omega) (qa (by simp at hl ⊢; omega) H)
 | x :: l, done, c, hc, hg, hl, hfull, H => by
  have hx := hg.head
  have hb := qlT (x := x.toNat) (by omega) hc
  have hu : IntKind.u64.wrap ((c : Int) + IntKind.u64.wrap (10 * IntKind.u64.wrap x)) = ((x.toNat * 10 + c : Nat) : Int) := by
   rw [u64 (n := x) (by omega) (by omega), u64 (n := 10 * x) (by omega) (by omega), u64 (by omega) (by omega)]; omega
  have hn := nd (x.toNat * 10 + c)
  have hr : rd (done ++ x :: l) (done.length : Int) = x := qaC rfl
  refine qc ?_
  simp only [qax.l1, hr, hu, hn.1, hn.2, qcC rfl, qak (n := done.length) (by simp at hl; omega)]
  clear hu hn
  refine qa (by simp; omega) (qa (by omega) (qa (by simp; omega) (qa (by omega) (qa (by simp; omega) ?_))))
  have := qpZ i hi full l (done ++ [((((x.toNat * 10 + c) % 4294967296 : Nat)) : Int)]) _ hb hg.tail (by simp at hl ⊢; omega) (by rw [hfull, qaJ]; simp) H
  rw [List.length_append, List.length_singleton] at this
  exact this
theorem qp0 (hd : qbC (qe s)) (hs : s.size < 10000000) : ∀ (r i : Nat), i + r = s.size → Ev (fun k => qax.l0 k s (D (pv ((qe s).take i))) i) (qab (pv (qe s)))
 | 0, i, hi => by
  have hlen : (qe s).length = s.size := qdX s
  have e : (qe s).take i = qe s := List.take_of_length_le (by omega)
  refine qc ?_
  simp only [qax.l0]
  refine qb (by omega) ?_
  rw [e]
  unfold qab
  by_cases c : (D (pv (qe s))).length > 4096
  ·rw [if_pos c]; exact qa (by omega) (Ev.now _)
  ·rw [if_neg c]; exact qb (by omega) (Ev.now _)
 | r + 1, i, hi => by
  have hlen : (qe s).length = s.size := qdX s
  have hm := hd _ (qlU (l := qe s) (i := i) (by omega))
  refine qc ?_
  simp only [qax.l0, qgB]
  refine qa (by omega) (qa (by omega) (qa (by omega) ?_))
  have hb : IntKind.u64.wrap (((qe s).getD i 0 - 48) % 256) = (((qe s).getD i 0 - 48).toNat : Int) := by rw [u64 (by omega) (by omega)]; omega
  have hb' : ((qe s).getD i 0 - 48) % 256 = (((qe s).getD i 0 - 48).toNat : Int) := by omega
  rw [hb]
  have hl : (D (pv ((qe s).take i))).length < 100000000 := by
   have h1 := qlS (l := (qe s).take i) (fun x hx => hd x (List.mem_of_mem_take hx))
   have h2 : ((qe s).take i).length = i := by rw [List.length_take]; omega
   rw [h2] at h1
   have h3 : (10 : Nat) ^ i ≤ 4294967296 ^ i := Nat.pow_le_pow_left (by omega) i
   have := qeW (Nat.lt_of_lt_of_le h1 h3)
   omega
  have hmd := qpV (n := pv ((qe s).take i)) (t := 10) (c := ((qe s).getD i 0 - 48).toNat) (by omega) (by omega)
  have hv : pv ((qe s).take (i + 1)) = pv ((qe s).take i) * 10 + ((qe s).getD i 0 - 48).toNat := by
   rw [List.take_succ_eq_append_getElem (by omega), qvu, Nat.mul_comm]
   simp [show i < (qe s).length by omega]
  have := qpZ s i (by omega) (res := qab (pv (qe s))) (D (pv ((qe s).take (i + 1)))) (D (pv ((qe s).take i))) [] _ (show ((qe s).getD i 0 - 48).toNat < 10 by omega) (qas _) (by simp; omega) (by rw [hmd, hv]; rfl) (qp0 hd hs r (i + 1) (by omega))
  simpa using this
theorem qp1 (hs : s.size < 10000000000) : ∀ (r i : Nat), i + r = s.size → (∀ j, j < i → 48 ≤ (qe s).getD j 0 ∧ (qe s).getD j 0 ≤ 57) → Ev (fun k => qcW.l0 k s i) (isT (qe s))
 | 0, i, hi, hj => by
  have hlen : (qe s).length = s.size := qdX s
  have hd : qbC (qe s) := by
   intro x hx
   obtain ⟨j, hj', rfl⟩ := List.getElem_of_mem hx
   have := hj j (by omega)
   simpa [hj'] using this
  refine qc ?_
  simp only [qcW.l0]
  refine qb (by omega) ?_
  unfold isT
  rw [hlen, decide_eq_true hd, Bool.true_and]
  by_cases c1 : s.size = 1
  ·refine qa (by omega) (qd (Ev.now _) ?_)
   simp [c1]
  ·refine qb (by omega) ?_
   by_cases c2 : s.size > 1
   ·refine qa (by omega) (qa (by omega) (qd (Ev.now _) ?_))
    have e : bt s 0 = (qe s).getD 0 0 := qgB s 0
    rw [e, decide_eq_false c1, decide_eq_true c2, Bool.false_or, Bool.true_and]
   ·refine qb (by omega) (qd (Ev.now _) ?_)
    rw [decide_eq_false c1, decide_eq_false c2]; rfl
 | r + 1, i, hi, hj => by
  have hlen : (qe s).length = s.size := qdX s
  have hm := qlU (l := qe s) (i := i) (by omega)
  have no : ¬ qbC (qe s) → isT (qe s) = false := by intro h; unfold isT; rw [decide_eq_false h]; rfl
  refine qc ?_
  simp only [qcW.l0, qgB, qak (n := i) (by omega)]
  refine qa (by omega) (qa (by omega) (qa (by omega) ?_))
  by_cases c1 : (qe s).getD i 0 < 48
  ·refine qa c1 (qd (Ev.now _) ?_)
   exact (no (fun hd => by have := hd _ hm; omega)).symm
  ·refine qb c1 (qa (by omega) (qa (by omega) ?_))
   by_cases c2 : (qe s).getD i 0 > 57
   ·refine qa c2 (qd (Ev.now _) ?_)
    exact (no (fun hd => by have := hd _ hm; omega)).symm
   ·refine qb c2 (qp1 hs r (i + 1) (by omega) ?_)
    intro j hj'
    by_cases e : j = i
    ·subst e; omega
    ·exact hj j (by omega)
end
theorem qvC {c : Int} {l : List Int} : pv (c :: l) = (c - 48).toNat * 10 ^ l.length + pv l := by
 have := qgA [c] l
 simpa [pv, pvA] using this
theorem qp2 {l : List Int} (hd : qbC l) (h0 : l.getD 0 0 ≠ 48) (hl : l ≠ []) : 10 ^ (l.length - 1) ≤ pv l := by
 cases l with
 | nil => exact absurd rfl hl
 | cons c l =>
  have hc := hd c (by simp)
  have h1 : c ≠ 48 := by simpa using h0
  rw [qvC]
  have : 1 * 10 ^ l.length ≤ (c - 48).toNat * 10 ^ l.length := Nat.mul_le_mul_right _ (by omega)
  simp; omega
def qp3 (a b : Nat) : Bool := Nat.ble (2 ^ a) (10 ^ b)
theorem qvD : qp3 131072 39457 = true := by decide +kernel
theorem qvE {l : List Int} (h : isT l = true) (hl : 39457 < l.length) : qab (pv l) = ([], 3) := by
 unfold isT at h
 simp only [Bool.and_eq_true, Bool.or_eq_true, decide_eq_true_eq] at h
 obtain ⟨hd, h | h⟩ := h
 ·omega
 ·have h1 := qp2 hd h.2 (fun e => by rw [e] at hl; simp at hl)
  have key : ∀ a b, a = 131072 → b = 39457 → qp3 a b = true → qab (pv l) = ([], 3) := by
   intro a b ha hb hab'
   have hab : 2 ^ a ≤ 10 ^ b := Nat.le_of_ble_eq_true hab'
   have h3 : 10 ^ b ≤ 10 ^ (l.length - 1) := Nat.pow_le_pow_right (by omega) (by omega)
   exact qoe (e := a) (by omega) (Nat.le_trans hab (Nat.le_trans h3 h1))
  exact key 131072 39457 rfl rfl qvD
theorem qp4 (s : ByteArray) (hs : s.size < 10000000) : Ev (fun k => qax.f k s) (qdw (qe s)) := by
 have hlen : (qe s).length = s.size := qdX s
 unfold qax.f qdw
 refine Ev.bind (?_ : Ev (fun k => qcW.f k s) (isT (qe s))) ?_
 ·exact qp1 s (by omega) s.size 0 (by omega) (fun j hj => by omega)
 ·by_cases c : isT (qe s) = true
  ·refine qb (by rw [c]; simp) ?_
   rw [if_pos c]
   by_cases c2 : s.size > 39457
   ·refine qa (by omega) (qd (Ev.now _) ?_)
    exact (qvE c (by omega)).symm
   ·have hd : qbC (qe s) := by
     unfold isT at c; simp only [Bool.and_eq_true, decide_eq_true_eq] at c; exact c.1
    refine qb (by omega) ?_
    have := qp0 s hd hs s.size 0 (by omega)
    simpa [pv, pvA, qU] using this
  ·refine qa (by simpa using c) (qd (Ev.now _) ?_)
   rw [if_neg c]
theorem qp5 (A Bl : List Int) (i : Nat) (x : Int) (hx : 0 ≤ x ∧ x < 4294967296) (hB : Dg Bl) (hl : A.length < 1000000000) (hlb : Bl.length < 1000000000) (hi : i < A.length) (res : List Int) : ∀ (b done r pb : List Int) (c : Int), Bl = pb ++ b → done.length = i + pb.length → b.length < r.length → Dg r → 0 ≤ c ∧ c < 4294967296 →
  Ev (fun k => qag.l0 k Bl (done ++ qaT x b r c) A A.length ((i + 1 : Nat) : Int)) res →
  Ev (fun k => qag.l1 k Bl (done ++ r) i x c A A.length i Bl Bl.length pb.length) res
 | [], done, r, pb, c, he, hd, hr, hg, hc, H => by
  obtain ⟨y, r, rfl⟩ : ∃ y r', r = y :: r' := by
   cases r with
   | nil => simp at hr
   | cons y r' => exact ⟨y, r', rfl⟩
  have hlen : Bl.length = pb.length := by rw [he]; simp
  refine qc ?_
  have e : wrap64 ((i : Int) + (Bl.length : Int)) = ((i + Bl.length : Nat) : Int) := by unfold wrap64; omega
  simp only [qag.l1, e, qak (n := i) (by omega)]
  clear e
  refine qb (by omega) (qa (by omega) (qa (by simp; omega) ?_))
  have hs : (done ++ y :: r).set (((i + Bl.length : Nat) : Int)).toNat (c % 4294967296) = done ++ qaT x [] (y :: r) c := by
   rw [qcC (by omega)]; simp [qaT]; omega
  rw [hs]; exact H
 | y :: b, done, r, pb, c, he, hd, hr, hg, hc, H => by
  obtain ⟨o, r, rfl⟩ : ∃ y r', r = y :: r' := by
   cases r with
   | nil => simp at hr
   | cons y r' => exact ⟨y, r', rfl⟩
  have hlen : Bl.length = pb.length + 1 + b.length := by rw [he]; simp; omega
  have hy : 0 ≤ y ∧ y < 4294967296 := by rw [he] at hB; exact hB.right.head
  have ho := hg.head
  have hp := qhw hx hy
  refine qc ?_
  have e : wrap64 ((i : Int) + (pb.length : Int)) = ((done.length : Nat) : Int) := by unfold wrap64; omega
  simp only [qag.l1, e, qak (n := pb.length) (by omega)]
  clear e
  refine qa (by omega) (qa (by omega) (qa (by omega) (qa (by omega) (qa (by simp; omega) (qa (by omega) (qa (by simp; omega) ?_))))))
  have h1 : rd Bl (pb.length : Int) = y := by rw [he]; exact qaC rfl
  have h2 : rd (done ++ o :: r) (done.length : Int) = o := qaC rfl
  rw [h1, h2, qcC rfl, u64 hx.1 (by omega), u64 hy.1 (by omega), u64 ho.1 (by omega), u64 (n := x * y) hp.1 (by omega), u64 (n := x * y + o) (by omega) (by omega), u64 (n := x * y + o + c) (by omega) (by omega)]
  have := qp5 A Bl i x hx hB hl hlb hi res b (done ++ [(x * y + o + c) % 4294967296]) r (pb ++ [y]) ((x * y + o + c) / 4294967296) (by rw [he]; simp) (by simp [hd]; omega) (by simpa using hr) hg.tail (by omega) (by simpa [qaT] using H)
  simpa using this
theorem qp6 (A Bl : List Int) (hA : Dg A) (hB : Dg Bl) (hl : A.length < 1000000000) (hlb : Bl.length < 1000000000) : ∀ (a done r pa : List Int), A = pa ++ a → done.length = pa.length → Dg done → Dg r → r.length = Bl.length + a.length → r.drop Bl.length = List.replicate a.length 0 →
  Ev (fun k => qag.l0 k Bl (done ++ r) A A.length done.length) (D (V (done ++ qdR a Bl r)))
 | [], done, r, pa, he, hd, hg, hr, hrl, hz => by
  have hlen : A.length = done.length := by rw [he, hd]; simp
  refine qc ?_
  simp only [qag.l0]
  refine qb (by omega) ?_
  refine Ev.bind (qej (hg.app hr) (by simp; simp at hrl; omega)) ?_
  exact Ev.now _
 | x :: a, done, r, pa, he, hd, hg, hr, hrl, hz => by
  have hlen : A.length = done.length + 1 + a.length := by rw [he, hd]; simp; omega
  have hx : 0 ≤ x ∧ x < 4294967296 := by rw [he] at hA; exact hA.right.head
  have hrr := qkT hx Bl r 0 a.length hB hr (by omega) (by simpa using hz)
  refine qc ?_
  simp only [qag.l0]
  refine qa (by omega) (qa (by omega) (qa (by omega) ?_))
  have h1 : rd A (done.length : Int) = x := by rw [he]; exact qaC (by omega)
  rw [h1]
  refine qp5 A Bl done.length x hx hB hl hlb (by omega) _ Bl done r [] 0 rfl rfl (by simp at hrl; omega) hr (by omega) ?_
  obtain ⟨r0, r', e⟩ : ∃ r0 r', qaT x Bl r 0 = r0 :: r' := by
   cases h : qaT x Bl r 0 with
   | nil =>
    have hl := hrr.2.2.2
    rw [h] at hl
    simp at hrl hl; omega
   | cons r0 r' => exact ⟨r0, r', rfl⟩
  rw [e] at hrr
  have := qp6 A Bl hA hB hl hlb a (done ++ [r0]) r' (pa ++ [x]) (by rw [he]; simp) (by simp [hd]) (hg.app (Dg.cons hrr.2.1.head.1 hrr.2.1.head.2 Dg.nil)) hrr.2.1.tail (by have := hrr.2.2.2; simp at this hrl; omega) (by simpa using hrr.2.2.1)
  rw [List.length_append, List.length_singleton, List.append_assoc] at this
  have e2 : done ++ qdR (x :: a) Bl r = done ++ [r0] ++ qdR a Bl r' := by simp [qdR, e]
  rw [e, e2]; simpa using this
theorem qlV {a b : List Int} (ha : Dg a) (hb : Dg b) (la : a.length < 1000000000) (lb : b.length < 1000000000) : Ev (fun k => qag.f k a b) (D (V a * V b)) := by
 unfold qag.f
 have e : wrap64 ((a.length : Int) + (b.length : Int)) = ((a.length + b.length : Nat) : Int) := by unfold wrap64; omega
 simp only [e]
 clear e
 refine qa (by omega) (qa (by omega) ?_)
 have := qp6 a b ha hb la lb a [] (List.replicate (a.length + b.length) 0) [] rfl rfl Dg.nil (Dg.zeros _) (by simp; omega) (by simp)
 refine qd this ?_
 have h2 := qn9 a b (List.replicate (a.length + b.length) 0) ha hb (Dg.zeros _) (by simp)
 simp [h2.1, qhr]
theorem qvF {a b : List Int} (ha : Nm a) (hb : Nm b) (la : a.length ≤ 4096) (lb : b.length ≤ 4096) : Ev (fun k => qeB.f k a b) (qab (V a * V b)) := by
 have h1 : may a = true := qdQ.2 ⟨la, ha⟩
 have h2 : may b = true := qdQ.2 ⟨lb, hb⟩
 have tail : Ev (fun k => (qag.f k a b).bind fun t => (qbZ.f t).bind fun bt => some (bt.1, bt.2)) (qab (V a * V b)) := by
  refine Ev.bind (qlV ha.dg hb.dg (by omega) (by omega)) ?_
  exact qi (qsQ _) (Ev.now _)
 unfold qeB.f
 refine Ev.bind (qn0 ha.dg hb.dg (by omega) (by omega)) ?_
 refine qb (by simp [h1, h2]) ?_
 by_cases c1 : a.length > 0
 ·refine qa (by omega) ?_
  by_cases c2 : b.length > 0
  ·refine qa (by omega) ?_
   have e : wrap64 (wrap64 ((a.length : Int) + (b.length : Int)) - 1) = ((a.length + b.length - 1 : Nat) : Int) := by unfold wrap64; omega
   rw [e]
   clear e
   by_cases c3 : a.length + b.length - 1 > 4096
   ·refine qa (by omega) (qd (Ev.now _) ?_)
    have p1 := qkU ha (fun e => by subst e; simp at c1)
    have p2 := qkU hb (fun e => by subst e; simp at c2)
    have p3 := Nat.mul_le_mul p1 p2
    rw [← Nat.pow_add] at p3
    have p4 : (D (V a * V b)).length > 4096 := by
     apply Nat.lt_of_not_le
     intro k
     have p5 := qdp (V a * V b)
     have p6 := Nat.pow_lt_pow_iff_right (a := 4294967296) (by omega) |>.1 (Nat.lt_of_le_of_lt p3 p5)
     omega
    unfold qab; rw [if_pos p4]
   ·exact qb (by omega) tail
  ·exact qb (by omega) tail
 ·exact qb (by omega) tail
theorem qlW {n : Nat} (h : (D n).length ≤ 4096) : qab n = (D n, 0) := by
 unfold qab; rw [if_neg (by omega)]
theorem qju : D 1 = [1] := by
 have h2 : Nm [1] := by have := qhs Dg.nil (d := 1) (by omega) (by omega); simpa using this
 exact h2
theorem qp7 (n : Nat) (h : n < 9223372036854775808) : (BitVec.ofInt 64 (n : Int)).toNat = n := by
 rw [BitVec.ofInt_natCast, BitVec.toNat_ofNat]; exact Nat.mod_eq_of_lt (by omega)
theorem qvG (n : Nat) (h : n < 9223372036854775808) : Go.bits .and .i64 (n : Int) 1 = ((n % 2 : Nat) : Int) := by
 show IntKind.i64.wrap ((BitVec.ofInt 64 (n : Int) &&& BitVec.ofInt 64 ((1 : Nat) : Int)).toNat : Int) = _
 rw [BitVec.toNat_and, qp7 n h, qp7 1 (by omega), Nat.and_one_is_mod, IntKind.wrap_i64]
 omega
theorem qvH (n i : Nat) (h : i ≤ 64) : shr .i64 (n : Int) (i : Int) = ((n / 2 ^ i : Nat) : Int) := by
 unfold shr
 have e : min (i : Int).toNat IntKind.i64.bits = i := by rw [Int.toNat_natCast]; exact Nat.min_eq_left h
 rw [e]; simp
theorem qlX {b n : Nat} (h : 1 ≤ b) : 1 ≤ b ^ n := Nat.one_le_pow _ _ h
theorem qjv {b m n : Nat} (h : 1 ≤ b) (k : m ≤ n) : b ^ m ≤ b ^ n := Nat.pow_le_pow_right h k
theorem qvI (n i : Nat) : n / 2 ^ i = 2 * (n / 2 ^ (i + 1)) + n / 2 ^ i % 2 := by
 have : n / 2 ^ (i + 1) = n / 2 ^ i / 2 := by rw [Nat.pow_succ, Nat.div_div_eq_div_mul]
 rw [this]; omega
theorem qvJ {m : Nat} (h : m ≠ 0) : 2 * (D m).length - 1 ≤ (D (m * m)).length := by
 have h1 := qkM h
 have h2 := Nat.mul_le_mul h1 h1
 rw [← Nat.pow_add] at h2
 apply Nat.le_of_not_lt
 intro k
 have h3 := qdp (m * m)
 have h4 : (4294967296 : Nat) ^ (D (m * m)).length ≤ 4294967296 ^ ((D m).length - 1 + ((D m).length - 1)) := Nat.pow_le_pow_right (by omega) (by omega)
 omega
theorem qvK {L : Nat} (h : L ≤ 4096) : wrap64 (wrap64 (2 * (L : Int)) - 1) = 2 * (L : Int) - 1 := by unfold wrap64; omega
theorem qvL {p : Nat} (h : (D p).length ≤ 4096) : (D (p * p)).length ≤ 8192 := by
 have h1 := qdp p
 have h2 := Nat.mul_lt_mul'' h1 h1
 rw [← Nat.pow_add] at h2
 have := qeW h2
 omega
theorem qvM {x : Int} (h : 0 ≤ x ∧ x < 18446744073709551616) : Ev (fun k => qgf.f k x) ((bl x.toNat : Nat) : Int) := by
 unfold qgf.f
 exact Ev.bind (qhx h) (Ev.now _)
theorem qvN {b n i p q T t : Nat} (hbl : Dg [((b : Nat) : Int)]) (hi : i < 64) (hs : Go.bits .and .i64 (shr .i64 (n : Int) (i : Int)) 1 = ((t % 2 : Nat) : Int)) (hp : p ≠ 0) (hl : (D p).length ≤ 4096) (hpT : p * p ≤ T) (hqT : q ≤ T)
  (h1 : t % 2 = 1 → p * p * b = q) (h0 : t % 2 ≠ 1 → p * p = q) (ih : (D q).length ≤ 4096 → Ev (fun k => q9.l0 k (b : Int) (n : Int) (D q) ((i : Int) - 1)) (qab T)) :
  Ev (fun k => q9.l0 k (b : Int) (n : Int) (D p) (i : Int)) (qab T) := by
 have hsl := qvJ hp
 have hss := qvL hl
 refine qc ?_
 simp only [q9.l0, qvK hl, hs]
 clear hs
 refine qa (by omega) ?_
 by_cases c1 : 2 * (D p).length > 4097
 ·refine qa (by omega) (qd (Ev.now _) ?_)
  exact (qkY (m := p * p) (by omega) hpT).symm
 ·refine qb (by omega) (Ev.bind (qlV (qas _) (qas _) (by omega) (by omega)) ?_)
  rw [V_D]
  refine qa (by omega) ?_
  have next : Ev (fun k => q9.j4 k (b : Int) (n : Int) (D q) (i : Int)) (qab T) := by
   refine qc ?_
   simp only [q9.j4, qc1 (n := i) (by omega)]
   by_cases c2 : (D q).length > 4096
   ·refine qa (by omega) (qd (Ev.now _) ?_)
    exact (qkY c2 hqT).symm
   ·exact qb (by omega) (ih (by omega))
  by_cases c3 : t % 2 = 1
  ·refine qa (by omega) (Ev.bind (qlV (qas _) hbl (by omega) (by simp)) ?_)
   have hv : V (D (p * p)) * V [((b : Nat) : Int)] = q := by
    rw [V_D, ← h1 c3]
    simp only [qO, qaD, Int.toNat_natCast, Nat.mul_zero, Nat.add_zero]
   rw [hv]; exact next
  ·refine qb (by omega) ?_
   rw [h0 c3]; exact next
theorem qp8 {b : Nat} (hb : 1 ≤ b ∧ b < 4294967296) (hbl : Dg [((b : Nat) : Int)]) {n : Nat} (hn : n < 9223372036854775808) : ∀ (i : Nat), i ≤ 64 → (D (b ^ (n / 2 ^ i))).length ≤ 4096 → Ev (fun k => q9.l0 k (b : Int) (n : Int) (D (b ^ (n / 2 ^ i))) ((i : Int) - 1)) (qab (b ^ n))
 | 0, hi, hl => by
  refine qc ?_
  simp only [q9.l0]
  refine qb (by decide) (qd (Ev.now _) ?_)
  rw [Nat.pow_zero, Nat.div_one] at hl ⊢
  exact (qlW hl).symm
 | i + 1, hi, hl => by
  have e0 : ((i + 1 : Nat) : Int) - 1 = (i : Int) := by rw [Int.natCast_add]; exact Int.add_sub_cancel _ _
  have hh := qvI n i
  have hle : n / 2 ^ i ≤ n := Nat.div_le_self _ _
  have hm : b ^ (n / 2 ^ (i + 1)) ≠ 0 := Nat.ne_of_gt (qlX hb.1)
  have hsq : b ^ (n / 2 ^ (i + 1)) * b ^ (n / 2 ^ (i + 1)) = b ^ (2 * (n / 2 ^ (i + 1))) := by rw [← Nat.pow_add, Nat.two_mul]
  have hle2 : 2 * (n / 2 ^ (i + 1)) ≤ n / 2 ^ i := by rw [hh]; exact Nat.le_add_right _ _
  have hbit : Go.bits .and .i64 (shr .i64 (n : Int) (i : Int)) 1 = ((n / 2 ^ i % 2 : Nat) : Int) := by
   rw [qvH n i (Nat.le_of_lt hi), qvG _ (Nat.lt_of_le_of_lt hle hn)]
  rw [e0]
  refine qvN (q := b ^ (n / 2 ^ i)) hbl hi hbit hm hl ?_ (qjv hb.1 hle) ?_ ?_ (fun h => qp8 hb hbl hn i (Nat.le_of_lt hi) h)
  ·rw [hsq]; exact qjv hb.1 (Nat.le_trans hle2 hle)
  ·intro c; rw [hsq, ← Nat.pow_succ]; congr 1; rw [c] at hh; exact hh.symm
  ·intro c
   have c' : n / 2 ^ i % 2 = 0 := (Nat.mod_two_eq_zero_or_one _).resolve_right c
   rw [hsq]; congr 1; rw [c'] at hh; exact hh.symm
theorem qp9 {b n : Nat} (hb : b < 4294967296) (hn : n < 9223372036854775808) : Ev (fun k => q9.f k (b : Int) (n : Int)) (qab (b ^ n)) := by
 have h1 : Nm [1] := by rw [← qju]; exact q7 1
 have one : ∀ z, z = true → b ^ n = 1 → Ev (fun k => q9.j0 k (b : Int) (n : Int) z) (qab (b ^ n)) := by
  rintro z rfl e
  refine qc ?_
  simp only [q9.j0]
  refine qa trivial (Ev.bind (qkN (by omega) (by omega)) (qd (Ev.now _) ?_))
  rw [e]
  exact (qlW (n := 1) (by rw [qju]; simp)).symm
 unfold q9.f
 refine qb (by omega) ?_
 by_cases c0 : n = 0
 ·refine qa (by omega) (one true rfl (by subst c0; simp))
 ·refine qb (by omega) ?_
  by_cases c1 : b = 1
  ·refine one _ (by subst c1; rfl) (by subst c1; simp)
  ·have e : decide ((b : Int) = 1) = false := decide_eq_false (by omega)
   rw [e]
   refine qc ?_
   simp only [q9.j0]
   refine qb (by simp) ?_
   by_cases c2 : b = 0
   ·refine qa (by omega) (qd (Ev.now _) ?_)
    subst c2
    rw [Nat.zero_pow (by omega), qlW (by rw [qU]; simp), qU]
   ·refine qb (by omega) ?_
    by_cases c3 : n > 131072
    ·refine qa (by omega) (qd (Ev.now _) ?_)
     have p1 : 2 ^ n ≤ b ^ n := Nat.pow_le_pow_left (by omega) n
     exact (qoe (by omega) p1).symm
    ·refine qb (by omega) (Ev.bind (qkN (by omega) (by omega)) ?_)
     rw [u64 (by omega) (by omega)]
     refine Ev.bind (qvM (by omega)) ?_
     have hbl : bl n ≤ 63 := qao (by omega)
     rw [Int.toNat_natCast, qc1 (by omega)]
     have := qp8 (b := b) (by omega) (Dg.cons (by omega) (by omega) Dg.nil) hn (bl n) (by omega)
     rw [Nat.div_eq_of_lt (qan n), Nat.pow_zero] at this
     exact this (by rw [qju]; simp)
theorem qqa (n : Nat) (h : n < 9223372036854775808) : wrap64 (Int.tdiv (n : Int) 2) = ((n / 2 : Nat) : Int) := by
 rw [Int.tdiv_eq_ediv_of_nonneg (by omega), qbx (by omega) (by omega)]; omega
theorem qvO (n : Nat) : Int.tmod (n : Int) 2 = ((n % 2 : Nat) : Int) := by
 rw [Int.tmod_eq_emod_of_nonneg (by omega)]; omega
theorem qvP {M K : Nat} (hK : K < 100000000) (hM : M < 4294967296 ^ K) : ∀ (n : Nat), n < 9223372036854775808 → ∀ (out sq : Nat) (o s : Nat), out ≤ o → sq ≤ s → 1 ≤ o → 1 ≤ s → (0 < n → s ≤ M) → o * s ^ n ≤ M → s < 4294967296 ^ K →
  Ev (fun k => qa8.l0 k (n : Int) (D out) (D sq)) (D (out * sq ^ n)) := by
 intro n
 induction n using Nat.strongRecOn with
 | _ n ih =>
  intro hn out sq o s ho hs h1 h2 hsM hT hs9
  have lenM : ∀ {x : Nat}, x ≤ M → (D x).length < 100000000 := by
   intro x hx
   have := qeW (Nat.lt_of_le_of_lt hx hM)
   omega
  have hoM : out ≤ M := by
   have : o * 1 ≤ o * s ^ n := Nat.mul_le_mul_left _ (qlX h2)
   omega
  have hls : (D sq).length < 100000000 := by have := qeW (Nat.lt_of_le_of_lt hs hs9); omega
  refine qc ?_
  simp only [qa8.l0, qqa n hn, qvO]
  by_cases c : n = 0
  ·subst c
   refine qb (by omega) (qd (Ev.now _) ?_)
   simp
  ·refine qa (by omega) ?_
   have hsM' := hsM (by omega)
   have hsq : sq ^ n = (sq * sq) ^ (n / 2) * sq ^ (n % 2) := by
    rw [← Nat.pow_two, ← Nat.pow_mul, ← Nat.pow_add]; congr 1; omega
   have hsp : s ^ n = (s * s) ^ (n / 2) * s ^ (n % 2) := by
    rw [← Nat.pow_two, ← Nat.pow_mul, ← Nat.pow_add]; congr 1; omega
   have hss : 0 < n / 2 → s * s ≤ M := by
    intro h
    have h3 : s ^ 2 ≤ s ^ n := qjv h2 (by omega)
    have h4 : 1 * s ^ n ≤ o * s ^ n := Nat.mul_le_mul_right _ h1
    rw [Nat.pow_two] at h3
    omega
   have go : ∀ (out' o' : Nat), out' ≤ o' → 1 ≤ o' → o' * (s * s) ^ (n / 2) ≤ M → out' * (sq * sq) ^ (n / 2) = out * sq ^ n → (D out').length < 100000000 →
     Ev (fun k => qa8.j1 k (n : Int) (D out') (D sq)) (D (out * sq ^ n)) := by
    intro out' o' k1 k2 k3 k4 k5
    refine qc ?_
    simp only [qa8.j1, qqa n hn]
    by_cases c2 : 0 < n / 2
    ·refine qa (by omega) (Ev.bind (qkW (qas _) (qas _) hls hls) ?_)
     rw [V_D]
     have := ih (n / 2) (by omega) (by omega) out' (sq * sq) o' (s * s) k1 (Nat.mul_le_mul hs hs) k2 (Nat.mul_le_mul h2 h2) (fun _ => hss c2) k3 (Nat.lt_of_le_of_lt (hss c2) hM)
     rwa [k4] at this
    ·refine qb (by omega) ?_
     have e : n / 2 = 0 := by omega
     rw [e] at k3 k4 ⊢
     have := ih 0 (by omega) (by omega) out' sq o' s k1 hs k2 h2 (fun h => absurd h (by omega)) (by simpa using k3) hs9
     rwa [Nat.pow_zero, ← Nat.pow_zero (sq * sq), k4] at this
   by_cases c1 : n % 2 = 1
   ·refine qa (by omega) (Ev.bind (qkW (qas _) (qas _) (lenM hoM) hls) ?_)
    rw [V_D, V_D]
    have k3 : o * s * (s * s) ^ (n / 2) ≤ M := by
     rw [hsp, c1, Nat.pow_one] at hT
     have : o * s * (s * s) ^ (n / 2) = o * ((s * s) ^ (n / 2) * s) := by rw [Nat.mul_assoc, Nat.mul_comm s]
     omega
    refine go (out * sq) (o * s) (Nat.mul_le_mul ho hs) (Nat.mul_le_mul h1 h2) k3 ?_ ?_
    ·rw [hsq, c1, Nat.pow_one, Nat.mul_assoc, Nat.mul_comm sq]
    ·apply lenM
     have : o * s * 1 ≤ o * s * (s * s) ^ (n / 2) := Nat.mul_le_mul_left _ (qlX (Nat.mul_le_mul h2 h2))
     have := Nat.mul_le_mul ho hs
     omega
   ·refine qb (by omega) ?_
    have c1' : n % 2 = 0 := by omega
    refine go out o ho h1 ?_ ?_ (lenM hoM)
    ·rw [hsp, c1', Nat.pow_zero, Nat.mul_one] at hT; exact hT
    ·rw [hsq, c1', Nat.pow_zero, Nat.mul_one]
theorem qvQ {b n : Nat} (hb : b < 4294967296) (hn : n < 9223372036854775808) {K : Nat} (hK : K < 100000000) (hK1 : 1 ≤ K) (h : (max 1 b) ^ n < 4294967296 ^ K) : Ev (fun k => qa8.f k (b : Int) (n : Int)) (D (b ^ n)) := by
 unfold qa8.f
 rw [u64 (by omega) (by omega)]
 refine Ev.bind (qnY (by omega) (by omega)) ?_
 rw [Int.toNat_natCast]
 have hs : max 1 b < 4294967296 ^ K := Nat.lt_of_lt_of_le (show max 1 b < 4294967296 ^ 1 by omega) (Nat.pow_le_pow_right (by omega) hK1)
 have := qvP (M := max 1 b ^ n) hK h n hn 1 b 1 (max 1 b) (by omega) (by omega) (by omega) (by omega) ?_ (by omega) hs
 ·rw [qju, Nat.one_mul] at this; exact this
 ·intro h0
  have h1 : max 1 b ^ 1 ≤ max 1 b ^ n := qjv (by omega) h0
  rwa [Nat.pow_one] at h1
theorem qjw (b : Bool) : bN b < 2 := by cases b <;> decide
theorem qqb (b : Bool) : bN b = 0 ↔ b = false := by cases b <;> decide
def stk (Q : Nat) (b : Bool) : Nat := 2 * Q + bN b
theorem qjx {Q : Nat} (h : Q ≠ 0) (b : Bool) : bl (stk Q b) = bl Q + 1 := by
 have hb := qjw b
 have : stk Q b / 2 ^ 1 = Q := by unfold stk; omega
 have h2 := qc5 (stk Q b) 1
 rw [this] at h2
 have h3 := qcD h
 have h4 : bl (stk Q b) ≠ 0 := fun e => by rw [e] at h2; omega
 omega
theorem qvR {H r j : Nat} (h : H ≠ 0) (hr : r < 2 ^ j) : bl (H * 2 ^ j + r) = bl H + j := by
 have h1 : (H * 2 ^ j + r) / 2 ^ j = H := by
  rw [Nat.mul_comm, Nat.mul_add_div (qm j), Nat.div_eq_of_lt hr, Nat.add_zero]
 have h2 := qc5 (H * 2 ^ j + r) j
 rw [h1] at h2
 have := qcD h
 omega
theorem qjy {f m : Int} (h : isF f) (s : Bool) {H r j : Nat} (hH : pr f + 1 ≤ bl H) (hr : r < 2 ^ j) (e : Int) : qP f m s (H * 2 ^ j + r) e = qP f m s (stk H (decide (r ≠ 0))) (e + j - 1) := by
 have hpr := qaH h
 have h0 : H ≠ 0 := fun c => by rw [c, qby] at hH; omega
 have hb1 := qvR h0 hr
 have hb2 := qjx h0 (decide (r ≠ 0))
 rw [← qjr, ← qjr]
 have hT : e + j - 1 + (bl (stk H (decide (r ≠ 0))) : Nat) = e + (bl (H * 2 ^ j + r) : Nat) := by omega
 rw [hT]
 refine qlO fun E hE => ?_
 obtain ⟨d, hd⟩ : ∃ d : Nat, (E - e).toNat = d + j ∧ 1 ≤ d := ⟨(E - e).toNat - j, by omega, by omega⟩
 have e1 : (e - E).toNat = 0 := by omega
 have e2 : (e + j - 1 - E).toNat = 0 := by omega
 have e3 : (E - (e + j - 1)).toNat = d + 1 := by omega
 unfold R exR stk
 rw [e1, e2, e3, hd.1, Nat.pow_zero, Nat.mul_one, Nat.mul_one]
 exact ⟨qpG m s hr hd.2, decide_eq_decide.2 (qpH hr)⟩
theorem qvS (X Y j : Nat) (hY : 0 < Y) : ∃ r, r < 2 ^ j ∧ X * 2 ^ j / Y = X / Y * 2 ^ j + r ∧ (X % Y = 0 ↔ r = 0 ∧ X * 2 ^ j % Y = 0) := by
 have h1 := Nat.div_add_mod X Y
 have h2 := Nat.mod_lt X hY
 have e : X * 2 ^ j = Y * (X / Y * 2 ^ j) + X % Y * 2 ^ j := by
  conv => lhs; rw [← h1, Nat.add_mul, Nat.mul_assoc]
 refine ⟨X % Y * 2 ^ j / Y, ?_, ?_, ?_⟩
 ·rw [Nat.div_lt_iff_lt_mul hY, Nat.mul_comm]
  exact Nat.mul_lt_mul_of_pos_left h2 (qm j)
 ·rw [e, Nat.mul_add_div hY]
 ·rw [e, Nat.mul_add_mod]
  constructor
  ·intro c; rw [c]; simp
  ·intro ⟨c1, c2⟩
   have h3 := Nat.div_add_mod (X % Y * 2 ^ j) Y
   rw [c1, c2] at h3
   have h4 : X % Y * 2 ^ j = 0 := by rw [← h3]; simp
   rcases Nat.mul_eq_zero.1 h4 with h5 | h5
   ·exact h5
   ·have := qm j; omega
theorem qqc {f m : Int} (h : isF f) (s : Bool) {A B N : Nat} (hB : 0 < B) (hn : pr f + 1 ≤ bl (A * 2 ^ N / B)) (e : Int) (j : Nat) :
  qP f m s (stk (A * 2 ^ (N + j) / B) (decide (A * 2 ^ (N + j) % B ≠ 0))) (e - (N + j : Nat) - 1) = qP f m s (stk (A * 2 ^ N / B) (decide (A * 2 ^ N % B ≠ 0))) (e - N - 1) := by
 obtain ⟨r, hr, hq, hz⟩ := qvS (A * 2 ^ N) B j hB
 rw [Nat.pow_add, ← Nat.mul_assoc]
 rw [hq]
 have hb := qjw (decide (A * 2 ^ N * 2 ^ j % B ≠ 0))
 have hs : stk (A * 2 ^ N / B * 2 ^ j + r) (decide (A * 2 ^ N * 2 ^ j % B ≠ 0)) = A * 2 ^ N / B * 2 ^ (j + 1) + (2 * r + bN (decide (A * 2 ^ N * 2 ^ j % B ≠ 0))) := by
  unfold stk
  rw [Nat.pow_succ, ← Nat.mul_assoc]; omega
 rw [hs, qjy h s hn (by rw [Nat.pow_succ]; omega)]
 have hd : decide (2 * r + bN (decide (A * 2 ^ N * 2 ^ j % B ≠ 0)) ≠ 0) = decide (A * 2 ^ N % B ≠ 0) := by
  apply decide_eq_decide.2
  have := qqb (decide (A * 2 ^ N * 2 ^ j % B ≠ 0))
  have h3 : bN (decide (A * 2 ^ N * 2 ^ j % B ≠ 0)) = 0 ↔ A * 2 ^ N * 2 ^ j % B = 0 := by rw [this]; simp
  constructor
  ·intro c c2
   have := hz.1 c2
   exact c (by rw [h3.2 this.2, this.1])
  ·intro c c2
   exact c (hz.2 ⟨by omega, h3.1 (by omega)⟩)
 rw [hd]
 congr 1
 omega
def rq (f m : Int) (s : Bool) (A B : Nat) (e : Int) : Int × Int :=
 qP f m s (stk (A * 2 ^ (bl B + 64) / B) (decide (A * 2 ^ (bl B + 64) % B ≠ 0))) (e - (bl B + 64 : Nat) - 1)
theorem qjz {A B : Nat} (hA : A ≠ 0) (hB : 0 < B) : 64 + 1 ≤ bl (A * 2 ^ (bl B + 64) / B) := by
 have := (qhN hA (Nat.ne_of_gt hB) (bl B + 64) (by omega)).1
 have := qcD hA
 omega
theorem qjA {f m : Int} (h : isF f) (s : Bool) {A B : Nat} (hA : A ≠ 0) (hB : 0 < B) (e : Int) (N : Nat) (hn : pr f + 1 ≤ bl (A * 2 ^ N / B)) :
  qP f m s (stk (A * 2 ^ N / B) (decide (A * 2 ^ N % B ≠ 0))) (e - N - 1) = rq f m s A B e := by
 have hpr := qaH h
 have hfb := qba h
 have hb := qjz hA hB
 unfold rq
 have h1 := qqc (m := m) h s hB hn e (bl B + 64)
 have h2 := qqc (m := m) h s (A := A) (N := bl B + 64) hB (by omega) e N
 rw [← h1, ← h2, Nat.add_comm N]
theorem qvT {f m : Int} (h : isF f) (s : Bool) {A B c : Nat} (hA : A ≠ 0) (hB : 0 < B) (hc : 0 < c) (e : Int) : rq f m s (A * c) (B * c) e = rq f m s A B e := by
 have hAc : A * c ≠ 0 := Nat.mul_ne_zero hA (by omega)
 have hBc : 0 < B * c := Nat.mul_pos hB hc
 have hpr := qaH h
 have hfb := qba h
 have hb := qjz hAc hBc
 have e1 : A * c * 2 ^ (bl (B * c) + 64) = A * 2 ^ (bl (B * c) + 64) * c := Nat.mul_right_comm _ _ _
 have e2 : A * c * 2 ^ (bl (B * c) + 64) / (B * c) = A * 2 ^ (bl (B * c) + 64) / B := by rw [e1, Nat.mul_div_mul_right _ _ hc]
 have e3 : A * c * 2 ^ (bl (B * c) + 64) % (B * c) = A * 2 ^ (bl (B * c) + 64) % B * c := by rw [e1, Nat.mul_mod_mul_right]
 rw [e2] at hb
 rw [← qjA h s hA hB e (bl (B * c) + 64) (by omega)]
 unfold rq
 rw [e2, e3]
 have hd : decide (A * 2 ^ (bl (B * c) + 64) % B * c ≠ 0) = decide (A * 2 ^ (bl (B * c) + 64) % B ≠ 0) := by
  apply decide_eq_decide.2
  rw [Ne, Nat.mul_eq_zero]
  omega
 rw [hd]
theorem qlY {f m : Int} (h : isF f) (s : Bool) {A B : Nat} (hA : A ≠ 0) (hB : 0 < B) (e : Int) (j : Nat) : rq f m s (A * 2 ^ j) B e = rq f m s A B (e + j) := by
 have hAj : A * 2 ^ j ≠ 0 := Nat.mul_ne_zero hA (Nat.ne_of_gt (qm j))
 have hpr := qaH h
 have hfb := qba h
 have hb := qjz hAj hB
 have e1 : A * 2 ^ j * 2 ^ (bl B + 64) = A * 2 ^ (bl B + 64 + j) := by rw [Nat.mul_assoc, ← Nat.pow_add, Nat.add_comm j]
 rw [e1] at hb
 rw [← qjA h s hA hB (e + j) (bl B + 64 + j) (by omega)]
 have e2 : e + (j : Int) - ((bl B + 64 + j : Nat) : Int) - 1 = e - ((bl B + 64 : Nat) : Int) - 1 := by omega
 rw [e2]
 unfold rq
 rw [e1]
theorem qvU {f m : Int} (s : Bool) {A : Nat} (hA : A ≠ 0) (e : Int) (N : Nat) : qP f m s (stk (A * 2 ^ N / 1) (decide (A * 2 ^ N % 1 ≠ 0))) (e - N - 1) = qP f m s A e := by
 have e2 : stk (A * 2 ^ N / 1) (decide (A * 2 ^ N % 1 ≠ 0)) = A * 2 ^ (N + 1) := by
  have e3 : bN (decide (A * 2 ^ N % 1 ≠ 0)) = 0 := by rw [qqb, decide_eq_false_iff_not]; simp [Nat.mod_one]
  unfold stk
  rw [e3, Nat.div_one, Nat.pow_succ, Nat.add_zero, ← Nat.mul_assoc A, Nat.mul_comm 2]
 rw [e2, qlP f m s hA]
 congr 1
 omega
theorem qqd {f m : Int} (h : isF f) (s : Bool) {A : Nat} (hA : A ≠ 0) (e : Int) : rq f m s A 1 e = qP f m s A e := qvU s hA e (bl 1 + 64)
theorem qvV {f m : Int} (h : isF f) (s : Bool) {A B : Nat} (hB : 0 < B) {e : Int} {k : Nat} (hk : B * 2 ^ k ≤ A) (he : wd f ≤ e + k) : rq f m s A B e = ((qdW f m s : Int), 20) := by
 have hA : A ≠ 0 := fun c => by have := Nat.mul_pos hB (qm k); omega
 have hQ : 2 ^ (k + (bl B + 64)) ≤ A * 2 ^ (bl B + 64) / B := by
  rw [Nat.le_div_iff_mul_le hB, Nat.pow_add, Nat.mul_right_comm, Nat.mul_comm (2 ^ k)]
  exact Nat.mul_le_mul_right _ hk
 have hQ0 : A * 2 ^ (bl B + 64) / B ≠ 0 := Nat.ne_of_gt (Nat.lt_of_lt_of_le (qm _) hQ)
 have hbl := qcb hQ
 have h2 := qdr (v := 1) (by omega) (k + (bl B + 64))
 rw [Nat.one_mul, show bl 1 = 1 by decide] at h2
 have hst := qjx hQ0 (decide (A * 2 ^ (bl B + 64) % B ≠ 0))
 unfold rq
 refine qvo h (fun c => ?_) ?_
 ·rw [c, qby] at hst; omega
 ·omega
theorem qvW {f m : Int} (h : isF f) (s : Bool) {A B : Nat} (hA : A ≠ 0) (hB : 0 < B) {e : Int} {k : Nat} (hk : A * 2 ^ k < B) (he : e - k < lo f) :
  rq f m s A B e = qP f m s 1 (lo f - 2) := by
 have hQ : A * 2 ^ (bl B + 64) / B < 2 ^ (bl B + 64 - k) := by
  have hkB : k < bl B := by
   have h1 := qan B
   have h2 : 1 * 2 ^ k ≤ A * 2 ^ k := Nat.mul_le_mul_right _ (by omega)
   exact (Nat.pow_lt_pow_iff_right (by omega)).1 (show 2 ^ k < 2 ^ bl B by omega)
  rw [Nat.div_lt_iff_lt_mul hB]
  have e1 : A * 2 ^ (bl B + 64) = 2 ^ (bl B + 64 - k) * (A * 2 ^ k) := by
   rw [Nat.mul_left_comm, ← Nat.pow_add, show bl B + 64 - k + k = bl B + 64 by omega]
  rw [e1]
  exact Nat.mul_lt_mul_of_pos_left hk (qm _)
 have hb := qjz hA hB
 have hQ0 : A * 2 ^ (bl B + 64) / B ≠ 0 := fun c => by rw [c, qby] at hb; omega
 have h2 := qao hQ
 have hst := qjx hQ0 (decide (A * 2 ^ (bl B + 64) % B ≠ 0))
 have hs0 : stk (A * 2 ^ (bl B + 64) / B) (decide (A * 2 ^ (bl B + 64) % B ≠ 0)) ≠ 0 := fun c => by rw [c, qby] at hst; omega
 unfold rq
 rw [qpS h hs0 (by omega), qpS h (by omega) (by rw [show bl 1 = 1 by decide]; omega)]
theorem qvX {f m : Int} (h : isF f) (hm : isM m) {s s' : Bool} {l l' : List Int} {e e' : Int} (hd : My s l e) (hd' : My s' l' e') : Ev (fun k => qae.f k f m [(s, l, e), (s', l', e')]) ((pr f : Int), lo f, wd f, 0) := by
 unfold qae.f
 unfold isM at hm
 refine qi (qjs h) ?_; try dsimp only
 refine qb (by simp) (qb (by omega) (qb (by omega) ?_))
 have e1 : wrap64 (0 + 1) = 1 := by rw [qbx (by omega) (by omega)]; rfl
 have e2 : wrap64 (1 + 1) = 2 := by rw [qbx (by omega) (by omega)]; rfl
 have el : (([(s, l, e), (s', l', e')] : List (Bool × List Int × Int)).length : Int) = 2 := rfl
 have r0 : rdT [.b, .is .u32, .i .i64] [(s, l, e), (s', l', e')] 0 = (s, l, e) := rfl
 have r1 : rdT [.b, .is .u32, .i .i64] [(s, l, e), (s', l', e')] 1 = (s', l', e') := rfl
 refine qc ?_
 simp only [qae.l0, el, e1, r0]
 refine qa (by decide) (qa (by decide) (qa (by decide) ?_))
 refine qi (qe5 hd) ?_; try dsimp only
 refine qb (by simp) (qc ?_)
 simp only [qae.l0, el, e2, r1]
 refine qa (by decide) (qa (by decide) (qa (by decide) ?_))
 refine qi (qe5 hd') ?_; try dsimp only
 refine qb (by simp) (qc ?_)
 simp only [qae.l0]
 exact qb (by decide) (Ev.now _)
theorem qvY {n j : Nat} (h : bl n + j = 64) : qap n = n * 2 ^ j ∧ qce n = false := by
 unfold qap qce
 have e1 : 64 - bl n = j := by omega
 have e2 : bl n - 64 = 0 := by omega
 rw [e1, e2, Nat.pow_zero, Nat.div_one, Nat.mod_one]
 exact ⟨rfl, rfl⟩
def qN (A B : Nat) : Nat := 65 + bl B - bl A
def qC (A B : Nat) : Nat := bl (A * 2 ^ qN A B / B) - 64
def qH (A B : Nat) : Nat := A * 2 ^ qN A B / B / 2 ^ qC A B
def qL (A B : Nat) : Bool := decide (A * 2 ^ qN A B / B % 2 ^ qC A B ≠ 0) || decide (A * 2 ^ qN A B % B ≠ 0)
theorem qlZ {A B : Nat} (hA : A ≠ 0) (hB : B ≠ 0) : 65 ≤ bl (A * 2 ^ qN A B / B) ∧ bl (A * 2 ^ qN A B / B) ≤ bl A + 66 ∧ bl (qH A B) = 64 := by
 have h1 : qN A B = 65 + bl B - bl A := rfl
 have h2 : qC A B = bl (A * 2 ^ qN A B / B) - 64 := rfl
 have := qhN hA hB (qN A B) (by omega)
 have hp := qcD hA
 have hd : bl (qH A B) = bl (A * 2 ^ qN A B / B) - qC A B := qc5 _ _
 refine ⟨by omega, by omega, by omega⟩
theorem qvZ {x c n : Nat} (l : Bool) (hx : bl x ≤ 33000) (hc : c = bl x - 64) (h64 : 64 ≤ bl x) (hn : n ≤ 1000000) : Ev (fun k => qef.f k false (D x) (0 - (n : Int)) l 64) ((mk ((x / 2 ^ c : Nat) : Int) (0 - (n : Int) + (c : Int))).1, (mk ((x / 2 ^ c : Nat) : Int) (0 - (n : Int) + (c : Int))).2.1, (mk ((x / 2 ^ c : Nat) : Int) (0 - (n : Int) + (c : Int))).2.2, (decide (x % 2 ^ c ≠ 0) || l), 0) := by
 have lx := qa9 (x := x) (k := 2100) (by omega)
 have hl := qgt (q7 x) (by omega)
 have hs2 := qi7 (q7 x) (by omega) (-(c : Int))
 rw [V_D] at hl hs2
 rw [qln (by omega) (by omega)] at hs2
 have hm := qgv false (q7 (x / 2 ^ c)) (by
  have h1 := qc5 x c
  have := qa9 (x := x / 2 ^ c) (k := 2100) (by omega)
  omega) (0 - (n : Int) + (c : Int))
 rw [V_D, qgw (by omega) (by have := qc5 x c; omega)] at hm
 rw [show sv false (x / 2 ^ c) = ((x / 2 ^ c : Nat) : Int) from rfl] at hm
 have w4 : mx 0 (wrap64 (((bl x : Nat) : Int) - 64)) = (c : Int) := by
  rw [qi6, qe6 (by omega) (by omega) (by omega) (by omega)]; omega
 have w5 : wrap64 (-(c : Int)) = -(c : Int) := qeo (by omega) (by omega)
 have w6 : wrap64 (0 - (n : Int) + (c : Int)) = 0 - (n : Int) + (c : Int) := qcd (by omega) (by omega) (by omega) (by omega)
 unfold qef.f
 refine Ev.bind (hl) ?_; try dsimp only
 rw [w4, w5, w6]
 clear w4 w5 w6
 refine Ev.bind (hs2) ?_; try dsimp only
 refine Ev.bind (hm) ?_; try dsimp only
 refine qb (by unfold ok3; simp) ?_
 by_cases c1 : x % 2 ^ c ≠ 0
 ·refine qa (decide_eq_true c1) (qd (Ev.now _) ?_)
  rw [decide_eq_true c1, Bool.true_or]; rfl
 ·refine qb (by simpa using c1) (qd (Ev.now _) ?_)
  rw [decide_eq_false c1, Bool.false_or]; rfl
theorem qv0 {n x y : Nat} (hn : n = 65 + x - y) (h1 : x ≤ 1000000) (h2 : y ≤ 1000000) : mx 0 (wrap64 (wrap64 (wrap64 (64 + 1) + (x : Int)) - (y : Int))) = (n : Int) := by
 have e : wrap64 (wrap64 (wrap64 (64 + 1) + (x : Int)) - (y : Int)) = 65 + (x : Int) - (y : Int) := by unfold wrap64; omega
 rw [qi6, e]
 clear e
 omega
theorem qv1 {n : Nat} (h : n ≤ 1000000) : wrap64 (wrap64 (0 - 0) - (n : Int)) = 0 - (n : Int) := by unfold wrap64; omega
theorem qv2 {la lb : List Int} (ha : Nm la) (hb : Nm lb) (ma : My false la 0) (mb : My false lb 0) (A0 : V la ≠ 0) (B0 : V lb ≠ 0) (l1 : bl (V la) ≤ 32000) (l2 : bl (V lb) ≤ 32000) :
  Ev (fun k => qdl.f k false la 0 false lb 0 64) ((mk (qH (V la) (V lb)) (0 - (qN (V la) (V lb) : Nat) + (qC (V la) (V lb) : Nat))).1, (mk (qH (V la) (V lb)) (0 - (qN (V la) (V lb) : Nat) + (qC (V la) (V lb) : Nat))).2.1, (mk (qH (V la) (V lb)) (0 - (qN (V la) (V lb) : Nat) + (qC (V la) (V lb) : Nat))).2.2, qL (V la) (V lb), 0) := by
 have lla := ma.len
 have llb := mb.len
 have ane : la ≠ [] := fun h => A0 (by rw [h]; rfl)
 have lne : lb ≠ [] := fun h => B0 (by rw [h]; rfl)
 have hN : qN (V la) (V lb) = 65 + bl (V lb) - bl (V la) := rfl
 have hC : qC (V la) (V lb) = bl (V la * 2 ^ qN (V la) (V lb) / V lb) - 64 := rfl
 have hH : qH (V la) (V lb) = V la * 2 ^ qN (V la) (V lb) / V lb / 2 ^ qC (V la) (V lb) := rfl
 have hL : qL (V la) (V lb) = (decide (V la * 2 ^ qN (V la) (V lb) / V lb % 2 ^ qC (V la) (V lb) ≠ 0) || decide (V la * 2 ^ qN (V la) (V lb) % V lb ≠ 0)) := rfl
 obtain ⟨b1, b2, b3⟩ := qlZ A0 B0
 have hs := qi7 ha lla (qN (V la) (V lb) : Nat)
 rw [qlm (by omega)] at hs
 have hup := qhD (V la) (qN (V la) (V lb))
 have hll := qa9 (x := V la * 2 ^ qN (V la) (V lb)) (k := 2100) (by omega)
 have hq := qtG (q7 (V la * 2 ^ qN (V la) (V lb))) hb (by omega) llb
 rw [V_D] at hq
 unfold qlk at hq
 rw [if_neg B0] at hq
 have hn6 : qN (V la) (V lb) ≤ 1000000 := by omega
 have w2 : wrap64 (131072 - ((bl (V la) : Nat) : Int)) = 131072 - ((bl (V la) : Nat) : Int) := qe6 (by omega) (by omega) (by omega) (by omega)
 have w3 := qv1 hn6
 have w1 := qv0 hN (Nat.le_trans l2 (by decide)) (Nat.le_trans l1 (by decide))
 unfold qdl.f
 refine Ev.bind (qpa ma mb) ?_; try dsimp only
 refine qb (by simp) ?_
 rw [show decide ((64 : Int) < 1) = false from rfl]
 refine qc ?_
 simp only [qdl.j0]
 refine qb (by simp) ?_
 have ask : qhj.f 64 = some 0 := rfl
 refine qi (ask) ?_; try dsimp only
 refine qb (by simp) (qb (fun h => lne (qc7.1 h)) (qb (fun h => ane (qc7.1 h)) ?_))
 refine Ev.bind (qgt hb llb) ?_; try dsimp only
 refine Ev.bind (qgt ha lla) ?_; try dsimp only
 refine Ev.bind (qgt ha lla) ?_; try dsimp only
 rw [w1, w2, w3]
 clear w1 w2 w3
 refine qb (by omega) ?_
 refine Ev.bind (hs) ?_; try dsimp only
 refine Ev.bind (hq) ?_; try dsimp only
 rw [hL, hH]
 generalize qN (V la) (V lb) = n at *
 generalize qC (V la) (V lb) = c at *
 have hdz : decide (((D (V la * 2 ^ n % V lb)).length : Int) > 0) = decide (V la * 2 ^ n % V lb ≠ 0) := by
  generalize V la * 2 ^ n % V lb = y
  exact decide_eq_decide.2 (by
   constructor
   ·intro h h2; rw [h2, qU] at h; simp at h
   ·intro h
    have : (D y) ≠ [] := fun h2 => h (by rw [← V_D y, h2]; rfl)
    exact qhH this)
 rw [hdz]
 clear hdz
 have hlen := qcb (Nat.div_le_self (V la * 2 ^ n) (V lb))
 generalize V la * 2 ^ n % V lb = y at *
 generalize V la * 2 ^ n / V lb = x at *
 have hmd := qvZ (x := x) (c := c) (n := n) (decide (y ≠ 0)) (by omega) hC (by omega) (by omega)
 refine Ev.bind (hmd) ?_; try dsimp only
 exact Ev.now _
theorem qqe (x y : Nat) : (decide (x ≠ 0) || decide (y ≠ 0)) = decide (2 * x + bN (decide (y ≠ 0)) ≠ 0) := by
 by_cases c1 : x = 0
 ·subst c1
  by_cases c2 : y = 0
  ·subst c2; rfl
  ·have e : decide (y ≠ 0) = true := decide_eq_true c2
   rw [e]; rfl
 ·have e : decide (x ≠ 0) = true := decide_eq_true c1
  rw [e, Bool.true_or]
  exact (decide_eq_true (by omega)).symm
theorem qv3 {f m : Int} (h : isF f) (s : Bool) {A B : Nat} (hA : A ≠ 0) (hB : B ≠ 0) (e : Int) :
  qP f m s (stk (qH A B) (qL A B)) (e - (qN A B : Nat) + (qC A B : Nat) - 1) = rq f m s A B e := by
 have hpr := qaH h
 have hfb := qba h
 obtain ⟨b1, b2, b3⟩ := qlZ hA hB
 have hn := qjA (m := m) h s hA (Nat.pos_of_ne_zero hB) e (qN A B) (by omega)
 rw [← hn]
 have hH : qH A B = A * 2 ^ qN A B / B / 2 ^ qC A B := rfl
 have hL : qL A B = (decide (A * 2 ^ qN A B / B % 2 ^ qC A B ≠ 0) || decide (A * 2 ^ qN A B % B ≠ 0)) := rfl
 rw [hL]
 rw [hH] at b3 ⊢
 generalize qN A B = n at *
 generalize qC A B = c at *
 generalize A * 2 ^ n % B = y at *
 generalize A * 2 ^ n / B = x at *
 have hr := Nat.mod_lt x (qm c)
 have hx := Nat.div_add_mod x (2 ^ c)
 have hb := qjw (decide (y ≠ 0))
 have hs : stk x (decide (y ≠ 0)) = x / 2 ^ c * 2 ^ (c + 1) + (2 * (x % 2 ^ c) + bN (decide (y ≠ 0))) := by
  unfold stk
  conv => lhs; rw [← hx]
  rw [Nat.pow_succ, Nat.mul_comm (2 ^ c), ← Nat.mul_assoc]; omega
 rw [hs, qjy h s (by omega) (by rw [Nat.pow_succ]; omega)]
 have hd := qqe (x % 2 ^ c) y
 rw [hd]
 congr 1
 omega
theorem qv4 {f m : Int} (h : isF f) (s : Bool) {H : Nat} (hH : bl H = 64) (T : Int) (b : Bool) : qep f m s T (UP m s H T b) (XP H T b) = qP f m s (stk H b) (T - 65) := by
 have hpr := qaH h
 have hfb := qba h
 have h0 : H ≠ 0 := fun c => by rw [c, qby] at hH; omega
 have hb := qjx h0 b
 rw [← qjr]
 have hT : T - 65 + (bl (stk H b) : Nat) = T := by omega
 rw [hT]
 refine qlO fun E hE => ?_
 unfold UP XP R exR stk
 have e1 : (T - 65 - E).toNat = 0 := by omega
 have e2 : (E - (T - 65)).toNat = (E - T + 64).toNat + 1 := by omega
 rw [e1, e2, Nat.pow_zero, Nat.mul_one]
 exact ⟨rfl, rfl⟩
theorem qv5 {f m : Int} (h : isF f) (hm : isM m) {sa sb : Bool} {la lb : List Int} {ea eb : Int} (ha : My sa la ea) (hb : My sb lb eb) (A0 : V la ≠ 0) (B0 : V lb ≠ 0) (l1 : bl (V la) ≤ 32000) (l2 : bl (V lb) ≤ 32000) :
    Ev (fun k => qcV.f k f m sa la ea sb lb eb) ((rq f m (decide (¬ sa = sb)) (V la) (V lb) (ea - eb)).1, (rq f m (decide (¬ sa = sb)) (V la) (V lb) (ea - eb)).2, 0) := by
  have ma : My false la 0 := ⟨⟨ha.dy.nm, fun h => ⟨rfl, rfl⟩, ha.dy.odd⟩, ha.len, by omega, by omega⟩
  have mb : My false lb 0 := ⟨⟨hb.dy.nm, fun h => ⟨rfl, rfl⟩, hb.dy.odd⟩, hb.len, by omega, by omega⟩
  have h1 := ha.lo
  have h2 := ha.hi
  have h3 := hb.lo
  have h4 := hb.hi
  have hq := qv2 ha.dy.nm hb.dy.nm ma mb A0 B0 l1 l2
  have hr := qv3 (m := m) h (decide (¬ sa = sb)) A0 B0 (ea - eb)
  obtain ⟨b1, b2, b3⟩ := qlZ A0 B0
  have hN : qN (V la) (V lb) = 65 + bl (V lb) - bl (V la) := rfl
  have hC : qC (V la) (V lb) = bl (V la * 2 ^ qN (V la) (V lb) / V lb) - 64 := rfl
  rw [← hr]
  clear hr
  generalize qN (V la) (V lb) = n at *
  generalize qC (V la) (V lb) = c at *
  generalize qH (V la) (V lb) = H at *
  generalize qL (V la) (V lb) = L at *
  have H0 : (H : Int) ≠ 0 := fun h => by have : H = 0 := by omega
                                         rw [this, qby] at b3; omega
  obtain ⟨j, j1, j2, j3, j4⟩ := qdu H0 (0 - (n : Int) + (c : Int))
  rw [Int.natAbs_natCast] at j1
  have hj : bl (V (mk (H : Int) (0 - (n : Int) + (c : Int))).2.1) + j = 64 := by
    have := qdr j4 j
    rw [← j1] at this; omega
  have hd := qaG (H : Int) (0 - (n : Int) + (c : Int))
  generalize (mk (H : Int) (0 - (n : Int) + (c : Int))) = g at *
  obtain ⟨g1, g2, g3⟩ := g
  dsimp only at *
  have hl := hd.nm.len
  have hlb := qa9 (x := V g2) (k := 2) (by omega)
  have hmy : My g1 g2 g3 := ⟨hd, by omega, by omega, by omega⟩
  have hp := qpR hmy j4
  obtain ⟨k1, k2⟩ := qvY hj
  rw [k1, k2, ← j1] at hp
  have hT : ∀ b, qep f m (decide (¬ sa = sb)) (g3 + (bl (V g2) : Nat) + (ea - eb)) (UP m (decide (¬ sa = sb)) H (g3 + (bl (V g2) : Nat) + (ea - eb)) b) (XP H (g3 + (bl (V g2) : Nat) + (ea - eb)) b) = qP f m (decide (¬ sa = sb)) (stk H b) (ea - eb - (n : Int) + (c : Int) - 1) := by
    intro b
    rw [qv4 h _ b3]
    congr 1
    omega
  have HH : 2 ^ 63 ≤ H ∧ H < 2 ^ 64 := by
    have hne : H ≠ 0 := fun h => H0 (by omega)
    have u1 := qe0 hne
    have u2 := qan H
    rw [b3] at u1 u2
    exact ⟨u1, u2⟩
  have w1 : wrap64 (ea - eb) = ea - eb := qe6 (by omega) (by omega) (by omega) (by omega)
  have w2 : wrap64 (g3 + ((bl (V g2) : Nat) : Int) + (ea - eb)) = g3 + ((bl (V g2) : Nat) : Int) + (ea - eb) := qcd (by omega) (by omega) (by omega) (by omega)
  have hw := fun b => qpQ h hm (decide (¬ sa = sb)) HH (T := g3 + (bl (V g2) : Nat) + (ea - eb)) b (by omega) (by omega)
  have last : ∀ b : Bool, Ev (fun k => qcV.j1 k f m sa la ea sb lb eb (pr f : Int) (lo f) (wd f) (decide (¬ sa = sb)) (H : Int) (g3 + ((bl (V g2) : Nat) : Int)) b) ((qP f m (decide (¬ sa = sb)) (stk H b) (ea - eb - (n : Int) + (c : Int) - 1)).1, (qP f m (decide (¬ sa = sb)) (stk H b) (ea - eb - (n : Int) + (c : Int) - 1)).2, 0) := by
    intro b
    refine qc ?_
    simp only [qcV.j1, w1, w2]
    refine Ev.bind (hw b) ?_
    rw [hT b]
    exact Ev.now _
  clear w1 w2
  unfold qcV.f
  refine Ev.bind (qvX h hm ha hb) ?_; try dsimp only
  refine qb (by simp) ?_
  refine Ev.bind (qlt hb) ?_; try dsimp only
  refine qb (by rw [qfQ B0]; split <;> omega) ?_
  refine Ev.bind (qlt ha) ?_; try dsimp only
  refine qb (by rw [qfQ A0]; split <;> omega) ?_
  refine Ev.bind (hq) ?_; try dsimp only
  refine Ev.bind (hp) ?_; try dsimp only
  refine qb (by simp) ?_
  exact last L
theorem qv6 {f m : Int} (h : isF f) (hm : isM m) {sa sb : Bool} {la lb : List Int} {ea eb : Int} (ha : Dy sa la ea) (hb : Dy sb lb eb) (A0 : V la ≠ 0) (B0 : V lb ≠ 0) (l1 : bl (V la) ≤ 300000) (l2 : bl (V lb) ≤ 300000) (h1 : -100000 ≤ ea) (h2 : ea ≤ 100000) (h3 : -100000 ≤ eb) (h4 : eb ≤ 100000) :
  Ev (fun k => qgn.f k f m sa la ea sb lb eb) (rq f m (decide (¬ sa = sb)) (V la) (V lb) (ea - eb)) := by
 have hpr := qaH h
 have hfb := qba h
 have ll1 := qa9 (k := 10000) (x := V la) (by omega)
 have ll2 := qa9 (k := 10000) (x := V lb) (by omega)
 rw [ha.nm.len] at ll1
 rw [hb.nm.len] at ll2
 have hq := qvl ha hb A0 B0 (by omega) (by omega) (by omega) (by omega) (by omega) (by omega) 60 (by omega)
 have hQb := qvn (b := 60) A0 B0
 have hCb := qvm (b := 60) A0 B0
 have hN : qA (V la) (V lb) 60 = 60 + 1 + bl (V lb) - bl (V la) := rfl
 have hC : qat (V la) (V lb) 60 = bl (V la * 2 ^ qA (V la) (V lb) 60 / V lb) - 60 := rfl
 have hqt := qhN A0 B0 (qA (V la) (V lb) 60) (by omega)
 have hrq := qjA (m := m) h (sa != sb) A0 (Nat.pos_of_ne_zero B0) (ea - eb) (qA (V la) (V lb) 60) (by omega)
 have hne : (decide (¬ sa = sb)) = (sa != sb) := by cases sa <;> cases sb <;> rfl
 rw [hne]
 have hres : qP f m (sa != sb) (stk (qcf (V la) (V lb) 60) (qe8 (V la) (V lb) 60)) (ea - eb - (qA (V la) (V lb) 60 : Nat) + (qat (V la) (V lb) 60 : Nat) - 1) = rq f m (sa != sb) (V la) (V lb) (ea - eb) := by
  rw [← hrq]
  have eQ : qcf (V la) (V lb) 60 = V la * 2 ^ qA (V la) (V lb) 60 / V lb / 2 ^ qat (V la) (V lb) 60 := by unfold qcf; rw [Nat.div_div_eq_div_mul]
  have eL : qe8 (V la) (V lb) 60 = (decide (V la * 2 ^ qA (V la) (V lb) 60 / V lb % 2 ^ qat (V la) (V lb) 60 ≠ 0) || decide (V la * 2 ^ qA (V la) (V lb) 60 % V lb ≠ 0)) := by
   unfold qe8
   rw [Nat.mod_mul]
   generalize V la * 2 ^ qA (V la) (V lb) 60 / V lb % 2 ^ qat (V la) (V lb) 60 = x
   generalize V la * 2 ^ qA (V la) (V lb) 60 % V lb = y
   by_cases c : x = 0
   ·subst c; simp
   ·have : V lb * x ≠ 0 := Nat.mul_ne_zero (by omega) c
    rw [decide_eq_true (show y + V lb * x ≠ 0 by omega), decide_eq_true c, Bool.true_or]
  rw [eL]
  rw [eQ] at hQb ⊢
  generalize qA (V la) (V lb) 60 = n at *
  generalize qat (V la) (V lb) 60 = c at *
  generalize V la * 2 ^ n % V lb = y at *
  generalize V la * 2 ^ n / V lb = x at *
  have hr := Nat.mod_lt x (qm c)
  have hx := Nat.div_add_mod x (2 ^ c)
  have hb := qjw (decide (y ≠ 0))
  have hs : stk x (decide (y ≠ 0)) = x / 2 ^ c * 2 ^ (c + 1) + (2 * (x % 2 ^ c) + bN (decide (y ≠ 0))) := by
   unfold stk
   conv => lhs; rw [← hx]
   rw [Nat.pow_succ, Nat.mul_comm (2 ^ c), ← Nat.mul_assoc]; omega
  rw [hs, qjy h _ (by omega) (by rw [Nat.pow_succ]; omega)]
  have hd := qqe (x % 2 ^ c) y
  rw [hd]
  congr 1
  omega
 clear hrq hqt
 rw [← hres]
 clear hres
 generalize qA (V la) (V lb) 60 = n at *
 generalize qat (V la) (V lb) 60 = c at *
 generalize qcf (V la) (V lb) 60 = Q at *
 generalize qe8 (V la) (V lb) 60 = L at *
 generalize he : ea - eb - (n : Int) + (c : Int) = e at *
 have Q0 : Q ≠ 0 := fun h => by rw [h, qby] at hQb; omega
 have z0 : sv (sa != sb) Q ≠ 0 := fun h => Q0 (qbP.1 h)
 have zb : bl (sv (sa != sb) Q).natAbs = 60 := by rw [qaf, hQb]
 have zs : decide (sv (sa != sb) Q < 0) = (sa != sb) := qds Q0
 unfold qgn.f
 refine Ev.bind (hq) ?_; try dsimp only
 cases L
 ·have hr := qlM h hm z0 (e := e) (by omega) (by omega) (by omega)
  rw [zs, qaf] at hr
  have hst : qP f m (sa != sb) (stk Q false) (e - 1) = qP f m (sa != sb) Q e := by
   have : stk Q false = Q * 2 ^ 1 := by unfold stk bN; rw [if_neg (by decide), Nat.pow_one]; omega
   rw [this, qlP f m _ Q0]
   congr 1
   omega
  rw [hst]
  have hb : Ev (fun k => qeU.f k (mk (sv (sa != sb) Q) e).1 (mk (sv (sa != sb) Q) e).2.1 (mk (sv (sa != sb) Q) e).2.2 false) (mk (sv (sa != sb) Q) e) := by
   unfold qeU.f
   exact qa rfl (Ev.now _)
  refine Ev.bind (hb) ?_; try dsimp only
  refine Ev.bind (hr) ?_; try dsimp only
  exact Ev.now _
 ·have g1 : Rg (sv (sa != sb) Q) e := ⟨by omega, by omega, by omega⟩
  have ht := qjm g1
  have htop : top (sv (sa != sb) Q) e = e + 60 := by
   unfold top
   rw [if_neg z0, zb]; rfl
  rw [htop] at ht
  have g2 : Rg 1 (e - 2) := ⟨by decide, by omega, by omega⟩
  have w1 : wrap64 (wrap64 (e + 60 - 60) - 2) = e - 2 := by
   rw [qe6 (a := e + 60) (by omega) (by omega) (by omega) (by omega), qe6 (by omega) (by omega) (by omega) (by omega)]; omega
  have hst : qP f m (sa != sb) (stk Q true) (e - 1) = qP f m (sa != sb) (4 * Q + 1) (e - 2) := by
   have h1 := qjy (m := m) h (sa != sb) (H := Q) (r := 1) (j := 2) (by omega) (by decide) (e - 2)
   rw [show Q * 2 ^ 2 + 1 = 4 * Q + 1 by omega, show decide (1 ≠ 0) = true from rfl] at h1
   rw [h1]
   congr 1
   omega
  rw [hst]
  have hsum : qal (sv (sa != sb) Q) e (if (sa != sb) = true then -1 else 1) (e - 2) = mk (sv (sa != sb) (4 * Q + 1)) (e - 2) := by
   have h1 := qlJ (if (sa != sb) = true then -1 else 1) (sv (sa != sb) Q) (e - 2) 2
   rw [show e - 2 + ((2 : Nat) : Int) = e by omega, qjl] at h1
   rw [h1]
   congr 1
   cases (sa != sb)
   ·simp [sv]; omega
   ·simp [sv]; omega
  have z1 : sv (sa != sb) (4 * Q + 1) ≠ 0 := fun h => by have := qbP.1 h; omega
  have zb1 : bl (sv (sa != sb) (4 * Q + 1)).natAbs ≤ 62 := by
   rw [qaf]
   have := qan Q
   rw [hQb] at this
   exact qao (by omega)
  have zs1 : decide (sv (sa != sb) (4 * Q + 1) < 0) = (sa != sb) := qds (by omega)
  have hr := qlM h hm z1 (e := e - 2) (by omega) (by omega) (by omega)
  rw [zs1, qaf] at hr
  have hb : Ev (fun k => qeU.f k (mk (sv (sa != sb) Q) e).1 (mk (sv (sa != sb) Q) e).2.1 (mk (sv (sa != sb) Q) e).2.2 true) (mk (sv (sa != sb) (4 * Q + 1)) (e - 2)) := by
   unfold qeU.f
   refine qb (by simp) ?_
   refine Ev.bind (ht) ?_; try dsimp only
   rw [w1]
   clear w1
   refine qi (qpA (e - 2)) ?_; try dsimp only
   have hsg : (mk (sv (sa != sb) Q) e).1 = (sa != sb) := by
    obtain ⟨j, _, _, j3, _⟩ := qdu z0 e
    rw [j3, zs]
   rw [hsg]
   cases hs : (sa != sb)
   ·rw [hs] at g1 hsum hsg
    refine qb (by simp) ?_
    have := qpt g1 g2
    rw [hsg] at this
    simp only [Bool.false_eq_true, if_false] at hsum
    rw [hsum] at this
    refine Ev.bind (this) ?_; try dsimp only
    exact Ev.now _
   ·rw [hs] at g1 hsum hsg
    refine qa rfl ?_
    have := qlD g1 g2
    rw [hsg] at this
    simp only [if_true] at hsum
    rw [hsum] at this
    refine Ev.bind (this) ?_; try dsimp only
    exact Ev.now _
  refine Ev.bind (hb) ?_; try dsimp only
  refine Ev.bind (hr) ?_; try dsimp only
  exact Ev.now _
theorem qv7 {sa sb : Bool} {la lb : List Int} {ea eb : Int} (ha : My sa la ea) (hb : My sb lb eb) (hl : bl (V la) + bl (V lb) ≤ 131000) (h1 : -16000000 ≤ ea + eb) (h2 : ea + eb ≤ 16000000) : Ev (fun k => qfz.f k sa la ea sb lb eb) (ok3 (mk (sv sa (V la) * sv sb (V lb)) (ea + eb))) := by
 have a1 := ha.lo
 have a2 := ha.hi
 have b1 := hb.lo
 have b2 := hb.hi
 have hbl := qlQ (V la) (V lb)
 have hlen := qa9 (x := V la * V lb) (k := 4096) (by omega)
 have e : wrap64 (ea + eb) = ea + eb := qcd (by omega) (by omega) (by omega) (by omega)
 have m1 := qvF ha.dy.nm hb.dy.nm ha.len hb.len
 rw [qhK (by omega)] at m1
 have k1 := qgv (sa != sb) (q7 (V la * V lb)) (by omega) (ea + eb)
 rw [V_D, qgw (by omega) (by omega), ← qje] at k1
 have hne : (decide (¬ sa = sb)) = (sa != sb) := by cases sa <;> cases sb <;> rfl
 unfold qfz.f
 refine Ev.bind (qpa ha hb) ?_; try dsimp only
 refine qb (by simp) ?_
 refine Ev.bind (m1) ?_; try dsimp only
 refine qb (by simp) ?_
 rw [e, hne]
 clear e
 refine Ev.bind (k1) ?_; try dsimp only
 exact Ev.now _
theorem qhO {z e : Int} (hb : bl z.natAbs ≤ 131072) (h1 : -16777216 ≤ e) (h2 : e + (bl z.natAbs : Nat) ≤ 16777216) : My (mk z e).1 (mk z e).2.1 (mk z e).2.2 := by
 have a1 := qen z e
 have a2 := qb2 z e
 have e1 : (mk z e).2.2 = me z e := rfl
 exact ⟨qaG z e, by omega, by omega, by omega⟩
theorem qv8 (za ea zb eb : Int) : mk (mz za ea * mz zb eb) (me za ea + me zb eb) = mk (za * zb) (ea + eb) := by
 by_cases c : za = 0
 ·subst c; rw [qem, Int.zero_mul, Int.zero_mul]; rfl
 by_cases c2 : zb = 0
 ·subst c2; rw [qem, Int.mul_zero, Int.mul_zero]; rfl
 obtain ⟨j, p1, p2, _, _⟩ := qcF c ea
 obtain ⟨i, q1, q2, _, _⟩ := qcF c2 eb
 have e3 : za * zb = mz za ea * mz zb eb * 2 ^ (j + i) := by
  conv => lhs; rw [p1, q1]
  rw [Int.pow_add, Int.mul_assoc, Int.mul_assoc]
  congr 1
  rw [Int.mul_left_comm]
 rw [e3, qc6, p2, q2]
 congr 1
 omega
theorem qgC (z e : Int) : bl (V (mk z e).2.1) ≤ bl z.natAbs := by
 by_cases c : z = 0
 ·subst c; exact Nat.zero_le _
 ·obtain ⟨j, j1, _⟩ := qdu c e
  rw [j1]
  have h := qhD (V (mk z e).2.1) j
  have hp : V (mk z e).2.1 ≤ V (mk z e).2.1 * 2 ^ j := Nat.le_mul_of_pos_right _ (qm j)
  exact qcb hp
theorem qv9 {za ea zb eb : Int} (hb : bl za.natAbs + bl zb.natAbs ≤ 131000) (h1 : -8000000 ≤ ea) (h2 : ea ≤ 7000000) (h3 : -8000000 ≤ eb) (h4 : eb ≤ 7000000) : Ev (fun k => qfz.f k (mk za ea).1 (mk za ea).2.1 (mk za ea).2.2 (mk zb eb).1 (mk zb eb).2.1 (mk zb eb).2.2) (ok3 (mk (za * zb) (ea + eb))) := by
 have a2 := qb2 za ea
 have b2 := qb2 zb eb
 have a3 := qgC za ea
 have b3 := qgC zb eb
 have e1 : (mk za ea).2.2 = me za ea := rfl
 have e2 : (mk zb eb).2.2 = me zb eb := rfl
 refine qd (qv7 (qhO (z := za) (e := ea) (by omega) (by omega) (by omega)) (qhO (z := zb) (e := eb) (by omega) (by omega) (by omega)) (by omega) (by omega) (by omega)) ?_
 show ok3 (mk (mz za ea * mz zb eb) (me za ea + me zb eb)) = _
 rw [qv8]
theorem qqf {f m : Int} (h : isF f) (s : Bool) {A B : Nat} (hA : A ≠ 0) (hB : 0 < B) (e : Int) (j : Nat) : rq f m s A (B * 2 ^ j) e = rq f m s A B (e - j) := by
 have h1 := qlY (m := m) h s hA (Nat.mul_pos hB (qm j)) (e - j) j
 rw [show e - (j : Int) + j = e by omega] at h1
 rw [← h1, qvT h s hA hB (qm j)]
def qaU (f m : Int) (s : Bool) (n : Nat) (x : Int) : Int × Int := rq f m s (n * 10 ^ x.toNat) (10 ^ (-x).toNat) 0
theorem qgD (n : Nat) : 0 < 10 ^ n := Nat.pow_pos (by omega)
theorem qqg {f m : Int} (h : isF f) (s : Bool) {n : Nat} (hn : n ≠ 0) {x : Int} (hx : 400 ≤ x) : qaU f m s n x = ((qdW f m s : Int), 20) := by
 have hw := qfR h
 unfold qaU
 obtain ⟨K, hK⟩ : ∃ K : Nat, K = 1024 := ⟨_, rfl⟩
 refine qvV h s (qgD _) (k := K) ?_ (by omega)
 have e1 : (-x).toNat = 0 := by omega
 rw [e1, Nat.pow_zero, Nat.one_mul]
 have h1 : 8 ^ x.toNat ≤ 10 ^ x.toNat := Nat.pow_le_pow_left (by omega) _
 have h2 : (2 : Nat) ^ K ≤ 2 ^ (3 * x.toNat) := Nat.pow_le_pow_right (by omega) (by omega)
 rw [Nat.pow_mul, show (2 : Nat) ^ 3 = 8 from rfl] at h2
 have h3 : 1 * 10 ^ x.toNat ≤ n * 10 ^ x.toNat := Nat.mul_le_mul_right _ (by omega)
 generalize (2 : Nat) ^ K = a at *
 generalize 8 ^ x.toNat = b at *
 omega
theorem qqh {f m : Int} (h : isF f) (s : Bool) {n p : Nat} (hn : n ≠ 0) (hb : n < 10 ^ p) {x : Int} (hx : x + p ≤ -500) : qaU f m s n x = qP f m s 1 (lo f - 2) := by
 have hw := qc8 h
 have e1 : x.toNat = 0 := by omega
 unfold qaU
 rw [e1, Nat.pow_zero, Nat.mul_one]
 obtain ⟨K, hK⟩ : ∃ K : Nat, K = 1080 := ⟨_, rfl⟩
 refine qvW h s hn (qgD _) (k := K) ?_ (by omega)
 obtain ⟨c, hc⟩ : ∃ c : Nat, (-x).toNat = p + c ∧ 500 ≤ c := ⟨(-x).toNat - p, by omega, by omega⟩
 rw [hc.1, Nat.pow_add]
 have h2 : (2 : Nat) ^ K ≤ 10 ^ c := by
  have h3 : (2 : Nat) ^ K ≤ 2 ^ (3 * c) := Nat.pow_le_pow_right (by omega) (by omega)
  rw [Nat.pow_mul] at h3
  exact Nat.le_trans h3 (Nat.pow_le_pow_left (by omega) _)
 exact Nat.mul_lt_mul_of_lt_of_le hb h2 (qgD c)
theorem qqi {f m : Int} (h : isF f) (s : Bool) {n p : Nat} (hn : n ≠ 0) (hb : n < 10 ^ p) {a b : Int} (ha : 400 ≤ a) (hB : b + p ≤ -500) (x : Int) : qaU f m s n (if x > a then a else if x < b then b else x) = qaU f m s n x := by
 by_cases c1 : x > a
 ·rw [if_pos c1, qqg h s hn ha, qqg h s hn (by omega)]
 ·rw [if_neg c1]
  by_cases c2 : x < b
  ·rw [if_pos c2, qqh h s hn hb hB, qqh h s hn hb (by omega)]
  ·rw [if_neg c2]
theorem qwa {f m : Int} (h : isF f) (s : Bool) {n : Nat} (hn : n ≠ 0) (X : Nat) : qP f m s (n * 5 ^ X) X = qaU f m s n X := by
 have h5 : n * 5 ^ X ≠ 0 := Nat.mul_ne_zero hn (Nat.ne_of_gt (Nat.pow_pos (by omega)))
 have h1 := qlY (m := m) h s h5 (B := 1) (by omega) 0 X
 rw [Int.zero_add] at h1
 unfold qaU
 rw [← qqd h s h5, ← h1, Nat.mul_assoc, ← Nat.mul_pow]
 have e1 : (X : Int).toNat = X := Int.toNat_natCast X
 have e2 : (-(X : Int)).toNat = 0 := by omega
 rw [e1, e2]
theorem qwb {f m : Int} (h : isF f) (s : Bool) {n : Nat} (hn : n ≠ 0) (Y : Nat) : rq f m s n (5 ^ Y) (-(Y : Int)) = qaU f m s n (-(Y : Int)) := by
 have h1 := qqf (m := m) h s hn (B := 5 ^ Y) (Nat.pow_pos (by omega)) 0 Y
 rw [← Nat.mul_pow, Int.zero_sub] at h1
 unfold qaU
 rw [← h1]
 have e1 : (-(Y : Int)).toNat = 0 := by omega
 have e2 : (-(-(Y : Int))).toNat = Y := by omega
 rw [e1, e2, Nat.pow_zero, Nat.mul_one]
theorem qwc {f m : Int} (h : isF f) (hm : isM m) (s : Bool) {n : Nat} (hn : n ≠ 0) {e : Int} (hb : bl n ≤ 100000) (h1 : -1000000 ≤ e) (h2 : e ≤ 1000000) : Ev (fun k => qfC.f k f m (mk (sv s n) e).1 (mk (sv s n) e).2.1 (mk (sv s n) e).2.2) ((qP f m s n e).1, (qP f m s n e).2, 0) := by
 have z0 : sv s n ≠ 0 := fun h => hn (qbP.1 h)
 obtain ⟨j, j1, j2, j3, j4⟩ := qdu z0 e
 have hm1 := qhO (z := sv s n) (e := e) (by rw [qaf]; omega) (by omega) (by rw [qaf]; omega)
 have hr := qvf h hm hm1 j4
 rw [qds hn] at j3
 rw [qaf] at j1
 have e1 := qlP f m s j4 e j
 rw [← j1, ← j2] at e1
 have e2 : qP f m (mk (sv s n) e).1 (V (mk (sv s n) e).2.1) (mk (sv s n) e).2.2 = qP f m s n e := by rw [j3, ← e1]
 rwa [e2] at hr
theorem qqj (n : Nat) : bl (5 ^ n) ≤ 3 * n + 1 := by
 refine qao ?_
 have h1 : 5 ^ n ≤ 8 ^ n := Nat.pow_le_pow_left (by omega) n
 rw [Nat.pow_succ, Nat.pow_mul]
 have : (2 : Nat) ^ 3 = 8 := rfl
 rw [this]
 have := Nat.pow_pos (n := n) (show 0 < 8 by omega)
 omega
theorem qfV (n : Nat) : bl (10 ^ n) ≤ 4 * n + 1 := by
 refine qao ?_
 have h1 : 10 ^ n ≤ 16 ^ n := Nat.pow_le_pow_left (by omega) n
 rw [Nat.pow_succ, Nat.pow_mul]
 have : (2 : Nat) ^ 4 = 16 := rfl
 rw [this]
 have := Nat.pow_pos (n := n) (show 0 < 16 by omega)
 omega
theorem qqk (s : Bool) : decide (¬ s = false) = s := by cases s <;> rfl
theorem qql {f m : Int} (h : isF f) (s : Bool) {n N : Nat} {e e' : Int} (hn : n ≠ 0) (hN : N ≠ 0) : rq f m s (V (mk (sv s n) e).2.1) (V (mk (N : Int) e').2.1) ((mk (sv s n) e).2.2 - (mk (N : Int) e').2.2) = rq f m s n N (e - e') := by
 have z0 : sv s n ≠ 0 := fun h => hn (qbP.1 h)
 have z1 : (N : Int) ≠ 0 := by omega
 obtain ⟨j, j1, j2, j3, j4⟩ := qdu z0 e
 obtain ⟨i, i1, i2, i3, i4⟩ := qdu z1 e'
 rw [qaf] at j1
 rw [Int.natAbs_natCast] at i1
 rw [i2, j2]
 have h1 := qlY (m := m) h s j4 (Nat.pos_of_ne_zero i4) (e - (e' + (i : Int))) j
 have h2 := qqf (m := m) h s hn (Nat.pos_of_ne_zero i4) (e - e') i
 rw [← j1] at h1
 rw [← i1] at h2
 rw [h2, show e - e' - (i : Int) = e - (e' + (i : Int)) by omega, h1]
 congr 1
 omega
theorem qwd {f m : Int} (h : isF f) (hm : isM m) (s : Bool) {n : Nat} (hn : n ≠ 0) {p : Nat} (hp : p ≤ 1200) (hb : n < 10 ^ p) (x : Int) : Ev (fun k => qeF.f k f m s (D n) x) ((qaU f m s n x).1, (qaU f m s n x).2, 0) := by
 have hx := qqi (m := m) h s hn hb (a := 3000) (b := -3000) (by omega) (by omega) x
 have ex : mn 3000 (mx (-3000) x) = (if x > 3000 then 3000 else if x < -3000 then -3000 else x) := by unfold mn mx; split <;> split <;> split <;> (try split) <;> omega
 rw [← hx]
 unfold qeF.f
 rw [ex]
 have hr : -3000 ≤ (if x > 3000 then 3000 else if x < -3000 then -3000 else x) ∧ (if x > 3000 then 3000 else if x < -3000 then -3000 else x) ≤ 3000 := by split <;> (try split) <;> omega
 clear ex hx
 generalize (if x > 3000 then 3000 else if x < -3000 then -3000 else x) = y at *
 have hbn : bl n ≤ 4801 := by
  have h1 := qcb (Nat.le_of_lt hb)
  have h2 := qfV p
  omega
 have lenn := qa9 (x := n) (k := 200) (by omega)
 have hmk := qgv s (q7 n) (by omega) y
 rw [V_D, qgw (by omega) (by omega)] at hmk
 refine Ev.bind (hmk) ?_; try dsimp only
 by_cases c : y ≥ 0
 ·refine qa c ?_
  obtain ⟨Y, rfl⟩ := Int.eq_ofNat_of_zero_le c
  have b5 := qqj Y
  have l5 := qa9 (x := 5 ^ Y) (k := 400) (by omega)
  have hpw := qp9 (b := 5) (n := Y) (by omega) (by omega)
  rw [qhK (by omega)] at hpw
  have hm5 := qgv false (q7 (5 ^ Y)) (by omega) 0
  rw [V_D, qgw (by omega) (by omega)] at hm5
  refine Ev.bind (hpw) ?_; try dsimp only
  refine Ev.bind (hm5) ?_; try dsimp only
  have hmul := qv9 (za := sv s n) (ea := (Y : Int)) (zb := sv false (5 ^ Y)) (eb := 0) (by rw [qaf, qaf]; omega) (by omega) (by omega) (by omega) (by omega)
  rw [qje, Bool.bne_false, Int.add_zero] at hmul
  have h50 : n * 5 ^ Y ≠ 0 := Nat.mul_ne_zero hn (Nat.ne_of_gt (Nat.pow_pos (by omega)))
  have hro := qwc h hm s h50 (e := (Y : Int)) (by have := qlQ n (5 ^ Y); omega) (by omega) (by omega)
  rw [qwa h s hn Y] at hro
  refine Ev.bind (hmul) ?_; try dsimp only
  refine Ev.bind (hro) ?_; try dsimp only
  exact Ev.now _
 ·refine qb c ?_
  obtain ⟨Y, hY⟩ : ∃ Y : Nat, y = -(Y : Int) := ⟨(-y).toNat, by omega⟩
  subst hY
  have b5 := qqj Y
  have l5 := qa9 (x := 5 ^ Y) (k := 400) (by omega)
  have hpw := qp9 (b := 5) (n := Y) (by omega) (by omega)
  rw [qhK (by omega)] at hpw
  have hm5 := qgv false (q7 (5 ^ Y)) (by omega) 0
  rw [V_D, qgw (by omega) (by omega)] at hm5
  rw [show wrap64 (-(-(Y : Int))) = (Y : Int) by rw [qeo (by omega) (by omega)]; omega]
  refine Ev.bind (hpw) ?_; try dsimp only
  refine Ev.bind (hm5) ?_; try dsimp only
  have z0 : sv s n ≠ 0 := fun h => hn (qbP.1 h)
  have h50 : 5 ^ Y ≠ 0 := Nat.ne_of_gt (Nat.pow_pos (by omega))
  have z1 : sv false (5 ^ Y) ≠ 0 := fun h => h50 (qbP.1 h)
  have m1 := qhO (z := sv s n) (e := -(Y : Int)) (by rw [qaf]; omega) (by omega) (by rw [qaf]; omega)
  have m2 := qhO (z := sv false (5 ^ Y)) (e := 0) (by rw [qaf]; omega) (by omega) (by rw [qaf]; omega)
  obtain ⟨j, j1, j2, j3, j4⟩ := qdu z0 (-(Y : Int))
  obtain ⟨i, i1, i2, i3, i4⟩ := qdu z1 0
  have v1 := qgC (sv s n) (-(Y : Int))
  have v2 := qgC (sv false (5 ^ Y)) 0
  rw [qaf] at v1 v2
  have hq := qv5 h hm m1 m2 j4 i4 (by omega) (by omega)
  have hsg : decide (¬ (mk (sv s n) (-(Y : Int))).1 = (mk (sv false (5 ^ Y)) 0).1) = s := by
   rw [j3, i3, qds hn, qds h50]; exact qqk s
  rw [hsg] at hq
  have hpt := qql (m := m) h s (e := -(Y : Int)) (e' := 0) hn h50
  rw [Int.sub_zero, qwb h s hn Y] at hpt
  rw [show sv false (5 ^ Y) = ((5 ^ Y : Nat) : Int) from rfl] at *
  rw [hpt] at hq
  refine Ev.bind (hq) ?_; try dsimp only
  exact Ev.now _
theorem qqm {Y : Nat} (hY : Y ≤ 1000000) : Ev (fun k => qfE.f k (Y : Int)) (mk ((10 ^ Y : Nat) : Int) 0) := by
 have b10 := qfV Y
 have l10 := qa9 (x := 10 ^ Y) (k := 130000) (by omega)
 have hpw := qvQ (b := 10) (n := Y) (by omega) (by omega) (K := Y + 1) (by omega) (by omega) (by
  rw [show max 1 10 = 10 from rfl]
  exact Nat.lt_of_lt_of_le (Nat.pow_lt_pow_right (by omega) (Nat.lt_succ_self Y)) (Nat.pow_le_pow_left (by omega) _))
 have hf := qdT false (q7 (10 ^ Y)) (by omega) (e := 0) (by omega) (by omega)
 rw [V_D] at hf
 unfold qfE.f
 refine Ev.bind (hpw) ?_; try dsimp only
 refine Ev.bind (hf) ?_; try dsimp only
 exact Ev.now _
theorem qwe {f m : Int} (h : isF f) (hm : isM m) (s : Bool) {n : Nat} (hn : n ≠ 0) {p : Nat} (hp : p ≤ 1200) (hb : n < 10 ^ p) (x : Int) : Ev (fun k => qbi.f k f m s (D n) x) (qaU f m s n x) := by
 have hx := qqi (m := m) h s hn hb (a := 400) (b := -1700) (by omega) (by omega) x
 rw [← hx]
 have hr : -1700 ≤ (if x > 400 then 400 else if x < -1700 then -1700 else x) ∧ (if x > 400 then 400 else if x < -1700 then -1700 else x) ≤ 400 := by split <;> (try split) <;> omega
 have hbn : bl n ≤ 4801 := by
  have h1 := qcb (Nat.le_of_lt hb)
  have h2 := qfV p
  omega
 have lenn := qa9 (x := n) (k := 200) (by omega)
 have j1 : ∀ y : Int, -1700 ≤ y → y ≤ 400 → Ev (fun k => qbi.j1 k f m s (D n) y) (qaU f m s n y) := by
  intro y h1 h2
  have hf := qdT s (q7 n) (by omega) (e := 0) (by omega) (by omega)
  rw [V_D] at hf
  have z0 : sv s n ≠ 0 := fun h => hn (qbP.1 h)
  refine qc ?_
  simp only [qbi.j1]
  refine Ev.bind (hf) ?_; try dsimp only
  by_cases c : y ≥ 0
  ·refine qa c ?_
   obtain ⟨Y, rfl⟩ := Int.eq_ofNat_of_zero_le c
   have b10 := qfV Y
   refine Ev.bind (qqm (Y := Y) (by omega)) ?_; try dsimp only
   have hmul := quH (za := sv s n) (ea := 0) (zb := sv false (10 ^ Y)) (eb := 0) ⟨by rw [qaf]; omega, by omega, by omega⟩ ⟨by rw [qaf]; omega, by omega, by omega⟩
   rw [qje, Bool.bne_false, Int.add_zero] at hmul
   rw [show sv false (10 ^ Y) = ((10 ^ Y : Nat) : Int) from rfl] at hmul
   refine Ev.bind (hmul) ?_; try dsimp only
   have hne : n * 10 ^ Y ≠ 0 := Nat.mul_ne_zero hn (Nat.ne_of_gt (qgD Y))
   have z2 : sv s (n * 10 ^ Y) ≠ 0 := fun h => hne (qbP.1 h)
   have hro := qlM h hm z2 (e := 0) (by rw [qaf]; have := qlQ n (10 ^ Y); omega) (by omega) (by omega)
   rw [qds hne, qaf] at hro
   have e3 : qP f m s (n * 10 ^ Y) 0 = qaU f m s n (Y : Int) := by
    rw [← qqd h s hne]
    unfold qaU
    have e1 : (Y : Int).toNat = Y := Int.toNat_natCast Y
    have e2 : (-(Y : Int)).toNat = 0 := by omega
    rw [e1, e2]
   rw [e3] at hro
   refine Ev.bind (hro) ?_; try dsimp only
   exact Ev.now _
  ·refine qb c ?_
   obtain ⟨Y, hY⟩ : ∃ Y : Nat, y = -(Y : Int) := ⟨(-y).toNat, by omega⟩
   subst hY
   have b10 := qfV Y
   rw [show wrap64 (-(-(Y : Int))) = (Y : Int) by rw [qeo (by omega) (by omega)]; omega]
   refine Ev.bind (qqm (Y := Y) (by omega)) ?_; try dsimp only
   have hNe : 10 ^ Y ≠ 0 := Nat.ne_of_gt (qgD Y)
   have z1 : sv false (10 ^ Y) ≠ 0 := fun h => hNe (qbP.1 h)
   obtain ⟨j, k1, k2, k3, k4⟩ := qdu z0 0
   obtain ⟨i, i1, i2, i3, i4⟩ := qdu z1 0
   have v1 := qgC (sv s n) 0
   have v2 := qgC (sv false (10 ^ Y)) 0
   have u1 := qb2 (sv s n) 0
   have u2 := qb2 (sv false (10 ^ Y)) 0
   have t1 : (mk (sv s n) 0).2.2 = me (sv s n) 0 := rfl
   have t2 : (mk (sv false (10 ^ Y)) 0).2.2 = me (sv false (10 ^ Y)) 0 := rfl
   rw [qaf] at v1 v2 u1 u2
   have hq := qv6 h hm (qaG (sv s n) 0) (qaG (sv false (10 ^ Y)) 0) k4 i4 (by omega) (by omega) (by omega) (by omega) (by omega) (by omega)
   have hsg : decide (¬ (mk (sv s n) 0).1 = (mk (sv false (10 ^ Y)) 0).1) = s := by
    rw [k3, i3, qds hn, qds hNe]; exact qqk s
   rw [hsg] at hq
   have hpt := qql (m := m) h s (e := 0) (e' := 0) hn hNe
   have e4 : rq f m s n (10 ^ Y) (0 - 0) = qaU f m s n (-(Y : Int)) := by
    unfold qaU
    have e1 : (-(Y : Int)).toNat = 0 := by omega
    have e2 : (-(-(Y : Int))).toNat = Y := by omega
    rw [e1, e2, Nat.pow_zero, Nat.mul_one]; rfl
   rw [e4] at hpt
   rw [show sv false (10 ^ Y) = ((10 ^ Y : Nat) : Int) from rfl] at *
   rw [hpt] at hq
   refine Ev.bind (hq) ?_; try dsimp only
   exact Ev.now _
 unfold qbi.f
 have j0 : ∀ y : Int, y ≤ 400 → Ev (fun k => qbi.j0 k f m s (D n) y) (qaU f m s n (if y < -1700 then -1700 else y)) := by
  intro y hy
  refine qc ?_
  simp only [qbi.j0]
  by_cases c2 : y < -1700
  ·rw [if_pos c2]
   exact qa c2 (j1 _ (by omega) (by omega))
  ·rw [if_neg c2]
   exact qb c2 (j1 _ (by omega) (by omega))
 by_cases c : x > 400
 ·rw [if_pos c]
  refine qa c ?_
  have := j0 400 (by omega)
  rwa [if_neg (by omega)] at this
 ·rw [if_neg c]
  exact qb c (j0 x (by omega))
def bx (l : List UInt8) : ByteArray := ⟨l.toArray⟩
theorem qcH (l : List UInt8) : tl (bx l) = l := rfl
theorem qcI (l : List UInt8) : (bx l).size = l.length := by rw [qdO, qcH]
theorem qc9 {l : List UInt8} : bx l = (⟨#[]⟩ : ByteArray) ↔ l = [] := by rw [← qnQ, qcH]
theorem qhP {s : ByteArray} {A B C : List UInt8} (h : tl s = A ++ (B ++ C)) : s.extract A.length (A.length + B.length) = bx B := by
 apply qeh.1
 rw [qsM, qcH, h, ← List.append_assoc, List.take_append_of_le_length (by simp), List.take_of_length_le (by simp), List.drop_left]
theorem qjB {s : ByteArray} {A B : List UInt8} (h : tl s = A ++ B) : s.extract A.length s.size = bx B := by
 have hz := qaI h
 have := qhP (s := s) (A := A) (B := B) (C := []) (by simpa using h)
 rw [hz]; exact this
def qch (d : List UInt8) (x : Int) (l : List UInt8) : Option (List UInt8 × Int) :=
 if l = [] then some (d, x) else if l.head? = some 101 ∧ qbM l.tail = true then some (d, x + qgq l.tail) else none
def qdY (l : List UInt8) : Option (List UInt8 × Int) :=
 if l.takeWhile isD = [] then none
 else if (l.dropWhile isD).head? = some 46 then
  if (l.dropWhile isD).tail.takeWhile isD = [] then none
  else qch (l.takeWhile isD ++ (l.dropWhile isD).tail.takeWhile isD) (-(((l.dropWhile isD).tail.takeWhile isD).length : Int)) ((l.dropWhile isD).tail.dropWhile isD)
 else qch (l.takeWhile isD) 0 (l.dropWhile isD)
def qhQ (f m : Int) (s : Bool) (n : Nat) (x : Int) : Int × Int × Int := if n = 0 then ((sgn f s : Int), 0, 0) else ((qaU f m s n x).1, (qaU f m s n x).2, 0)
def qwf (f m : Int) (s : Bool) : Option (List UInt8 × Int) → Int × Int × Int
 | some x => qhQ f m s (qs x.1 0) x.2
 | none => (0, 0, 12)
def ql0 (f m : Int) (s : Bool) (l : List UInt8) : Int × Int × Int :=
 if l = [105, 110, 102] then (((mo f * 2 ^ fb f + sgn f s : Nat) : Int), 0, 0) else qwf f m s (qdY l)
def qjC (f m : Int) (l : List UInt8) : Int × Int × Int :=
 if 1200 < l.length then (0, 0, 3) else if l = [110, 97, 110] then ((qhM f : Int), 0, 0) else ql0 f m (qdv l) (qcG l)
theorem qdZ {b : UInt8} : isD b = true ↔ 48 ≤ (b.toNat : Int) ∧ (b.toNat : Int) ≤ 57 := by unfold isD; rw [decide_eq_true_iff]; omega
section
variable {s : ByteArray} (hs : s.size ≤ 1000000)
include hs
theorem qqn (A0 : List UInt8) : ∀ (B C : List UInt8), tl s = A0 ++ (C ++ B) →
  Ev (fun k => qbW.l0 k s ((A0.length + C.length : Nat) : Int) (A0.length : Int)) (bx (C ++ B.takeWhile isD), s, ((A0.length + (C ++ B.takeWhile isD).length : Nat) : Int))
 | [], C, he => by
  have hz := qaI (A := A0 ++ C) (B := []) (by simpa using he)
  simp only [List.length_append, List.length_nil] at hz
  have hx := qhP (s := s) (A := A0) (B := C) (C := []) (by simpa using he)
  refine qc ?_; simp only [qbW.l0]
  refine qb (by omega) (qa (by omega) (qa (by omega) (qa (by omega) ?_)))
  rw [Int.toNat_natCast, Int.toNat_natCast, hx]
  exact qd (Ev.now _) (by simp)
 | b :: B, C, he => by
  have he2 : tl s = (A0 ++ C) ++ b :: B := by rw [he]; simp
  have hz := qaI he2
  simp only [List.length_append, List.length_cons] at hz
  have hb := qcg he2
  rw [List.length_append] at hb
  have hx := qhP (s := s) (A := A0) (B := C) (C := b :: B) he
  have stop : Ev (fun k => (if 0 ≤ ((A0.length : Nat) : Int) then (if ((A0.length : Nat) : Int) ≤ ((A0.length + C.length : Nat) : Int) then (if ((A0.length + C.length : Nat) : Int) ≤ (s.size : Int) then (some (s.extract ((A0.length : Nat) : Int).toNat (((A0.length + C.length : Nat) : Int)).toNat, s, ((A0.length + C.length : Nat) : Int))) else (none)) else (none)) else (none))) (bx C, s, ((A0.length + C.length : Nat) : Int)) := by
   refine qa (by omega) (qa (by omega) (qa (by omega) ?_))
   rw [Int.toNat_natCast, Int.toNat_natCast, hx]
   exact Ev.now _
  refine qc ?_; simp only [qbW.l0]
  rw [hb]
  refine qa (by omega) (qa (by omega) (qa (by omega) ?_))
  by_cases c1 : 48 ≤ (b.toNat : Int)
  ·refine qa c1 (qa (by omega) (qa (by omega) ?_))
   by_cases c2 : (b.toNat : Int) ≤ 57
   ·refine qa c2 ?_
    have e1 : wrap64 (((A0.length + C.length : Nat) : Int) + 1) = ((A0.length + (C ++ [b]).length : Nat) : Int) := by
     rw [List.length_append, List.length_singleton, w64 (by omega) (by omega)]; omega
    rw [e1]
    clear e1
    have := qqn A0 B (C ++ [b]) (by rw [he]; simp)
    rw [List.append_assoc, List.singleton_append] at this
    rw [List.takeWhile_cons, qdZ.2 ⟨c1, c2⟩]
    simpa using this
   ·refine qb c2 ?_
    have : isD b = false := by rw [Bool.eq_false_iff]; intro h; exact c2 (qdZ.1 h).2
    rw [List.takeWhile_cons, this]
    simpa using stop
  ·refine qb c1 ?_
   have : isD b = false := by rw [Bool.eq_false_iff]; intro h; exact c1 (qdZ.1 h).1
   rw [List.takeWhile_cons, this]
   simpa using stop
theorem ql1 {A B : List UInt8} (he : tl s = A ++ B) : Ev (fun k => qbW.f k s (A.length : Int)) (bx (B.takeWhile isD), s, (((A ++ B.takeWhile isD).length : Nat) : Int)) := by
 unfold qbW.f
 have := qqn hs A B [] (by simpa using he)
 simpa using this
theorem qhR {A r : List UInt8} {x : UInt8} (he : tl s = A ++ x :: r) {c : ByteArray} (hc : x ∈ tl c) : Ev (fun k => qaO.f k s (A.length : Int) c) ((x.toNat : Int), true, s, (((A ++ [x]).length : Nat) : Int)) := by
 have hz := qaI he
 simp only [List.length_cons] at hz
 have hb := qcg he
 have hi : qez.f c (x.toNat : Int) = some (Lib.indexByte (tl c) x) := by
  unfold qez.f qdj.f
  have : ((x.toNat : Int)).toNat.toUInt8 = x := by rw [Int.toNat_natCast]; exact UInt8.ofNat_toNat
  rw [this]; rfl
 have h0 : decide (Lib.indexByte (tl c) x ≥ 0) = true := by
  rcases qpT (tl c) x with ⟨_, h2⟩ | ⟨P, Q, _, _, h3⟩
  ·exact absurd hc h2
  ·rw [h3]; exact decide_eq_true (by omega)
 have e1 : wrap64 ((A.length : Int) + 1) = ((A.length + 1 : Nat) : Int) := by rw [w64 (by omega) (by omega)]; omega
 have e2 : wrap64 (((A.length + 1 : Nat) : Int) - 1) = (A.length : Int) := by clear e1; rw [w64 (by omega) (by omega)]; omega
 unfold qaO.f
 rw [hb]
 refine qa (by omega) (qa (by omega) (qa (by omega) (qi hi ?_)))
 rw [h0]
 refine qc ?_; simp only [qaO.j0]
 rw [e1, e2, hb]
 clear e1 e2
 refine qa trivial (qa (by omega) (qa (by omega) (qd (Ev.now _) ?_)))
 rw [List.length_append]; rfl
theorem qhS {A B : List UInt8} (he : tl s = A ++ B) {c : ByteArray} (hc : ∀ x r, B = x :: r → x ∉ tl c) : Ev (fun k => qaO.f k s (A.length : Int) c) (0, false, s, (A.length : Int)) := by
 have hs' := hs
 have hz := qaI he
 have no : Ev (fun k => qaO.j0 k s (A.length : Int) false) (0, false, s, (A.length : Int)) := by
  refine qc ?_; simp only [qaO.j0]
  exact qb (by simp) (Ev.now _)
 unfold qaO.f
 cases B with
 | nil =>
  simp only [List.length_nil] at hz
  exact qb (by omega) no
 | cons x r =>
  simp only [List.length_cons] at hz
  have hb := qcg he
  have hi : qez.f c (x.toNat : Int) = some (Lib.indexByte (tl c) x) := by
   unfold qez.f qdj.f
   have : ((x.toNat : Int)).toNat.toUInt8 = x := by rw [Int.toNat_natCast]; exact UInt8.ofNat_toNat
   rw [this]; rfl
  have h0 : decide (Lib.indexByte (tl c) x ≥ 0) = false := by
   rcases qpT (tl c) x with ⟨h2, _⟩ | ⟨P, Q, h3, _, _⟩
   ·rw [h2]; rfl
   ·exact absurd (by rw [h3]; simp) (hc x r rfl)
  rw [hb]
  refine qa (by omega) (qa (by omega) (qa (by omega) (qi hi ?_)))
  rw [h0]
  exact no
end
theorem qqo : ∀ (l : List UInt8) (a : Nat), l.all isD = true → Lib.decFrom a l = some (qs l a)
 | [], a, _ => rfl
 | b :: l, a, h => by
  simp only [List.all_cons, Bool.and_eq_true] at h
  have hb := qdZ.1 h.1
  unfold Lib.decFrom
  have hd : Lib.digitVal b = some (b.toNat - 48) := by unfold Lib.digitVal; rw [if_pos (by omega)]
  rw [hd]
  show Lib.decFrom (a * 10 + (b.toNat - 48)) l = _
  rw [qqo l _ h.2]
  show _ = some (qs l (10 * a + (b.toNat - 48)))
  rw [Nat.mul_comm]
theorem qwg {l : List UInt8} (h : l.all isD = true) (h0 : l ≠ []) : Lib.atoi l = some ((qs l 0 : Nat) : Int) := by
 cases l with
 | nil => exact absurd rfl h0
 | cons b r =>
  have hb : isD b = true := by simp only [List.all_cons, Bool.and_eq_true] at h; exact h.1
  have hb := qdZ.1 hb
  have n1 : (b == 45) = false := by rw [beq_eq_false_iff_ne]; intro h; rw [h] at hb; exact absurd hb.1 (by decide)
  have n2 : (b == 43) = false := by rw [beq_eq_false_iff_ne]; intro h; rw [h] at hb; exact absurd hb.1 (by decide)
  unfold Lib.atoi
  simp only [n1, n2, Bool.false_eq_true, if_false]
  have : Lib.decNat (b :: r) = some (qs (b :: r) 0) := by
   unfold Lib.decNat
   simp only [List.isEmpty_cons, Bool.false_eq_true, if_false]
   exact qqo _ 0 h
  rw [this]; rfl
theorem qqp (E : List UInt8) : (∃ r, E = 45 :: r ∧ qI E = r ∧ qei E = true) ∨ (∃ r, E = 43 :: r ∧ qI E = r ∧ qei E = false) ∨ ((∀ x r, E = x :: r → x ≠ 45 ∧ x ≠ 43) ∧ qI E = E ∧ qei E = false) := by
 cases E with
 | nil => exact .inr (.inr ⟨by simp, rfl, rfl⟩)
 | cons x r =>
  by_cases c1 : x = 45
  ·subst c1; exact .inl ⟨r, rfl, rfl, rfl⟩
  by_cases c2 : x = 43
  ·subst c2; exact .inr (.inl ⟨r, rfl, rfl, rfl⟩)
  obtain ⟨h1, h2⟩ := qvr (l := x :: r) (by simpa using c1) (by simpa using c2)
  refine .inr (.inr ⟨?_, h2, h1⟩)
  intro y t h
  rw [← (List.cons.inj h).1]
  exact ⟨c1, c2⟩
theorem qqq {l : List UInt8} {p : UInt8 → Bool} (h : l.dropWhile p = []) : l.all p = true ∧ l.takeWhile p = l := by
 have h1 := qdP p l
 rw [h, List.append_nil] at h1
 have h2 := qeX p l
 rw [h1] at h2
 exact ⟨h2, h1⟩
theorem qjD {l : List UInt8} {p : UInt8 → Bool} (h : l.all p = true) : l.dropWhile p = [] ∧ l.takeWhile p = l := by
 induction l with
 | nil => exact ⟨rfl, rfl⟩
 | cons a l ih =>
  simp only [List.all_cons, Bool.and_eq_true] at h
  obtain ⟨h1, h2⟩ := ih h.2
  simp [h.1, h1, h2]
def ql2 (s : ByteArray) (o : Option (List UInt8 × Int)) (r : ByteArray × Int × Bool × ByteArray × Int) : Prop :=
 match o with
 | some (d, x) => r.1 = bx d ∧ r.2.1 = x ∧ r.2.2.1 = true
 | none => r.2.2.1 = false
theorem qqr {s : ByteArray} (hs : s.size ≤ 1000000) {A B d : List UInt8} (he : tl s = A ++ B) {x : Int} (hx : -1000000 ≤ x ∧ x ≤ 1000000) :
  ∃ r, Ev (fun k => qaj.j2 k s (A.length : Int) (bx d) x) r ∧ ql2 s (qch d x B) r := by
 have hz := qaI he
 have last : ∀ (a : Int) (y : Int), Ev (fun k => qaj.j6 k s a (bx d) y) (bx d, y, decide (a = (s.size : Int)), s, a) := by
  intro a y
  refine qc ?_; simp only [qaj.j6]
  exact Ev.now _
 by_cases c0 : B.head? = some 101
 ·obtain ⟨E, hB⟩ : ∃ E, B = 101 :: E := by
   cases B with
   | nil => simp at c0
   | cons y E => simp at c0; exact ⟨E, by rw [c0]⟩
  subst hB
  have he2 : tl s = (A ++ [101]) ++ E := by rw [he]; simp
  have ht := qhR hs he (c := (⟨#[101]⟩ : ByteArray)) (by simp [tl])
  have hT : qch d x (101 :: E) = if qbM E = true then some (d, x + qgq E) else none := by
   unfold qch
   rw [if_neg (by simp)]
   simp
  rw [hT]
  obtain ⟨A2, b, ok, hA2, hsg, hbn⟩ : ∃ (A2 : List UInt8) (b : Int) (ok : Bool), tl s = A2 ++ qI E ∧ Ev (fun k => qaO.f k s (((A ++ [101]).length : Nat) : Int) (⟨#[43, 45]⟩ : ByteArray)) (b, ok, s, (A2.length : Int)) ∧ (b = 45 ↔ qei E = true) := by
   rcases qqp E with ⟨r, h1, h2, h3⟩ | ⟨r, h1, h2, h3⟩ | ⟨h1, h2, h3⟩
   ·subst h1
    refine ⟨A ++ [101] ++ [45], 45, true, by rw [he2, h2]; simp, ?_, by simp [h3]⟩
    exact qhR hs he2 (c := (⟨#[43, 45]⟩ : ByteArray)) (by simp [tl])
   ·subst h1
    refine ⟨A ++ [101] ++ [43], 43, true, by rw [he2, h2]; simp, ?_, by simp [h3]⟩
    exact qhR hs he2 (c := (⟨#[43, 45]⟩ : ByteArray)) (by simp [tl])
   ·refine ⟨A ++ [101], 0, false, by rw [he2, h2], ?_, by simp [h3]⟩
    refine qhS hs he2 (c := (⟨#[43, 45]⟩ : ByteArray)) ?_
    intro y t h
    have := h1 y t h
    simp [tl, this.1, this.2]
  have hd := ql1 hs hA2
  have htw := qdP isD (qI E)
  have hz2 := qaI (s := s) (A := A2 ++ (qI E).takeWhile isD) (B := (qI E).dropWhile isD) (by rw [hA2, List.append_assoc, htw])
  by_cases k1 : (qI E).takeWhile isD = []
  ·have hno : qbM E = false := by
    unfold qbM
    by_cases c : qI E = []
    ·simp [c]
    ·cases hE : qI E with
     | nil => exact absurd hE c
     | cons y t =>
      rw [hE] at k1
      have : isD y = false := by
       by_cases hy : isD y = true
       ·rw [List.takeWhile_cons, hy] at k1; simp at k1
       ·simpa using hy
      simp [this]
   rw [if_neg (by rw [hno]; simp)]
   refine ⟨((⟨#[]⟩ : ByteArray), 0, false, s, (((A2 ++ (qI E).takeWhile isD).length : Nat) : Int)), ?_, rfl⟩
   refine qc ?_; simp only [qaj.j2]
   refine Ev.bind (ht) ?_; try dsimp only
   refine qa rfl ?_
   refine Ev.bind (hsg) ?_; try dsimp only
   refine Ev.bind (hd) ?_; try dsimp only
   exact qa (qc9.2 k1) (Ev.now _)
  by_cases k2 : 6 < ((qI E).takeWhile isD).length
  ·have hno : qbM E = false := by
    unfold qbM
    have h1 := congrArg List.length htw
    rw [List.length_append] at h1
    have : decide ((qI E).length ≤ 6) = false := decide_eq_false (by omega)
    rw [this]; simp
   rw [if_neg (by rw [hno]; simp)]
   refine ⟨((⟨#[]⟩ : ByteArray), 0, false, s, (((A2 ++ (qI E).takeWhile isD).length : Nat) : Int)), ?_, rfl⟩
   refine qc ?_; simp only [qaj.j2]
   refine Ev.bind (ht) ?_; try dsimp only
   refine qa rfl ?_
   refine Ev.bind (hsg) ?_; try dsimp only
   refine Ev.bind (hd) ?_; try dsimp only
   refine qb (fun h => k1 (qc9.1 h)) (qa ?_ (Ev.now _))
   rw [qcI]; omega
  ·have hat := qwg (qeX isD (qI E)) k1
   have hv := qjt (qeX isD (qI E)) (by omega)
   have hsc : qcu.f (bx ((qI E).takeWhile isD)) = some ((qs ((qI E).takeWhile isD) 0 : Nat) : Int) := by
    unfold qcu.f
    rw [if_pos (by rw [qcI]; omega)]
    exact hat
   have main : ∃ y : Int, Ev (fun k => qaj.j2 k s (A.length : Int) (bx d) x) (bx d, y, decide ((((A2 ++ (qI E).takeWhile isD).length : Nat) : Int) = (s.size : Int)), s, (((A2 ++ (qI E).takeWhile isD).length : Nat) : Int)) ∧ (qbM E = true → y = x + qgq E) := by
    refine ⟨x + (if qei E = true then -((qs ((qI E).takeWhile isD) 0 : Nat) : Int) else ((qs ((qI E).takeWhile isD) 0 : Nat) : Int)), ?_, ?_⟩
    ·refine qc ?_; simp only [qaj.j2]
     refine Ev.bind (ht) ?_; try dsimp only
     refine qa rfl ?_
     refine Ev.bind (hsg) ?_; try dsimp only
     refine Ev.bind (hd) ?_; try dsimp only
     refine qb (fun h => k1 (qc9.1 h)) (qb (by rw [qcI]; omega) ?_)
     refine qi (hsc) ?_; try dsimp only
     by_cases c : b = 45
     ·rw [if_pos (hbn.1 c)]
      refine qa c ?_
      have w : wrap64 (x + wrap64 (-((qs ((qI E).takeWhile isD) 0 : Nat) : Int))) = x + -((qs ((qI E).takeWhile isD) 0 : Nat) : Int) := by
       rw [qeo (by omega) (by omega), qcd (by omega) (by omega) (by omega) (by omega)]
      rw [w]
      exact last _ _
     ·rw [if_neg (fun h => c (hbn.2 h))]
      refine qb c ?_
      rw [qcd (by omega) (by omega) (by omega) (by omega)]
      exact last _ _
    ·intro hok
     unfold qbM at hok
     simp only [Bool.and_eq_true, decide_eq_true_eq] at hok
     rw [(qjD hok.2).2]
     rfl
   obtain ⟨y, hy, hyv⟩ := main
   refine ⟨_, hy, ?_⟩
   by_cases hok : qbM E = true
   ·rw [if_pos hok]
    refine ⟨rfl, hyv hok, ?_⟩
    unfold qbM at hok
    simp only [Bool.and_eq_true, decide_eq_true_eq] at hok
    rw [(qjD hok.2).1, List.length_nil] at hz2
    exact decide_eq_true (by omega)
   ·rw [if_neg hok]
    refine decide_eq_false ?_
    intro h
    have h3 : (qI E).dropWhile isD = [] := List.eq_nil_of_length_eq_zero (by omega)
    obtain ⟨h4, h5⟩ := qqq h3
    refine hok ?_
    unfold qbM
    rw [h5] at k1 k2
    rw [h4, decide_eq_true (show qI E ≠ [] from k1), decide_eq_true (show (qI E).length ≤ 6 by omega)]; rfl
 ·have ht := qhS hs he (c := (⟨#[101]⟩ : ByteArray)) (by intro y t h; rw [h] at c0; simpa [tl] using c0)
  refine ⟨(bx d, x, decide ((A.length : Int) = (s.size : Int)), s, (A.length : Int)), ?_, ?_⟩
  ·refine qc ?_; simp only [qaj.j2]
   refine Ev.bind (ht) ?_; try dsimp only
   exact qb (by simp) (last _ _)
  ·unfold qch
   by_cases c1 : B = []
   ·rw [if_pos c1]
    subst c1
    exact ⟨rfl, rfl, decide_eq_true (by rw [List.length_nil] at hz; omega)⟩
   ·rw [if_neg c1, if_neg (fun h => c0 h.1)]
    have : 0 < B.length := by cases B with | nil => exact absurd rfl c1 | cons _ _ => simp
    exact decide_eq_false (by omega)
theorem qwh {s : ByteArray} (hs : s.size ≤ 1000000) {A B : List UInt8} (he : tl s = A ++ B) :
  ∃ r, Ev (fun k => qaj.f k s (A.length : Int)) r ∧ ql2 s (qdY B) r := by
 have hz := qaI he
 have hd := ql1 hs he
 have htw := qdP isD B
 unfold qdY
 by_cases c0 : B.takeWhile isD = []
 ·rw [if_pos c0]
  refine ⟨((⟨#[]⟩ : ByteArray), 0, false, s, (((A ++ B.takeWhile isD).length : Nat) : Int)), ?_, rfl⟩
  unfold qaj.f
  refine Ev.bind (hd) ?_; try dsimp only
  exact qa (qc9.2 c0) (Ev.now _)
 rw [if_neg c0]
 have he2 : tl s = (A ++ B.takeWhile isD) ++ B.dropWhile isD := by rw [he, List.append_assoc, htw]
 have hz2 := qaI he2
 by_cases c1 : (B.dropWhile isD).head? = some 46
 ·rw [if_pos c1]
  obtain ⟨r, hr⟩ : ∃ r, B.dropWhile isD = 46 :: r := by
   cases hB : B.dropWhile isD with
   | nil => rw [hB] at c1; simp at c1
   | cons y E => rw [hB] at c1; simp at c1; exact ⟨E, by rw [c1]⟩
  rw [hr] at he2 ⊢
  have ht := qhR hs he2 (c := (⟨#[46]⟩ : ByteArray)) (by simp [tl])
  have he3 : tl s = (A ++ B.takeWhile isD ++ [46]) ++ r := by rw [he2]; simp
  have hz3 := qaI he3
  have hd2 := ql1 hs he3
  have htw2 := qdP isD r
  have hl2 := congrArg List.length htw2
  rw [List.length_append] at hl2
  simp only [List.length_append, List.length_singleton] at hz3
  show ∃ r_1, _ ∧ ql2 s (if r.takeWhile isD = [] then none else qch (B.takeWhile isD ++ r.takeWhile isD) (-((r.takeWhile isD).length : Int)) (r.dropWhile isD)) r_1
  by_cases c2 : r.takeWhile isD = []
  ·rw [if_pos c2]
   refine ⟨((⟨#[]⟩ : ByteArray), 0, false, s, (((A ++ B.takeWhile isD ++ [46] ++ r.takeWhile isD).length : Nat) : Int)), ?_, rfl⟩
   unfold qaj.f
   refine Ev.bind (hd) ?_; try dsimp only
   refine qb (fun h => c0 (qc9.1 h)) ?_
   refine Ev.bind (ht) ?_; try dsimp only
   refine qa rfl ?_
   refine Ev.bind (hd2) ?_; try dsimp only
   exact qa (qc9.2 c2) (Ev.now _)
  rw [if_neg c2]
  have he4 : tl s = (A ++ B.takeWhile isD ++ [46] ++ r.takeWhile isD) ++ r.dropWhile isD := by rw [he3]; simp [htw2]
  obtain ⟨q, hq, hok⟩ := qqr hs he4 (d := B.takeWhile isD ++ r.takeWhile isD) (x := -((r.takeWhile isD).length : Int)) (by omega)
  refine ⟨q, ?_, hok⟩
  unfold qaj.f
  refine Ev.bind (hd) ?_; try dsimp only
  refine qb (fun h => c0 (qc9.1 h)) ?_
  refine Ev.bind (ht) ?_; try dsimp only
  refine qa rfl ?_
  refine Ev.bind (hd2) ?_; try dsimp only
  refine qb (fun h => c2 (qc9.1 h)) (qa (by rw [qcI, qcI]; omega) ?_)
  have e1 : bx (B.takeWhile isD) ++ bx (r.takeWhile isD) = bx (B.takeWhile isD ++ r.takeWhile isD) := qeh.1 (by rw [qnP, qcH, qcH, qcH])
  rw [e1, qcI, qeo (by omega) (by omega)]
  exact hq
 ·rw [if_neg c1]
  have ht := qhS hs he2 (c := (⟨#[46]⟩ : ByteArray)) (by intro y t h; rw [h] at c1; simpa [tl] using c1)
  obtain ⟨q, hq, hok⟩ := qqr hs he2 (d := B.takeWhile isD) (x := 0) (by omega)
  refine ⟨q, ?_, hok⟩
  unfold qaj.f
  refine Ev.bind (hd) ?_; try dsimp only
  refine qb (fun h => c0 (qc9.1 h)) ?_
  refine Ev.bind (ht) ?_; try dsimp only
  exact qb (by simp) hq
theorem qgE (l : List UInt8) : qe (bx l) = l.map fun b => (b.toNat : Int) := rfl
theorem qqs : ∀ (l : List UInt8) (a : Nat), pvA a (l.map fun b => (b.toNat : Int)) = qs l a
 | [], a => rfl
 | b :: l, a => by
  have e : ((b.toNat : Int) - 48).toNat = b.toNat - 48 := by omega
  rw [List.map_cons, pvA, e, qqs l]
  rfl
theorem qjE (l : List UInt8) : pv (qe (bx l)) = qs l 0 := qqs l 0
theorem qhT {l : List UInt8} (h : l.all isD = true) : qbC (qe (bx l)) := by
 intro x hx
 rw [qgE, List.mem_map] at hx
 obtain ⟨b, hb, rfl⟩ := hx
 exact qdZ.1 (List.all_eq_true.1 h b hb)
theorem qjF {l : List UInt8} (h : l.all isD = true) : qs l 0 < 10 ^ l.length := by
 have := qlS (qhT h)
 rw [qjE, qgE, List.length_map] at this
 exact this
def tz0 (l : List UInt8) : List UInt8 := l.dropWhile (· == 48)
theorem ql3 (l : List UInt8) : qs (tz0 l) 0 = qs l 0 := by
 induction l with
 | nil => rfl
 | cons b l ih =>
  unfold tz0 at *
  by_cases c : b = 48
  ·subst c; rw [List.dropWhile_cons]; simp only [beq_self_eq_true, if_true]; rw [ih]; rfl
  ·rw [List.dropWhile_cons, if_neg (by simpa using c)]
theorem qqt {l : List UInt8} (h : l.all isD = true) : (tz0 l).all isD = true := by
 induction l with
 | nil => rfl
 | cons b l ih =>
  have h' := h
  simp only [List.all_cons, Bool.and_eq_true] at h
  unfold tz0 at *
  by_cases c : b = 48
  ·subst c; rw [List.dropWhile_cons]; simpa using ih h.2
  ·rw [List.dropWhile_cons, if_neg (by simpa using c)]; exact h'
theorem qwi (l : List UInt8) : (tz0 l).length ≤ l.length := by
 have h := congrArg List.length (qdP (· == 48) l)
 rw [List.length_append] at h
 unfold tz0; omega
theorem qqu {l : List UInt8} {b : UInt8} {r : List UInt8} (h : tz0 l = b :: r) : b ≠ 48 := by
 have := qsN _ l h
 simpa using this
theorem qwj {l : List UInt8} {b : UInt8} {r : List UInt8} (h : l.all isD = true) (e : tz0 l = b :: r) : isT (qe (bx (b :: r))) = true := by
 have h1 := qqt h
 rw [e] at h1
 have h2 := qqu e
 have hd : decide (qbC (qe (bx (b :: r)))) = true := decide_eq_true (qhT h1)
 unfold isT
 rw [hd, qgE]
 have h3 : (b.toNat : Int) ≠ 48 := fun c => h2 (UInt8.toNat_inj.1 (by show _ = 48; omega))
 cases r with
 | nil => rfl
 | cons c t => simp [h3]
theorem ql4 {l : List UInt8} (h : l.all isD = true) : tz0 l = [] ↔ qs l 0 = 0 := by
 constructor
 ·intro e; rw [← ql3, e]; rfl
 ·intro e
  cases ht : tz0 l with
  | nil => rfl
  | cons b r =>
   have h1 := qqt h
   have h2 := qqu ht
   have h3 := ql3 l
   rw [ht] at h1 h3
   have h4 := qp2 (l := qe (bx (b :: r))) (qhT h1) (by
    rw [qgE]; show ((b.toNat : Int)) ≠ 48
    exact fun c => h2 (UInt8.toNat_inj.1 (by show _ = 48; omega))) (by rw [qgE]; simp)
   rw [qjE] at h4
   have := qgD ((qe (bx (b :: r))).length - 1)
   omega
theorem qwk {l : List UInt8} (h : l.all isD = true) (hl : l.length ≤ 1200) (h0 : qs l 0 ≠ 0) : qdw (qe (bx (tz0 l))) = (D (qs l 0), 0) := by
 cases ht : tz0 l with
 | nil => exact absurd ((ql4 h).1 ht) h0
 | cons b r =>
  have h3 := ql3 l
  rw [ht] at h3
  unfold qdw
  rw [if_pos (qwj h ht), qjE, h3, qhK]
  have h5 := qcb (Nat.le_of_lt (qjF h))
  have h6 := qfV l.length
  omega
theorem qqv : ∀ (l : List UInt8), l.length ≤ 1000000 → Ev (fun k => qcS.l0 k (bx l) 48) (bx (tz0 l))
 | [], _ => by
  refine qc ?_; simp only [qcS.l0]
  exact qb (by decide) (Ev.now _)
 | b :: l, hl => by
  have hz := qcI (b :: l)
  simp only [List.length_cons] at hz hl
  have hb := qcg (s := bx (b :: l)) (A := []) (B := l) (b := b) (by rw [qcH]; rfl)
  rw [List.length_nil, show ((0 : Nat) : Int) = 0 from rfl] at hb
  refine qc ?_; simp only [qcS.l0]
  rw [hb]
  refine qa (by omega) (qa (by omega) ?_)
  by_cases c : b = 48
  ·subst c
   refine qa rfl (qa (by decide) (qa (by omega) ?_))
   have hx := qjB (s := bx (48 :: l)) (A := [48]) (B := l) (by rw [qcH]; rfl)
   have e1 : (1 : Int).toNat = ([48] : List UInt8).length := rfl
   rw [e1, hx]
   have ih := qqv l (by omega)
   have e2 : tz0 (48 :: l) = tz0 l := by unfold tz0; rw [List.dropWhile_cons]; simp
   rw [e2]
   exact ih
  ·refine qb (fun h => c (UInt8.toNat_inj.1 (by show _ = 48; omega))) ?_
   have e2 : tz0 (b :: l) = b :: l := by unfold tz0; rw [List.dropWhile_cons, if_neg (by simpa using c)]
   rw [e2]
   exact Ev.now _
theorem qwl {l : List UInt8} (hl : l.length ≤ 1000000) : Ev (fun k => qdk.f k (bx l) (⟨#[48]⟩ : ByteArray)) (bx (tz0 l)) := by
 unfold qdk.f
 by_cases c : l = []
 ·subst c
  exact qa rfl (Ev.now _)
 ·refine qb (fun h => c (qc9.1 h)) (qb (by decide) (qa (by decide) (qa (by decide) ?_)))
  have e : decide (bt (⟨#[48]⟩ : ByteArray) 0 < 128) = true := by decide
  have e2 : bt (⟨#[48]⟩ : ByteArray) 0 = 48 := by decide
  rw [e]
  refine qc ?_; simp only [qdk.j2]
  rw [e2]
  refine qa trivial (qa (by decide) ?_)
  unfold qcS.f
  exact Ev.bind (qqv l hl) (Ev.now _)
theorem qwm {E : List UInt8} (h : qbM E = true) : -1000000 < qgq E ∧ qgq E < 1000000 := by
 unfold qbM at h
 simp only [Bool.and_eq_true, decide_eq_true_eq] at h
 have := qjt h.2 h.1.2
 unfold qgq
 split <;> omega
theorem qqw {d : List UInt8} {x : Int} {l : List UInt8} {y : List UInt8 × Int} (h : qch d x l = some y) : y.1 = d ∧ x - 1000000 < y.2 ∧ y.2 < x + 1000000 := by
 unfold qch at h
 split at h
 ·cases h; exact ⟨rfl, by omega, by omega⟩
 ·split at h
  ·rename_i h2
   cases h
   have := qwm h2.2
   exact ⟨rfl, by omega, by omega⟩
  ·cases h
theorem qqx {l : List UInt8} {y : List UInt8 × Int} (h : qdY l = some y) : y.1.all isD = true ∧ y.1 ≠ [] ∧ y.1.length ≤ l.length ∧ -(l.length : Int) - 1000000 < y.2 ∧ y.2 < 1000000 := by
 have h1 := congrArg List.length (qdP isD l)
 rw [List.length_append] at h1
 unfold qdY at h
 split at h
 ·cases h
 rename_i c0
 split at h
 ·rename_i c1
  obtain ⟨r, hr⟩ : ∃ r, l.dropWhile isD = 46 :: r := by
   cases hB : l.dropWhile isD with
   | nil => rw [hB] at c1; simp at c1
   | cons y E => rw [hB] at c1; simp at c1; exact ⟨E, by rw [c1]⟩
  rw [hr] at h h1
  rw [List.tail_cons] at h
  simp only [List.length_cons] at h1
  have h2 := congrArg List.length (qdP isD r)
  rw [List.length_append] at h2
  split at h
  ·cases h
  obtain ⟨h3, h4, h5⟩ := qqw h
  rw [h3]
  refine ⟨by rw [List.all_append, qeX, qeX]; rfl, fun h => c0 (List.append_eq_nil_iff.1 h).1, ?_, by omega, by omega⟩
  rw [List.length_append]; omega
 ·obtain ⟨h3, h4, h5⟩ := qqw h
  rw [h3]
  exact ⟨qeX _ _, c0, by omega, by omega, by omega⟩
theorem qwn {f m : Int} (h : isF f) (hm : isM m) (s : ByteArray) : Ev (fun k => qdm.f k f m s) (qjC f m (tl s)) := by
 unfold qdm.f qjC
 refine Ev.bind (qpO h hm false) (qb (by simp) ?_)
 by_cases c0 : 1200 < (tl s).length
 ·rw [if_pos c0]
  exact qa (by rw [qdO]; omega) (Ev.now _)
 rw [if_neg c0]
 refine qb (by rw [qdO]; omega) ?_
 by_cases c1 : s = (⟨#[110, 97, 110]⟩ : ByteArray)
 ·rw [if_pos (by rw [c1]; rfl)]
  exact qa c1 (Ev.bind (quv h) (Ev.now _))
 rw [if_neg (fun h => c1 (qeh.1 (by rw [h]; rfl)))]
 refine qb c1 ?_
 have hs : s.size ≤ 1200 := by rw [qdO]; omega
 obtain ⟨A, b, hA, ht⟩ : ∃ (A : List UInt8) (b : Int), tl s = A ++ qcG (tl s) ∧ Ev (fun k => qaO.f k s 0 (⟨#[45]⟩ : ByteArray)) (b, qdv (tl s), s, (A.length : Int)) := by
  cases hl : tl s with
  | nil =>
   refine ⟨[], 0, rfl, ?_⟩
   exact qhS (A := []) (B := []) (by omega) (by rw [hl]; rfl) (by simp)
  | cons x r =>
   by_cases c2 : x = 45
   ·subst c2
    refine ⟨[45], 45, rfl, ?_⟩
    exact qhR (A := []) (r := r) (x := 45) (by omega) (by rw [hl]; rfl) (by simp [tl])
   ·have n1 : qdv (x :: r) = false := by
     unfold qdv; split
     ·rename_i h; exact absurd (List.cons.inj h).1 c2
     ·rfl
    have n2 : qcG (x :: r) = x :: r := by
     unfold qcG; split
     ·rename_i h; exact absurd (List.cons.inj h).1 c2
     ·rfl
    rw [n1, n2]
    refine ⟨[], 0, rfl, ?_⟩
    exact qhS (A := []) (B := x :: r) (by omega) (by rw [hl]; rfl) (by intro y t h; rw [← (List.cons.inj h).1]; simpa [tl] using c2)
 refine Ev.bind (ht) ?_; try dsimp only
 have hz := qaI hA
 refine qa (by omega) (qa (by omega) ?_)
 rw [Int.toNat_natCast, qjB hA]
 unfold ql0
 by_cases c2 : qcG (tl s) = [105, 110, 102]
 ·rw [if_pos c2]
  exact qa (by rw [c2]; rfl) (Ev.bind (qph h _) (Ev.now _))
 rw [if_neg c2]
 refine qb (fun h => c2 (qeh.2 h)) ?_
 obtain ⟨q, hq, hok⟩ := qwh (by omega) hA
 refine Ev.bind (hq) ?_; try dsimp only
 cases ho : qdY (qcG (tl s)) with
 | none =>
  rw [ho] at hok
  have hok : q.2.2.1 = false := hok
  rw [hok]
  exact qa rfl (Ev.now _)
 | some y =>
  rw [ho] at hok
  obtain ⟨k1, k2, k3⟩ : q.1 = bx y.1 ∧ q.2.1 = y.2 ∧ q.2.2.1 = true := hok
  obtain ⟨b1, b2, b3, b4, b5⟩ := qqx ho
  rw [k1, k2, k3]
  refine qb (by simp) ?_
  have hl : y.1.length ≤ 1200 := by omega
  refine Ev.bind (qwl (l := y.1) (by omega)) ?_; try dsimp only
  show Ev _ (qhQ f m (qdv (tl s)) (qs y.1 0) y.2)
  unfold qhQ
  by_cases c3 : qs y.1 0 = 0
  ·rw [if_pos c3]
   refine qa (qc9.2 ((ql4 b1).2 c3)) ?_
   refine Ev.bind (qpg h _) ?_; try dsimp only
   exact Ev.now _
  ·rw [if_neg c3]
   refine qb (fun h => c3 ((ql4 b1).1 (qc9.1 h))) ?_
   have hp := qvB (s := bx (tz0 y.1)) (by rw [qcI]; have := qwi y.1; omega)
   rw [qwk b1 hl c3] at hp
   refine Ev.bind (hp) ?_; try dsimp only
   have hr := qwd h hm (qdv (tl s)) c3 (p := y.1.length) hl (qjF b1) y.2
   refine Ev.bind (hr) ?_; try dsimp only
   exact Ev.now _
theorem qwo {f m : Int} (h : fmE f m ≠ 0) (s : ByteArray) : Ev (fun k => qdm.f k f m s) (0, 0, fmE f m) := by
 unfold qdm.f
 exact Ev.bind (qvb h false) (qa h (Ev.now _))
theorem ql5 (A : List UInt8) (x : UInt8) : (A ++ [x]).length = A.length + 1 := by simp
theorem qqy {s : ByteArray} (hs : s.size ≤ 100000) (at0 : Nat) : ∀ (B A : List UInt8) (n : Nat), tl s = A ++ B → A.length = at0 + n →
  Ev (fun k => qb8.l0 k s (at0 : Int) (n : Int)) ((n + (B.takeWhile isD).length : Nat) : Int)
 | [], A, n, he, hA => by
  have hz := qaI he
  simp only [List.length_nil] at hz
  refine qc ?_; simp only [qb8.l0]
  rw [w64 (n := (at0 : Int) + (n : Int)) (by omega) (by omega)]
  exact qb (by omega) (qd (Ev.now _) (by simp))
 | b :: B, A, n, he, hA => by
  have hz := qaI he
  simp only [List.length_cons] at hz
  have hb := qcg he
  refine qc ?_; simp only [qb8.l0]
  have e1 : wrap64 ((at0 : Int) + (n : Int)) = (A.length : Int) := by rw [w64 (by omega) (by omega)]; omega
  rw [e1, hb]
  clear e1
  refine qa (by omega) (qa (by omega) (qa (by omega) ?_))
  by_cases c1 : 48 ≤ (b.toNat : Int)
  ·refine qa c1 (qa (by omega) (qa (by omega) ?_))
   by_cases c2 : (b.toNat : Int) ≤ 57
   ·refine qa c2 ?_
    have e2 : wrap64 ((n : Int) + 1) = ((n + 1 : Nat) : Int) := by rw [w64 (by omega) (by omega)]; omega
    rw [e2]
    clear e2
    refine qd (qqy hs at0 B (A ++ [b]) (n + 1) (by rw [he]; simp) (by simp; omega)) ?_
    rw [List.takeWhile_cons, qdZ.2 ⟨c1, c2⟩]
    simp only [if_true, List.length_cons]
    omega
   ·have : isD b = false := by rw [Bool.eq_false_iff]; intro h; exact c2 (qdZ.1 h).2
    rw [List.takeWhile_cons, this]
    exact qb c2 (qd (Ev.now _) (by simp))
  ·have : isD b = false := by rw [Bool.eq_false_iff]; intro h; exact c1 (qdZ.1 h).1
   rw [List.takeWhile_cons, this]
   exact qb (by omega) (qd (Ev.now _) (by simp))
theorem ql6 {s : ByteArray} (hs : s.size ≤ 100000) {A B : List UInt8} (he : tl s = A ++ B) : Ev (fun k => qb8.f k s (A.length : Int)) ((B.takeWhile isD).length : Int) := by
 have := qqy hs A.length B A 0 he rfl
 rw [Nat.zero_add] at this
 exact this
theorem qqz {l : List UInt8} (h : isT (qe (bx l)) = true) (hd : l.all isD = true) (hl : l.length ≤ 20000) : qdw (qe (bx l)) = (D (qs l 0), 0) := by
 unfold qdw
 rw [if_pos h, qjE, qhK]
 have h5 := qcb (Nat.le_of_lt (qjF hd))
 have h6 := qfV l.length
 omega
theorem qqA : ∀ (l : List UInt8), l.all isD = true → l ≠ [] → l.length ≤ 20000 → Ev (fun k => qcX.l0 k (bx l)) (D (qs l 0))
 | [], _, h0, _ => absurd rfl h0
 | [b], hd, _, _ => by
  have hp := qp4 (bx [b]) (by rw [qcI]; simp)
  rw [qqz (by
   have hdg : decide (qbC (qe (bx [b]))) = true := decide_eq_true (qhT hd)
   unfold isT; rw [hdg]; rfl) hd (by simp)] at hp
  refine qc ?_; simp only [qcX.l0]
  refine qb (by rw [qcI]; simp) ?_
  refine Ev.bind (hp) ?_; try dsimp only
  exact Ev.now _
 | b :: c :: l, hd, _, hl => by
  have hz := qcI (b :: c :: l)
  simp only [List.length_cons] at hz hl
  have hb := qcg (s := bx (b :: c :: l)) (A := []) (B := c :: l) (b := b) (by rw [qcH]; rfl)
  rw [List.length_nil, show ((0 : Nat) : Int) = 0 from rfl] at hb
  refine qc ?_; simp only [qcX.l0]
  rw [hb]
  refine qa (by omega) (qa (by omega) ?_)
  by_cases c0 : b = 48
  ·subst c0
   refine qa rfl (qa (by decide) (qa (by omega) ?_))
   have hx := qjB (s := bx (48 :: c :: l)) (A := [48]) (B := c :: l) (by rw [qcH]; rfl)
   have e1 : (1 : Int).toNat = ([48] : List UInt8).length := rfl
   rw [e1, hx]
   have hd' : (c :: l).all isD = true := by rw [List.all_cons, Bool.and_eq_true] at hd; exact hd.2
   have ih := qqA (c :: l) hd' (by simp) (by simp only [List.length_cons]; omega)
   exact ih
  ·have hb3 : (b.toNat : Int) ≠ 48 := fun h => c0 (UInt8.toNat_inj.1 (by show _ = 48; omega))
   refine qb hb3 ?_
   have hp := qp4 (bx (b :: c :: l)) (by rw [hz]; omega)
   rw [qqz (by
    have hdg : decide (qbC (qe (bx (b :: c :: l)))) = true := decide_eq_true (qhT hd)
    unfold isT; rw [hdg, qgE]; simp [hb3]) hd (by simp only [List.length_cons]; omega)] at hp
   refine Ev.bind (hp) ?_; try dsimp only
   exact Ev.now _
theorem qwp {l : List UInt8} (hd : l.all isD = true) (h0 : l ≠ []) (hl : l.length ≤ 20000) : Ev (fun k => qcX.f k (bx l)) (D (qs l 0)) := qqA l hd h0 hl
section
variable {s : ByteArray} (hs : s.size ≤ 1200) (a : Bool) (b : ByteArray) (c : List Int) (d : Int)
include hs
theorem qqB (g : Bool) (nm : ByteArray) (mg : List Int) {ex : Int} (hx : -10000 ≤ ex ∧ ex ≤ 10000) (low : Bool) : ∀ (B A C : List UInt8), tl s = A ++ B → C.all isD = true → C.length + B.length ≤ 6 → B.all isD = true →
  Ev (fun k => qx.l0 k s a b c d g nm mg ex low ((qs C 0 : Nat) : Int) (A.length : Int)) (g, nm, mg, ex + (if low = true then -((qs (C ++ B) 0 : Nat) : Int) else ((qs (C ++ B) 0 : Nat) : Int)), true)
 | [], A, C, he, hC, hl, hB => by
  have hz := qaI he
  simp only [List.length_nil] at hz hl
  have hv := qjt hC (by omega)
  have j15 : ∀ y : Int, -1000000 ≤ y → y ≤ 1000000 → Ev (fun k => qx.j15 k a b c d g nm mg ex y) (g, nm, mg, ex + y, true) := by
   intro y h1 h2
   refine qc ?_; simp only [qx.j15]
   rw [qcd (by omega) (by omega) (by omega) (by omega)]
   exact Ev.now _
  refine qc ?_; simp only [qx.l0]
  refine qb (by omega) ?_
  rw [List.append_nil]
  cases low
  ·exact qb (by simp) (j15 _ (by omega) (by omega))
  ·refine qa rfl ?_
   rw [qeo (by omega) (by omega)]
   exact j15 _ (by omega) (by omega)
 | x :: B, A, C, he, hC, hl, hB => by
  have hz := qaI he
  simp only [List.length_cons] at hz hl
  have hb := qcg he
  have hv := qjt hC (by omega)
  rw [List.all_cons, Bool.and_eq_true] at hB
  have hxd := qdZ.1 hB.1
  refine qc ?_; simp only [qx.l0]
  rw [hb]
  refine qa (by omega) (qa (by omega) (qa (by omega) ?_))
  have e1 : wrap64 ((A.length : Int) + 1) = ((A ++ [x]).length : Int) := by rw [List.length_append, List.length_singleton, w64 (by omega) (by omega)]; omega
  have e2 : wrap64 (wrap64 (10 * ((qs C 0 : Nat) : Int)) + wrap64 (((x.toNat : Int) - 48) % 256)) = ((qs (C ++ [x]) 0 : Nat) : Int) := by
   have h3 : qs (C ++ [x]) 0 = 10 * qs C 0 + (x.toNat - 48) := by rw [qvq]; rfl
   rw [h3]
   clear e1
   generalize qs C 0 = v at *
   rw [w64 (n := 10 * (v : Int)) (by omega) (by omega), w64 (n := ((x.toNat : Int) - 48) % 256) (by omega) (by omega), w64 (by omega) (by omega)]
   omega
  rw [e1, e2]
  clear e1 e2
  have ih := qqB g nm mg hx low B (A ++ [x]) (C ++ [x]) (by rw [he]; simp) (by rw [List.all_append, hC]; simp [hB.1]) (by simp; omega) hB.2
  rw [List.append_assoc, List.singleton_append] at ih
  exact ih
theorem ql7 (g : Bool) (nm : ByteArray) (mg : List Int) {ex : Int} (hx : -10000 ≤ ex ∧ ex ≤ 10000) (low : Bool) {A B : List UInt8} (he : tl s = A ++ B) :
  Ev (fun k => qx.j11 k s a b c d g nm mg ex (A.length : Int) low) (if B ≠ [] ∧ B.length ≤ 6 ∧ B.all isD = true then (g, nm, mg, ex + (if low = true then -((qs B 0 : Nat) : Int) else ((qs B 0 : Nat) : Int)), true) else rF) := by
 have hz := qaI he
 have hl := congrArg List.length (qdP isD B)
 rw [List.length_append] at hl
 refine qc ?_; simp only [qx.j11]
 refine Ev.bind (ql6 (by omega) he) ?_; try dsimp only
 by_cases c1 : B.takeWhile isD = []
 ·refine qa (by rw [c1]; rfl) (qd (Ev.now _) ?_)
  rw [if_neg]; rfl
  rintro ⟨k1, k2, k3⟩
  rw [(qjD k3).2] at c1
  exact k1 c1
 have hp : 0 < (B.takeWhile isD).length := by cases h : B.takeWhile isD with | nil => exact absurd h c1 | cons _ _ => simp
 refine qb (by omega) ?_
 by_cases c2 : (B.takeWhile isD).length > 6
 ·refine qa (by omega) (qd (Ev.now _) ?_)
  rw [if_neg]; rfl
  rintro ⟨k1, k2, k3⟩
  omega
 refine qb (by omega) ?_
 have w : wrap64 ((A.length : Int) + ((B.takeWhile isD).length : Int)) = (A.length : Int) + ((B.takeWhile isD).length : Int) := qcd (by omega) (by omega) (by omega) (by omega)
 rw [w]
 clear w
 by_cases c3 : B.dropWhile isD = []
 ·obtain ⟨k1, k2⟩ := qqq c3
  rw [k2] at c1 c2 hp ⊢
  refine qb (by omega) ?_
  rw [if_pos ⟨c1, by omega, k1⟩]
  have := qqB hs a b c d g nm mg hx low B A [] he rfl (by simp; omega) k1
  exact this
 ·have hq : 0 < (B.dropWhile isD).length := by cases h : B.dropWhile isD with | nil => exact absurd h c3 | cons _ _ => simp
  refine qa (by omega) (qd (Ev.now _) ?_)
  rw [if_neg]; rfl
  rintro ⟨k1, k2, k3⟩
  exact c3 (qjD k3).1
theorem qqC (g : Bool) (nm : ByteArray) (m0 : List Int) {ex : Int} (hx : -10000 ≤ ex ∧ ex ≤ 10000) {A B dd : List UInt8} (he : tl s = A ++ B) (h1 : dd.all isD = true) (h2 : dd ≠ []) (h3 : dd.length ≤ 20000) :
  Ev (fun k => qx.j7 k s a b c d g nm m0 ex (A.length : Int) (bx dd)) (match qch dd ex B with | some y => (g, nm, D (qs y.1 0), y.2, true) | none => rF) := by
 have hz := qaI he
 refine qc ?_; simp only [qx.j7]
 refine Ev.bind (qwp h1 h2 h3) ?_; try dsimp only
 cases B with
 | nil =>
  rw [List.length_nil] at hz
  refine qa (by omega) (qd (Ev.now _) ?_)
  rfl
 | cons x E =>
  rw [List.length_cons] at hz
  have hb := qcg he
  refine qb (by omega) (qa (by omega) (qa (by omega) ?_))
  rw [hb]
  by_cases c1 : x = 101
  ·subst c1
   refine qb (by decide) ?_
   have w : wrap64 ((A.length : Int) + 1) = (((A ++ [101]).length : Nat) : Int) := by rw [List.length_append, List.length_singleton, w64 (by omega) (by omega)]; omega
   rw [w]
   clear w
   have he2 : tl s = (A ++ [101]) ++ E := by rw [he]; simp
   have hz2 := qaI he2
   have hT : (match qch dd ex (101 :: E) with | some y => (g, nm, D (qs y.1 0), y.2, true) | none => rF) = if qI E ≠ [] ∧ (qI E).length ≤ 6 ∧ (qI E).all isD = true then (g, nm, D (qs dd 0), ex + (if qei E = true then -((qs (qI E) 0 : Nat) : Int) else ((qs (qI E) 0 : Nat) : Int)), true) else rF := by
    have hok : qbM E = true ↔ (qI E ≠ [] ∧ (qI E).length ≤ 6 ∧ (qI E).all isD = true) := by
     unfold qbM
     simp only [Bool.and_eq_true, decide_eq_true_eq]
     constructor
     ·rintro ⟨⟨h1, h2⟩, h3⟩; exact ⟨h1, h2, h3⟩
     ·rintro ⟨h1, h2, h3⟩; exact ⟨⟨h1, h2⟩, h3⟩
    unfold qch
    rw [if_neg (by simp)]
    by_cases k : qbM E = true
    ·rw [if_pos ⟨rfl, k⟩, if_pos (hok.1 k)]; rfl
    ·rw [if_neg (fun h => k h.2), if_neg (fun h => k (hok.2 h))]
   rw [hT]
   rcases qqp E with ⟨r, k1, k2, k3⟩ | ⟨r, k1, k2, k3⟩ | ⟨k1, k2, k3⟩
   ·subst k1
    rw [List.length_cons] at hz2
    have hb2 := qcg he2
    have w2 : wrap64 ((((A ++ [101]).length : Nat) : Int) + 1) = (((A ++ [101] ++ [45]).length : Nat) : Int) := by rw [ql5 (A ++ [101]), w64 (by omega) (by omega)]; omega
    refine qa (by omega) (qa (by omega) (qa (by omega) ?_))
    rw [hb2]
    refine qa rfl ?_
    refine qc ?_; simp only [qx.j10]
    rw [w2, hb2]
    clear w2
    refine qa trivial (qa (by omega) (qa (by omega) ?_))
    have hj := ql7 hs a b c d g nm (D (qs dd 0)) hx true (A := A ++ [101] ++ [45]) (B := r) (by rw [he2]; simp)
    rw [k2, k3]
    exact hj
   ·subst k1
    rw [List.length_cons] at hz2
    have hb2 := qcg he2
    have w2 : wrap64 ((((A ++ [101]).length : Nat) : Int) + 1) = (((A ++ [101] ++ [43]).length : Nat) : Int) := by rw [ql5 (A ++ [101]), w64 (by omega) (by omega)]; omega
    refine qa (by omega) (qa (by omega) (qa (by omega) ?_))
    rw [hb2]
    refine qb (by decide) (qa (by omega) (qa (by omega) ?_))
    refine qc ?_; simp only [qx.j10]
    rw [w2, hb2]
    clear w2
    refine qa (by decide) (qa (by omega) (qa (by omega) ?_))
    have hj := ql7 hs a b c d g nm (D (qs dd 0)) hx false (A := A ++ [101] ++ [43]) (B := r) (by rw [he2]; simp)
    rw [k2, k3]
    exact hj
   ·have hj := ql7 hs a b c d g nm (D (qs dd 0)) hx false (A := A ++ [101]) (B := E) he2
    have last : Ev (fun k => qx.j10 k s a b c d g nm (D (qs dd 0)) ex (((A ++ [101]).length : Nat) : Int) false false) (if E ≠ [] ∧ E.length ≤ 6 ∧ E.all isD = true then (g, nm, D (qs dd 0), ex + (if false = true then -((qs E 0 : Nat) : Int) else ((qs E 0 : Nat) : Int)), true) else rF) := by
     refine qc ?_; simp only [qx.j10]
     exact qb (by simp) hj
    rw [k2, k3]
    cases E with
    | nil =>
     rw [List.length_nil] at hz2
     exact qb (by omega) last
    | cons y r =>
     rw [List.length_cons] at hz2
     obtain ⟨n1, n2⟩ := k1 y r rfl
     have hb2 := qcg he2
     refine qa (by omega) (qa (by omega) (qa (by omega) ?_))
     rw [hb2]
     refine qb (fun h => n1 (UInt8.toNat_inj.1 (by show _ = 45; omega))) (qa (by omega) (qa (by omega) ?_))
     rw [show decide ((y.toNat : Int) = 43) = false from decide_eq_false (fun h => n2 (UInt8.toNat_inj.1 (by show _ = 43; omega)))]
     exact last
  ·refine qa (fun h => c1 (UInt8.toNat_inj.1 (by show _ = 101; omega))) (qd (Ev.now _) ?_)
   unfold qch
   rw [if_neg (by simp), if_neg (by simp [c1])]
   rfl
theorem ql8 (g : Bool) {A B : List UInt8} (he : tl s = A ++ B) :
  Ev (fun k => qx.j2 k s a b c d g (⟨#[]⟩ : ByteArray) ([] : List Int) 0 (A.length : Int)) (if B = [105, 110, 102] then (g, (⟨#[105, 110, 102]⟩ : ByteArray), [], 0, true) else match qdY B with | some y => (g, (⟨#[]⟩ : ByteArray), D (qs y.1 0), y.2, true) | none => rF) := by
 have hz := qaI he
 have htw := qdP isD B
 have hl := congrArg List.length htw
 rw [List.length_append] at hl
 refine qc ?_; simp only [qx.j2]
 refine qa (by omega) (qa (by omega) ?_)
 rw [Int.toNat_natCast, qjB he]
 by_cases c0 : B = [105, 110, 102]
 ·rw [if_pos c0]
  exact qa (by rw [c0]; rfl) (Ev.now _)
 rw [if_neg c0]
 refine qb (fun h => c0 (qeh.2 h)) ?_
 refine Ev.bind (ql6 (by omega) he) ?_; try dsimp only
 unfold qdY
 by_cases c1 : B.takeWhile isD = []
 ·rw [if_pos c1]
  exact qa (by rw [c1]; rfl) (Ev.now _)
 rw [if_neg c1]
 have hp : 0 < (B.takeWhile isD).length := by cases h : B.takeWhile isD with | nil => exact absurd h c1 | cons _ _ => simp
 have w : wrap64 ((A.length : Int) + ((B.takeWhile isD).length : Int)) = (((A ++ B.takeWhile isD).length : Nat) : Int) := by rw [List.length_append, qcd (by omega) (by omega) (by omega) (by omega)]; omega
 rw [w]
 clear w
 have he2 : tl s = (A ++ B.takeWhile isD) ++ B.dropWhile isD := by rw [he, List.append_assoc, htw]
 have hz2 := qaI he2
 have hlA : (A ++ B.takeWhile isD).length = A.length + (B.takeWhile isD).length := List.length_append
 refine qb (by omega) (qa (by omega) (qa (by omega) (qa (by omega) ?_)))
 have hx : s.extract A.length ((((A ++ B.takeWhile isD).length : Nat) : Int)).toNat = bx (B.takeWhile isD) := by
  rw [Int.toNat_natCast, hlA]
  exact qhP (C := B.dropWhile isD) (by rw [htw]; exact he)
 rw [hx]
 clear hx
 have hall := qeX isD B
 by_cases c2 : (B.dropWhile isD).head? = some 46
 ·rw [if_pos c2]
  obtain ⟨r, hr⟩ : ∃ r, B.dropWhile isD = 46 :: r := by
   cases hB : B.dropWhile isD with
   | nil => rw [hB] at c2; simp at c2
   | cons y E => rw [hB] at c2; simp at c2; exact ⟨E, by rw [c2]⟩
  rw [hr] at he2 hz2 hl ⊢
  rw [List.length_cons] at hz2
  have hb := qcg he2
  refine qa (by omega) (qa (by omega) (qa (by omega) ?_))
  rw [hb]
  rw [List.tail_cons]
  rw [show decide ((((46 : UInt8).toNat : Nat) : Int) = 46) = true from rfl]
  have he3 : tl s = (A ++ B.takeWhile isD ++ [46]) ++ r := by rw [he2]; simp
  have htw2 := qdP isD r
  have hl2 := congrArg List.length htw2
  rw [List.length_append] at hl2
  have hz3 := qaI he3
  have w : wrap64 ((((A ++ B.takeWhile isD).length : Nat) : Int) + 1) = (((A ++ B.takeWhile isD ++ [46]).length : Nat) : Int) := by rw [ql5 (A ++ B.takeWhile isD), w64 (by omega) (by omega)]; omega
  refine qc ?_; simp only [qx.j5]
  rw [w]
  clear w
  refine qa trivial ?_
  refine Ev.bind (ql6 (by omega) he3) ?_; try dsimp only
  by_cases c3 : r.takeWhile isD = []
  ·rw [if_pos c3]
   exact qa (by rw [c3]; rfl) (Ev.now _)
  rw [if_neg c3]
  have hp2 : 0 < (r.takeWhile isD).length := by cases h : r.takeWhile isD with | nil => exact absurd h c3 | cons _ _ => simp
  have he4 : tl s = (A ++ B.takeWhile isD ++ [46] ++ r.takeWhile isD) ++ r.dropWhile isD := by rw [he3, List.append_assoc _ (r.takeWhile isD), htw2]
  have hlA2 : (A ++ B.takeWhile isD ++ [46] ++ r.takeWhile isD).length = (A ++ B.takeWhile isD ++ [46]).length + (r.takeWhile isD).length := List.length_append
  have w : wrap64 ((((A ++ B.takeWhile isD ++ [46]).length : Nat) : Int) + ((r.takeWhile isD).length : Int)) = (((A ++ B.takeWhile isD ++ [46] ++ r.takeWhile isD).length : Nat) : Int) := by rw [hlA2, qcd (by omega) (by omega) (by omega) (by omega)]; omega
  rw [w]
  clear w
  have hx : s.extract ((((A ++ B.takeWhile isD ++ [46]).length : Nat) : Int)).toNat ((((A ++ B.takeWhile isD ++ [46] ++ r.takeWhile isD).length : Nat) : Int)).toNat = bx (r.takeWhile isD) := by
   rw [Int.toNat_natCast, Int.toNat_natCast, hlA2]
   exact qhP (C := r.dropWhile isD) (by rw [htw2]; exact he3)
  rw [hx]
  clear hx
  have hz4 := qaI he4
  refine qb (by omega) (qa (by omega) (qa (by omega) (qa (by omega) (qa (by rw [qcI, qcI]; omega) ?_))))
  have e1 : bx (B.takeWhile isD) ++ bx (r.takeWhile isD) = bx (B.takeWhile isD ++ r.takeWhile isD) := qeh.1 (by rw [qnP, qcH, qcH, qcH])
  rw [e1, qeo (by omega) (by omega)]
  exact qqC hs a b c d g (⟨#[]⟩ : ByteArray) [] (by omega) he4 (by rw [List.all_append, hall, qeX]; rfl) (fun h => c1 (List.append_eq_nil_iff.1 h).1) (by rw [List.length_append]; omega)
 ·rw [if_neg c2]
  have hj := qqC hs a b c d g (⟨#[]⟩ : ByteArray) [] (ex := 0) (by omega) he2 hall c1 (by omega)
  have last : Ev (fun k => qx.j5 k s a b c d g (⟨#[]⟩ : ByteArray) ([] : List Int) 0 (((A ++ B.takeWhile isD).length : Nat) : Int) (bx (B.takeWhile isD)) false) (match qch (B.takeWhile isD) 0 (B.dropWhile isD) with | some y => (g, (⟨#[]⟩ : ByteArray), D (qs y.1 0), y.2, true) | none => rF) := by
   refine qc ?_; simp only [qx.j5]
   exact qb (by simp) hj
  cases hB : B.dropWhile isD with
  | nil =>
   rw [hB] at hz2 last
   rw [List.length_nil] at hz2
   exact qb (by omega) last
  | cons y r =>
   rw [hB] at he2 hz2 last c2
   rw [List.length_cons] at hz2
   have hb := qcg he2
   refine qa (by omega) (qa (by omega) (qa (by omega) ?_))
   rw [hb]
   rw [show decide ((y.toNat : Int) = 46) = false from decide_eq_false (fun h => c2 (by rw [List.head?_cons, UInt8.toNat_inj.1 (show y.toNat = (46 : UInt8).toNat from (by show _ = 46; omega))]))]
   exact last
end
def r8S (g : Bool) (l : List UInt8) : RT := if l = [105, 110, 102] then (g, (⟨#[105, 110, 102]⟩ : ByteArray), [], 0, true) else match qdY l with | some y => (g, (⟨#[]⟩ : ByteArray), D (qs y.1 0), y.2, true) | none => rF
def ql9 (l : List UInt8) : RT := if l = [110, 97, 110] then (false, ⟨#[110, 97, 110]⟩, [], 0, true) else r8S (qdv l) (qcG l)
theorem qwq {s : ByteArray} (hs : s.size ≤ 1200) : Ev (fun k => qx.f k s) (ql9 (tl s)) := by
 unfold qx.f ql9
 by_cases c1 : s = (⟨#[110, 97, 110]⟩ : ByteArray)
 ·rw [if_pos (by rw [c1]; rfl)]
  exact qa c1 (Ev.now _)
 rw [if_neg (fun h => c1 (qeh.1 (by rw [h]; rfl)))]
 refine qb c1 ?_
 cases hl : tl s with
 | nil =>
  have hz : s.size = 0 := by rw [qdO, hl]; rfl
  refine qb (by omega) ?_
  exact ql8 hs false ⟨#[]⟩ [] 0 false (A := []) (B := []) (by rw [hl]; rfl)
 | cons x r =>
  have hz : s.size = r.length + 1 := by rw [qdO, hl]; rfl
  refine qa (by omega) (qa (by omega) ?_)
  have hb : bt s 0 = (x.toNat : Int) := qcg (A := []) (B := r) (by rw [hl]; rfl)
  rw [hb]
  by_cases c2 : x = 45
  ·subst c2
   refine qa rfl ?_
   exact ql8 hs false ⟨#[]⟩ [] 0 true (A := [45]) (B := r) (by rw [hl]; rfl)
  ·refine qb (fun h => c2 (UInt8.toNat_inj.1 (by show _ = 45; omega))) ?_
   have n1 : qdv (x :: r) = false := by
    unfold qdv; split
    ·rename_i h; exact absurd (List.cons.inj h).1 c2
    ·rfl
   have n2 : qcG (x :: r) = x :: r := by
    unfold qcG; split
    ·rename_i h; exact absurd (List.cons.inj h).1 c2
    ·rfl
   rw [n1, n2]
   exact ql8 hs false ⟨#[]⟩ [] 0 false (A := []) (B := x :: r) (by rw [hl]; rfl)
theorem qwr {f m : Int} (h : isF f) (hm : isM m) (s : ByteArray) : Ev (fun k => qgo.f k f m s) (qjC f m (tl s)) := by
 unfold qgo.f qjC
 by_cases c0 : 1200 < (tl s).length
 ·rw [if_pos c0]
  exact qa (by rw [qdO]; omega) (Ev.now _)
 rw [if_neg c0]
 refine qb (by rw [qdO]; omega) ?_
 refine Ev.bind (qwq (by rw [qdO]; omega)) ?_
 unfold ql9
 by_cases c1 : tl s = [110, 97, 110]
 ·rw [if_pos c1, if_pos c1]
  exact qb (by simp) (qa rfl (qi (qux h) (Ev.now _)))
 rw [if_neg c1, if_neg c1]
 unfold r8S ql0
 have hbl := qvs (tl s)
 by_cases c2 : qcG (tl s) = [105, 110, 102]
 ·rw [if_pos c2, if_pos c2]
  refine qb (by simp) (qb ?_ (qa rfl (qi (qlA h _) (Ev.now _))))
  intro hh
  have := qeh.2 hh
  exact absurd this (by show ¬ tl (⟨#[105, 110, 102]⟩ : ByteArray) = tl (⟨#[110, 97, 110]⟩ : ByteArray); decide)
 rw [if_neg c2, if_neg c2]
 cases ho : qdY (qcG (tl s)) with
 | none => exact qa rfl (Ev.now _)
 | some y =>
  obtain ⟨b1, b2, b3, b4, b5⟩ := qqx ho
  have hl : y.1.length ≤ 1200 := by omega
  show Ev _ (qhQ f m (qdv (tl s)) (qs y.1 0) y.2)
  have hemp : ∀ t : ByteArray, tl t ≠ [] → ¬ ((⟨#[]⟩ : ByteArray) = t) := by
   intro t ht hh
   rw [← hh] at ht
   exact ht rfl
  refine qb (by simp) (qb (hemp _ (by decide)) (qb (hemp _ (by decide)) ?_))
  unfold qhQ
  by_cases c3 : qs y.1 0 = 0
  ·rw [if_pos c3]
   refine qa (by simp only; rw [c3, qU]; rfl) ?_
   refine qi (qpm h 0 _) ?_
   rw [Nat.zero_mod, Nat.zero_add]
   exact Ev.now _
  ·rw [if_neg c3]
   refine qb (fun hh => c3 (qsJ (by rw [qU]; exact qc7.1 hh))) ?_
   have hd := qwe h hm (qdv (tl s)) c3 (p := y.1.length) hl (qjF b1) y.2
   refine Ev.bind (hd) ?_; try dsimp only
   exact Ev.now _
theorem qws (k : Nat) : qaw.f (k + 140) 2 4591870180066957722 = some ((⟨#[48, 46, 49]⟩ : ByteArray), 0) := by kernel_rfl
theorem qwt (k : Nat) : qdm.f (k + 60) 1 1 (⟨#[49, 54, 55, 55, 55, 50, 49, 55]⟩ : ByteArray) = some (1266679808, 16, 0) := by kernel_rfl
theorem qwu : Ev (fun k => qeN.f k) true := by
 unfold qeN.f
 refine Ev.bind (qpU qws) (Ev.bind (qpU qwt) ?_)
 exact qa rfl (qa rfl (qa rfl (qa rfl (qd (Ev.now _) (by simp)))))
theorem qqD : Ev (fun k => (qeN.f k).bind fun t => some t) true := Ev.bind qwu (Ev.now _)
theorem qwv {f m : Int} (h : fmE f m ≠ 0) (l : List Int) : Ev (fun k => qcx.f k f m l) (fmE f m) := by
 unfold qcx.f
 unfold fmE at *
 refine qi (qpi f) ?_
 by_cases c : isF f
 ·rw [if_pos c] at h ⊢
  have hm : ¬ isM m := fun k => h (by rw [if_pos k])
  rw [if_neg hm, decide_eq_true c]
  refine qb (by simp) (qi (qpj m) ?_)
  rw [decide_eq_false hm]
  exact qa rfl (Ev.now _)
 ·rw [if_neg c, decide_eq_false c]
  exact qa rfl (Ev.now _)
theorem qww {f m : Int} (h : isF f) (hm : isM m) : Ev (fun k => qcx.f k f m []) 0 := by
 unfold qcx.f
 refine qi (qpi f) ?_
 rw [decide_eq_true h]
 refine qb (by simp) (qi (qpj m) ?_)
 rw [decide_eq_true hm]
 refine qb (by simp) ?_
 refine qc ?_; simp only [qcx.l0]
 exact qb (by simp) (Ev.now _)
theorem qwx {f m : Int} (h : fmE f m = 0) : isF f ∧ isM m := by
 unfold fmE at h
 by_cases c : isF f
 ·rw [if_pos c] at h
  by_cases c2 : isM m
  ·exact ⟨c, c2⟩
  ·rw [if_neg c2] at h; omega
 ·rw [if_neg c] at h; omega
theorem qwy (f m : Int) (s : ByteArray) : Ev (fun k => qhp.f k f m s) true := by
 unfold qhp.f
 by_cases hb : fmE f m = 0
 ·obtain ⟨h, hm⟩ := qwx hb
  refine Ev.bind (qwn h hm s) (Ev.bind (qww h hm) ?_)
  exact qb (by simp) (Ev.bind (qwr h hm s) (qa rfl (qa rfl (qa rfl qqD))))
 ·refine Ev.bind (qwo hb s) (Ev.bind (qwv hb []) ?_)
  exact qa (by simpa using hb) (qa rfl (qa rfl (qa rfl qqD)))
end Go.Proofs.YtnkpmjhlkmlmbaaGreatDoor.Eng.K
