import Derived.Test.YtnkpmjhlkmlmbaaGreatDoorQCtextReadsK1
import Derived.Lib.Atoi
set_option linter.unusedVariables false
set_option linter.unusedSimpArgs false
namespace Go.Proofs.YtnkpmjhlkmlmbaaGreatDoor.Eng.K
open Go.RowKit
def inw (m : Int) (s : Bool) : Bool := decide (m = 3) || (decide (m = 4) && s) || (decide (m = 5) && !s)
def zcv (f m : Int) (s : Bool) : Nat := (if inw m s = true then mo f * 2 ^ fb f - 1 else mo f * 2 ^ fb f) + sgn f s
theorem zos {f : Int} (h : isF f) (s b : Bool) : Ev (fun k => za4.j0 k f s b) (((if b = true then mo f * 2 ^ fb f - 1 else mo f * 2 ^ fb f) + sgn f s : Nat) : Int) := by
 have hp := zj (fb f)
 have hm := zdN h
 have hq : 1 ≤ mo f * 2 ^ fb f := Nat.mul_pos (by omega) hp
 have hil := zdh h
 have hsp := zbw h
 have hsg : sgn f s ≤ sg f := by unfold sgn; split <;> omega
 refine zf ?_
 simp only [za4.j0]
 cases b
 ·refine ze (by simp) ?_
  refine zi (zhs h s) ?_; try dsimp only
  exact Ev.now _
 ·refine zd rfl ?_
  refine zi (zhs h s) ?_; try dsimp only
  refine zg (Ev.now _) ?_
  rw [u64 (by omega) (by omega), if_pos rfl]
  omega
theorem zor {f : Int} (h : isF f) (m : Int) (s : Bool) : Ev (fun k => za4.f k f m s) (zcv f m s : Int) := by
 have j := fun b => zos h s b
 unfold za4.f zcv
 by_cases c3 : m = 3
 ·refine zd c3 ?_
  have e : inw m s = true := by unfold inw; simp [c3]
  rw [e]; exact j true
 refine ze c3 ?_
 by_cases c4 : m = 4
 ·refine zd c4 ?_
  have e : inw m s = s := by unfold inw; simp [c4]
  rw [e]
  cases s
  ·exact ze (by simp) (ze (by omega) (j false))
  ·exact zd rfl (j true)
 refine ze c4 ?_
 by_cases c5 : m = 5
 ·refine zd c5 ?_
  have e : inw m s = !s := by unfold inw; simp [c5]
  rw [e]; exact j (!s)
 ·refine ze c5 ?_
  have e : inw m s = false := by unfold inw; simp [c3, c4, c5]
  rw [e]; exact j false
theorem zpw {X : Nat} (h0 : X ≠ 0) (h : X < 18446744073709551616) : 0 < (D X).length ∧ (D X).length ≤ 2 ∧ rd (D X) 0 = ((X % 4294967296 : Nat) : Int) ∧ ((D X).length > 1 → rd (D X) 1 = ((X / 4294967296 : Nat) : Int)) ∧ ((D X).length ≤ 1 → X < 4294967296) := by
 have h1 : D X = ((X % 4294967296 : Nat) : Int) :: D (X / 4294967296) := zcj h0
 have h2 : (D (X / 4294967296)).length ≤ 1 := zaO (by omega)
 refine ⟨by rw [h1]; simp, by rw [h1]; simp; omega, by rw [h1]; rfl, ?_, ?_⟩
 ·intro h3
  have h4 : X / 4294967296 ≠ 0 := by
   intro h4
   rw [h1, h4, zw] at h3
   simp at h3
  rw [h1, zcj h4]
  show (((X / 4294967296 % 4294967296 : Nat)) : Int) = _
  omega
 ·intro h3
  rcases Nat.lt_or_ge X 4294967296 with h4 | h4
  ·exact h4
  ·exfalso
   have h5 : X / 4294967296 ≠ 0 := by omega
   rw [h1, zcj h5] at h3
   simp at h3
theorem zoq {f : Int} (h : isF f) {X : Nat} {U : Int} (hX : X < 2 ^ pr f) (hU : lo f ≤ U) (hU2 : (U - lo f).toNat ≤ mo f - 2) (hn : X < 2 ^ fb f → U = lo f) (l : List Int) (e : Int) (s : Bool) :
  Ev (fun k => zat.j4 k f s l e U (X : Int)) (((((U - lo f).toNat * 2 ^ fb f + X) + sgn f s : Nat) : Int), true) := by
 have hb := zaw h
 have hp := zj (fb f)
 have hpr := zR h
 have h2 := zfo h
 have hl := zbT h
 have hm := zdN h
 have hil := zdh h
 have hsp := zbw h
 have hpw := pfb h
 have hm2 := ze8 h
 rw [hpr, Nat.pow_succ] at hX
 have hmm : (mo f - 2) * 2 ^ fb f + 2 ^ fb f * 2 = mo f * 2 ^ fb f := by
  rw [Nat.mul_comm (2 ^ fb f) 2, ← Nat.add_mul]; congr 1; omega
 have hle := Nat.mul_le_mul_right (2 ^ fb f) hU2
 refine zf ?_
 simp only [zat.j4]
 refine zi (zdS h) ?_; try dsimp only
 rw [zcS X (fb f) (by show fb f ≤ 64; omega)]
 refine zd (by omega) ?_
 by_cases c : X < 2 ^ fb f
 ·have hU3 := hn c
  have e0 : (U - lo f).toNat = 0 := by omega
  refine ze (by rw [Nat.div_eq_of_lt c]; omega) ?_
  have := zht h s (q := 0) (r := X) (by omega)
  rw [show ((0 : Nat) : Int) = 0 from rfl] at this
  refine zi (this) ?_; try dsimp only
  refine zg (Ev.now _) ?_
  rw [e0]
 ·have hd : 0 < X / 2 ^ fb f := Nat.div_pos (by omega) hp
  refine zd (by omega) ?_
  refine zi (zdS h) ?_; try dsimp only
  refine zd (by omega) ?_
  refine zi (zdT h) ?_; try dsimp only
  rw [zhh h]
  have e1 : wrap64 (wrap64 (U - lo f) + 1) = (((U - lo f).toNat + 1 : Nat) : Int) := by unfold wrap64; omega
  have e2 : IntKind.u64.wrap ((X : Int) - ((2 ^ fb f : Nat) : Int)) = ((X - 2 ^ fb f : Nat) : Int) := by
   have : (X : Int) - ((2 ^ fb f : Nat) : Int) = ((X - 2 ^ fb f : Nat) : Int) := by omega
   rw [this]; exact u64 (by omega) (by omega)
  rw [e1, e2]
  have hs : ((U - lo f).toNat + 1) * 2 ^ fb f + (X - 2 ^ fb f) = (U - lo f).toNat * 2 ^ fb f + X := by
   rw [Nat.add_mul, Nat.one_mul]; omega
  have := zht h s (q := (U - lo f).toNat + 1) (r := X - 2 ^ fb f) (by omega)
  rw [hs] at this
  refine zi (this) ?_; try dsimp only
  exact Ev.now _
theorem zp0 {a b : Int} (h1 : -1000000000 ≤ a) (h2 : a ≤ 1000000000) (h3 : -1000000000 ≤ b) (h4 : b ≤ 1000000000) : wrap64 (wrap64 (a - b) - 1) = a - b - 1 := by unfold wrap64; omega
theorem zop {f : Int} (h : isF f) {s : Bool} {l : List Int} {e : Int} (hd : Dy s l e) (h0 : l ≠ []) (hn : bl (V l) ≤ pr f) (he : lo f ≤ e) (hw : e + (bl (V l) : Nat) ≤ wd f) :
  Ev (fun k => zat.f k f s l e) (((enc f (V l) e + sgn f s : Nat) : Int), true) := by
 have hV : V l ≠ 0 := fun c => h0 ((zcZ hd.nm).1 c)
 have hl := zbT h
 have hwb := zd2 h
 have hpr := zR h
 have hfb := zaw h
 have hll : l.length ≤ 2 := by
  have h1 : (D (V l)).length ≤ 2 := zaD (by omega)
  rwa [hd.nm] at h1
 obtain ⟨e1, e2⟩ := zgY h hn he hw
 have hplt := zhj hn he
 have hu := zk1 hn he
 have hul := zk0 f (V l) e
 have hsg : (sv s (V l)).sign ≠ 0 := by rw [zd0 hV]; split <;> omega
 have htop : top (sv s (V l)) e = e + (bl (V l) : Nat) := by unfold top; rw [if_neg (fun h => hV (zbc.1 h)), zK]
 have ht := zgh hd (by omega) (by omega) (by omega)
 rw [htop] at ht
 have hlen := zcd hd.nm (by omega)
 have h2 := zfo h
 have hun : zm f (V l) e = max (e + (bl (V l) : Nat) - (pr f : Nat)) (lo f) := rfl
 have hj := zoq h (X := V l * 2 ^ (e - zm f (V l) e).toNat) (U := zm f (V l) e) hplt hul e2 (by
  intro hx
  have h3 : bl (V l * 2 ^ (e - zm f (V l) e).toNat) ≤ fb f := zL hx
  rw [zbe hV] at h3
  omega) l e s
 have hup := zfh hd.nm.dg (by omega) (e - zm f (V l) e).toNat (by omega)
 have hX0 : V l * 2 ^ (e - zm f (V l) e).toNat ≠ 0 := by
  have := Nat.mul_pos (Nat.pos_of_ne_zero hV) (zj (e - zm f (V l) e).toNat)
  omega
 have hpf := zj (fb f)
 obtain ⟨d1, d2, d3, d4, d5⟩ := zpw hX0 (by omega)
 have hf : enc f (V l) e = (zm f (V l) e - lo f).toNat * 2 ^ fb f + V l * 2 ^ (e - zm f (V l) e).toNat := rfl
 rw [← hf] at hj
 have last : Ev (fun k => zat.j3 k f s l e (zm f (V l) e)) (((enc f (V l) e + sgn f s : Nat) : Int), true) := by
  refine zf ?_
  simp only [zat.j3]
  have ew : wrap64 (e - zm f (V l) e) = ((e - zm f (V l) e).toNat : Int) := by unfold wrap64; omega
  rw [ew]
  clear ew
  refine Ev.bind (hup) ?_; try dsimp only
  clear hf e1
  generalize hX : V l * 2 ^ (e - zm f (V l) e).toNat = X at *
  have hXl : X < 18446744073709551616 := by omega
  refine zd (by omega) ?_
  by_cases c : (D X).length > 1
  ·have x1 := d4 c
   have y0 : IntKind.u64.wrap ((X % 4294967296 : Nat) : Int) = ((X % 4294967296 : Nat) : Int) := u64 (by omega) (by omega)
   have y1 : IntKind.u64.wrap ((X / 4294967296 : Nat) : Int) = ((X / 4294967296 : Nat) : Int) := u64 (by omega) (by omega)
   have y2 : IntKind.u64.wrap (((X / 4294967296 : Nat) : Int) * 4294967296) = ((X / 4294967296 * 4294967296 : Nat) : Int) := by
    rw [show ((X / 4294967296 : Nat) : Int) * 4294967296 = ((X / 4294967296 * 4294967296 : Nat) : Int) by omega]
    exact u64 (by omega) (by omega)
   have y3 : IntKind.u64.wrap (((X % 4294967296 : Nat) : Int) + ((X / 4294967296 * 4294967296 : Nat) : Int)) = (X : Int) := by
    rw [show ((X % 4294967296 : Nat) : Int) + ((X / 4294967296 * 4294967296 : Nat) : Int) = (X : Int) by omega]
    exact u64 (by omega) (by omega)
   refine zd (by omega) (zd (by omega) ?_)
   rw [d3, x1, y0, y1, y2, y3]
   exact hj
  ·have x1 := d5 (by omega)
   have y0 : IntKind.u64.wrap ((X % 4294967296 : Nat) : Int) = (X : Int) := by
    rw [show ((X % 4294967296 : Nat) : Int) = (X : Int) by omega]
    exact u64 (by omega) (by omega)
   refine ze (by omega) ?_
   rw [d3, y0]
   exact hj
 have w1 : wrap64 ((fb f : Int) + 1) = (fb f : Int) + 1 := by unfold wrap64; omega
 have w2 : wrap64 (wrap64 (e + (bl (V l) : Nat) - (fb f : Int)) - 1) = e + (bl (V l) : Nat) - (fb f : Int) - 1 := by
  clear w1; exact zp0 (by omega) (by omega) (by omega) (by omega)
 unfold zat.f
 refine zi (zfg hd) ?_; try dsimp only
 refine ze hsg ?_
 refine Ev.bind (ht) ?_; try dsimp only
 refine zi (zj0 h) ?_; try dsimp only
 refine ze (by clear w1 w2; omega) ?_
 refine zi (zdT h) ?_; try dsimp only
 refine ze (by clear w1 w2; omega) ?_
 refine Ev.bind (hlen) ?_; try dsimp only
 refine zi (zdS h) ?_; try dsimp only
 rw [w1]
 refine ze (by clear w1 w2; omega) ?_
 refine zi (zdS h) ?_; try dsimp only
 refine zi (zdT h) ?_; try dsimp only
 rw [w2]
 clear w1 w2
 by_cases c : e + (bl (V l) : Nat) - (fb f : Int) - 1 < lo f
 ·refine zd c ?_
  refine zi (zdT h) ?_; try dsimp only
  have : lo f = zm f (V l) e := by omega
  rw [this]
  exact last
 ·refine ze c ?_
  have : e + (bl (V l) : Nat) - (fb f : Int) - 1 = zm f (V l) e := by omega
  rw [this]
  exact last
def zbj (f : Int) (n : Nat) (e : Int) : Nat := enc f (n / 2 ^ lw n) (e + (lw n : Nat))
def zh (f : Int) (n : Nat) (e : Int) : Int := max (e + (bl n : Nat) - (pr f : Nat)) (lo f)
def zt (f m : Int) (s : Bool) (n : Nat) (e : Int) : Int × Int :=
 let q := R m s n e (zh f n e)
 if (bl q : Int) + zh f n e > wd f then ((zcv f m s : Int), 20)
 else ((((if q = 0 then 0 else zbj f q (zh f n e)) + sgn f s : Nat) : Int),
  if exR n e (zh f n e) = true then 0
  else if (bl (R m s n e (e + (bl n : Nat) - (pr f : Nat))) : Int) + (e + (bl n : Nat) - (pr f : Nat)) < lo f + (pr f : Nat) then 24 else 16)
theorem zfA {m : Int} {s : Bool} {n : Nat} {e E : Int} {p : Nat} (h : e + (bl n : Nat) - (p : Nat) ≤ E) : R m s n e E ≤ 2 ^ p := by
 have h1 := zU n
 unfold R
 by_cases c : E ≤ e
 ·have e1 : (E - e).toNat = 0 := by omega
  rw [e1, zdU]
  have h2 : n * 2 ^ (e - E).toNat < 2 ^ bl n * 2 ^ (e - E).toNat := Nat.mul_lt_mul_of_pos_right h1 (zj _)
  rw [← Nat.pow_add] at h2
  exact Nat.le_trans (Nat.le_of_lt h2) (Nat.pow_le_pow_right (by omega) (by omega))
 ·have e1 : (e - E).toNat = 0 := by omega
  rw [e1, Nat.pow_zero, Nat.mul_one]
  have h3 : n / 2 ^ (E - e).toNat < 2 ^ p := by
   rw [Nat.div_lt_iff_lt_mul (zj _), ← Nat.pow_add]
   exact Nat.lt_of_lt_of_le h1 (Nat.pow_le_pow_right (by omega) (by omega))
  unfold rnd
  split <;> omega
theorem zjy {q p : Nat} (h0 : q ≠ 0) (h : q ≤ 2 ^ p) : bl (q / 2 ^ lw q) ≤ p ∨ p = 0 := by
 rcases Nat.eq_zero_or_pos p with hp | hp
 ·exact .inr hp
 left
 rcases Nat.lt_or_ge q (2 ^ p) with c | c
 ·exact zL (Nat.lt_of_le_of_lt (Nat.div_le_self _ _) c)
 ·have e : q = 2 ^ p := by omega
  have hw : lw q = p := ze5 ⟨0, by rw [e]; omega⟩
  rw [hw, e, Nat.div_self (zj p)]
  have : bl 1 = 1 := by decide
  omega
theorem zls {f m : Int} {s : Bool} {n : Nat} {e : Int} (h : isF f) (hn : n ≠ 0) (hq : R m s n e (zh f n e) = 0) : zh f n e = lo f := by
 have hpr := zR h
 unfold zh at *
 rcases Int.le_total (e + (bl n : Nat) - (pr f : Nat)) (lo f) with c | c
 ·omega
 ·exfalso
  have h1 := (zeH (m := m) (s := s) (n := n) (e := e) (E := max (e + (bl n : Nat) - (pr f : Nat)) (lo f)) hn (by omega)).1
  rw [hq] at h1
  have b0 : bl 0 = 0 := zaz
  rw [b0] at h1
  omega
theorem zgp {n : Nat} (h : n ≠ 0) : bl (n / 2 ^ lw n) + lw n = bl n := by
 have := zdL h
 rw [zbL]; omega
theorem zmK {f m : Int} {s : Bool} {n : Nat} {e : Int} (h : isF f) (hq : R m s n e (zh f n e) ≠ 0) (hw : ¬ ((bl (R m s n e (zh f n e)) : Int) + zh f n e > wd f)) :
  bl (R m s n e (zh f n e) / 2 ^ lw (R m s n e (zh f n e))) ≤ pr f ∧ lo f ≤ zh f n e + (lw (R m s n e (zh f n e)) : Nat) ∧ zh f n e + (lw (R m s n e (zh f n e)) : Nat) + (bl (R m s n e (zh f n e) / 2 ^ lw (R m s n e (zh f n e))) : Nat) ≤ wd f := by
 have hpr := zR h
 have h1 : R m s n e (zh f n e) ≤ 2 ^ pr f := zfA (by unfold zh; omega)
 have h2 := (zjy hq h1).resolve_right (by omega)
 have h3 := zgp hq
 refine ⟨h2, by unfold zh; omega, by omega⟩
theorem zfB (m z e E : Int) : (TK m z e E).natAbs = R m (decide (z < 0)) z.natAbs e E := by unfold TK; exact zK _ _
theorem zfC (m z e E : Int) : TK m z e E = 0 ↔ R m (decide (z < 0)) z.natAbs e E = 0 := by unfold TK; exact zbc
theorem zpr (m z e E : Int) : top (TK m z e E) E = if R m (decide (z < 0)) z.natAbs e E = 0 then 0 else E + (bl (R m (decide (z < 0)) z.natAbs e E) : Nat) := by
 unfold top
 by_cases c : R m (decide (z < 0)) z.natAbs e E = 0
 ·rw [if_pos c, if_pos ((zfC m z e E).2 c)]
 ·rw [if_neg c, if_neg (fun h => c ((zfC m z e E).1 h)), zfB]
theorem zib {m z e E : Int} : (mk z e = mk (TK m z e E) E) ↔ exR z.natAbs e E = true := by
 constructor
 ·intro h
  unfold exR
  apply decide_eq_true
  by_cases c : E ≤ e
  ·have e1 : (E - e).toNat = 0 := by omega
   rw [e1, Nat.pow_zero, Nat.mod_one]
  ·have hE : E = e + ((E - e).toNat : Nat) := by omega
   rw [hE, ← zbU, ← hE] at h
   have h1 := zg6 h
   have h2 : (2 ^ (E - e).toNat : Int) ∣ z := ⟨TK m z e E, by rw [Int.mul_comm]; exact h1⟩
   have h3 : ((2 ^ (E - e).toNat : Nat) : Int) ∣ z := by rw [Int.natCast_pow]; exact h2
   exact Nat.mod_eq_zero_of_dvd (Int.ofNat_dvd_left.1 h3)
 ·intro h; exact (zia h).symm
theorem zou {f m : Int} (h : isF f) (hm : isM m) {z e : Int} (hz : z ≠ 0) (hb : bl z.natAbs ≤ 3000000) (h1 : -900000 ≤ e) (h2 : e ≤ 900000) :
  Ev (fun k => zbq.j1 k f m (mk z e).1 (mk z e).2.1 (mk z e).2.2 (pr f : Nat) (e + (bl z.natAbs : Nat) - (pr f : Nat)) (zh f z.natAbs e)) (zt f m (decide (z < 0)) z.natAbs e) := by
 have hl := zbT h
 have hwb := zd2 h
 have hpr := zR h
 have hfb := zaw h
 have hu : zh f z.natAbs e = max (e + (bl z.natAbs : Nat) - (pr f : Nat)) (lo f) := rfl
 have t1 := zjY hm hz (e := e) (E := zh f z.natAbs e) (by omega) (by omega) (by omega) (by omega) (by omega)
 have t2 := zjY hm hz (e := e) (E := e + (bl z.natAbs : Nat) - (pr f : Nat)) (by omega) (by omega) (by omega) (by omega) (by omega)
 have hq : R m (decide (z < 0)) z.natAbs e (zh f z.natAbs e) ≤ 2 ^ pr f := zfA (by omega)
 have hqb : bl (R m (decide (z < 0)) z.natAbs e (zh f z.natAbs e)) ≤ pr f + 1 := zL (Nat.lt_of_le_of_lt hq (by rw [Nat.pow_succ]; have := zj (pr f); omega))
 have hq2 : R m (decide (z < 0)) z.natAbs e (e + (bl z.natAbs : Nat) - (pr f : Nat)) ≤ 2 ^ pr f := zfA (by omega)
 have hqb2 : bl (R m (decide (z < 0)) z.natAbs e (e + (bl z.natAbs : Nat) - (pr f : Nat))) ≤ pr f + 1 := zL (Nat.lt_of_le_of_lt hq2 (by rw [Nat.pow_succ]; have := zj (pr f); omega))
 have hza : z.natAbs ≠ 0 := by omega
 have hfine := (zeH (m := m) (s := decide (z < 0)) (n := z.natAbs) (e := e) (E := e + (bl z.natAbs : Nat) - (pr f : Nat)) hza (by omega)).1
 have tp1 := zgf (z := TK m z e (zh f z.natAbs e)) (e := zh f z.natAbs e) ⟨by rw [zfB]; omega, by omega, by omega⟩
 have tp2 := zgf (z := TK m z e (e + (bl z.natAbs : Nat) - (pr f : Nat))) (e := e + (bl z.natAbs : Nat) - (pr f : Nat)) ⟨by rw [zfB]; omega, by omega, by omega⟩
 rw [zpr] at tp1 tp2
 have hs : (mk z e).1 = decide (z < 0) := by unfold mk; rw [if_neg hz]
 have hsm := zhv z e (TK m z e (zh f z.natAbs e)) (zh f z.natAbs e) (by omega)
 have hok := fun hq hw => zmK (f := f) (m := m) (s := decide (z < 0)) (n := z.natAbs) (e := e) h hq hw
 have hz0 := fun hq => zls (f := f) (m := m) (s := decide (z < 0)) (n := z.natAbs) (e := e) h hza hq
 have eRS : zt f m (decide (z < 0)) z.natAbs e = if (bl (R m (decide (z < 0)) z.natAbs e (zh f z.natAbs e)) : Int) + zh f z.natAbs e > wd f then ((zcv f m (decide (z < 0)) : Int), 20)
  else ((((if R m (decide (z < 0)) z.natAbs e (zh f z.natAbs e) = 0 then 0 else zbj f (R m (decide (z < 0)) z.natAbs e (zh f z.natAbs e)) (zh f z.natAbs e)) + sgn f (decide (z < 0)) : Nat) : Int),
  if exR z.natAbs e (zh f z.natAbs e) = true then 0
  else if (bl (R m (decide (z < 0)) z.natAbs e (e + (bl z.natAbs : Nat) - (pr f : Nat))) : Int) + (e + (bl z.natAbs : Nat) - (pr f : Nat)) < lo f + (pr f : Nat) then 24 else 16) := rfl
 rw [eRS]
 clear eRS
 refine zf ?_
 simp only [zbq.j1]
 refine Ev.bind (t1) ?_; try dsimp only
 refine Ev.bind (tp1) ?_; try dsimp only
 refine zi (zj0 h) ?_; try dsimp only
 have cT : ((if R m (decide (z < 0)) z.natAbs e (zh f z.natAbs e) = 0 then 0 else zh f z.natAbs e + (bl (R m (decide (z < 0)) z.natAbs e (zh f z.natAbs e)) : Nat)) > wd f) ↔ ((bl (R m (decide (z < 0)) z.natAbs e (zh f z.natAbs e)) : Int) + zh f z.natAbs e > wd f) := by
  by_cases c : R m (decide (z < 0)) z.natAbs e (zh f z.natAbs e) = 0
  ·have := hz0 c
   have b0 : bl 0 = 0 := zaz
   rw [if_pos c, c, b0]; omega
  ·rw [if_neg c]; omega
 by_cases c : ((bl (R m (decide (z < 0)) z.natAbs e (zh f z.natAbs e)) : Int) + zh f z.natAbs e > wd f)
 ·rw [if_pos c]
  refine zd (cT.2 c) ?_
  rw [hs]
  refine Ev.bind (zor h m (decide (z < 0))) ?_; try dsimp only
  exact Ev.now _
 rw [if_neg c]
 refine ze (fun h => c (cT.1 h)) ?_
 clear cT
 have hword : Ev (fun k => zat.f k f false (mk (TK m z e (zh f z.natAbs e)) (zh f z.natAbs e)).2.1 (mk (TK m z e (zh f z.natAbs e)) (zh f z.natAbs e)).2.2) ((((if R m (decide (z < 0)) z.natAbs e (zh f z.natAbs e) = 0 then 0 else zbj f (R m (decide (z < 0)) z.natAbs e (zh f z.natAbs e)) (zh f z.natAbs e)) : Nat) : Int), true) ∧ (if R m (decide (z < 0)) z.natAbs e (zh f z.natAbs e) = 0 then 0 else zbj f (R m (decide (z < 0)) z.natAbs e (zh f z.natAbs e)) (zh f z.natAbs e)) < sg f := by
  have hab := zfB m z e (zh f z.natAbs e)
  have hil := zdh h
  have hp := zj (fb f)
  by_cases cq : R m (decide (z < 0)) z.natAbs e (zh f z.natAbs e) = 0
  ·rw [if_pos cq]
   refine ⟨?_, (zbw h).1⟩
   have : TK m z e (zh f z.natAbs e) = 0 := (zfC m z e _).2 cq
   rw [this, zjm]
   unfold zat.f
   exact zi (a := 0) rfl (zd rfl (Ev.now _))
  ·rw [if_neg cq]
   obtain ⟨o1, o2, o3⟩ := hok cq c
   have hT : TK m z e (zh f z.natAbs e) ≠ 0 := fun h => cq ((zfC m z e _).1 h)
   have hmk : mk (TK m z e (zh f z.natAbs e)) (zh f z.natAbs e) = (decide (TK m z e (zh f z.natAbs e) < 0), D (R m (decide (z < 0)) z.natAbs e (zh f z.natAbs e) / 2 ^ lw (R m (decide (z < 0)) z.natAbs e (zh f z.natAbs e))), zh f z.natAbs e + (lw (R m (decide (z < 0)) z.natAbs e (zh f z.natAbs e)) : Nat)) := by
    unfold mk; rw [if_neg hT, hab]
   have hdy := z8 (TK m z e (zh f z.natAbs e)) (zh f z.natAbs e)
   rw [hmk] at hdy ⊢
   have hne : D (R m (decide (z < 0)) z.natAbs e (zh f z.natAbs e) / 2 ^ lw (R m (decide (z < 0)) z.natAbs e (zh f z.natAbs e))) ≠ [] := by
    intro h0
    have h1 : V (D (R m (decide (z < 0)) z.natAbs e (zh f z.natAbs e) / 2 ^ lw (R m (decide (z < 0)) z.natAbs e (zh f z.natAbs e)))) = 0 := by rw [h0]; rfl
    rw [V_D] at h1
    have h2 := zgp cq
    rw [h1, zaz] at h2
    have := zdL cq
    omega
   have hd0 : Dy false (D (R m (decide (z < 0)) z.natAbs e (zh f z.natAbs e) / 2 ^ lw (R m (decide (z < 0)) z.natAbs e (zh f z.natAbs e)))) (zh f z.natAbs e + (lw (R m (decide (z < 0)) z.natAbs e (zh f z.natAbs e)) : Nat)) := ⟨hdy.nm, fun h => absurd h hne, hdy.odd⟩
   have := zop h hd0 hne (by rw [V_D]; exact o1) o2 (by rw [V_D]; exact o3)
   rw [V_D] at this
   have hlt := (zgY h (n := R m (decide (z < 0)) z.natAbs e (zh f z.natAbs e) / 2 ^ lw (R m (decide (z < 0)) z.natAbs e (zh f z.natAbs e))) o1 o2 o3).1
   refine ⟨zg this ?_, ?_⟩
   ·show ((((enc f _ _ + 0 : Nat)) : Int), true) = _
    rw [Nat.add_zero]; rfl
   ·unfold zbj; omega
 have hab2 : zeS.f (mk (TK m z e (zh f z.natAbs e)) (zh f z.natAbs e)).1 (mk (TK m z e (zh f z.natAbs e)) (zh f z.natAbs e)).2.1 (mk (TK m z e (zh f z.natAbs e)) (zh f z.natAbs e)).2.2 = some (false, (mk (TK m z e (zh f z.natAbs e)) (zh f z.natAbs e)).2.1, (mk (TK m z e (zh f z.natAbs e)) (zh f z.natAbs e)).2.2) := rfl
 refine zi (hab2) ?_; try dsimp only
 refine Ev.bind (hword.1) ?_; try dsimp only
 rw [hs]
 refine zi (zhx h _ _) ?_; try dsimp only
 rw [Nat.mod_eq_of_lt hword.2]
 rw [hs] at hsm t2
 refine Ev.bind (hsm) ?_; try dsimp only
 cases cx : exR z.natAbs e (zh f z.natAbs e)
 ·refine ze (by rw [decide_eq_false (fun h => by have := zib.1 h; rw [cx] at this; cases this)]; simp) ?_
  rw [if_neg Bool.false_ne_true]
  refine Ev.bind (t2) ?_; try dsimp only
  refine Ev.bind (tp2) ?_; try dsimp only
  refine zi (zdT h) ?_; try dsimp only
  have w1 : wrap64 (lo f + ((pr f : Nat) : Int)) = lo f + ((pr f : Nat) : Int) := by unfold wrap64; omega
  rw [w1]
  clear w1
  have hne : R m (decide (z < 0)) z.natAbs e (e + (bl z.natAbs : Nat) - (pr f : Nat)) ≠ 0 := by
   intro h0
   rw [h0, zaz] at hfine
   omega
  rw [if_neg hne]
  by_cases cu : (bl (R m (decide (z < 0)) z.natAbs e (e + (bl z.natAbs : Nat) - (pr f : Nat))) : Int) + (e + (bl z.natAbs : Nat) - (pr f : Nat)) < lo f + (pr f : Nat)
  ·rw [if_pos cu]
   refine zd (by omega) ?_
   exact Ev.now _
  ·rw [if_neg cu]
   refine ze (by omega) ?_
   exact Ev.now _
 ·refine zd (decide_eq_true (zib.2 cx)) ?_
  rw [if_pos rfl]
  exact Ev.now _
theorem zhu {f m : Int} (h : isF f) (hm : isM m) {z e : Int} (hz : z ≠ 0) (hb : bl z.natAbs ≤ 3000000) (h1 : -900000 ≤ e) (h2 : e ≤ 900000) :
  Ev (fun k => zbq.f k f m (mk z e).1 (mk z e).2.1 (mk z e).2.2) (zt f m (decide (z < 0)) z.natAbs e) := by
 have hl := zbT h
 have hpr := zR h
 have hfb := zaw h
 have j := zou h hm hz hb h1 h2
 have tp := zgf (z := z) (e := e) ⟨by omega, by omega, by omega⟩
 have et : top z e = e + (bl z.natAbs : Nat) := by unfold top; rw [if_neg hz]
 rw [et] at tp
 have hu : zh f z.natAbs e = max (e + (bl z.natAbs : Nat) - (pr f : Nat)) (lo f) := rfl
 unfold zbq.f
 refine zi (zov z e) ?_; try dsimp only
 refine ze (fun h => hz (by rcases zce z with ⟨_, c⟩ | ⟨c, _⟩ | ⟨_, c⟩ <;> omega)) ?_
 refine zi (zdS h) ?_; try dsimp only
 refine Ev.bind (tp) ?_; try dsimp only
 refine zi (zdT h) ?_; try dsimp only
 have w1 : wrap64 ((fb f : Int) + 1) = ((pr f : Nat) : Int) := by unfold wrap64; omega
 rw [w1]
 clear w1
 have w2 : wrap64 (e + ((bl z.natAbs : Nat) : Int) - ((pr f : Nat) : Int)) = e + ((bl z.natAbs : Nat) : Int) - ((pr f : Nat) : Int) := by unfold wrap64; omega
 rw [w2]
 clear w2
 by_cases c : e + ((bl z.natAbs : Nat) : Int) - ((pr f : Nat) : Int) < lo f
 ·refine zd c ?_
  refine zi (zdT h) ?_; try dsimp only
  have : lo f = zh f z.natAbs e := by omega
  rw [this]
  exact j
 ·refine ze c ?_
  have : zh f z.natAbs e = e + ((bl z.natAbs : Nat) : Int) - ((pr f : Nat) : Int) := by omega
  rw [this] at j
  exact j
def bN (b : Bool) : Nat := if b = true then 1 else 0
theorem zoR {m : Int} {s : Bool} {n k n' k' : Nat} (h1 : n / 2 ^ k = n' / 2 ^ k') (h2 : 2 ^ k ≤ 2 * (n % 2 ^ k) ↔ 2 ^ k' ≤ 2 * (n' % 2 ^ k')) (h3 : 2 * (n % 2 ^ k) % 2 ^ k = 0 ↔ 2 * (n' % 2 ^ k') % 2 ^ k' = 0) : rnd m s n k = rnd m s n' k' := by
 unfold rnd
 rw [h1, decide_eq_decide.2 h2, decide_eq_decide.2 (show 2 * (n % 2 ^ k) % 2 ^ k ≠ 0 ↔ 2 * (n' % 2 ^ k') % 2 ^ k' ≠ 0 from not_congr h3)]
theorem zgT {x M : Nat} (h : x < M) : 2 * x % M = 0 ↔ x = 0 ∨ 2 * x = M := by
 by_cases c : 2 * x < M
 ·rw [Nat.mod_eq_of_lt c]; omega
 ·have : 2 * x % M = 2 * x - M := by rw [Nat.mod_eq_sub_mod (by omega), Nat.mod_eq_of_lt (by omega)]
  rw [this]; omega
theorem zex {H j r d : Nat} (hr : r < 2 ^ j) : (H * 2 ^ j + r) / 2 ^ (d + j) = H / 2 ^ d ∧ (H * 2 ^ j + r) % 2 ^ (d + j) = H % 2 ^ d * 2 ^ j + r := by
 have := zdY (X := H) (P := 2 ^ j) (Q := 2 ^ d) (c := r) (zj j) hr
 rw [Nat.pow_add, Nat.mul_comm (2 ^ d)]
 exact ⟨this.1, by rw [this.2, Nat.mul_comm]⟩
theorem zkh (m : Int) (s : Bool) {H j r d : Nat} (hr : r < 2 ^ j) (hd : 1 ≤ d) : rnd m s (H * 2 ^ j + r) (d + j) = rnd m s (2 * H + bN (decide (r ≠ 0))) (d + 1) := by
 have hb : bN (decide (r ≠ 0)) < 2 ^ 1 := by unfold bN; split <;> omega
 have hb0 : bN (decide (r ≠ 0)) = 0 ↔ r = 0 := by
  unfold bN
  by_cases c : r = 0
  ·simp [c]
  ·simp [c]
 have e0 : 2 * H + bN (decide (r ≠ 0)) = H * 2 ^ 1 + bN (decide (r ≠ 0)) := by omega
 rw [e0]
 generalize bN (decide (r ≠ 0)) = b at *
 obtain ⟨a1, a2⟩ := zex (H := H) (d := d) hr
 obtain ⟨b1, b2⟩ := zex (H := H) (d := d) hb
 have hh := Nat.mod_lt H (zj d)
 have hj := zj j
 obtain ⟨d', rfl⟩ : ∃ d', d = d' + 1 := ⟨d - 1, by omega⟩
 have he : 2 ^ (d' + 1) = 2 * 2 ^ d' := by rw [Nat.pow_succ, Nat.mul_comm]
 refine zoR (by rw [a1, b1]) ?_ ?_
 ·rw [a2, b2, Nat.pow_add 2 (d' + 1) j, Nat.pow_add 2 (d' + 1) 1, he]
  rw [he] at hh
  generalize H % (2 * 2 ^ d') = h at *
  generalize 2 ^ d' = p at *
  generalize 2 ^ j = q at *
  constructor
  ·intro h1
   rcases Nat.lt_or_ge h p with c | c
   ·exfalso
    have h2 : (h + 1) * q ≤ p * q := Nat.mul_le_mul_right _ c
    rw [Nat.add_mul, Nat.one_mul] at h2
    rw [Nat.mul_assoc] at h1
    omega
   ·omega
  ·intro h1
   have h2 : p * q ≤ h * q := Nat.mul_le_mul_right _ (by omega)
   rw [Nat.mul_assoc]; omega
 ·have l1 : H % 2 ^ (d' + 1) * 2 ^ j + r < 2 ^ (d' + 1 + j) := by
   rw [Nat.pow_add 2 (d' + 1) j]
   have h2 : (H % 2 ^ (d' + 1) + 1) * 2 ^ j ≤ 2 ^ (d' + 1) * 2 ^ j := Nat.mul_le_mul_right _ hh
   rw [Nat.add_mul, Nat.one_mul] at h2
   omega
  have l2 : H % 2 ^ (d' + 1) * 2 ^ 1 + b < 2 ^ (d' + 1 + 1) := by rw [Nat.pow_add 2 (d' + 1) 1]; omega
  rw [a2, b2, zgT l1, zgT l2, Nat.pow_add 2 (d' + 1) j, Nat.pow_add 2 (d' + 1) 1, he]
  rw [he] at hh
  generalize H % (2 * 2 ^ d') = h at *
  generalize 2 ^ d' = p at *
  generalize 2 ^ j = q at *
  constructor
  ·rintro (h1 | h1)
   ·have h2 : h * q = 0 := by omega
    rcases Nat.mul_eq_zero.1 h2 with h3 | h3
    ·left; have := hb0.2 (by omega); omega
    ·omega
   ·right
    rw [Nat.mul_assoc] at h1
    rcases Nat.lt_trichotomy h p with c | c | c
    ·have h2 : (h + 1) * q ≤ p * q := Nat.mul_le_mul_right _ c
     rw [Nat.add_mul, Nat.one_mul] at h2
     omega
    ·subst c
     have := hb0.2 (by omega)
     omega
    ·have h2 : (p + 1) * q ≤ h * q := Nat.mul_le_mul_right _ c
     rw [Nat.add_mul, Nat.one_mul] at h2
     omega
  ·rintro (h1 | h1)
   ·left
    have h2 : h = 0 := by omega
    have h3 := hb0.1 (by omega)
    rw [h2, h3]; omega
   ·right
    have h2 : h = p := by omega
    have h3 := hb0.1 (by omega)
    rw [h2, h3, Nat.mul_assoc]; omega
theorem ziV {H j r d : Nat} (hr : r < 2 ^ j) : (H * 2 ^ j + r) % 2 ^ (d + j) = 0 ↔ (2 * H + bN (decide (r ≠ 0))) % 2 ^ (d + 1) = 0 := by
 have hb : bN (decide (r ≠ 0)) < 2 ^ 1 := by unfold bN; split <;> omega
 have hb0 : bN (decide (r ≠ 0)) = 0 ↔ r = 0 := by
  unfold bN
  by_cases c : r = 0
  ·simp [c]
  ·simp [c]
 have e0 : 2 * H + bN (decide (r ≠ 0)) = H * 2 ^ 1 + bN (decide (r ≠ 0)) := by omega
 rw [e0]
 generalize bN (decide (r ≠ 0)) = b at *
 rw [(zex (H := H) (d := d) hr).2, (zex (H := H) (d := d) hb).2]
 have hj := zj j
 constructor
 ·intro h
  have h2 : H % 2 ^ d * 2 ^ j = 0 := by omega
  rcases Nat.mul_eq_zero.1 h2 with h3 | h3
  ·have := hb0.2 (by omega); omega
  ·omega
 ·intro h
  have h2 : H % 2 ^ d = 0 := by omega
  have h3 := hb0.1 (by omega)
  rw [h2, h3]; omega
def UP (m : Int) (s : Bool) (H : Nat) (T : Int) (b : Bool) (E : Int) : Nat := rnd m s (2 * H + bN b) ((E - T + 64).toNat + 1)
def XP (H : Nat) (T : Int) (b : Bool) (E : Int) : Bool := decide ((2 * H + bN b) % 2 ^ ((E - T + 64).toNat + 1) = 0)
def zT (n : Nat) : Nat := n * 2 ^ (64 - bl n) / 2 ^ (bl n - 64)
def zbt (n : Nat) : Bool := decide (n % 2 ^ (bl n - 64) ≠ 0)
theorem ziZ {n : Nat} (h : n ≠ 0) : 2 ^ 63 ≤ zT n ∧ zT n < 2 ^ 64 := by
 have h1 := zU n
 have h2 := zcE h
 have hp := zbx h
 unfold zT
 by_cases c : bl n ≤ 64
 ·have e1 : bl n - 64 = 0 := by omega
  rw [e1, Nat.pow_zero, Nat.div_one]
  have h3 : 2 ^ (bl n - 1) * 2 ^ (64 - bl n) ≤ n * 2 ^ (64 - bl n) := Nat.mul_le_mul_right _ h2
  have h4 : n * 2 ^ (64 - bl n) < 2 ^ bl n * 2 ^ (64 - bl n) := Nat.mul_lt_mul_of_pos_right h1 (zj _)
  rw [← Nat.pow_add] at h3 h4
  rw [show bl n - 1 + (64 - bl n) = 63 by omega] at h3
  rw [show bl n + (64 - bl n) = 64 by omega] at h4
  exact ⟨h3, h4⟩
 ·have e1 : 64 - bl n = 0 := by omega
  rw [e1, Nat.pow_zero, Nat.mul_one]
  constructor
  ·rw [Nat.le_div_iff_mul_le (zj _), ← Nat.pow_add, show 63 + (bl n - 64) = bl n - 1 by omega]; exact h2
  ·rw [Nat.div_lt_iff_lt_mul (zj _), ← Nat.pow_add, show 64 + (bl n - 64) = bl n by omega]; exact h1
theorem zlw (m : Int) (s : Bool) {n : Nat} (hn : n ≠ 0) {e E : Int} (h : 1 ≤ E - (e + (bl n : Nat)) + 64) : UP m s (zT n) (e + (bl n : Nat)) (zbt n) E = R m s n e E ∧ XP (zT n) (e + (bl n : Nat)) (zbt n) E = exR n e E := by
 have hp := zbx hn
 generalize hd : (E - (e + (bl n : Nat)) + 64).toNat = d
 by_cases c : 64 ≤ bl n
 ·have e1 : 64 - bl n = 0 := by omega
  have hH : zT n = n / 2 ^ (bl n - 64) := by unfold zT; rw [e1, Nat.pow_zero, Nat.mul_one]
  have hsp : n = zT n * 2 ^ (bl n - 64) + n % 2 ^ (bl n - 64) := by
   rw [hH]
   have := Nat.div_add_mod n (2 ^ (bl n - 64))
   rw [Nat.mul_comm] at this
   exact this.symm
  have hr := Nat.mod_lt n (zj (bl n - 64))
  have hk : (E - e).toNat = d + (bl n - 64) := by omega
  have hz : (e - E).toNat = 0 := by omega
  have st := zkh m s (H := zT n) (d := d) hr (by omega)
  have ex := ziV (H := zT n) (d := d) hr
  rw [← hsp] at st ex
  unfold UP XP R exR zbt
  rw [hd, hk, hz, Nat.pow_zero, Nat.mul_one]
  exact ⟨st.symm, decide_eq_decide.2 ex.symm⟩
 ·have e1 : bl n - 64 = 0 := by omega
  have hH : zT n = n * 2 ^ (64 - bl n) := by unfold zT; rw [e1, Nat.pow_zero, Nat.div_one]
  have hm : zbt n = false := by unfold zbt; rw [e1, Nat.pow_zero, Nat.mod_one]; rfl
  have hR := zh9 m s n (e - (64 - bl n : Nat)) E (64 - bl n)
  have hX := ziU n (e - (64 - bl n : Nat)) E (64 - bl n)
  rw [show e - ((64 - bl n : Nat) : Int) + ((64 - bl n : Nat) : Int) = e by omega, ← hH] at hR hX
  rw [← hR, ← hX, hm]
  unfold UP XP R exR bN
  rw [if_neg (by simp), Nat.add_zero, hd, show (e - ((64 - bl n : Nat) : Int) - E).toNat = 0 by omega, show (E - (e - ((64 - bl n : Nat) : Int))).toNat = d by omega, Nat.pow_zero, Nat.mul_one]
  have := zhI m s (zT n) d 1
  rw [Nat.pow_one, Nat.mul_comm] at this
  refine ⟨this, ?_⟩
  apply decide_eq_decide.2
  rw [Nat.pow_succ, Nat.mul_comm 2, Nat.mul_mod_mul_right]
  omega
theorem zk6 (m : Int) (s odd zae more : Bool) : zdX.f m s odd zae more = some (upB m s odd zae more) := by
 unfold zdX.f upB
 by_cases c1 : m = 1
 ·rw [if_pos c1, if_pos c1]; cases more <;> cases odd <;> cases zae <;> rfl
 rw [if_neg c1, if_neg c1]
 by_cases c2 : m = 2
 ·rw [if_pos c2, if_pos c2]
 rw [if_neg c2, if_neg c2]
 by_cases c4 : m = 4
 ·rw [if_pos c4, if_pos c4]; cases s <;> cases zae <;> cases more <;> rfl
 rw [if_neg c4, if_neg c4]
 by_cases c5 : m = 5
 ·rw [if_pos c5, if_pos c5]; cases s <;> cases zae <;> cases more <;> rfl
 ·rw [if_neg c5, if_neg c5]
theorem ziu (b : Bool) : zev.f b = some (bN b : Int) := by cases b <;> rfl
theorem ziq (a : Nat) (ha : a < 18446744073709551616) : Go.bits .and .u64 (a : Int) 1 = ((a % 2 : Nat) : Int) := zir a 1 ha (by omega)
theorem zk3 (m : Int) (s : Bool) {W : Nat} (hW : W < 9223372036854775808) (zae more : Bool) : Ev (fun k => zay.j2 k m s (W : Int) zae more) (((W + bN (upB m s (decide (W % 2 = 1)) zae more) : Nat) : Int), !zae && !more) := by
 have hb : bN (upB m s (decide (W % 2 = 1)) zae more) ≤ 1 := by unfold bN; split <;> omega
 refine zf ?_
 simp only [zay.j2]
 rw [ziq W (by omega)]
 have e1 : decide (((W % 2 : Nat) : Int) = 1) = decide (W % 2 = 1) := decide_eq_decide.2 (by omega)
 rw [e1]
 refine zi (zk6 _ _ _ _ _) ?_; try dsimp only
 refine zi (ziu _) ?_; try dsimp only
 rw [← Int.natCast_add, za1 (by omega)]
 cases zae
 ·exact zd rfl (Ev.now _)
 ·exact ze (by simp) (Ev.now _)
theorem zlP {H d : Nat} (b : Bool) (hd : 1 ≤ d) : (2 * H + bN b) / 2 ^ (d + 1) = H / 2 ^ d ∧
  decide (2 ^ (d + 1) ≤ 2 * ((2 * H + bN b) % 2 ^ (d + 1))) = decide (H / 2 ^ (d - 1) % 2 = 1) ∧
  decide (2 * ((2 * H + bN b) % 2 ^ (d + 1)) % 2 ^ (d + 1) ≠ 0) = (b || decide (H % 2 ^ (d - 1) ≠ 0)) ∧
  decide ((2 * H + bN b) % 2 ^ (d + 1) = 0) = (!decide (H / 2 ^ (d - 1) % 2 = 1) && !(b || decide (H % 2 ^ (d - 1) ≠ 0))) := by
 have hb : bN b < 2 ^ 1 := by unfold bN; split <;> omega
 have hb0 : bN b = 0 ↔ b = false := by unfold bN; cases b <;> simp
 have hb1 : bN b ≤ 1 := by unfold bN; split <;> omega
 obtain ⟨d', rfl⟩ : ∃ d', d = d' + 1 := ⟨d - 1, by omega⟩
 have hs := zex (H := H) (d := d' + 1) hb
 have e0 : H * 2 ^ 1 + bN b = 2 * H + bN b := by omega
 rw [e0] at hs
 have hm : H % 2 ^ (d' + 1) = H % 2 ^ d' + 2 ^ d' * (H / 2 ^ d' % 2) := by rw [Nat.pow_succ, Nat.mod_mul]
 have hl := Nat.mod_lt H (zj d')
 have h2 : H / 2 ^ d' % 2 = 0 ∨ H / 2 ^ d' % 2 = 1 := by omega
 have hp : 2 ^ (d' + 1 + 1) = 4 * 2 ^ d' := by rw [Nat.pow_succ, Nat.pow_succ]; omega
 have hx : H % 2 ^ (d' + 1) * 2 ^ 1 + bN b < 4 * 2 ^ d' := by
  rw [hm]; rcases h2 with h | h <;> rw [h] <;> omega
 rw [hs.1, hs.2, hp]
 rw [show d' + 1 - 1 = d' from rfl]
 refine ⟨rfl, ?_, ?_, ?_⟩
 ·apply decide_eq_decide.2
  rw [hm]; rcases h2 with h | h <;> rw [h] <;> constructor <;> intro h3 <;> omega
 ·have e3 : (b || decide (H % 2 ^ d' ≠ 0)) = decide (¬ (bN b = 0 ∧ H % 2 ^ d' = 0)) := by
   by_cases c : H % 2 ^ d' = 0
   ·cases b <;> simp [c, bN]
   ·cases b <;> simp [c, bN]
  rw [e3]
  apply decide_eq_decide.2
  apply not_congr
  rw [zgT hx, hm]
  rcases h2 with h | h <;> rw [h] <;> constructor
  ·rintro (h3 | h3) <;> omega
  ·rintro ⟨h3, h4⟩; left; omega
  ·rintro (h3 | h3) <;> omega
  ·rintro ⟨h3, h4⟩; right; omega
 ·have e3 : (!decide (H / 2 ^ d' % 2 = 1) && !(b || decide (H % 2 ^ d' ≠ 0))) = decide (¬ (H / 2 ^ d' % 2 = 1) ∧ (bN b = 0 ∧ H % 2 ^ d' = 0)) := by
   by_cases c : H % 2 ^ d' = 0
   ·rcases h2 with h | h <;> cases b <;> simp [c, h, bN]
   ·rcases h2 with h | h <;> cases b <;> simp [c, h, bN]
  rw [e3]
  apply decide_eq_decide.2
  rw [hm]
  rcases h2 with h | h <;> rw [h] <;> constructor <;> intro h3 <;> omega
theorem zk2 (m : Int) (s : Bool) {H : Nat} (hH : 2 ^ 63 ≤ H ∧ H < 2 ^ 64) {T E : Int} (b : Bool) (hd : 1 ≤ E - T + 64) (h1 : -1000000000 ≤ T) (h2 : T ≤ 1000000000) (h3 : -1000000000 ≤ E) (h4 : E ≤ 1000000000) :
  Ev (fun k => zay.f k (H : Int) T b m s E) ((UP m s H T b E : Int), XP H T b E) := by
 have ew : wrap64 (wrap64 (E - T) + 64) = E - T + 64 := by unfold wrap64; omega
 unfold zay.f
 rw [ew]
 clear ew
 obtain ⟨d, hdd⟩ := Int.eq_ofNat_of_zero_le (show 0 ≤ E - T + 64 by omega)
 have hdn : (E - T + 64).toNat = d := by omega
 unfold UP XP
 rw [hdn, hdd]
 rw [hdd] at hd
 clear hdn hdd
 have hd1 : 1 ≤ d := by omega
 have hbb : bN b ≤ 1 := by unfold bN; split <;> omega
 by_cases c : d > 64
 ·have hp : 2 ^ 66 ≤ 2 ^ (d + 1) := Nat.pow_le_pow_right (by omega) (by omega)
  have e1 : rnd m s (2 * H + bN b) (d + 1) = bN (upB m s false false true) := by
   unfold rnd
   rw [Nat.div_eq_of_lt (by omega), Nat.mod_eq_of_lt (a := 2 * H + bN b) (by omega), Nat.mod_eq_of_lt (a := 2 * (2 * H + bN b)) (by omega)]
   rw [decide_eq_false (by omega : ¬ (0 % 2 = 1)), decide_eq_false (by omega : ¬ (2 ^ (d + 1) ≤ 2 * (2 * H + bN b))), decide_eq_true (by omega : 2 * (2 * H + bN b) ≠ 0), Nat.zero_add]
   rfl
  have e2 : decide ((2 * H + bN b) % 2 ^ (d + 1) = 0) = false := decide_eq_false (by rw [Nat.mod_eq_of_lt (by omega)]; omega)
  rw [e1, e2]
  refine zd (by omega) ?_
  refine zi (zk6 _ _ _ _ _) ?_; try dsimp only
  refine zi (ziu _) ?_; try dsimp only
  exact Ev.now _
 refine ze (by omega) ?_
 obtain ⟨a1, a2, a3, a4⟩ := zlP (H := H) b hd1
 have e1 : rnd m s (2 * H + bN b) (d + 1) = H / 2 ^ d + bN (upB m s (decide (H / 2 ^ d % 2 = 1)) (decide (H / 2 ^ (d - 1) % 2 = 1)) (b || decide (H % 2 ^ (d - 1) ≠ 0))) := by
  unfold rnd
  rw [a1, a2, a3]; rfl
 rw [e1, a4]
 clear a1 a2 a3 a4 e1
 have hW : H / 2 ^ d < 9223372036854775808 := by
  rw [Nat.div_lt_iff_lt_mul (zj d)]
  have : 2 ^ 1 ≤ 2 ^ d := Nat.pow_le_pow_right (by omega) hd1
  have := Nat.mul_le_mul_left 9223372036854775808 this
  omega
 have last : Ev (fun k => zay.j1 k m s (H : Int) T b (d : Int) ((H / 2 ^ d : Nat) : Int) false b) (((H / 2 ^ d + bN (upB m s (decide (H / 2 ^ d % 2 = 1)) (decide (H / 2 ^ (d - 1) % 2 = 1)) (b || decide (H % 2 ^ (d - 1) ≠ 0))) : Nat) : Int), (!decide (H / 2 ^ (d - 1) % 2 = 1) && !(b || decide (H % 2 ^ (d - 1) ≠ 0)))) := by
  have ew : wrap64 ((d : Int) - 1) = ((d - 1 : Nat) : Int) := by unfold wrap64; omega
  have hp64 : 2 ^ (d - 1) ≤ 2 ^ 63 := Nat.pow_le_pow_right (by omega) (by omega)
  have hpp := zj (d - 1)
  have hq : H / 2 ^ (d - 1) ≤ H := Nat.div_le_self _ _
  refine zf ?_
  simp only [zay.j1]
  rw [ew]
  clear ew
  rw [zcS H (d - 1) (by show d - 1 ≤ 64; omega), ziq _ (by omega)]
  have e2 : decide (((H / 2 ^ (d - 1) % 2 : Nat) : Int) = 1) = decide (H / 2 ^ (d - 1) % 2 = 1) := decide_eq_decide.2 (by omega)
  have e3 : shl .u64 1 ((d - 1 : Nat) : Int) = ((2 ^ (d - 1) : Nat) : Int) := by
   have := zgk (X := 1) (s := d - 1) (by omega) (by omega)
   rw [Nat.one_mul] at this
   exact this
  have e4 : IntKind.u64.wrap (((2 ^ (d - 1) : Nat) : Int) - 1) = ((2 ^ (d - 1) - 1 : Nat) : Int) := by
   rw [show ((2 ^ (d - 1) : Nat) : Int) - 1 = ((2 ^ (d - 1) - 1 : Nat) : Int) by omega]
   exact za1 (by omega)
  have e5 : decide (¬ (((H % 2 ^ (d - 1) : Nat) : Int) = 0)) = decide (H % 2 ^ (d - 1) ≠ 0) := decide_eq_decide.2 (by omega)
  rw [e2, e3, e4, zir H (d - 1) (by omega) (by omega), e5]
  refine zd (by omega) (zd (by omega) ?_)
  cases b
  ·refine ze (by simp) (zd (by omega) ?_)
   exact zk3 m s hW _ _
  ·refine zd rfl ?_
   exact zk3 m s hW _ _
 by_cases c2 : d < 64
 ·refine zd (by omega) (zd (by omega) ?_)
  rw [zcS H d (by show d ≤ 64; omega)]
  exact last
 ·have zT : d = 64 := by omega
  have e0 : H / 2 ^ d = 0 := Nat.div_eq_of_lt (by rw [zT]; exact hH.2)
  refine ze (by omega) ?_
  rw [e0] at last ⊢
  exact last
def zcR (f m : Int) (s : Bool) (T : Int) (U : Int → Nat) (X : Int → Bool) : Int × Int :=
 if (bl (U (max (T - (pr f : Nat)) (lo f))) : Int) + max (T - (pr f : Nat)) (lo f) > wd f then ((zcv f m s : Int), 20)
 else ((((if U (max (T - (pr f : Nat)) (lo f)) = 0 then 0 else zbj f (U (max (T - (pr f : Nat)) (lo f))) (max (T - (pr f : Nat)) (lo f))) + sgn f s : Nat) : Int),
  if X (max (T - (pr f : Nat)) (lo f)) = true then 0
  else if (bl (U (T - (pr f : Nat))) : Int) + (T - (pr f : Nat)) < lo f + (pr f : Nat) then 24 else 16)
theorem zgi (f m : Int) (s : Bool) (n : Nat) (e : Int) : zcR f m s (e + (bl n : Nat)) (R m s n e) (exR n e) = zt f m s n e := rfl
theorem zhJ {f m : Int} {s : Bool} {T : Int} {U U' : Int → Nat} {X X' : Int → Bool} (h : ∀ E, T - (pr f : Nat) ≤ E → U E = U' E ∧ X E = X' E) : zcR f m s T U X = zcR f m s T U' X' := by
 unfold zcR
 rw [(h (max (T - (pr f : Nat)) (lo f)) (by omega)).1, (h (max (T - (pr f : Nat)) (lo f)) (by omega)).2, (h (T - (pr f : Nat)) (by omega)).1]
theorem zfV {f : Int} (h : isF f) : zdW.f f = some ((pr f : Int), lo f, wd f, true) := by rcases h with rfl | rfl <;> rfl
theorem zmU {f : Int} (h : ¬ isF f) : zdW.f f = some (0, 0, 0, false) := by
 unfold zdW.f
 rw [if_neg (fun e => h (.inl e)), if_neg (fun e => h (.inr e))]
def fmE (f m : Int) : Int := if isF f then (if isM m then 0 else 5) else 4
theorem znO {f m : Int} (h : isF f) (hm : isM m) : Ev (fun k => zI.f k f m []) ((pr f : Int), lo f, wd f, 0) := by
 unfold zI.f
 unfold isM at hm
 refine zi (zfV h) ?_; try dsimp only
 refine ze (by simp) (ze (by omega) (ze (by omega) ?_))
 refine zf ?_
 simp only [zI.l0]
 exact ze (by simp) (Ev.now _)
theorem znN {f m : Int} (h : fmE f m ≠ 0) : ∃ r : Int × Int × Int × Int, r.2.2.2 = fmE f m ∧ Ev (fun k => zI.f k f m []) r ∧ ∀ d, Ev (fun k => zI.f k f m [d]) r := by
 unfold fmE at *
 by_cases c : isF f
 ·rw [if_pos c] at h ⊢
  by_cases hm : isM m
  ·rw [if_pos hm] at h; exact absurd rfl h
  ·rw [if_neg hm]
   unfold isM at hm
   have : ∀ l, Ev (fun k => zI.f k f m l) ((pr f : Int), lo f, wd f, 5) := by
    intro l
    unfold zI.f
    refine zi (zfV c) ?_; try dsimp only
    refine ze (by simp) ?_
    by_cases c : m < 1
    ·exact zd c (Ev.now _)
    ·exact ze c (zd (by omega) (Ev.now _))
   exact ⟨((pr f : Int), lo f, wd f, 5), rfl, this _, fun d => this _⟩
 ·rw [if_neg c]
  have : ∀ l, Ev (fun k => zI.f k f m l) (0, 0, 0, 4) := by
   intro l
   unfold zI.f
   refine zi (zmU c) ?_; try dsimp only
   exact zd (by simp) (Ev.now _)
  exact ⟨(0, 0, 0, 4), rfl, this _, fun d => this _⟩
theorem znP {f m : Int} (h : isF f) (hm : isM m) {s : Bool} {l : List Int} {e : Int} (hd : My s l e) : Ev (fun k => zI.f k f m [(s, l, e)]) ((pr f : Int), lo f, wd f, 0) := by
 unfold zI.f
 unfold isM at hm
 refine zi (zfV h) ?_; try dsimp only
 refine ze (by simp) (ze (by omega) (ze (by omega) ?_))
 have e1 : wrap64 (0 + 1) = 1 := by rw [zaE (by omega) (by omega)]; rfl
 have el : (([(s, l, e)] : List (Bool × List Int × Int)).length : Int) = 1 := rfl
 have r0 : rdT [.b, .is .u32, .i .i64] [(s, l, e)] 0 = (s, l, e) := rfl
 refine zf ?_
 simp only [zI.l0, el, e1, r0]
 clear e1
 refine zd (by omega) (zd (by omega) (zd (by omega) ?_))
 refine zi (zdg hd) ?_; try dsimp only
 refine ze (by simp) (zf ?_)
 simp only [zI.l0]
 exact ze (by omega) (Ev.now _)
theorem zlp {f : Int} (h : isF f) (s b : Bool) : Ev (fun k => zai.j1 k f s b) ((((if b = true then mo f * 2 ^ fb f - 1 else mo f * 2 ^ fb f) + sgn f s : Nat) : Int), 0) := by
 refine zf ?_
 simp only [zai.j1]
 cases b
 ·refine ze (by simp) ?_
  refine Ev.bind (zlb h s) ?_; try dsimp only
  exact Ev.now _
 ·refine zd rfl ?_
  refine Ev.bind (zpT h s) ?_; try dsimp only
  exact Ev.now _
theorem zgF {f m : Int} (h : isF f) (hm : isM m) (s : Bool) : Ev (fun k => zai.f k f m s) ((zcv f m s : Int), 0) := by
 have j := fun b => zlp h s b
 unfold zai.f zcv
 refine Ev.bind (znO h hm) ?_; try dsimp only
 refine ze (by simp) ?_
 by_cases c3 : m = 3
 ·refine zd c3 ?_
  have e : inw m s = true := by unfold inw; simp [c3]
  rw [e]; exact j true
 refine ze c3 ?_
 by_cases c4 : m = 4
 ·refine zd c4 ?_
  have e : inw m s = s := by unfold inw; simp [c4]
  rw [e]
  cases s
  ·exact ze (by simp) (ze (by omega) (j false))
  ·exact zd rfl (j true)
 refine ze c4 ?_
 by_cases c5 : m = 5
 ·refine zd c5 ?_
  have e : inw m s = !s := by unfold inw; simp [c5]
  rw [e]; exact j (!s)
 ·refine ze c5 ?_
  have e : inw m s = false := by unfold inw; simp [c3, c4, c5]
  rw [e]; exact j false
theorem zlo {f m : Int} (h : fmE f m ≠ 0) (s : Bool) : Ev (fun k => zai.f k f m s) (0, fmE f m) := by
 obtain ⟨r, hr, ho, _⟩ := znN h
 unfold zai.f
 refine Ev.bind (ho) ?_; try dsimp only
 rw [hr]
 exact zd h (Ev.now _)
theorem zpW {f : Int} (h : isF f) : Ev (fun k => zcW.f k f false [] 0) (0, 0) := by
 have hm : My false [] 0 := ⟨⟨zdB, fun _ => ⟨rfl, rfl⟩, fun h => absurd rfl h⟩, by simp, by omega, by omega⟩
 have hn := zha Dg.nil (by simp)
 have e1 : zbX [] = true := zhe zdB (by simp)
 rw [e1, if_pos rfl] at hn
 have hl := ze3 (x := 0) (by omega)
 have b0 : bl (Int.toNat 0) = 0 := zaz
 rw [b0] at hl
 have hfb := zaw h
 have w1 : wrap64 ((fb f : Int) + 1) = (fb f : Int) + 1 := by unfold wrap64; omega
 unfold zcW.f
 refine Ev.bind (zeC h) ?_; try dsimp only
 refine ze (fun h => h rfl) ?_
 refine zi (zdg hm) ?_; try dsimp only
 refine ze (by simp) ?_
 refine Ev.bind (hn) ?_; try dsimp only
 refine Ev.bind (hl) ?_; try dsimp only
 rw [w1]
 clear w1
 refine ze (by simp) (ze (by omega) (ze (by simp) ?_))
 exact zd rfl (Ev.now _)
theorem zid {m : Int} {s : Bool} {H : Nat} (hH : H < 2 ^ 64) {T E : Int} {b : Bool} {p : Nat} (hp : p ≤ 64) (h : T - (p : Nat) ≤ E) : UP m s H T b E ≤ 2 ^ p := by
 have hb : bN b ≤ 1 := by unfold bN; split <;> omega
 have h1 : (2 * H + bN b) / 2 ^ ((E - T + 64).toNat + 1) < 2 ^ p := by
  rw [Nat.div_lt_iff_lt_mul (zj _), ← Nat.pow_add]
  have : 2 ^ 65 ≤ 2 ^ (p + ((E - T + 64).toNat + 1)) := Nat.pow_le_pow_right (by omega) (by omega)
  omega
 unfold UP rnd
 split <;> omega
theorem zpX {f : Int} (h : isF f) (s : Bool) {q : Nat} {E : Int} (hq : q ≤ 2 ^ pr f) (hE : lo f ≤ E) (hw : (bl q : Int) + E ≤ wd f) (h0 : q ≠ 0) : Ev (fun k => zcW.f k f (mk (sv s q) E).1 (mk (sv s q) E).2.1 (mk (sv s q) E).2.2) (((zbj f q E + sgn f s : Nat) : Int), 0) := by
 have hpr := zR h
 have hfb := zaw h
 have hl := zbT h
 have hwb := zd2 h
 have h2 := (zjy h0 hq).resolve_right (by omega)
 have h3 := zgp h0
 have hdy := z8 (sv s q) E
 rw [zdM s h0] at hdy ⊢
 have hne : D (q / 2 ^ lw q) ≠ [] := by
  intro hc
  have h1 : V (D (q / 2 ^ lw q)) = 0 := by rw [hc]; rfl
  rw [V_D] at h1
  rw [h1, zaz] at h3
  have := zdL h0
  omega
 have hmy : My s (D (q / 2 ^ lw q)) (E + (lw q : Nat)) := ⟨hdy, zaD (by omega), by omega, by omega⟩
 have := zpV h hmy hne (by rw [V_D]; exact h2) (by omega) (by rw [V_D]; omega)
 rw [V_D] at this
 exact this
theorem znZ {f m : Int} (h : isF f) (s : Bool) {H : Nat} (hH : 2 ^ 63 ≤ H ∧ H < 2 ^ 64) {T : Int} (b : Bool) (h1 : -100000000 ≤ T) (h2 : T ≤ 100000000) (x : Bool) (w : Int) :
  Ev (fun k => zbv.j1 k m s (H : Int) T b (pr f : Int) (lo f) (wd f) x w) (w, if x = true then 0 else if (bl (UP m s H T b (T - (pr f : Nat))) : Int) + (T - (pr f : Nat)) < lo f + (pr f : Nat) then 24 else 16) := by
 have hpr := zR h
 have hfb := zaw h
 have hl := zbT h
 have hu := zk2 m s hH (T := T) (E := T - (pr f : Nat)) b (by omega) (by omega) (by omega) (by omega) (by omega)
 have hle := zid (m := m) (s := s) (H := H) (b := b) hH.2 (T := T) (E := T - (pr f : Nat)) (p := pr f) (by omega) (Int.le_refl _)
 have h2f := zfo h
 have hlen := ze3 (x := (UP m s H T b (T - (pr f : Nat)) : Int)) ⟨by omega, by omega⟩
 rw [Int.toNat_natCast] at hlen
 have hb : bl (UP m s H T b (T - (pr f : Nat))) ≤ 64 := zL (by omega)
 refine zf ?_
 simp only [zbv.j1]
 cases x
 ·refine ze (by simp) ?_
  have w0 : wrap64 (T - ((pr f : Nat) : Int)) = T - ((pr f : Nat) : Int) := by unfold wrap64; omega
  rw [w0]
  clear w0
  refine Ev.bind (hu) ?_; try dsimp only
  refine Ev.bind (hlen) ?_; try dsimp only
  have w1 : wrap64 (wrap64 ((bl (UP m s H T b (T - (pr f : Nat))) : Int) + T) - ((pr f : Nat) : Int)) = (bl (UP m s H T b (T - (pr f : Nat))) : Int) + (T - (pr f : Nat)) := by unfold wrap64; omega
  have w2 : wrap64 (lo f + ((pr f : Nat) : Int)) = lo f + ((pr f : Nat) : Int) := by clear w1; unfold wrap64; omega
  rw [w1, w2]
  clear w1 w2
  rw [if_neg Bool.false_ne_true]
  by_cases c : (bl (UP m s H T b (T - (pr f : Nat))) : Int) + (T - (pr f : Nat)) < lo f + (pr f : Nat)
  ·exact zd c (zg (Ev.now _) (by rw [if_pos c]))
  ·exact ze c (zg (Ev.now _) (by rw [if_neg c]))
 ·exact zd rfl (Ev.now _)
theorem zjH {f m : Int} (h : isF f) (hm : isM m) (s : Bool) {H : Nat} (hH : 2 ^ 63 ≤ H ∧ H < 2 ^ 64) {T : Int} (b : Bool) (h1 : -100000000 ≤ T) (h2 : T ≤ 100000000) :
  Ev (fun k => zbv.f k (H : Int) T b f (pr f : Int) (lo f) (wd f) m s) (zcR f m s T (UP m s H T b) (XP H T b)) := by
 have hpr := zR h
 have hfb := zaw h
 have hl := zbT h
 have hwb := zd2 h
 have h2f := zfo h
 obtain ⟨E, hE⟩ : ∃ E, E = max (T - (pr f : Nat)) (lo f) := ⟨_, rfl⟩
 have hu := zk2 m s hH (T := T) (E := E) b (by omega) (by omega) (by omega) (by omega) (by omega)
 have hle := zid (m := m) (s := s) (H := H) (b := b) hH.2 (T := T) (E := E) (p := pr f) (by omega) (by omega)
 have hlen := ze3 (x := (UP m s H T b E : Int)) ⟨by omega, by omega⟩
 rw [Int.toNat_natCast] at hlen
 have hb : bl (UP m s H T b E) ≤ 64 := zL (by omega)
 have ho := zhb (n := (UP m s H T b E : Int)) (by omega) (by omega)
 rw [Int.toNat_natCast] at ho
 have hj := znZ (m := m) h s hH (T := T) b h1 h2 (XP H T b E)
 have hwos := zpX h s (q := UP m s H T b E) (E := E) hle (by omega)
 have em : mx (wrap64 (T - ((pr f : Nat) : Int))) (lo f) = E := by rw [zf4, zdA (by omega) (by omega) (by omega) (by omega), hE]
 unfold zbv.f zcR
 rw [em, ← hE]
 clear em
 refine Ev.bind (hu) ?_; try dsimp only
 refine Ev.bind (hlen) ?_; try dsimp only
 have w1 : wrap64 ((bl (UP m s H T b E) : Int) + E) = (bl (UP m s H T b E) : Int) + E := zcB (by omega) (by omega) (by omega) (by omega)
 rw [w1]
 clear w1
 by_cases c : (bl (UP m s H T b E) : Int) + E > wd f
 ·rw [if_pos c]
  refine zd c ?_
  refine Ev.bind (zgF h hm s) ?_; try dsimp only
  exact Ev.now _
 rw [if_neg c]
 refine ze c ?_
 refine Ev.bind (ho) ?_; try dsimp only
 have m1 := zel s (zD (UP m s H T b E)) (zaD (by omega)) E
 rw [V_D, zer (by omega) (by omega)] at m1
 refine Ev.bind (m1) ?_; try dsimp only
 by_cases c0 : UP m s H T b E = 0
 ·have hz := zpW h
  rw [if_pos c0]
  rw [c0, zbH, zjm]
  refine Ev.bind (hz) ?_; try dsimp only
  refine zd rfl ?_
  refine Ev.bind (zlc h s) ?_; try dsimp only
  rw [Nat.zero_add]
  exact hj _
 ·rw [if_neg c0]
  refine Ev.bind (hwos (by omega) c0) ?_; try dsimp only
  refine ze (by omega) ?_
  exact hj _
theorem zjG {s : Bool} {l : List Int} {e : Int} (hd : My s l e) (h0 : V l ≠ 0) : Ev (fun k => zdo.f k s l e) ((zT (V l) : Int), e + (bl (V l) : Nat), zbt (V l)) := by
 have hlen := hd.len
 have hb := zbp hd.dy.nm.dg
 have hlo := hd.lo
 have hhi := hd.hi
 have hH := ziZ h0
 unfold zdo.f
 refine Ev.bind (zes hd.dy.nm hlen) ?_; try dsimp only
 have w1 : wrap64 (e + ((bl (V l) : Nat) : Int)) = e + ((bl (V l) : Nat) : Int) := zcB (by omega) (by omega) (by omega) (by omega)
 have w2 : wrap64 (64 - ((bl (V l) : Nat) : Int)) = 64 - ((bl (V l) : Nat) : Int) := by clear w1; unfold wrap64; omega
 rw [w1, w2]
 clear w1 w2
 have hs := zf6 hd.dy.nm hlen (64 - ((bl (V l) : Nat) : Int))
 have es : zdp (V l) (64 - ((bl (V l) : Nat) : Int)) = (D (zT (V l)), zbt (V l), 0) := by
  by_cases c : bl (V l) ≤ 64
  ·have e1 : 64 - ((bl (V l) : Nat) : Int) = ((64 - bl (V l) : Nat) : Int) := by omega
   have e2 : bl (V l) - 64 = 0 := by omega
   rw [e1, zhR (by omega)]
   unfold zT zbt
   rw [e2, Nat.pow_zero, Nat.div_one, Nat.mod_one]; rfl
  ·have e1 : 64 - ((bl (V l) : Nat) : Int) = -((bl (V l) - 64 : Nat) : Int) := by omega
   have e2 : 64 - bl (V l) = 0 := by omega
   rw [e1, zhQ (by omega) (by omega)]
   unfold zT zbt
   rw [e2, Nat.pow_zero, Nat.mul_one]
 rw [es] at hs
 refine Ev.bind (hs) ?_; try dsimp only
 have hl2 : (D (zT (V l))).length ≤ 2 := zaO (by omega)
 have hn := zha (zV (zT (V l))) (by omega)
 rw [zhe (zD _) (by rw [V_D]; omega), if_pos rfl, V_D] at hn
 refine Ev.bind (hn) ?_; try dsimp only
 exact Ev.now _
theorem zlt {f m : Int} (h : isF f) (hm : isM m) {s : Bool} {l : List Int} {e : Int} (hd : My s l e) (h0 : V l ≠ 0) : Ev (fun k => zdV.f k f m s l e) ((zt f m s (V l) e).1, (zt f m s (V l) e).2, 0) := by
 have hb := zbp hd.dy.nm.dg
 have hlen := hd.len
 have hlo := hd.lo
 have hhi := hd.hi
 have hpr := zR h
 have hfb := zaw h
 have hp := zjH h hm s (ziZ h0) (T := e + (bl (V l) : Nat)) (zbt (V l)) (by omega) (by omega)
 have hg : zcR f m s (e + (bl (V l) : Nat)) (UP m s (zT (V l)) (e + (bl (V l) : Nat)) (zbt (V l))) (XP (zT (V l)) (e + (bl (V l) : Nat)) (zbt (V l))) = zt f m s (V l) e := by
  rw [← zgi]
  refine zhJ ?_
  intro E hE
  exact zlw m s h0 (by omega)
 rw [hg] at hp
 unfold zdV.f
 refine Ev.bind (znP h hm hd) ?_; try dsimp only
 refine ze (by simp) ?_
 refine Ev.bind (zgX hd) ?_; try dsimp only
 refine ze (by rw [zd0 h0]; split <;> omega) ?_
 refine Ev.bind (zjG hd h0) ?_; try dsimp only
 refine Ev.bind (hp) ?_; try dsimp only
 exact Ev.now _
theorem zhK (f m : Int) (s : Bool) {n : Nat} (hn : n ≠ 0) (e : Int) (j : Nat) : zt f m s (n * 2 ^ j) e = zt f m s n (e + j) := by
 have hu : zh f (n * 2 ^ j) e = zh f n (e + j) := by unfold zh; rw [zbe hn]; congr 1; omega
 have hb : e + (bl (n * 2 ^ j) : Nat) - (pr f : Nat) = e + j + (bl n : Nat) - (pr f : Nat) := by rw [zbe hn]; omega
 unfold zt
 simp only [hu, hb, zh9, ziU]
theorem zpN {s : Bool} {n : Nat} (h : n ≠ 0) : decide (sv s n < 0) = s ∧ (sv s n).natAbs = n ∧ sv s n ≠ 0 := ⟨zcg h, zK s n, fun h2 => h (zbc.1 h2)⟩
theorem zcb {z : Int} (h : z ≠ 0) (e : Int) : ∃ j : Nat, z.natAbs = V (mk z e).2.1 * 2 ^ j ∧ (mk z e).2.2 = e + j ∧ (mk z e).1 = decide (z < 0) ∧ V (mk z e).2.1 ≠ 0 := by
 have hza : z.natAbs ≠ 0 := by omega
 obtain ⟨q, hq⟩ := zcN hza
 have hd : z.natAbs / 2 ^ lw z.natAbs = 2 * q + 1 := by
  have : z.natAbs / 2 ^ lw z.natAbs = 2 ^ lw z.natAbs * (2 * q + 1) / 2 ^ lw z.natAbs := by rw [← hq]
  rw [this, Nat.mul_div_cancel_left _ (zj _)]
 have hm : mk z e = (decide (z < 0), D (z.natAbs / 2 ^ lw z.natAbs), e + (lw z.natAbs : Nat)) := by unfold mk; rw [if_neg h]
 refine ⟨lw z.natAbs, ?_, by rw [hm], by rw [hm], ?_⟩
 ·rw [hm]
  show _ = V (D _) * _
  rw [V_D, hd, Nat.mul_comm]; exact hq
 ·rw [hm]
  show V (D _) ≠ 0
  rw [V_D, hd]; omega
theorem zmq (n j b : Nat) (hn : n ≠ 0) (s : Bool) (e : Int) : mk (sv s (n * 2 ^ j / 2 ^ (bl (n * 2 ^ j) - b))) (e + ((bl (n * 2 ^ j) - b : Nat) : Int)) = mk (sv s (n / 2 ^ (bl n - b))) (e + j + ((bl n - b : Nat) : Int)) ∧ (n * 2 ^ j % 2 ^ (bl (n * 2 ^ j) - b) = 0 ↔ n % 2 ^ (bl n - b) = 0) := by
 rw [zbe hn]
 by_cases c : bl n ≤ b
 ·have e1 : bl n - b = 0 := by omega
  have e2 : bl n + j - b ≤ j := by omega
  generalize bl n + j - b = t at *
  have h1 : n * 2 ^ j = n * 2 ^ (j - t) * 2 ^ t := by rw [Nat.mul_assoc, ← Nat.pow_add]; congr 2; omega
  rw [e1, Nat.pow_zero, Nat.div_one, Nat.mod_one, h1, Nat.mul_div_cancel _ (zj t), Nat.mul_mod_left]
  refine ⟨?_, Iff.rfl⟩
  have h2 : sv s (n * 2 ^ (j - t)) = sv s n * 2 ^ (j - t) := by
   unfold sv; split
   ·rw [Int.neg_mul, Int.natCast_mul, Int.natCast_pow]; rfl
   ·rw [Int.natCast_mul, Int.natCast_pow]; rfl
  rw [h2, zbU]; congr 1; omega
 ·have e1 : bl n + j - b = bl n - b + j := by omega
  rw [e1]
  have h1 := zex (H := n) (j := j) (r := 0) (d := bl n - b) (zj j)
  rw [Nat.add_zero] at h1
  rw [h1.1, h1.2]
  refine ⟨by congr 1; omega, ?_⟩
  constructor
  ·intro h
   have h2 : n % 2 ^ (bl n - b) * 2 ^ j = 0 := by omega
   rcases Nat.mul_eq_zero.1 h2 with h3 | h3
   ·exact h3
   ·have := zj j; omega
  ·intro h; rw [h]; omega
theorem zom {z : Int} (hz : z ≠ 0) {e : Int} (hb : bl z.natAbs ≤ 20000000) (h1 : -90000000000000 ≤ e) (h2 : e ≤ 90000000000000) (b : Nat) (hbb : b ≤ 100000000) : Ev (fun k => zdE.f k (mk z e).1 (mk z e).2.1 (mk z e).2.2 b) ((mk (sv (decide (z < 0)) (z.natAbs / 2 ^ (bl z.natAbs - b))) (e + ((bl z.natAbs - b : Nat) : Int))).1, (mk (sv (decide (z < 0)) (z.natAbs / 2 ^ (bl z.natAbs - b))) (e + ((bl z.natAbs - b : Nat) : Int))).2.1, (mk (sv (decide (z < 0)) (z.natAbs / 2 ^ (bl z.natAbs - b))) (e + ((bl z.natAbs - b : Nat) : Int))).2.2, decide (z.natAbs % 2 ^ (bl z.natAbs - b) ≠ 0)) := by
 have a1 := zcO z e
 have a2 := zbk z e
 have e1 : (mk z e).2.2 = me z e := rfl
 obtain ⟨j, j1, j2, j3, j4⟩ := zcb hz e
 have := zoC (z8 z e) (by omega) (by omega) (by omega) b hbb
 refine zg this ?_
 have hc := zmq (V (mk z e).2.1) j b j4 (decide (z < 0)) e
 rw [← j1] at hc
 rw [j2, j3, ← hc.1]
 have : decide (V (mk z e).2.1 % 2 ^ (bl (V (mk z e).2.1) - b) ≠ 0) = decide (z.natAbs % 2 ^ (bl z.natAbs - b) ≠ 0) := decide_eq_decide.2 (not_congr hc.2.symm)
 rw [this]
def zp (A B b : Nat) : Nat := b + 1 + bl B - bl A
def zY (A B b : Nat) : Nat := bl (A * 2 ^ zp A B b / B) - b
def zbu (A B b : Nat) : Nat := A * 2 ^ zp A B b / (B * 2 ^ zY A B b)
def zdm (A B b : Nat) : Bool := decide (A * 2 ^ zp A B b % (B * 2 ^ zY A B b) ≠ 0)
theorem zpP {ea eb : Int} {n : Nat} (h1 : -1000000000 ≤ ea) (h2 : ea ≤ 1000000000) (h3 : -1000000000 ≤ eb) (h4 : eb ≤ 1000000000) (hn : n ≤ 100000000) : wrap64 (wrap64 (ea - eb) - (n : Int)) = ea - eb - (n : Int) := by unfold wrap64; omega
theorem zpS {b x y : Nat} (h1 : b ≤ 1000000) (h2 : x ≤ 10000000) (h3 : y ≤ 10000000) : wrap64 (wrap64 (wrap64 ((b : Int) + 1) + (x : Int)) - (y : Int)) = (b : Int) + 1 + (x : Int) - (y : Int) := by unfold wrap64; omega
theorem zot {sa sb : Bool} {la lb : List Int} {ea eb : Int} (ha : Dy sa la ea) (hb : Dy sb lb eb) (A0 : V la ≠ 0) (B0 : V lb ≠ 0) (l1 : la.length ≤ 100000) (l2 : lb.length ≤ 100000) (h1 : -1000000000 ≤ ea) (h2 : ea ≤ 1000000000) (h3 : -1000000000 ≤ eb) (h4 : eb ≤ 1000000000) (b : Nat) (hbb : b ≤ 1000000) :
  Ev (fun k => zbP.f k sa la ea sb lb eb b) ((mk (sv (sa != sb) (zbu (V la) (V lb) b)) (ea - eb - (zp (V la) (V lb) b : Nat) + (zY (V la) (V lb) b : Nat))).1, (mk (sv (sa != sb) (zbu (V la) (V lb) b)) (ea - eb - (zp (V la) (V lb) b : Nat) + (zY (V la) (V lb) b : Nat))).2.1, (mk (sv (sa != sb) (zbu (V la) (V lb) b)) (ea - eb - (zp (V la) (V lb) b : Nat) + (zY (V la) (V lb) b : Nat))).2.2, zdm (V la) (V lb) b) := by
 have b1 := zbp ha.nm.dg
 have b2 := zbp hb.nm.dg
 have lne : lb ≠ [] := fun h => B0 (by rw [h]; rfl)
 have ane : la ≠ [] := fun h => A0 (by rw [h]; rfl)
 have hN : zp (V la) (V lb) b = b + 1 + bl (V lb) - bl (V la) := rfl
 have hC : zY (V la) (V lb) b = bl (V la * 2 ^ zp (V la) (V lb) b / V lb) - b := rfl
 have hup := zfh ha.nm.dg (by omega) (zp (V la) (V lb) b) (by omega)
 have hul := zh2 ha.nm.dg (n := zp (V la) (V lb) b)
 have hq := zoI (zD (V la * 2 ^ zp (V la) (V lb) b)) hb.nm (by omega) (by omega) lne
 rw [V_D] at hq
 have last : ∀ u v w, Ev (fun k => zbP.j1 k b sa la ea sb lb eb u v w (zp (V la) (V lb) b : Nat)) ((mk (sv (sa != sb) (zbu (V la) (V lb) b)) (ea - eb - (zp (V la) (V lb) b : Nat) + (zY (V la) (V lb) b : Nat))).1, (mk (sv (sa != sb) (zbu (V la) (V lb) b)) (ea - eb - (zp (V la) (V lb) b : Nat) + (zY (V la) (V lb) b : Nat))).2.1, (mk (sv (sa != sb) (zbu (V la) (V lb) b)) (ea - eb - (zp (V la) (V lb) b : Nat) + (zY (V la) (V lb) b : Nat))).2.2, zdm (V la) (V lb) b) := by
  intro u v w
  refine zf ?_
  simp only [zbP.j1]
  refine Ev.bind (hup) ?_; try dsimp only
  refine Ev.bind (hq) ?_; try dsimp only
  rw [zpP h1 h2 h3 h4 (by omega), zjv]
  have eQ : zbu (V la) (V lb) b = V la * 2 ^ zp (V la) (V lb) b / V lb / 2 ^ zY (V la) (V lb) b := by unfold zbu; rw [Nat.div_div_eq_div_mul]
  have eL : zdm (V la) (V lb) b = (decide (V la * 2 ^ zp (V la) (V lb) b / V lb % 2 ^ zY (V la) (V lb) b ≠ 0) || decide (V la * 2 ^ zp (V la) (V lb) b % V lb ≠ 0)) := by
   unfold zdm
   rw [Nat.mod_mul]
   have hB : 0 < V lb := by omega
   generalize V la * 2 ^ zp (V la) (V lb) b / V lb % 2 ^ zY (V la) (V lb) b = x
   generalize V la * 2 ^ zp (V la) (V lb) b % V lb = y
   by_cases c : x = 0
   ·subst c; simp
   ·have : V lb * x ≠ 0 := Nat.mul_ne_zero (by omega) c
    rw [decide_eq_true (show y + V lb * x ≠ 0 by omega), decide_eq_true c, Bool.true_or]
  have hqb : bl (V la * 2 ^ zp (V la) (V lb) b / V lb) ≤ bl (V la) + zp (V la) (V lb) b := Nat.le_trans (zaG (Nat.div_le_self _ _)) (zeN _ _)
  have hQ0 : V la * 2 ^ zp (V la) (V lb) b / V lb ≠ 0 := by
   have h5 := zU (V lb)
   have h6 : 2 ^ bl (V lb) ≤ V la * 2 ^ zp (V la) (V lb) b := by
    have h7 := zcE A0
    have h8 : 2 ^ (bl (V la) - 1) * 2 ^ zp (V la) (V lb) b ≤ V la * 2 ^ zp (V la) (V lb) b := Nat.mul_le_mul_right _ h7
    rw [← Nat.pow_add] at h8
    have h9 := zbx A0
    exact Nat.le_trans (Nat.pow_le_pow_right (by omega) (by omega)) h8
   have := Nat.div_pos (show V lb ≤ V la * 2 ^ zp (V la) (V lb) b by omega) (by omega)
   omega
  rw [eL, eQ]
  generalize hNN : zp (V la) (V lb) b = n at *
  generalize hCC : zY (V la) (V lb) b = c at *
  generalize V la * 2 ^ n % V lb = y
  generalize hx : V la * 2 ^ n / V lb = x at *
  clear hup hq
  have hf := zcw (sa != sb) (zD x) (by have := zaD (x := x) (k := 300000) (by omega); omega) (e := ea - eb - (n : Int)) (by omega) (by omega)
  rw [V_D] at hf
  refine Ev.bind (hf) ?_; try dsimp only
  obtain ⟨a1, a2, a3⟩ := zpN (s := (sa != sb)) hQ0
  have hc := zom a3 (e := ea - eb - (n : Int)) (by rw [a2]; omega) (by omega) (by omega) b (by omega)
  rw [a1, a2, ← hC] at hc
  refine Ev.bind (hc) ?_; try dsimp only
  cases hcx : decide (x % 2 ^ c ≠ 0)
  ·refine ze (by simp) (zg (Ev.now _) ?_)
   rw [Bool.false_or]
   have : decide (((D y).length : Int) > 0) = decide (y ≠ 0) := decide_eq_decide.2 (by
    constructor
    ·intro h h2; rw [h2, zw] at h; simp at h
    ·intro h
     have : (D y) ≠ [] := fun h2 => h (by rw [← V_D y, h2]; rfl)
     exact ze4 this)
   rw [this]
  ·refine zd rfl (zg (Ev.now _) ?_)
   rw [Bool.true_or]
 unfold zbP.f
 refine ze (fun h => ane (zbW.1 h)) ?_
 refine Ev.bind (zcd hb.nm (by omega)) ?_; try dsimp only
 refine Ev.bind (zcd ha.nm (by omega)) ?_; try dsimp only
 rw [zpS hbb (by omega) (by omega)]
 by_cases c : (b : Int) + 1 + (bl (V lb) : Nat) - (bl (V la) : Nat) < 0
 ·refine zd c ?_
  have : ((zp (V la) (V lb) b : Nat) : Int) = 0 := by omega
  rw [← this]
  exact last _ _ _
 ·refine ze c ?_
  have : (b : Int) + 1 + (bl (V lb) : Nat) - (bl (V la) : Nat) = ((zp (V la) (V lb) b : Nat) : Int) := by omega
  rw [this]
  exact last _ _ _
theorem zfe {A B : Nat} (hA : A ≠ 0) (hB : B ≠ 0) (n : Nat) (h : bl B ≤ bl A + n) : bl A + n - bl B ≤ bl (A * 2 ^ n / B) ∧ bl (A * 2 ^ n / B) ≤ bl A + n - bl B + 1 := by
 have h1 := zcE hA
 have h2 := zU A
 have h3 := zcE hB
 have h4 := zU B
 have h5 := zbx hA
 have h6 := zbx hB
 have lo : 2 ^ (bl A - 1 + n) ≤ A * 2 ^ n := by rw [Nat.pow_add]; exact Nat.mul_le_mul_right _ h1
 have hi : A * 2 ^ n < 2 ^ (bl A + n) := by rw [Nat.pow_add]; exact Nat.mul_lt_mul_of_pos_right h2 (zj n)
 constructor
 ·rcases Nat.eq_zero_or_pos (bl A + n - bl B) with c | c
  ·omega
  ·have h7 : 2 ^ (bl A + n - bl B - 1) ≤ A * 2 ^ n / B := by
    rw [Nat.le_div_iff_mul_le (by omega)]
    have h8 : 2 ^ (bl A + n - bl B - 1) * B ≤ 2 ^ (bl A + n - bl B - 1) * 2 ^ bl B := Nat.mul_le_mul_left _ (by omega)
    rw [← Nat.pow_add, show bl A + n - bl B - 1 + bl B = bl A - 1 + n by omega] at h8
    omega
   have h9 := zaG h7
   have : bl (2 ^ (bl A + n - bl B - 1)) = bl A + n - bl B := by
    have := zbe (v := 1) (by omega) (bl A + n - bl B - 1)
    rw [Nat.one_mul] at this
    rw [this, show bl 1 = 1 by decide]; omega
   omega
 ·refine zL ?_
  rw [Nat.div_lt_iff_lt_mul (by omega)]
  have h8 : 2 ^ (bl A + n - bl B + 1) * 2 ^ (bl B - 1) ≤ 2 ^ (bl A + n - bl B + 1) * B := Nat.mul_le_mul_left _ h3
  rw [← Nat.pow_add, show bl A + n - bl B + 1 + (bl B - 1) = bl A + n by omega] at h8
  omega
theorem zof {A B b : Nat} (hA : A ≠ 0) (hB : B ≠ 0) : zp A B b + bl A = b + zY A B b + bl B ∨ zp A B b + bl A + 1 = b + zY A B b + bl B := by
 have h := zfe hA hB (zp A B b) (by unfold zp; omega)
 have hN : zp A B b = b + 1 + bl B - bl A := rfl
 have hC : zY A B b = bl (A * 2 ^ zp A B b / B) - b := rfl
 omega
theorem zog {A B b : Nat} (hA : A ≠ 0) (hB : B ≠ 0) : bl (zbu A B b) = b := by
 have h := zfe hA hB (zp A B b) (by unfold zp; omega)
 have hN : zp A B b = b + 1 + bl B - bl A := rfl
 have hC : zY A B b = bl (A * 2 ^ zp A B b / B) - b := rfl
 unfold zbu
 rw [← Nat.div_div_eq_div_mul, zbL]
 omega
theorem zgO (x y : Nat) : bl (x * y) ≤ bl x + bl y := zL (by rw [Nat.pow_add]; exact Nat.mul_lt_mul'' (zU x) (zU y))
theorem zpE (f : Int) {n : Nat} (h : n ≠ 0) (e : Int) : zm f (n / 2 ^ lw n) (e + (lw n : Nat)) = zm f n e := by
 have := zgp h
 unfold zm
 congr 1; omega
theorem znn {n : Nat} (h : n ≠ 0) : n / 2 ^ lw n * 2 ^ lw n = n := by
 obtain ⟨q, hq⟩ := zcN h
 refine Nat.div_mul_cancel ⟨2 * q + 1, hq⟩
theorem ziS {f : Int} {n : Nat} (h : n ≠ 0) {e : Int} (hu : zm f n e ≤ e) : zbj f n e = (zm f n e - lo f).toNat * 2 ^ fb f + n * 2 ^ (e - zm f n e).toNat := by
 unfold zbj enc
 rw [zpE f h]
 congr 1
 have e1 : (e + (lw n : Nat) - zm f n e).toNat = lw n + (e - zm f n e).toNat := by omega
 rw [e1, Nat.pow_add, ← Nat.mul_assoc, znn h]
theorem zpk {f : Int} (h : isF f) {x : Nat} (hx : x < sg f) (s : Bool) : (x + sgn f s) % sg f = x := by
 unfold sgn
 cases s
 ·rw [if_neg (by simp), Nat.add_zero, Nat.mod_eq_of_lt hx]
 ·rw [if_pos rfl, Nat.add_mod_right, Nat.mod_eq_of_lt hx]
theorem zoU {f m : Int} {s : Bool} {n : Nat} {e : Int} (h : isF f) (hn : n ≠ 0) (ht : e + (bl n : Nat) > wd f) : zt f m s n e = ((zcv f m s : Int), 20) := by
 have hp := zR h
 have hl := zbT h
 have hw : 128 ≤ wd f := by rcases h with rfl | rfl <;> decide
 have hu : zh f n e ≤ e + (bl n : Nat) - 1 := by unfold zh; omega
 have hm := (zeH (m := m) (s := s) hn hu).1
 show (if (bl (R m s n e (zh f n e)) : Int) + zh f n e > wd f then _ else _) = _
 rw [if_pos (by omega)]
def zdt (m : Int) (s : Bool) : Nat := if upB m s false false true = true then 1 else 0
theorem zoT (m : Int) (s : Bool) {n k : Nat} (hn : n ≠ 0) (h : 2 * n < 2 ^ k) : rnd m s n k = zdt m s := by
 unfold rnd zdt
 rw [Nat.div_eq_of_lt (by omega), Nat.mod_eq_of_lt (by omega : n < 2 ^ k), Nat.mod_eq_of_lt h, Nat.zero_add]
 have e1 : decide (2 ^ k ≤ 2 * n) = false := decide_eq_false (by omega)
 have e2 : decide (2 * n ≠ 0) = true := decide_eq_true (by omega)
 rw [e1, e2]
 rfl
theorem zkj {f m : Int} {s : Bool} {n : Nat} {e : Int} (h : isF f) (hn : n ≠ 0) (ht : e + (bl n : Nat) < lo f) :
  zt f m s n e = ((((if zdt m s = 0 then 0 else zbj f (zdt m s) (lo f)) + sgn f s : Nat) : Int), 24) := by
 have hp := zR h
 have hl := zbT h
 have hw : 128 ≤ wd f := by rcases h with rfl | rfl <;> decide
 have hu : zh f n e = lo f := by unfold zh; omega
 obtain ⟨k, hk⟩ : ∃ k : Nat, (lo f - e).toNat = k := ⟨_, rfl⟩
 have hk1 : bl n + 1 ≤ k := by omega
 have h2 : 2 * n < 2 ^ k := by
  have h3 := zU n
  have h4 : 2 ^ (bl n + 1) ≤ 2 ^ k := Nat.pow_le_pow_right (by omega) hk1
  rw [Nat.pow_succ] at h4
  omega
 have hR : R m s n e (lo f) = zdt m s := by
  unfold R
  rw [show (e - lo f).toNat = 0 by omega, hk, Nat.pow_zero, Nat.mul_one]
  exact zoT m s hn h2
 have hx : exR n e (lo f) = false := by
  unfold exR
  rw [hk, Nat.mod_eq_of_lt (by omega)]
  exact decide_eq_false hn
 have hm := (zeH (m := m) (s := s) hn (show e + (bl n : Nat) - (pr f : Nat) ≤ e + (bl n : Nat) - 1 by omega)).2
 have hb : bl (zdt m s) ≤ 1 := by unfold zdt; split <;> decide
 show (if (bl (R m s n e (zh f n e)) : Int) + zh f n e > wd f then _ else _) = _
 rw [hu, hR, hx, if_neg (show ¬ ((bl (zdt m s) : Int) + lo f > wd f) by omega), if_neg (show ¬ (false = true) by simp), if_pos (show (bl (R m s n e (e + (bl n : Nat) - (pr f : Nat))) : Int) + (e + (bl n : Nat) - (pr f : Nat)) < lo f + (pr f : Nat) by omega)]
def zaZ : List UInt8 → Bool
 | 45 :: _ => true
 | _ => false
def zJ : List UInt8 → List UInt8
 | 45 :: r => r
 | r => r
open Go.RowKit Go.Proofs Go.Proofs.YtnkpmjhlkmlmbaaGreatDoor.Eng
theorem zn8 (s p : ByteArray) : zeo.f s p = some (decide ((tl s).take p.size = tl p)) := by
 unfold zeo.f
 by_cases c : (s.size : Int) ≥ (p.size : Int)
 ·rw [if_pos c, if_pos (by omega), if_pos (by omega)]
  congr 1
  rw [decide_eq_decide, Int.toNat_natCast, ← zbI, zgn, List.drop_zero]
 ·rw [if_neg c]
  symm
  congr 1
  refine decide_eq_false fun h => ?_
  have := congrArg List.length h
  rw [List.length_take, zgo, zgo] at this
  omega
theorem zo2 (s p : ByteArray) : zcU.f s p = some (decide ((tl s).take p.size = tl p)) := by
 unfold zcU.f
 rw [zn8]
 rfl
theorem zi2 (l : List UInt8) (c : UInt8) : (Lib.indexByte l c = -1 ∧ c ∉ l) ∨ ∃ A B, l = A ++ c :: B ∧ c ∉ A ∧ Lib.indexByte l c = (A.length : Int) := by
 induction l with
 | nil => exact .inl ⟨rfl, by simp⟩
 | cons b l ih =>
  unfold Lib.indexByte
  by_cases h : b = c
  ·subst h
   exact .inr ⟨[], l, rfl, by simp, by simp⟩
  ·have hb : (b == c) = false := by simpa using h
   rw [hb]
   rcases ih with ⟨h1, h2⟩ | ⟨A, B, h1, h2, h3⟩
   ·exact .inl ⟨by simp [h1], by simp [h2, Ne.symm h]⟩
   ·refine .inr ⟨b :: A, B, by rw [h1]; rfl, by simp [h2, Ne.symm h], ?_⟩
    have : (Lib.indexByte l c == -1) = false := by rw [h3]; simp
    rw [this, h3]
    simp
theorem zmD (a b : List UInt8) (n : Nat) : zn (a ++ b) n = zn b (zn a n) := by unfold zn; rw [List.foldl_append]
theorem zfR {l : List UInt8} (h : l.all isD = true) (hl : l.length ≤ 6) : zn l 0 < 1000000 := by
 have h1 := zmE l h 0
 have h2 : 10 ^ l.length ≤ 10 ^ 6 := Nat.pow_le_pow_right (by omega) hl
 omega
theorem zmO {l : List UInt8} (h1 : ¬ l.take 1 = [45]) (h2 : ¬ l.take 1 = [43]) : zcM l = false ∧ zq l = l := by
 cases l with
 | nil => exact ⟨rfl, rfl⟩
 | cons a l =>
  have n1 : a ≠ 45 := by rintro rfl; exact h1 rfl
  have n2 : a ≠ 43 := by rintro rfl; exact h2 rfl
  constructor
  ·unfold zcM; split
   ·rename_i h; exact absurd (List.cons.inj h).1 n1
   ·rfl
  ·unfold zq; split
   ·rename_i h; exact absurd (List.cons.inj h).1 n1
   ·rename_i h; exact absurd (List.cons.inj h).1 n2
   ·rfl
theorem zaH {s : ByteArray} {A B : List UInt8} {b : UInt8} (h : tl s = A ++ b :: B) : bt s (A.length : Int) = (b.toNat : Int) := by
 rw [zfI, h, Int.toNat_natCast]
 simp [List.getD]
theorem zaj {s : ByteArray} {A B : List UInt8} (h : tl s = A ++ B) : s.size = A.length + B.length := by
 rw [zcy, h, List.length_append]
abbrev RT := Bool × ByteArray × List Int × Int × Bool
def rF : RT := (false, ⟨#[]⟩, [], 0, false)
theorem zlV (l : List UInt8) : (zJ l).length ≤ l.length := by
 unfold zJ; split <;> simp
set_option maxRecDepth 100000
theorem ziT {α : Type} {g : Nat → Option α} {r : α} {n : Nat} (h : ∀ k, g (k + n) = some r) : Ev g r := ⟨n, fun k hk => by have := h (k - n); rwa [Nat.sub_add_cancel hk] at this⟩
open Go.RowKit Go.Proofs.YtnkpmjhlkmlmbaaGreatDoor.Eng
def pvA : Nat → List Int → Nat
 | a, [] => a
 | a, c :: l => pvA (10 * a + (c - 48).toNat) l
theorem zhl : ∀ (l : List Int) (a : Nat), pvA a l = a * 10 ^ l.length + pvA 0 l
 | [], a => by simp [pvA]
 | c :: l, a => by
  rw [pvA, pvA, zhl l (10 * a + (c - 48).toNat), zhl l (10 * 0 + (c - 48).toNat), List.length_cons, Nat.pow_succ]
  grind
theorem zoa (l m : List Int) (a : Nat) : pvA a (l ++ m) = pvA (pvA a l) m := by
 induction l generalizing a with
 | nil => rfl
 | cons c l ih => simp [pvA, ih]
def pv (l : List Int) : Nat := pvA 0 l
theorem zeu (l m : List Int) : pv (l ++ m) = pv l * 10 ^ m.length + pv m := by
 unfold pv; rw [zoa, zhl]
theorem zoc (l : List Int) (c : Int) : pv (l ++ [c]) = 10 * pv l + (c - 48).toNat := by
 rw [zeu]; simp [pv, pvA]; omega
def zaT (l : List Int) : Prop := ∀ x ∈ l, 48 ≤ x ∧ x ≤ 57
instance (l : List Int) : Decidable (zaT l) := inferInstanceAs (Decidable (∀ x ∈ l, 48 ≤ x ∧ x ≤ 57))
theorem zhm {l : List Int} (h : zaT l) : pv l < 10 ^ l.length := by
 induction l with
 | nil => simp [pv, pvA]
 | cons c l ih =>
  have h1 := h c (by simp)
  have h2 := ih (fun x hx => h x (by simp [hx]))
  have e : pv (c :: l) = (c - 48).toNat * 10 ^ l.length + pv l := by
   have := zeu [c] l
   simpa [pv, pvA] using this
  rw [e, List.length_cons, Nat.pow_succ]
  have h3 : (c - 48).toNat * 10 ^ l.length ≤ 9 * 10 ^ l.length := Nat.mul_le_mul_right _ (by omega)
  omega
theorem zod (l : List Int) (n : Nat) : pv (l.take n) ≤ pv l := by
 have h := zeu (l.take n) (l.drop n)
 rw [List.take_append_drop] at h
 have : pv (l.take n) * 1 ≤ pv (l.take n) * 10 ^ (l.drop n).length := Nat.mul_le_mul_left _ (Nat.one_le_pow _ _ (by omega))
 omega
def isT (l : List Int) : Bool := decide (zaT l) && (decide (l.length = 1) || decide (1 < l.length) && decide (l.getD 0 0 ≠ 48))
theorem zln {l : List Int} (h : Dg l) (k : l = [] ∨ 4294967296 ^ (l.length - 1) ≤ V l) : Nm l := by
 rw [zgD h]
 rcases k with k | k
 ·exact .inl k
 ·by_cases e : l = []
  ·exact .inl e
  ·right
   intro h0
   have hl : l.length ≠ 0 := fun e' => e (List.eq_nil_of_length_eq_zero e')
   have h1 := zeK (l := l) (n := l.length - 1) (by omega)
   rw [Nat.sub_add_cancel (by omega), List.take_length, h0] at h1
   have h2 := zeJ h (n := l.length - 1) (by omega)
   simp at h1
   omega
def zaf : List Int → Nat → Nat → List Int
 | [], _, c => if c = 0 then [] else [((c : Nat) : Int)]
 | x :: l, t, c => (((x.toNat * t + c) % 4294967296 : Nat) : Int) :: zaf l t ((x.toNat * t + c) / 4294967296)
theorem zg5 {x t c : Nat} (hx : x < 4294967296) (hc : c < t) : (x * t + c) / 4294967296 < t := by
 apply (Nat.div_lt_iff_lt_mul (by omega)).2
 have h1 : x * t ≤ 4294967295 * t := Nat.mul_le_mul_right _ (by omega)
 omega
theorem znp {l : List Int} (h : Dg l) {t c : Nat} (hc : c < t) (ht : t < 4294967296) : V (zaf l t c) = V l * t + c ∧ Dg (zaf l t c) := by
 induction l generalizing c with
 | nil =>
  unfold zaf
  split
  ·subst c; exact ⟨by simp, Dg.nil⟩
  ·exact ⟨by simp, Dg.cons (by omega) (by omega) Dg.nil⟩
 | cons x l ih =>
  have hx := h.head
  have hb := zg5 (x := x.toNat) (by omega) hc
  have := ih h.tail hb
  refine ⟨?_, Dg.cons (by omega) (by omega) this.2⟩
  rw [zaf, zu, this.1, zu, Nat.add_mul, Nat.mul_add, Nat.mul_assoc]
  generalize x.toNat * t = p
  generalize V l * t = q
  rw [Int.toNat_natCast]
  omega
theorem zjj {n t c : Nat} (hc : c < t) (ht : t < 4294967296) : zaf (D n) t c = D (n * t + c) := by
 have h := znp (zV n) hc ht
 rw [V_D] at h
 have hlen : ∀ (l : List Int) (c : Nat), zaf l t c = [] ∨ (zaf l t c).length = l.length ∨ ∃ m d, zaf l t c = m ++ [d] ∧ d ≠ 0 := by
  intro l
  induction l with
  | nil =>
   intro c
   unfold zaf
   split
   ·exact .inl rfl
   ·exact .inr (.inr ⟨[], _, rfl, by omega⟩)
  | cons x l ih =>
   intro c
   rw [zaf]
   rcases ih ((x.toNat * t + c) / 4294967296) with h | h | ⟨m, d, h, hd⟩
   ·rw [h]
    cases l with
    | nil => exact .inr (.inl rfl)
    | cons y l => simp [zaf] at h
   ·exact .inr (.inl (by simp [h]))
   ·exact .inr (.inr ⟨_ :: m, d, by rw [h]; rfl, hd⟩)
 have key : Nm (zaf (D n) t c) := by
  rcases hlen (D n) c with e | e | ⟨m, d, e, hd⟩
  ·rw [e]; exact zdB
  ·by_cases hn : n = 0
   ·subst hn
    rw [zw] at e
    have e2 : zaf (D 0) t c = [] := by rw [zw]; exact List.eq_nil_of_length_eq_zero e
    rw [e2]; exact zdB
   ·apply zln h.2
    right
    rw [e, h.1]
    have := zgz hn
    have h2 : n * 1 ≤ n * t := Nat.mul_le_mul_left _ (by omega)
    omega
  ·have hg := h.2
   rw [e] at hg ⊢
   have := hg d (by simp)
   exact zeG hg.left (by omega) this.2
 rw [← key, h.1]
theorem uu {x t c : Int} (hx : 0 ≤ x ∧ x < 4294967296) (ht : 0 ≤ t ∧ t < 4294967296) (hc : 0 ≤ c ∧ c < 4294967296) : IntKind.u64.wrap (c + IntKind.u64.wrap (IntKind.u64.wrap x * t)) = x * t + c := by
 have hp := ze9 hx ht
 rw [u64 hx.1 (by omega), u64 hp.1 (by omega), u64 (by omega) (by omega)]; omega
theorem znH (x : Int) (t c : Nat) (hx : 0 ≤ x) : x * (t : Int) + (c : Int) = ((x.toNat * t + c : Nat) : Int) := by
 obtain ⟨X, rfl⟩ := Int.eq_ofNat_of_zero_le hx
 simp
theorem nd (a : Nat) : ((a : Nat) : Int) % 4294967296 = ((a % 4294967296 : Nat) : Int) ∧ ((a : Nat) : Int) / 4294967296 = ((a / 4294967296 : Nat) : Int) := by omega
section
variable (s : ByteArray)
theorem zjE (at' t : Nat) (ht : t < 4294967296) {res : List Int × Int} (full : List Int) (hf : full.length < 1000000000) : ∀ (l done : List Int) (c : Nat), c < t → Dg l → done.length + l.length < 1000000000 → full = done ++ zaf l t c →
  (Ev (fun k => if (full.length : Int) > 4096 then some ([], 3) else zo.l1 k s full (at' : Int)) res) →
  Ev (fun k => zo.l3 k s (done ++ l) at' t c ((done.length + l.length : Nat) : Int) done.length) res
 | [], done, c, hc, hg, hl, hfull, H => by
  have hj : Ev (fun k => zo.j10 k s full (at' : Int)) res := by
   refine zf ?_
   simp only [zo.j10]
   exact H
  refine zf ?_
  simp only [zo.l3]
  refine ze (by simp) ?_
  rw [List.append_nil]
  by_cases h0 : c = 0
  ·have e : full = done := by rw [hfull]; simp [zaf, h0]
   rw [e] at hj
   exact ze (by omega) hj
  ·have e : full = done ++ [((c : Nat) : Int) % 4294967296] := by
    rw [hfull]; simp [zaf, h0]; omega
   rw [e] at hj
   exact zd (by omega) (zd (by simp at hl ⊢; omega) hj)
 | x :: l, done, c, hc, hg, hl, hfull, H => by
  have hx := hg.head
  have hb := zg5 (x := x.toNat) (by omega) hc
  have hu := uu hx (t := (t : Int)) (by omega) (c := (c : Int)) (by omega)
  rw [znH x t c hx.1] at hu
  have hn := nd (x.toNat * t + c)
  have hr : rd (done ++ x :: l) (done.length : Int) = x := zah rfl
  refine zf ?_
  simp only [zo.l3, hr, hu, hn.1, hn.2, zbF rfl, zS (n := done.length) (by omega)]
  clear hu hn
  refine zd (by simp; omega) (zd (by omega) (zd (by simp; omega) (zd (by omega) (zd (by simp; omega) ?_))))
  have := zjE at' t ht full hf l (done ++ [((((x.toNat * t + c) % 4294967296 : Nat)) : Int)]) _ hb hg.tail (by simp at hl ⊢; omega) (by rw [hfull, zaf]; simp) H
  rw [List.length_append, List.length_singleton] at this
  have e : done.length + (x :: l).length = done.length + 1 + l.length := by simp; omega
  rw [e]; exact this
omit s in
theorem zcm (s : ByteArray) : (qcC s).length = s.size := by unfold qcC; rw [List.length_map, Array.length_toList]; rfl
theorem zee (i : Nat) : bt s (i : Int) = (qcC s).getD i 0 := by
 rw [zfI, Int.toNat_natCast]
 have e : qcC s = (tl s).map fun b => (b.toNat : Int) := rfl
 rw [e, List.getD_eq_getElem?_getD, List.getD_eq_getElem?_getD, List.getElem?_map]
 cases (tl s)[i]? <;> rfl
theorem zjD (hd : zaT (qcC s)) (n next : Nat) (hn : next ≤ s.size) (hs : s.size < 1000000000000) {res : List Int × Int} (hln : (D n).length < 100000000)
  (H : ∀ t c, t < 4294967296 → c < t → t = t → Ev (fun k => zo.l3 k s (D n) next t c ((D n).length : Int) 0) res → True) :
  ∀ (d i t c : Nat), i + d = next → t * 10 ^ d ≤ 1000000000 → c < t →
  Ev (fun k => zo.l3 k s (D n) next ((t * 10 ^ d : Nat) : Int) ((c * 10 ^ d + pv (((qcC s).drop i).take d) : Nat) : Int) ((D n).length : Int) 0) res →
  Ev (fun k => zo.l2 k s (D n) i next t c) res
 | 0, i, t, c, hi, ht, hc, h => by
  refine zf ?_
  simp only [zo.l2]
  refine ze (by omega) ?_
  rw [show next = i by omega] at h
  simpa [pv, pvA] using h
 | d + 1, i, t, c, hi, ht, hc, h => by
  have hlen : (qcC s).length = s.size := zcm s
  have hget : (qcC s).drop i = (qcC s).getD i 0 :: (qcC s).drop (i + 1) := by
   rw [List.drop_eq_getElem_cons (by omega)]; simp [show i < (qcC s).length by omega]
  have hdi := hd ((qcC s).getD i 0) (by
   have : i < (qcC s).length := by omega
   rw [List.getD_eq_getElem?_getD, List.getElem?_eq_getElem this]; exact List.getElem_mem this)
  generalize hx : (qcC s).getD i 0 = x at hget hdi
  have hp : 1 ≤ 10 ^ d := Nat.one_le_pow _ _ (by omega)
  have ht10 : t * 10 * 10 ^ d = t * 10 ^ (d + 1) := by rw [Nat.pow_succ, Nat.mul_assoc, Nat.mul_comm 10]
  have ht9 : t * 10 ≤ 1000000000 := by
   have : t * 10 * 1 ≤ t * 10 * 10 ^ d := Nat.mul_le_mul_left _ hp
   omega
  refine zf ?_
  simp only [zo.l2, zS (n := i) (by omega), zee, hx]
  refine zd (by omega) (zd (by omega) (zd (by omega) ?_))
  have e1 : IntKind.u64.wrap ((t : Int) * 10) = ((t * 10 : Nat) : Int) := by rw [u64 (by omega) (by omega)]; omega
  have e2 : IntKind.u64.wrap (IntKind.u64.wrap (10 * (c : Int)) + IntKind.u64.wrap ((x - 48) % 256)) = ((10 * c + (x - 48).toNat : Nat) : Int) := by
   rw [u64 (n := 10 * (c : Int)) (by omega) (by omega), u64 (n := (x - 48) % 256) (by omega) (by omega), u64 (by omega) (by omega)]; omega
  rw [e1, e2]
  clear e1 e2
  refine zjD hd n next hn hs hln H d (i + 1) (t * 10) (10 * c + (x - 48).toNat) (by omega) (by omega) (by omega) ?_
  rw [hget, List.take_succ_cons] at h
  have e3 : c * 10 ^ (d + 1) + pv (x :: ((qcC s).drop (i + 1)).take d) = (10 * c + (x - 48).toNat) * 10 ^ d + pv (((qcC s).drop (i + 1)).take d) := by
   have hq := zeu [x] (((qcC s).drop (i + 1)).take d)
   have hl : (((qcC s).drop (i + 1)).take d).length = d := by rw [List.length_take, List.length_drop]; omega
   rw [hl] at hq
   have hq1 : pv [x] = (x - 48).toNat := by simp [pv, pvA]
   rw [hq1] at hq
   rw [List.singleton_append] at hq
   rw [hq, Nat.pow_succ, Nat.add_mul, Nat.mul_comm 10 c, Nat.mul_assoc, Nat.mul_comm (10 ^ d) 10, Nat.add_assoc]
  rw [e3, ← ht10] at h
  exact h
theorem zpm (l : List Int) (i d : Nat) : l.take (i + d) = l.take i ++ (l.drop i).take d := by
 rw [List.take_add]
theorem znX (hd : zaT (qcC s)) (hs : s.size < 100000000) : ∀ (r i : Nat), i + r = s.size → (D (pv ((qcC s).take i))).length ≤ 4096 → Ev (fun k => zo.l1 k s (D (pv ((qcC s).take i))) i) (zF (pv (qcC s))) := by
 intro r
 induction r using Nat.strongRecOn with
 | _ r ih =>
  intro i hi hl
  have hlen : (qcC s).length = s.size := zcm s
  refine zf ?_
  simp only [zo.l1]
  by_cases c : r = 0
  ·refine ze (by omega) (zg (Ev.now _) ?_)
   have e : (qcC s).take i = qcC s := List.take_of_length_le (by omega)
   rw [e] at hl ⊢
   unfold zF; rw [if_neg (by omega)]
  ·refine zd (by omega) ?_
   have chunk : ∀ d, 0 < d → d ≤ 9 → d ≤ r → Ev (fun k => zo.j7 k s (D (pv ((qcC s).take i))) i ((i + d : Nat) : Int)) (zF (pv (qcC s))) := by
    intro d h0 h9 hr
    refine zf ?_
    simp only [zo.j7]
    have hp9 : 1 * 10 ^ d ≤ 1000000000 := by
     have : 10 ^ d ≤ 10 ^ 9 := Nat.pow_le_pow_right (by omega) h9
     omega
    have hlc : (((qcC s).drop i).take d).length = d := by rw [List.length_take, List.length_drop]; omega
    have hpl : pv (((qcC s).drop i).take d) < 10 ^ d := by
     have := zhm (l := ((qcC s).drop i).take d) (fun x hx => hd x (List.mem_of_mem_drop (List.mem_of_mem_take hx)))
     rwa [hlc] at this
    refine zjD s hd _ (i + d) (by omega) (by omega) (by omega) (fun _ _ _ _ _ _ => trivial) d i 1 0 rfl hp9 (by omega) ?_
    rw [Nat.one_mul, Nat.zero_mul, Nat.zero_add]
    have e : pv ((qcC s).take (i + d)) = pv ((qcC s).take i) * 10 ^ d + pv (((qcC s).drop i).take d) := by
     rw [zpm, zeu, hlc]
    have hD := zjj (n := pv ((qcC s).take i)) hpl (by omega)
    rw [← e] at hD
    have hDl : (D (pv ((qcC s).take (i + d)))).length < 1000000000 := by
     have h1 := zca (pv ((qcC s).take i))
     have h2 : pv ((qcC s).take (i + d)) < 4294967296 ^ ((D (pv ((qcC s).take i))).length + 1) := by
      rw [e, Nat.pow_succ]
      have h3 : (pv ((qcC s).take i) + 1) * 10 ^ d ≤ 4294967296 ^ (D (pv ((qcC s).take i))).length * 4294967296 := Nat.mul_le_mul h1 (by omega)
      rw [Nat.add_mul] at h3
      omega
     have := zcX h2
     omega
    have := zjE s (i + d) (10 ^ d) (by omega) (res := zF (pv (qcC s))) (D (pv ((qcC s).take (i + d)))) hDl (D (pv ((qcC s).take i))) [] (pv (((qcC s).drop i).take d)) hpl (zV _) (by simp; omega) (by rw [hD]; rfl) ?_
    ·simpa using this
    ·by_cases c2 : (D (pv ((qcC s).take (i + d)))).length > 4096
     ·refine zd (by omega) (zg (Ev.now _) ?_)
      have := zd7 (zod (qcC s) (i + d))
      unfold zF; rw [if_pos (by omega)]
     ·exact ze (by omega) (ih (r - d) (by omega) (i + d) (by omega) (by omega))
   have e9 : mn (s.size : Int) (wrap64 ((i : Int) + 9)) = ((i + min r 9 : Nat) : Int) := by
    have : wrap64 ((i : Int) + 9) = (i : Int) + 9 := by unfold wrap64; omega
    rw [this]; unfold mn; split <;> omega
   have j3 := chunk (min r 9) (by omega) (by omega) (by omega)
   rw [e9]
   clear e9
   have em : Int.tmod (s.size : Int) 9 = ((s.size % 9 : Nat) : Int) := zfn s.size 9
   by_cases c1 : i = 0
   ·refine zd (by omega) ?_
    rw [em]
    by_cases c2 : s.size % 9 = 0
    ·exact ze (by omega) j3
    ·refine zd (by omega) ?_
     have := chunk (s.size % 9) (by omega) (by omega) (by omega)
     have e : ((i + s.size % 9 : Nat) : Int) = ((s.size % 9 : Nat) : Int) := by omega
     rw [e] at this; exact this
   ·exact ze (by omega) j3
theorem zg0 {l : List Int} {i : Nat} (h : i < l.length) : l.getD i 0 ∈ l := by
 rw [List.getD_eq_getElem?_getD, List.getElem?_eq_getElem h]; exact List.getElem_mem h
theorem zjC (hs : s.size < 100000000) : ∀ (r i : Nat), i + r = s.size → (∀ j, j < i → 48 ≤ (qcC s).getD j 0 ∧ (qcC s).getD j 0 ≤ 57) → Ev (fun k => zo.l0 k s s.size i) (if zaT (qcC s) then zF (pv (qcC s)) else ([], 12))
 | 0, i, hi, hj => by
  have hlen : (qcC s).length = s.size := zcm s
  have hd : zaT (qcC s) := by
   intro x hx
   obtain ⟨j, hj', rfl⟩ := List.getElem_of_mem hx
   have := hj j (by omega)
   simpa [hj'] using this
  refine zf ?_
  simp only [zo.l0]
  refine ze (by omega) ?_
  rw [if_pos hd]
  have := znX s hd hs s.size 0 (by omega) (by simp [pv, pvA, zw])
  simpa [pv, pvA, zw] using this
 | r + 1, i, hi, hj => by
  have hlen : (qcC s).length = s.size := zcm s
  have hm := zg0 (l := qcC s) (i := i) (by omega)
  refine zf ?_
  simp only [zo.l0, zee, zS (n := i) (by omega)]
  refine zd (by omega) (zd (by omega) (zd (by omega) ?_))
  by_cases c1 : (qcC s).getD i 0 < 48
  ·refine zd c1 (zg (Ev.now _) ?_)
   rw [if_neg]; intro hd; have := hd _ hm; omega
  ·refine ze c1 (zd (by omega) (zd (by omega) ?_))
   by_cases c2 : (qcC s).getD i 0 > 57
   ·refine zd c2 (zg (Ev.now _) ?_)
    rw [if_neg]; intro hd; have := hd _ hm; omega
   ·refine ze c2 (zjC hs r (i + 1) (by omega) ?_)
    intro j hj'
    by_cases e : j = i
    ·subst e; omega
    ·exact hj j (by omega)
def zcc (l : List Int) : List Int × Int := if isT l then zF (pv l) else ([], 12)
theorem znA (hs : s.size < 100000000) : Ev (fun k => zo.f k s) (zcc (qcC s)) := by
 have hlen : (qcC s).length = s.size := zcm s
 have yes : (isT (qcC s) = decide (zaT (qcC s))) → Ev (fun k => zo.l0 k s (s.size : Int) 0) (zcc (qcC s)) := by
  intro h
  have := zjC s hs s.size 0 (by omega) (fun j hj => by omega)
  refine zg this ?_
  unfold zcc; rw [h]
  simp only [decide_eq_true_eq]
 unfold zo.f
 by_cases c0 : s.size = 0
 ·have hn : s = (⟨#[]⟩ : ByteArray) := zkR.1 (List.eq_nil_of_length_eq_zero (by rw [zgo]; exact c0))
  refine zd hn ?_
  have : isT (qcC s) = false := by unfold isT; simp [hlen, c0]
  unfold zcc; rw [this]; exact Ev.now _
 ·refine ze (fun h => c0 (by rw [h]; rfl)) ?_
  by_cases c1 : s.size > 1
  ·refine zd (by omega) (zd (by omega) ?_)
   have e : bt s 0 = (qcC s).getD 0 0 := zee s 0
   rw [e]
   by_cases c2 : (qcC s).getD 0 0 = 48
   ·refine zd c2 ?_
    have : isT (qcC s) = false := by unfold isT; rw [hlen, c2]; simp; omega
    unfold zcc; rw [this]; exact Ev.now _
   ·refine ze c2 (yes ?_)
    unfold isT; rw [hlen, decide_eq_true c1, decide_eq_true c2]; simp
  ·refine ze (by omega) (yes ?_)
   unfold isT; rw [hlen]; simp [show s.size = 1 by omega]
end
section
variable (s : ByteArray)
theorem zkl (i : Nat) (hi : i < 1000000000) {res : List Int × Int} (full : List Int) : ∀ (l done : List Int) (c : Nat), c < 10 → Dg l → done.length + l.length < 1000000000 → full = done ++ zaf l 10 c →
  (Ev (fun k => zZ.l0 k s full ((i + 1 : Nat) : Int)) res) →
  Ev (fun k => zZ.l1 k s (done ++ l) i c done.length) res
 | [], done, c, hc, hg, hl, hfull, H => by
  refine zf ?_
  simp only [zZ.l1, zS (n := i) (by omega)]
  refine ze (by simp) ?_
  rw [List.append_nil]
  by_cases h0 : c = 0
  ·have e : full = done := by rw [hfull]; simp [zaf, h0]
   rw [e] at H
   exact ze (by omega) H
  ·have e : full = done ++ [((c : Nat) : Int) % 4294967296] := by
    rw [hfull]; simp [zaf, h0]; omega
   rw [e] at H
   exact zd (by omega) (zd (by simp at hl ⊢; omega) H)
 | x :: l, done, c, hc, hg, hl, hfull, H => by
  have hx := hg.head
  have hb := zg5 (x := x.toNat) (by omega) hc
  have hu : IntKind.u64.wrap ((c : Int) + IntKind.u64.wrap (10 * IntKind.u64.wrap x)) = ((x.toNat * 10 + c : Nat) : Int) := by
   rw [u64 (n := x) (by omega) (by omega), u64 (n := 10 * x) (by omega) (by omega), u64 (by omega) (by omega)]; omega
  have hn := nd (x.toNat * 10 + c)
  have hr : rd (done ++ x :: l) (done.length : Int) = x := zah rfl
  refine zf ?_
  simp only [zZ.l1, hr, hu, hn.1, hn.2, zbF rfl, zS (n := done.length) (by simp at hl; omega)]
  clear hu hn
  refine zd (by simp; omega) (zd (by omega) (zd (by simp; omega) (zd (by omega) (zd (by simp; omega) ?_))))
  have := zkl i hi full l (done ++ [((((x.toNat * 10 + c) % 4294967296 : Nat)) : Int)]) _ hb hg.tail (by simp at hl ⊢; omega) (by rw [hfull, zaf]; simp) H
  rw [List.length_append, List.length_singleton] at this
  exact this
theorem zkk (hd : zaT (qcC s)) (hs : s.size < 10000000) : ∀ (r i : Nat), i + r = s.size → Ev (fun k => zZ.l0 k s (D (pv ((qcC s).take i))) i) (zF (pv (qcC s)))
 | 0, i, hi => by
  have hlen : (qcC s).length = s.size := zcm s
  have e : (qcC s).take i = qcC s := List.take_of_length_le (by omega)
  refine zf ?_
  simp only [zZ.l0]
  refine ze (by omega) ?_
  rw [e]
  unfold zF
  by_cases c : (D (pv (qcC s))).length > 4096
  ·rw [if_pos c]; exact zd (by omega) (Ev.now _)
  ·rw [if_neg c]; exact ze (by omega) (Ev.now _)
 | r + 1, i, hi => by
  have hlen : (qcC s).length = s.size := zcm s
  have hm := hd _ (zg0 (l := qcC s) (i := i) (by omega))
  refine zf ?_
  simp only [zZ.l0, zee]
  refine zd (by omega) (zd (by omega) (zd (by omega) ?_))
  have hb : IntKind.u64.wrap (((qcC s).getD i 0 - 48) % 256) = (((qcC s).getD i 0 - 48).toNat : Int) := by rw [u64 (by omega) (by omega)]; omega
  have hb' : ((qcC s).getD i 0 - 48) % 256 = (((qcC s).getD i 0 - 48).toNat : Int) := by omega
  rw [hb]
  have hl : (D (pv ((qcC s).take i))).length < 100000000 := by
   have h1 := zhm (l := (qcC s).take i) (fun x hx => hd x (List.mem_of_mem_take hx))
   have h2 : ((qcC s).take i).length = i := by rw [List.length_take]; omega
   rw [h2] at h1
   have h3 : (10 : Nat) ^ i ≤ 4294967296 ^ i := Nat.pow_le_pow_left (by omega) i
   have := zcX (Nat.lt_of_lt_of_le h1 h3)
   omega
  have hmd := zjj (n := pv ((qcC s).take i)) (t := 10) (c := ((qcC s).getD i 0 - 48).toNat) (by omega) (by omega)
  have hv : pv ((qcC s).take (i + 1)) = pv ((qcC s).take i) * 10 + ((qcC s).getD i 0 - 48).toNat := by
   rw [List.take_succ_eq_append_getElem (by omega), zoc, Nat.mul_comm]
   simp [show i < (qcC s).length by omega]
  have := zkl s i (by omega) (res := zF (pv (qcC s))) (D (pv ((qcC s).take (i + 1)))) (D (pv ((qcC s).take i))) [] _ (show ((qcC s).getD i 0 - 48).toNat < 10 by omega) (zV _) (by simp; omega) (by rw [hmd, hv]; rfl) (zkk hd hs r (i + 1) (by omega))
  simpa using this
theorem zkd (hs : s.size < 1000000000000000) : ∀ (r i : Nat), i + r = s.size → (∀ j, j < i → 48 ≤ (qcC s).getD j 0 ∧ (qcC s).getD j 0 ≤ 57) → Ev (fun k => zbO.l0 k s i) (isT (qcC s))
 | 0, i, hi, hj => by
  have hlen : (qcC s).length = s.size := zcm s
  have hd : zaT (qcC s) := by
   intro x hx
   obtain ⟨j, hj', rfl⟩ := List.getElem_of_mem hx
   have := hj j (by omega)
   simpa [hj'] using this
  refine zf ?_
  simp only [zbO.l0]
  refine ze (by omega) ?_
  unfold isT
  rw [hlen, decide_eq_true hd, Bool.true_and]
  by_cases c1 : s.size = 1
  ·refine zd (by omega) (zg (Ev.now _) ?_)
   simp [c1]
  ·refine ze (by omega) ?_
   by_cases c2 : s.size > 1
   ·refine zd (by omega) (zd (by omega) (zg (Ev.now _) ?_))
    have e : bt s 0 = (qcC s).getD 0 0 := zee s 0
    rw [e, decide_eq_false c1, decide_eq_true c2, Bool.false_or, Bool.true_and]
   ·refine ze (by omega) (zg (Ev.now _) ?_)
    rw [decide_eq_false c1, decide_eq_false c2]; rfl
 | r + 1, i, hi, hj => by
  have hlen : (qcC s).length = s.size := zcm s
  have hm := zg0 (l := qcC s) (i := i) (by omega)
  have no : ¬ zaT (qcC s) → isT (qcC s) = false := by intro h; unfold isT; rw [decide_eq_false h]; rfl
  refine zf ?_
  simp only [zbO.l0, zee, zS (n := i) (by omega)]
  refine zd (by omega) (zd (by omega) (zd (by omega) ?_))
  by_cases c1 : (qcC s).getD i 0 < 48
  ·refine zd c1 (zg (Ev.now _) ?_)
   exact (no (fun hd => by have := hd _ hm; omega)).symm
  ·refine ze c1 (zd (by omega) (zd (by omega) ?_))
   by_cases c2 : (qcC s).getD i 0 > 57
   ·refine zd c2 (zg (Ev.now _) ?_)
    exact (no (fun hd => by have := hd _ hm; omega)).symm
   ·refine ze c2 (zkd hs r (i + 1) (by omega) ?_)
    intro j hj'
    by_cases e : j = i
    ·subst e; omega
    ·exact hj j (by omega)
end
theorem zob {c : Int} {l : List Int} : pv (c :: l) = (c - 48).toNat * 10 ^ l.length + pv l := by
 have := zeu [c] l
 simpa [pv, pvA] using this
theorem zjL {l : List Int} (hd : zaT l) (h0 : l.getD 0 0 ≠ 48) (hl : l ≠ []) : 10 ^ (l.length - 1) ≤ pv l := by
 cases l with
 | nil => exact absurd rfl hl
 | cons c l =>
  have hc := hd c (by simp)
  have h1 : c ≠ 48 := by simpa using h0
  rw [zob]
  have : 1 * 10 ^ l.length ≤ (c - 48).toNat * 10 ^ l.length := Nat.mul_le_mul_right _ (by omega)
  simp; omega
def zkP (a b : Nat) : Bool := Nat.ble (2 ^ a) (10 ^ b)
theorem zpp : zkP 131072 39457 = true := by decide +kernel
theorem znj {l : List Int} (h : isT l = true) (hl : 39457 < l.length) : zF (pv l) = ([], 3) := by
 unfold isT at h
 simp only [Bool.and_eq_true, Bool.or_eq_true, decide_eq_true_eq] at h
 obtain ⟨hd, h | h⟩ := h
 ·omega
 ·have h1 := zjL hd h.2 (fun e => by rw [e] at hl; simp at hl)
  have key : ∀ a b, a = 131072 → b = 39457 → zkP a b = true → zF (pv l) = ([], 3) := by
   intro a b ha hb hab'
   have hab : 2 ^ a ≤ 10 ^ b := Nat.le_of_ble_eq_true hab'
   have h3 : 10 ^ b ≤ 10 ^ (l.length - 1) := Nat.pow_le_pow_right (by omega) (by omega)
   exact zkW (e := a) (by omega) (Nat.le_trans hab (Nat.le_trans h3 h1))
  exact key 131072 39457 rfl rfl zpp
theorem zj9 (s : ByteArray) (hs : s.size < 1000000000000000) : Ev (fun k => zZ.f k s) (zcc (qcC s)) := by
 have hlen : (qcC s).length = s.size := zcm s
 unfold zZ.f zcc
 refine Ev.bind (?_ : Ev (fun k => zbO.f k s) (isT (qcC s))) ?_
 ·exact zkd s (by omega) s.size 0 (by omega) (fun j hj => by omega)
 ·by_cases c : isT (qcC s) = true
  ·refine ze (by rw [c]; simp) ?_
   rw [if_pos c]
   by_cases c2 : s.size > 39457
   ·refine zd (by omega) (zg (Ev.now _) ?_)
    exact (znj c (by omega)).symm
   ·have hd : zaT (qcC s) := by
     unfold isT at c; simp only [Bool.and_eq_true, decide_eq_true_eq] at c; exact c.1
    refine ze (by omega) ?_
    have := zkk s hd (by omega) s.size 0 (by omega)
    simpa [pv, pvA, zw] using this
  ·refine zd (by simpa using c) (zg (Ev.now _) ?_)
   rw [if_neg c]
theorem zjp (A Bl : List Int) (i : Nat) (x : Int) (hx : 0 ≤ x ∧ x < 4294967296) (hB : Dg Bl) (hl : A.length < 1000000000) (hlb : Bl.length < 1000000000) (hi : i < A.length) (res : List Int) : ∀ (b done r pb : List Int) (c : Int), Bl = pb ++ b → done.length = i + pb.length → b.length < r.length → Dg r → 0 ≤ c ∧ c < 4294967296 →
  Ev (fun k => zM.l0 k Bl (done ++ zap x b r c) A A.length ((i + 1 : Nat) : Int)) res →
  Ev (fun k => zM.l1 k Bl (done ++ r) i x c A A.length i Bl Bl.length pb.length) res
 | [], done, r, pb, c, he, hd, hr, hg, hc, H => by
  obtain ⟨y, r, rfl⟩ : ∃ y r', r = y :: r' := by
   cases r with
   | nil => simp at hr
   | cons y r' => exact ⟨y, r', rfl⟩
  have hlen : Bl.length = pb.length := by rw [he]; simp
  refine zf ?_
  have e : wrap64 ((i : Int) + (Bl.length : Int)) = ((i + Bl.length : Nat) : Int) := by unfold wrap64; omega
  simp only [zM.l1, e, zS (n := i) (by omega)]
  clear e
  refine ze (by omega) (zd (by omega) (zd (by simp; omega) ?_))
  have hs : (done ++ y :: r).set (((i + Bl.length : Nat) : Int)).toNat (c % 4294967296) = done ++ zap x [] (y :: r) c := by
   rw [zbF (by omega)]; simp [zap]; omega
  rw [hs]; exact H
 | y :: b, done, r, pb, c, he, hd, hr, hg, hc, H => by
  obtain ⟨o, r, rfl⟩ : ∃ y r', r = y :: r' := by
   cases r with
   | nil => simp at hr
   | cons y r' => exact ⟨y, r', rfl⟩
  have hlen : Bl.length = pb.length + 1 + b.length := by rw [he]; simp; omega
  have hy : 0 ≤ y ∧ y < 4294967296 := by rw [he] at hB; exact hB.right.head
  have ho := hg.head
  have hp := ze9 hx hy
  refine zf ?_
  have e : wrap64 ((i : Int) + (pb.length : Int)) = ((done.length : Nat) : Int) := by unfold wrap64; omega
  simp only [zM.l1, e, zS (n := pb.length) (by omega)]
  clear e
  refine zd (by omega) (zd (by omega) (zd (by omega) (zd (by omega) (zd (by simp; omega) (zd (by omega) (zd (by simp; omega) ?_))))))
  have h1 : rd Bl (pb.length : Int) = y := by rw [he]; exact zah rfl
  have h2 : rd (done ++ o :: r) (done.length : Int) = o := zah rfl
  rw [h1, h2, zbF rfl, u64 hx.1 (by omega), u64 hy.1 (by omega), u64 ho.1 (by omega), u64 (n := x * y) hp.1 (by omega), u64 (n := x * y + o) (by omega) (by omega), u64 (n := x * y + o + c) (by omega) (by omega)]
  have := zjp A Bl i x hx hB hl hlb hi res b (done ++ [(x * y + o + c) % 4294967296]) r (pb ++ [y]) ((x * y + o + c) / 4294967296) (by rw [he]; simp) (by simp [hd]; omega) (by simpa using hr) hg.tail (by omega) (by simpa [zap] using H)
  simpa using this
theorem zjo (A Bl : List Int) (hA : Dg A) (hB : Dg Bl) (hl : A.length < 1000000000) (hlb : Bl.length < 1000000000) : ∀ (a done r pa : List Int), A = pa ++ a → done.length = pa.length → Dg done → Dg r → r.length = Bl.length + a.length → r.drop Bl.length = List.replicate a.length 0 →
  Ev (fun k => zM.l0 k Bl (done ++ r) A A.length done.length) (D (V (done ++ zcu a Bl r)))
 | [], done, r, pa, he, hd, hg, hr, hrl, hz => by
  have hlen : A.length = done.length := by rw [he, hd]; simp
  refine zf ?_
  simp only [zM.l0]
  refine ze (by omega) ?_
  refine Ev.bind (zcQ (hg.app hr) (by simp; simp at hrl; omega)) ?_
  exact Ev.now _
 | x :: a, done, r, pa, he, hd, hg, hr, hrl, hz => by
  have hlen : A.length = done.length + 1 + a.length := by rw [he, hd]; simp; omega
  have hx : 0 ≤ x ∧ x < 4294967296 := by rw [he] at hA; exact hA.right.head
  have hrr := zhL hx Bl r 0 a.length hB hr (by omega) (by simpa using hz)
  refine zf ?_
  simp only [zM.l0]
  refine zd (by omega) (zd (by omega) (zd (by omega) ?_))
  have h1 : rd A (done.length : Int) = x := by rw [he]; exact zah (by omega)
  rw [h1]
  refine zjp A Bl done.length x hx hB hl hlb (by omega) _ Bl done r [] 0 rfl rfl (by simp at hrl; omega) hr (by omega) ?_
  obtain ⟨r0, r', e⟩ : ∃ r0 r', zap x Bl r 0 = r0 :: r' := by
   cases h : zap x Bl r 0 with
   | nil =>
    have hl := hrr.2.2.2
    rw [h] at hl
    simp at hrl hl; omega
   | cons r0 r' => exact ⟨r0, r', rfl⟩
  rw [e] at hrr
  have := zjo A Bl hA hB hl hlb a (done ++ [r0]) r' (pa ++ [x]) (by rw [he]; simp) (by simp [hd]) (hg.app (Dg.cons hrr.2.1.head.1 hrr.2.1.head.2 Dg.nil)) hrr.2.1.tail (by have := hrr.2.2.2; simp at this hrl; omega) (by simpa using hrr.2.2.1)
  rw [List.length_append, List.length_singleton, List.append_assoc] at this
  have e2 : done ++ zcu (x :: a) Bl r = done ++ [r0] ++ zcu a Bl r' := by simp [zcu, e]
  rw [e, e2]; simpa using this
theorem zhc {a b : List Int} (ha : Dg a) (hb : Dg b) (la : a.length < 1000000000) (lb : b.length < 1000000000) : Ev (fun k => zM.f k a b) (D (V a * V b)) := by
 unfold zM.f
 have e : wrap64 ((a.length : Int) + (b.length : Int)) = ((a.length + b.length : Nat) : Int) := by unfold wrap64; omega
 simp only [e]
 clear e
 refine zd (by omega) (zd (by omega) ?_)
 have := zjo a b ha hb la lb a [] (List.replicate (a.length + b.length) 0) [] rfl rfl Dg.nil (Dg.zeros _) (by simp; omega) (by simp)
 refine zg this ?_
 have h2 := zjn a b (List.replicate (a.length + b.length) 0) ha hb (Dg.zeros _) (by simp)
 simp [h2.1, zeL]
theorem znz {a b : List Int} (ha : Nm a) (hb : Nm b) (la : a.length ≤ 4096) (lb : b.length ≤ 4096) : Ev (fun k => zdk.f k a b) (zF (V a * V b)) := by
 have h1 : may a = true := zct.2 ⟨la, ha⟩
 have h2 : may b = true := zct.2 ⟨lb, hb⟩
 have tail : Ev (fun k => (zM.f k a b).bind fun t => (zbm.f t).bind fun bt => some (bt.1, bt.2)) (zF (V a * V b)) := by
  refine Ev.bind (zhc ha.dg hb.dg (by omega) (by omega)) ?_
  exact zi (znC _) (Ev.now _)
 unfold zdk.f
 refine Ev.bind (zio ha.dg hb.dg (by omega) (by omega)) ?_
 refine ze (by simp [h1, h2]) ?_
 by_cases c1 : a.length > 0
 ·refine zd (by omega) ?_
  by_cases c2 : b.length > 0
  ·refine zd (by omega) ?_
   have e : wrap64 (wrap64 ((a.length : Int) + (b.length : Int)) - 1) = ((a.length + b.length - 1 : Nat) : Int) := by unfold wrap64; omega
   rw [e]
   clear e
   by_cases c3 : a.length + b.length - 1 > 4096
   ·refine zd (by omega) (zg (Ev.now _) ?_)
    have p1 := zgA ha (fun e => by subst e; simp at c1)
    have p2 := zgA hb (fun e => by subst e; simp at c2)
    have p3 := Nat.mul_le_mul p1 p2
    rw [← Nat.pow_add] at p3
    have p4 : (D (V a * V b)).length > 4096 := by
     apply Nat.lt_of_not_le
     intro k
     have p5 := zca (V a * V b)
     have p6 := Nat.pow_lt_pow_iff_right (a := 4294967296) (by omega) |>.1 (Nat.lt_of_le_of_lt p3 p5)
     omega
    unfold zF; rw [if_pos p4]
   ·exact ze (by omega) tail
  ·exact ze (by omega) tail
 ·exact ze (by omega) tail
theorem zgR {n : Nat} (h : (D n).length ≤ 4096) : zF n = (D n, 0) := by
 unfold zF; rw [if_neg (by omega)]
theorem zfx : D 1 = [1] := by
 have h2 : Nm [1] := by have := zeG Dg.nil (d := 1) (by omega) (by omega); simpa using this
 exact h2
theorem zjz (n : Nat) (h : n < 9223372036854775808) : (BitVec.ofInt 64 (n : Int)).toNat = n := by
 rw [BitVec.ofInt_natCast, BitVec.toNat_ofNat]; exact Nat.mod_eq_of_lt (by omega)
theorem zlK (n : Nat) (h : n < 9223372036854775808) : Go.bits .and .i64 (n : Int) 1 = ((n % 2 : Nat) : Int) := by
 show IntKind.i64.wrap ((BitVec.ofInt 64 (n : Int) &&& BitVec.ofInt 64 ((1 : Nat) : Int)).toNat : Int) = _
 rw [BitVec.toNat_and, zjz n h, zjz 1 (by omega), Nat.and_one_is_mod, IntKind.wrap_i64]
 omega
theorem zo7 (n i : Nat) (h : i ≤ 64) : shr .i64 (n : Int) (i : Int) = ((n / 2 ^ i : Nat) : Int) := by
 unfold shr
 have e : min (i : Int).toNat IntKind.i64.bits = i := by rw [Int.toNat_natCast]; exact Nat.min_eq_left h
 rw [e]; simp
theorem zhg {b n : Nat} (h : 1 ≤ b) : 1 ≤ b ^ n := Nat.one_le_pow _ _ h
theorem zga {b m n : Nat} (h : 1 ≤ b) (k : m ≤ n) : b ^ m ≤ b ^ n := Nat.pow_le_pow_right h k
theorem zm0 (n i : Nat) : n / 2 ^ i = 2 * (n / 2 ^ (i + 1)) + n / 2 ^ i % 2 := by
 have : n / 2 ^ (i + 1) = n / 2 ^ i / 2 := by rw [Nat.pow_succ, Nat.div_div_eq_div_mul]
 rw [this]; omega
theorem zpd {m : Nat} (h : m ≠ 0) : 2 * (D m).length - 1 ≤ (D (m * m)).length := by
 have h1 := zgz h
 have h2 := Nat.mul_le_mul h1 h1
 rw [← Nat.pow_add] at h2
 apply Nat.le_of_not_lt
 intro k
 have h3 := zca (m * m)
 have h4 : (4294967296 : Nat) ^ (D (m * m)).length ≤ 4294967296 ^ ((D m).length - 1 + ((D m).length - 1)) := Nat.pow_le_pow_right (by omega) (by omega)
 omega
theorem zpM {L : Nat} (h : L ≤ 4096) : wrap64 (wrap64 (2 * (L : Int)) - 1) = 2 * (L : Int) - 1 := by unfold wrap64; omega
theorem zpe {p : Nat} (h : (D p).length ≤ 4096) : (D (p * p)).length ≤ 8192 := by
 have h1 := zca p
 have h2 := Nat.mul_lt_mul'' h1 h1
 rw [← Nat.pow_add] at h2
 have := zcX h2
 omega
theorem zlO {x : Int} (h : 0 ≤ x ∧ x < 18446744073709551616) : Ev (fun k => zec.f k x) ((bl x.toNat : Nat) : Int) := by
 unfold zec.f
 exact Ev.bind (ze3 h) (Ev.now _)
theorem zn7 {b n i p q T t : Nat} (hbl : Dg [((b : Nat) : Int)]) (hi : i < 64) (hs : Go.bits .and .i64 (shr .i64 (n : Int) (i : Int)) 1 = ((t % 2 : Nat) : Int)) (hp : p ≠ 0) (hl : (D p).length ≤ 4096) (hpT : p * p ≤ T) (hqT : q ≤ T)
  (h1 : t % 2 = 1 → p * p * b = q) (h0 : t % 2 ≠ 1 → p * p = q) (ih : (D q).length ≤ 4096 → Ev (fun k => zH.l0 k (b : Int) (n : Int) (D q) ((i : Int) - 1)) (zF T)) :
  Ev (fun k => zH.l0 k (b : Int) (n : Int) (D p) (i : Int)) (zF T) := by
 have hsl := zpd hp
 have hss := zpe hl
 refine zf ?_
 simp only [zH.l0, zpM hl, hs]
 clear hs
 refine zd (by omega) ?_
 by_cases c1 : 2 * (D p).length > 4097
 ·refine zd (by omega) (zg (Ev.now _) ?_)
  exact (zgQ (m := p * p) (by omega) hpT).symm
 ·refine ze (by omega) (Ev.bind (zhc (zV _) (zV _) (by omega) (by omega)) ?_)
  rw [V_D]
  refine zd (by omega) ?_
  have next : Ev (fun k => zH.j4 k (b : Int) (n : Int) (D q) (i : Int)) (zF T) := by
   refine zf ?_
   simp only [zH.j4, zb2 (n := i) (by omega)]
   by_cases c2 : (D q).length > 4096
   ·refine zd (by omega) (zg (Ev.now _) ?_)
    exact (zgQ c2 hqT).symm
   ·exact ze (by omega) (ih (by omega))
  by_cases c3 : t % 2 = 1
  ·refine zd (by omega) (Ev.bind (zhc (zV _) hbl (by omega) (by simp)) ?_)
   have hv : V (D (p * p)) * V [((b : Nat) : Int)] = q := by
    rw [V_D, ← h1 c3]
    simp only [zu, zab, Int.toNat_natCast, Nat.mul_zero, Nat.add_zero]
   rw [hv]; exact next
  ·refine ze (by omega) ?_
   rw [h0 c3]; exact next
theorem zjJ {b : Nat} (hb : 1 ≤ b ∧ b < 4294967296) (hbl : Dg [((b : Nat) : Int)]) {n : Nat} (hn : n < 9223372036854775808) : ∀ (i : Nat), i ≤ 64 → (D (b ^ (n / 2 ^ i))).length ≤ 4096 → Ev (fun k => zH.l0 k (b : Int) (n : Int) (D (b ^ (n / 2 ^ i))) ((i : Int) - 1)) (zF (b ^ n))
 | 0, hi, hl => by
  refine zf ?_
  simp only [zH.l0]
  refine ze (by decide) (zg (Ev.now _) ?_)
  rw [Nat.pow_zero, Nat.div_one] at hl ⊢
  exact (zgR hl).symm
 | i + 1, hi, hl => by
  have e0 : ((i + 1 : Nat) : Int) - 1 = (i : Int) := by rw [Int.natCast_add]; exact Int.add_sub_cancel _ _
  have hh := zm0 n i
  have hle : n / 2 ^ i ≤ n := Nat.div_le_self _ _
  have hm : b ^ (n / 2 ^ (i + 1)) ≠ 0 := Nat.ne_of_gt (zhg hb.1)
  have hsq : b ^ (n / 2 ^ (i + 1)) * b ^ (n / 2 ^ (i + 1)) = b ^ (2 * (n / 2 ^ (i + 1))) := by rw [← Nat.pow_add, Nat.two_mul]
  have hle2 : 2 * (n / 2 ^ (i + 1)) ≤ n / 2 ^ i := by rw [hh]; exact Nat.le_add_right _ _
  have hbit : Go.bits .and .i64 (shr .i64 (n : Int) (i : Int)) 1 = ((n / 2 ^ i % 2 : Nat) : Int) := by
   rw [zo7 n i (Nat.le_of_lt hi), zlK _ (Nat.lt_of_le_of_lt hle hn)]
  rw [e0]
  refine zn7 (q := b ^ (n / 2 ^ i)) hbl hi hbit hm hl ?_ (zga hb.1 hle) ?_ ?_ (fun h => zjJ hb hbl hn i (Nat.le_of_lt hi) h)
  ·rw [hsq]; exact zga hb.1 (Nat.le_trans hle2 hle)
  ·intro c; rw [hsq, ← Nat.pow_succ]; congr 1; rw [c] at hh; exact hh.symm
  ·intro c
   have c' : n / 2 ^ i % 2 = 0 := (Nat.mod_two_eq_zero_or_one _).resolve_right c
   rw [hsq]; congr 1; rw [c'] at hh; exact hh.symm
theorem zjt {b n : Nat} (hb : b < 4294967296) (hn : n < 9223372036854775808) : Ev (fun k => zH.f k (b : Int) (n : Int)) (zF (b ^ n)) := by
 have h1 : Nm [1] := by rw [← zfx]; exact zD 1
 have one : ∀ z, z = true → b ^ n = 1 → Ev (fun k => zH.j0 k (b : Int) (n : Int) z) (zF (b ^ n)) := by
  rintro z rfl e
  refine zf ?_
  simp only [zH.j0]
  refine zd trivial (Ev.bind (zhb (by omega) (by omega)) (zg (Ev.now _) ?_))
  rw [e]
  exact (zgR (n := 1) (by rw [zfx]; simp)).symm
 unfold zH.f
 refine ze (by omega) ?_
 by_cases c0 : n = 0
 ·refine zd (by omega) (one true rfl (by subst c0; simp))
 ·refine ze (by omega) ?_
  by_cases c1 : b = 1
  ·refine one _ (by subst c1; rfl) (by subst c1; simp)
  ·have e : decide ((b : Int) = 1) = false := decide_eq_false (by omega)
   rw [e]
   refine zf ?_
   simp only [zH.j0]
   refine ze (by simp) ?_
   by_cases c2 : b = 0
   ·refine zd (by omega) (zg (Ev.now _) ?_)
    subst c2
    rw [Nat.zero_pow (by omega), zgR (by rw [zw]; simp), zw]
   ·refine ze (by omega) ?_
    by_cases c3 : n > 131072
    ·refine zd (by omega) (zg (Ev.now _) ?_)
     have p1 : 2 ^ n ≤ b ^ n := Nat.pow_le_pow_left (by omega) n
     exact (zkW (by omega) p1).symm
    ·refine ze (by omega) (Ev.bind (zhb (by omega) (by omega)) ?_)
     rw [u64 (by omega) (by omega)]
     refine Ev.bind (zlO (by omega)) ?_
     have hbl : bl n ≤ 63 := zL (by omega)
     rw [Int.toNat_natCast, zb2 (by omega)]
     have := zjJ (b := b) (by omega) (Dg.cons (by omega) (by omega) Dg.nil) hn (bl n) (by omega)
     rw [Nat.div_eq_of_lt (zU n), Nat.pow_zero] at this
     exact this (by rw [zfx]; simp)
theorem zkO (n : Nat) (h : n < 9223372036854775808) : wrap64 (Int.tdiv (n : Int) 2) = ((n / 2 : Nat) : Int) := by
 rw [Int.tdiv_eq_ediv_of_nonneg (by omega), zaE (by omega) (by omega)]; omega
theorem zpq (n : Nat) : Int.tmod (n : Int) 2 = ((n % 2 : Nat) : Int) := by
 rw [Int.tmod_eq_emod_of_nonneg (by omega)]; omega
theorem zoV {M K : Nat} (hK : K < 100000000) (hM : M < 4294967296 ^ K) : ∀ (n : Nat), n < 9223372036854775808 → ∀ (out sq : Nat) (o s : Nat), out ≤ o → sq ≤ s → 1 ≤ o → 1 ≤ s → (0 < n → s ≤ M) → o * s ^ n ≤ M → s < 4294967296 ^ K →
  Ev (fun k => zaB.l0 k (n : Int) (D out) (D sq)) (D (out * sq ^ n)) := by
 intro n
 induction n using Nat.strongRecOn with
 | _ n ih =>
  intro hn out sq o s ho hs h1 h2 hsM hT hs9
  have lenM : ∀ {x : Nat}, x ≤ M → (D x).length < 100000000 := by
   intro x hx
   have := zcX (Nat.lt_of_le_of_lt hx hM)
   omega
  have hoM : out ≤ M := by
   have : o * 1 ≤ o * s ^ n := Nat.mul_le_mul_left _ (zhg h2)
   omega
  have hls : (D sq).length < 100000000 := by have := zcX (Nat.lt_of_le_of_lt hs hs9); omega
  refine zf ?_
  simp only [zaB.l0, zkO n hn, zpq]
  by_cases c : n = 0
  ·subst c
   refine ze (by omega) (zg (Ev.now _) ?_)
   simp
  ·refine zd (by omega) ?_
   have hsM' := hsM (by omega)
   have hsq : sq ^ n = (sq * sq) ^ (n / 2) * sq ^ (n % 2) := by
    rw [← Nat.pow_two, ← Nat.pow_mul, ← Nat.pow_add]; congr 1; omega
   have hsp : s ^ n = (s * s) ^ (n / 2) * s ^ (n % 2) := by
    rw [← Nat.pow_two, ← Nat.pow_mul, ← Nat.pow_add]; congr 1; omega
   have hss : 0 < n / 2 → s * s ≤ M := by
    intro h
    have h3 : s ^ 2 ≤ s ^ n := zga h2 (by omega)
    have h4 : 1 * s ^ n ≤ o * s ^ n := Nat.mul_le_mul_right _ h1
    rw [Nat.pow_two] at h3
    omega
   have go : ∀ (out' o' : Nat), out' ≤ o' → 1 ≤ o' → o' * (s * s) ^ (n / 2) ≤ M → out' * (sq * sq) ^ (n / 2) = out * sq ^ n → (D out').length < 100000000 →
     Ev (fun k => zaB.j1 k (n : Int) (D out') (D sq)) (D (out * sq ^ n)) := by
    intro out' o' k1 k2 k3 k4 k5
    refine zf ?_
    simp only [zaB.j1, zkO n hn]
    by_cases c2 : 0 < n / 2
    ·refine zd (by omega) (Ev.bind (zhE (zV _) (zV _) hls hls) ?_)
     rw [V_D]
     have := ih (n / 2) (by omega) (by omega) out' (sq * sq) o' (s * s) k1 (Nat.mul_le_mul hs hs) k2 (Nat.mul_le_mul h2 h2) (fun _ => hss c2) k3 (Nat.lt_of_le_of_lt (hss c2) hM)
     rwa [k4] at this
    ·refine ze (by omega) ?_
     have e : n / 2 = 0 := by omega
     rw [e] at k3 k4 ⊢
     have := ih 0 (by omega) (by omega) out' sq o' s k1 hs k2 h2 (fun h => absurd h (by omega)) (by simpa using k3) hs9
     rwa [Nat.pow_zero, ← Nat.pow_zero (sq * sq), k4] at this
   by_cases c1 : n % 2 = 1
   ·refine zd (by omega) (Ev.bind (zhE (zV _) (zV _) (lenM hoM) hls) ?_)
    rw [V_D, V_D]
    have k3 : o * s * (s * s) ^ (n / 2) ≤ M := by
     rw [hsp, c1, Nat.pow_one] at hT
     have : o * s * (s * s) ^ (n / 2) = o * ((s * s) ^ (n / 2) * s) := by rw [Nat.mul_assoc, Nat.mul_comm s]
     omega
    refine go (out * sq) (o * s) (Nat.mul_le_mul ho hs) (Nat.mul_le_mul h1 h2) k3 ?_ ?_
    ·rw [hsq, c1, Nat.pow_one, Nat.mul_assoc, Nat.mul_comm sq]
    ·apply lenM
     have : o * s * 1 ≤ o * s * (s * s) ^ (n / 2) := Nat.mul_le_mul_left _ (zhg (Nat.mul_le_mul h2 h2))
     have := Nat.mul_le_mul ho hs
     omega
   ·refine ze (by omega) ?_
    have c1' : n % 2 = 0 := by omega
    refine go out o ho h1 ?_ ?_ (lenM hoM)
    ·rw [hsp, c1', Nat.pow_zero, Nat.mul_one] at hT; exact hT
    ·rw [hsq, c1', Nat.pow_zero, Nat.mul_one]
theorem zoH {b n : Nat} (hb : b < 4294967296) (hn : n < 9223372036854775808) {K : Nat} (hK : K < 100000000) (hK1 : 1 ≤ K) (h : (max 1 b) ^ n < 4294967296 ^ K) : Ev (fun k => zaB.f k (b : Int) (n : Int)) (D (b ^ n)) := by
 unfold zaB.f
 rw [u64 (by omega) (by omega)]
 refine Ev.bind (zj8 (by omega) (by omega)) ?_
 rw [Int.toNat_natCast]
 have hs : max 1 b < 4294967296 ^ K := Nat.lt_of_lt_of_le (show max 1 b < 4294967296 ^ 1 by omega) (Nat.pow_le_pow_right (by omega) hK1)
 have := zoV (M := max 1 b ^ n) hK h n hn 1 b 1 (max 1 b) (by omega) (by omega) (by omega) (by omega) ?_ (by omega) hs
 ·rw [zfx, Nat.one_mul] at this; exact this
 ·intro h0
  have h1 : max 1 b ^ 1 ≤ max 1 b ^ n := zga (by omega) h0
  rwa [Nat.pow_one] at h1
theorem zd9 (b : Bool) : bN b < 2 := by cases b <;> decide
theorem zfG (b : Bool) : bN b = 0 ↔ b = false := by cases b <;> decide
def stk (Q : Nat) (b : Bool) : Nat := 2 * Q + bN b
theorem zfH {Q : Nat} (h : Q ≠ 0) (b : Bool) : bl (stk Q b) = bl Q + 1 := by
 have hb := zd9 b
 have : stk Q b / 2 ^ 1 = Q := by unfold stk; omega
 have h2 := zbL (stk Q b) 1
 rw [this] at h2
 have h3 := zbx h
 have h4 : bl (stk Q b) ≠ 0 := fun e => by rw [e] at h2; omega
 omega
theorem zlS {H r j : Nat} (h : H ≠ 0) (hr : r < 2 ^ j) : bl (H * 2 ^ j + r) = bl H + j := by
 have h1 : (H * 2 ^ j + r) / 2 ^ j = H := by
  rw [Nat.mul_comm, Nat.mul_add_div (zj j), Nat.div_eq_of_lt hr, Nat.add_zero]
 have h2 := zbL (H * 2 ^ j + r) j
 rw [h1] at h2
 have := zbx h
 omega
theorem zgj {f m : Int} (h : isF f) (s : Bool) {H r j : Nat} (hH : pr f + 1 ≤ bl H) (hr : r < 2 ^ j) (e : Int) : zt f m s (H * 2 ^ j + r) e = zt f m s (stk H (decide (r ≠ 0))) (e + j - 1) := by
 have hpr := zR h
 have h0 : H ≠ 0 := fun c => by rw [c, zaz] at hH; omega
 have hb1 := zlS h0 hr
 have hb2 := zfH h0 (decide (r ≠ 0))
 rw [← zgi, ← zgi]
 have hT : e + j - 1 + (bl (stk H (decide (r ≠ 0))) : Nat) = e + (bl (H * 2 ^ j + r) : Nat) := by omega
 rw [hT]
 refine zhJ fun E hE => ?_
 obtain ⟨d, hd⟩ : ∃ d : Nat, (E - e).toNat = d + j ∧ 1 ≤ d := ⟨(E - e).toNat - j, by omega, by omega⟩
 have e1 : (e - E).toNat = 0 := by omega
 have e2 : (e + j - 1 - E).toNat = 0 := by omega
 have e3 : (E - (e + j - 1)).toNat = d + 1 := by omega
 unfold R exR stk
 rw [e1, e2, e3, hd.1, Nat.pow_zero, Nat.mul_one, Nat.mul_one]
 exact ⟨zkh m s hr hd.2, decide_eq_decide.2 (ziV hr)⟩
theorem zmV (X Y j : Nat) (hY : 0 < Y) : ∃ r, r < 2 ^ j ∧ X * 2 ^ j / Y = X / Y * 2 ^ j + r ∧ (X % Y = 0 ↔ r = 0 ∧ X * 2 ^ j % Y = 0) := by
 have h1 := Nat.div_add_mod X Y
 have h2 := Nat.mod_lt X hY
 have e : X * 2 ^ j = Y * (X / Y * 2 ^ j) + X % Y * 2 ^ j := by
  conv => lhs; rw [← h1, Nat.add_mul, Nat.mul_assoc]
 refine ⟨X % Y * 2 ^ j / Y, ?_, ?_, ?_⟩
 ·rw [Nat.div_lt_iff_lt_mul hY, Nat.mul_comm]
  exact Nat.mul_lt_mul_of_pos_left h2 (zj j)
 ·rw [e, Nat.mul_add_div hY]
 ·rw [e, Nat.mul_add_mod]
  constructor
  ·intro c; rw [c]; simp
  ·intro ⟨c1, c2⟩
   have h3 := Nat.div_add_mod (X % Y * 2 ^ j) Y
   rw [c1, c2] at h3
   have h4 : X % Y * 2 ^ j = 0 := by rw [← h3]; simp
   rcases Nat.mul_eq_zero.1 h4 with h5 | h5
   ·exact h5
   ·have := zj j; omega
theorem zkn {f m : Int} (h : isF f) (s : Bool) {A B N : Nat} (hB : 0 < B) (hn : pr f + 1 ≤ bl (A * 2 ^ N / B)) (e : Int) (j : Nat) :
  zt f m s (stk (A * 2 ^ (N + j) / B) (decide (A * 2 ^ (N + j) % B ≠ 0))) (e - (N + j : Nat) - 1) = zt f m s (stk (A * 2 ^ N / B) (decide (A * 2 ^ N % B ≠ 0))) (e - N - 1) := by
 obtain ⟨r, hr, hq, hz⟩ := zmV (A * 2 ^ N) B j hB
 rw [Nat.pow_add, ← Nat.mul_assoc]
 rw [hq]
 have hb := zd9 (decide (A * 2 ^ N * 2 ^ j % B ≠ 0))
 have hs : stk (A * 2 ^ N / B * 2 ^ j + r) (decide (A * 2 ^ N * 2 ^ j % B ≠ 0)) = A * 2 ^ N / B * 2 ^ (j + 1) + (2 * r + bN (decide (A * 2 ^ N * 2 ^ j % B ≠ 0))) := by
  unfold stk
  rw [Nat.pow_succ, ← Nat.mul_assoc]; omega
 rw [hs, zgj h s hn (by rw [Nat.pow_succ]; omega)]
 have hd : decide (2 * r + bN (decide (A * 2 ^ N * 2 ^ j % B ≠ 0)) ≠ 0) = decide (A * 2 ^ N % B ≠ 0) := by
  apply decide_eq_decide.2
  have := zfG (decide (A * 2 ^ N * 2 ^ j % B ≠ 0))
  have h3 : bN (decide (A * 2 ^ N * 2 ^ j % B ≠ 0)) = 0 ↔ A * 2 ^ N * 2 ^ j % B = 0 := by rw [this]; simp
  constructor
  ·intro c c2
   have := hz.1 c2
   exact c (by rw [h3.2 this.2, this.1])
  ·intro c c2
   exact c (hz.2 ⟨by omega, h3.1 (by omega)⟩)
 rw [hd]
 congr 1
 omega
def rq (f m : Int) (s : Bool) (A B : Nat) (e : Int) : Int × Int :=
 zt f m s (stk (A * 2 ^ (bl B + 64) / B) (decide (A * 2 ^ (bl B + 64) % B ≠ 0))) (e - (bl B + 64 : Nat) - 1)
theorem zfi {A B : Nat} (hA : A ≠ 0) (hB : 0 < B) : 64 + 1 ≤ bl (A * 2 ^ (bl B + 64) / B) := by
 have := (zfe hA (Nat.ne_of_gt hB) (bl B + 64) (by omega)).1
 have := zbx hA
 omega
theorem zew {f m : Int} (h : isF f) (s : Bool) {A B : Nat} (hA : A ≠ 0) (hB : 0 < B) (e : Int) (N : Nat) (hn : pr f + 1 ≤ bl (A * 2 ^ N / B)) :
  zt f m s (stk (A * 2 ^ N / B) (decide (A * 2 ^ N % B ≠ 0))) (e - N - 1) = rq f m s A B e := by
 have hpr := zR h
 have hfb := zaw h
 have hb := zfi hA hB
 unfold rq
 have h1 := zkn (m := m) h s hB hn e (bl B + 64)
 have h2 := zkn (m := m) h s (A := A) (N := bl B + 64) hB (by omega) e N
 rw [← h1, ← h2, Nat.add_comm N]
theorem zoY {f m : Int} (h : isF f) (s : Bool) {A B c : Nat} (hA : A ≠ 0) (hB : 0 < B) (hc : 0 < c) (e : Int) : rq f m s (A * c) (B * c) e = rq f m s A B e := by
 have hAc : A * c ≠ 0 := Nat.mul_ne_zero hA (by omega)
 have hBc : 0 < B * c := Nat.mul_pos hB hc
 have hpr := zR h
 have hfb := zaw h
 have hb := zfi hAc hBc
 have e1 : A * c * 2 ^ (bl (B * c) + 64) = A * 2 ^ (bl (B * c) + 64) * c := Nat.mul_right_comm _ _ _
 have e2 : A * c * 2 ^ (bl (B * c) + 64) / (B * c) = A * 2 ^ (bl (B * c) + 64) / B := by rw [e1, Nat.mul_div_mul_right _ _ hc]
 have e3 : A * c * 2 ^ (bl (B * c) + 64) % (B * c) = A * 2 ^ (bl (B * c) + 64) % B * c := by rw [e1, Nat.mul_mod_mul_right]
 rw [e2] at hb
 rw [← zew h s hA hB e (bl (B * c) + 64) (by omega)]
 unfold rq
 rw [e2, e3]
 have hd : decide (A * 2 ^ (bl (B * c) + 64) % B * c ≠ 0) = decide (A * 2 ^ (bl (B * c) + 64) % B ≠ 0) := by
  apply decide_eq_decide.2
  rw [Ne, Nat.mul_eq_zero]
  omega
 rw [hd]
theorem zhM {f m : Int} (h : isF f) (s : Bool) {A B : Nat} (hA : A ≠ 0) (hB : 0 < B) (e : Int) (j : Nat) : rq f m s (A * 2 ^ j) B e = rq f m s A B (e + j) := by
 have hAj : A * 2 ^ j ≠ 0 := Nat.mul_ne_zero hA (Nat.ne_of_gt (zj j))
 have hpr := zR h
 have hfb := zaw h
 have hb := zfi hAj hB
 have e1 : A * 2 ^ j * 2 ^ (bl B + 64) = A * 2 ^ (bl B + 64 + j) := by rw [Nat.mul_assoc, ← Nat.pow_add, Nat.add_comm j]
 rw [e1] at hb
 rw [← zew h s hA hB (e + j) (bl B + 64 + j) (by omega)]
 have e2 : e + (j : Int) - ((bl B + 64 + j : Nat) : Int) - 1 = e - ((bl B + 64 : Nat) : Int) - 1 := by omega
 rw [e2]
 unfold rq
 rw [e1]
theorem zpg {f m : Int} (s : Bool) {A : Nat} (hA : A ≠ 0) (e : Int) (N : Nat) : zt f m s (stk (A * 2 ^ N / 1) (decide (A * 2 ^ N % 1 ≠ 0))) (e - N - 1) = zt f m s A e := by
 have e2 : stk (A * 2 ^ N / 1) (decide (A * 2 ^ N % 1 ≠ 0)) = A * 2 ^ (N + 1) := by
  have e3 : bN (decide (A * 2 ^ N % 1 ≠ 0)) = 0 := by rw [zfG, decide_eq_false_iff_not]; simp [Nat.mod_one]
  unfold stk
  rw [e3, Nat.div_one, Nat.pow_succ, Nat.add_zero, ← Nat.mul_assoc A, Nat.mul_comm 2]
 rw [e2, zhK f m s hA]
 congr 1
 omega
theorem zko {f m : Int} (h : isF f) (s : Bool) {A : Nat} (hA : A ≠ 0) (e : Int) : rq f m s A 1 e = zt f m s A e := zpg s hA e (bl 1 + 64)
theorem zoX {f m : Int} (h : isF f) (s : Bool) {A B : Nat} (hB : 0 < B) {e : Int} {k : Nat} (hk : B * 2 ^ k ≤ A) (he : wd f ≤ e + k) : rq f m s A B e = ((zcv f m s : Int), 20) := by
 have hA : A ≠ 0 := fun c => by have := Nat.mul_pos hB (zj k); omega
 have hQ : 2 ^ (k + (bl B + 64)) ≤ A * 2 ^ (bl B + 64) / B := by
  rw [Nat.le_div_iff_mul_le hB, Nat.pow_add, Nat.mul_right_comm, Nat.mul_comm (2 ^ k)]
  exact Nat.mul_le_mul_right _ hk
 have hQ0 : A * 2 ^ (bl B + 64) / B ≠ 0 := Nat.ne_of_gt (Nat.lt_of_lt_of_le (zj _) hQ)
 have hbl := zaG hQ
 have h2 := zbe (v := 1) (by omega) (k + (bl B + 64))
 rw [Nat.one_mul, show bl 1 = 1 by decide] at h2
 have hst := zfH hQ0 (decide (A * 2 ^ (bl B + 64) % B ≠ 0))
 unfold rq
 refine zoU h (fun c => ?_) ?_
 ·rw [c, zaz] at hst; omega
 ·omega
theorem zoZ {f m : Int} (h : isF f) (s : Bool) {A B : Nat} (hA : A ≠ 0) (hB : 0 < B) {e : Int} {k : Nat} (hk : A * 2 ^ k < B) (he : e - k < lo f) :
  rq f m s A B e = zt f m s 1 (lo f - 2) := by
 have hQ : A * 2 ^ (bl B + 64) / B < 2 ^ (bl B + 64 - k) := by
  have hkB : k < bl B := by
   have h1 := zU B
   have h2 : 1 * 2 ^ k ≤ A * 2 ^ k := Nat.mul_le_mul_right _ (by omega)
   exact (Nat.pow_lt_pow_iff_right (by omega)).1 (show 2 ^ k < 2 ^ bl B by omega)
  rw [Nat.div_lt_iff_lt_mul hB]
  have e1 : A * 2 ^ (bl B + 64) = 2 ^ (bl B + 64 - k) * (A * 2 ^ k) := by
   rw [Nat.mul_left_comm, ← Nat.pow_add, show bl B + 64 - k + k = bl B + 64 by omega]
  rw [e1]
  exact Nat.mul_lt_mul_of_pos_left hk (zj _)
 have hb := zfi hA hB
 have hQ0 : A * 2 ^ (bl B + 64) / B ≠ 0 := fun c => by rw [c, zaz] at hb; omega
 have h2 := zL hQ
 have hst := zfH hQ0 (decide (A * 2 ^ (bl B + 64) % B ≠ 0))
 have hs0 : stk (A * 2 ^ (bl B + 64) / B) (decide (A * 2 ^ (bl B + 64) % B ≠ 0)) ≠ 0 := fun c => by rw [c, zaz] at hst; omega
 unfold rq
 rw [zkj h hs0 (by omega), zkj h (by omega) (by rw [show bl 1 = 1 by decide]; omega)]
theorem znQ {f m : Int} (h : isF f) (hm : isM m) {s s' : Bool} {l l' : List Int} {e e' : Int} (hd : My s l e) (hd' : My s' l' e') : Ev (fun k => zI.f k f m [(s, l, e), (s', l', e')]) ((pr f : Int), lo f, wd f, 0) := by
 unfold zI.f
 unfold isM at hm
 refine zi (zfV h) ?_; try dsimp only
 refine ze (by simp) (ze (by omega) (ze (by omega) ?_))
 have e1 : wrap64 (0 + 1) = 1 := by rw [zaE (by omega) (by omega)]; rfl
 have e2 : wrap64 (1 + 1) = 2 := by rw [zaE (by omega) (by omega)]; rfl
 have el : (([(s, l, e), (s', l', e')] : List (Bool × List Int × Int)).length : Int) = 2 := rfl
 have r0 : rdT [.b, .is .u32, .i .i64] [(s, l, e), (s', l', e')] 0 = (s, l, e) := rfl
 have r1 : rdT [.b, .is .u32, .i .i64] [(s, l, e), (s', l', e')] 1 = (s', l', e') := rfl
 refine zf ?_
 simp only [zI.l0, el, e1, r0]
 refine zd (by decide) (zd (by decide) (zd (by decide) ?_))
 refine zi (zdg hd) ?_; try dsimp only
 refine ze (by simp) (zf ?_)
 simp only [zI.l0, el, e2, r1]
 refine zd (by decide) (zd (by decide) (zd (by decide) ?_))
 refine zi (zdg hd') ?_; try dsimp only
 refine ze (by simp) (zf ?_)
 simp only [zI.l0]
 exact ze (by decide) (Ev.now _)
theorem zm1 {n j : Nat} (h : bl n + j = 64) : zT n = n * 2 ^ j ∧ zbt n = false := by
 unfold zT zbt
 have e1 : 64 - bl n = j := by omega
 have e2 : bl n - 64 = 0 := by omega
 rw [e1, e2, Nat.pow_zero, Nat.div_one, Nat.mod_one]
 exact ⟨rfl, rfl⟩
def qN (A B : Nat) : Nat := 65 + bl B - bl A
def qC (A B : Nat) : Nat := bl (A * 2 ^ qN A B / B) - 64
def qH (A B : Nat) : Nat := A * 2 ^ qN A B / B / 2 ^ qC A B
def qL (A B : Nat) : Bool := decide (A * 2 ^ qN A B / B % 2 ^ qC A B ≠ 0) || decide (A * 2 ^ qN A B % B ≠ 0)
theorem zhn {A B : Nat} (hA : A ≠ 0) (hB : B ≠ 0) : 65 ≤ bl (A * 2 ^ qN A B / B) ∧ bl (A * 2 ^ qN A B / B) ≤ bl A + 66 ∧ bl (qH A B) = 64 := by
 have h1 : qN A B = 65 + bl B - bl A := rfl
 have h2 : qC A B = bl (A * 2 ^ qN A B / B) - 64 := rfl
 have := zfe hA hB (qN A B) (by omega)
 have hp := zbx hA
 have hd : bl (qH A B) = bl (A * 2 ^ qN A B / B) - qC A B := zbL _ _
 refine ⟨by omega, by omega, by omega⟩
theorem znq {x c n : Nat} (l : Bool) (hx : bl x ≤ 33000) (hc : c = bl x - 64) (h64 : 64 ≤ bl x) (hn : n ≤ 1000000) : Ev (fun k => zcL.f k false (D x) (0 - (n : Int)) l 64) ((mk ((x / 2 ^ c : Nat) : Int) (0 - (n : Int) + (c : Int))).1, (mk ((x / 2 ^ c : Nat) : Int) (0 - (n : Int) + (c : Int))).2.1, (mk ((x / 2 ^ c : Nat) : Int) (0 - (n : Int) + (c : Int))).2.2, (decide (x % 2 ^ c ≠ 0) || l), 0) := by
 have lx := zaD (x := x) (k := 2100) (by omega)
 have hl := zes (zD x) (by omega)
 have hs2 := zf6 (zD x) (by omega) (-(c : Int))
 rw [V_D] at hl hs2
 rw [zhQ (by omega) (by omega)] at hs2
 have hm := zel false (zD (x / 2 ^ c)) (by
  have h1 := zbL x c
  have := zaD (x := x / 2 ^ c) (k := 2100) (by omega)
  omega) (0 - (n : Int) + (c : Int))
 rw [V_D, zer (by omega) (by have := zbL x c; omega)] at hm
 rw [show sv false (x / 2 ^ c) = ((x / 2 ^ c : Nat) : Int) from rfl] at hm
 have w4 : mx 0 (wrap64 (((bl x : Nat) : Int) - 64)) = (c : Int) := by
  rw [zf4, zdA (by omega) (by omega) (by omega) (by omega)]; omega
 have w5 : wrap64 (-(c : Int)) = -(c : Int) := zd4 (by omega) (by omega)
 have w6 : wrap64 (0 - (n : Int) + (c : Int)) = 0 - (n : Int) + (c : Int) := zcB (by omega) (by omega) (by omega) (by omega)
 unfold zcL.f
 refine Ev.bind (hl) ?_; try dsimp only
 rw [w4, w5, w6]
 clear w4 w5 w6
 refine Ev.bind (hs2) ?_; try dsimp only
 refine Ev.bind (hm) ?_; try dsimp only
 refine ze (by unfold ok3; simp) ?_
 by_cases c1 : x % 2 ^ c ≠ 0
 ·refine zd (decide_eq_true c1) (zg (Ev.now _) ?_)
  rw [decide_eq_true c1, Bool.true_or]; rfl
 ·refine ze (by simpa using c1) (zg (Ev.now _) ?_)
  rw [decide_eq_false c1, Bool.false_or]; rfl
theorem zpZ {n x y : Nat} (hn : n = 65 + x - y) (h1 : x ≤ 1000000) (h2 : y ≤ 1000000) : mx 0 (wrap64 (wrap64 (wrap64 (64 + 1) + (x : Int)) - (y : Int))) = (n : Int) := by
 have e : wrap64 (wrap64 (wrap64 (64 + 1) + (x : Int)) - (y : Int)) = 65 + (x : Int) - (y : Int) := by unfold wrap64; omega
 rw [zf4, e]
 clear e
 omega
theorem zp1 {n : Nat} (h : n ≤ 1000000) : wrap64 (wrap64 (0 - 0) - (n : Int)) = 0 - (n : Int) := by unfold wrap64; omega
theorem zmH {la lb : List Int} (ha : Nm la) (hb : Nm lb) (ma : My false la 0) (mb : My false lb 0) (A0 : V la ≠ 0) (B0 : V lb ≠ 0) (l1 : bl (V la) ≤ 32000) (l2 : bl (V lb) ≤ 32000) :
  Ev (fun k => zb7.f k false la 0 false lb 0 64) ((mk (qH (V la) (V lb)) (0 - (qN (V la) (V lb) : Nat) + (qC (V la) (V lb) : Nat))).1, (mk (qH (V la) (V lb)) (0 - (qN (V la) (V lb) : Nat) + (qC (V la) (V lb) : Nat))).2.1, (mk (qH (V la) (V lb)) (0 - (qN (V la) (V lb) : Nat) + (qC (V la) (V lb) : Nat))).2.2, qL (V la) (V lb), 0) := by
 have lla := ma.len
 have llb := mb.len
 have ane : la ≠ [] := fun h => A0 (by rw [h]; rfl)
 have lne : lb ≠ [] := fun h => B0 (by rw [h]; rfl)
 have hN : qN (V la) (V lb) = 65 + bl (V lb) - bl (V la) := rfl
 have hC : qC (V la) (V lb) = bl (V la * 2 ^ qN (V la) (V lb) / V lb) - 64 := rfl
 have hH : qH (V la) (V lb) = V la * 2 ^ qN (V la) (V lb) / V lb / 2 ^ qC (V la) (V lb) := rfl
 have hL : qL (V la) (V lb) = (decide (V la * 2 ^ qN (V la) (V lb) / V lb % 2 ^ qC (V la) (V lb) ≠ 0) || decide (V la * 2 ^ qN (V la) (V lb) % V lb ≠ 0)) := rfl
 obtain ⟨b1, b2, b3⟩ := zhn A0 B0
 have hs := zf6 ha lla (qN (V la) (V lb) : Nat)
 rw [zhR (by omega)] at hs
 have hup := zeN (V la) (qN (V la) (V lb))
 have hll := zaD (x := V la * 2 ^ qN (V la) (V lb)) (k := 2100) (by omega)
 have hq := znB (zD (V la * 2 ^ qN (V la) (V lb))) hb (by omega) llb
 rw [V_D] at hq
 unfold zho at hq
 rw [if_neg B0] at hq
 have hn6 : qN (V la) (V lb) ≤ 1000000 := by omega
 have w2 : wrap64 (131072 - ((bl (V la) : Nat) : Int)) = 131072 - ((bl (V la) : Nat) : Int) := zdA (by omega) (by omega) (by omega) (by omega)
 have w3 := zp1 hn6
 have w1 := zpZ hN (Nat.le_trans l2 (by decide)) (Nat.le_trans l1 (by decide))
 unfold zb7.f
 refine Ev.bind (ziR ma mb) ?_; try dsimp only
 refine ze (by simp) ?_
 rw [show decide ((64 : Int) < 1) = false from rfl]
 refine zf ?_
 simp only [zb7.j0]
 refine ze (by simp) ?_
 have ask : zeY.f 64 = some 0 := rfl
 refine zi (ask) ?_; try dsimp only
 refine ze (by simp) (ze (fun h => lne (zbW.1 h)) (ze (fun h => ane (zbW.1 h)) ?_))
 refine Ev.bind (zes hb llb) ?_; try dsimp only
 refine Ev.bind (zes ha lla) ?_; try dsimp only
 refine Ev.bind (zes ha lla) ?_; try dsimp only
 rw [w1, w2, w3]
 clear w1 w2 w3
 refine ze (by omega) ?_
 refine Ev.bind (hs) ?_; try dsimp only
 refine Ev.bind (hq) ?_; try dsimp only
 rw [hL, hH]
 generalize qN (V la) (V lb) = n at *
 generalize qC (V la) (V lb) = c at *
 have hdz : decide (((D (V la * 2 ^ n % V lb)).length : Int) > 0) = decide (V la * 2 ^ n % V lb ≠ 0) := by
  generalize V la * 2 ^ n % V lb = y
  exact decide_eq_decide.2 (by
   constructor
   ·intro h h2; rw [h2, zw] at h; simp at h
   ·intro h
    have : (D y) ≠ [] := fun h2 => h (by rw [← V_D y, h2]; rfl)
    exact ze4 this)
 rw [hdz]
 clear hdz
 have hlen := zaG (Nat.div_le_self (V la * 2 ^ n) (V lb))
 generalize V la * 2 ^ n % V lb = y at *
 generalize V la * 2 ^ n / V lb = x at *
 have hmd := znq (x := x) (c := c) (n := n) (decide (y ≠ 0)) (by omega) hC (by omega) (by omega)
 refine Ev.bind (hmd) ?_; try dsimp only
 exact Ev.now _
theorem zjf (x y : Nat) : (decide (x ≠ 0) || decide (y ≠ 0)) = decide (2 * x + bN (decide (y ≠ 0)) ≠ 0) := by
 by_cases c1 : x = 0
 ·subst c1
  by_cases c2 : y = 0
  ·subst c2; rfl
  ·have e : decide (y ≠ 0) = true := decide_eq_true c2
   rw [e]; rfl
 ·have e : decide (x ≠ 0) = true := decide_eq_true c1
  rw [e, Bool.true_or]
  exact (decide_eq_true (by omega)).symm
theorem zoe {f m : Int} (h : isF f) (s : Bool) {A B : Nat} (hA : A ≠ 0) (hB : B ≠ 0) (e : Int) :
  zt f m s (stk (qH A B) (qL A B)) (e - (qN A B : Nat) + (qC A B : Nat) - 1) = rq f m s A B e := by
 have hpr := zR h
 have hfb := zaw h
 obtain ⟨b1, b2, b3⟩ := zhn hA hB
 have hn := zew (m := m) h s hA (Nat.pos_of_ne_zero hB) e (qN A B) (by omega)
 rw [← hn]
 have hH : qH A B = A * 2 ^ qN A B / B / 2 ^ qC A B := rfl
 have hL : qL A B = (decide (A * 2 ^ qN A B / B % 2 ^ qC A B ≠ 0) || decide (A * 2 ^ qN A B % B ≠ 0)) := rfl
 rw [hL]
 rw [hH] at b3 ⊢
 generalize qN A B = n at *
 generalize qC A B = c at *
 generalize A * 2 ^ n % B = y at *
 generalize A * 2 ^ n / B = x at *
 have hr := Nat.mod_lt x (zj c)
 have hx := Nat.div_add_mod x (2 ^ c)
 have hb := zd9 (decide (y ≠ 0))
 have hs : stk x (decide (y ≠ 0)) = x / 2 ^ c * 2 ^ (c + 1) + (2 * (x % 2 ^ c) + bN (decide (y ≠ 0))) := by
  unfold stk
  conv => lhs; rw [← hx]
  rw [Nat.pow_succ, Nat.mul_comm (2 ^ c), ← Nat.mul_assoc]; omega
 rw [hs, zgj h s (by omega) (by rw [Nat.pow_succ]; omega)]
 have hd := zjf (x % 2 ^ c) y
 rw [hd]
 congr 1
 omega
theorem zlx {f m : Int} (h : isF f) (s : Bool) {H : Nat} (hH : bl H = 64) (T : Int) (b : Bool) : zcR f m s T (UP m s H T b) (XP H T b) = zt f m s (stk H b) (T - 65) := by
 have hpr := zR h
 have hfb := zaw h
 have h0 : H ≠ 0 := fun c => by rw [c, zaz] at hH; omega
 have hb := zfH h0 b
 rw [← zgi]
 have hT : T - 65 + (bl (stk H b) : Nat) = T := by omega
 rw [hT]
 refine zhJ fun E hE => ?_
 unfold UP XP R exR stk
 have e1 : (T - 65 - E).toNat = 0 := by omega
 have e2 : (E - (T - 65)).toNat = (E - T + 64).toNat + 1 := by omega
 rw [e1, e2, Nat.pow_zero, Nat.mul_one]
 exact ⟨rfl, rfl⟩
theorem zlq {f m : Int} (h : isF f) (hm : isM m) {sa sb : Bool} {la lb : List Int} {ea eb : Int} (ha : My sa la ea) (hb : My sb lb eb) (A0 : V la ≠ 0) (B0 : V lb ≠ 0) (l1 : bl (V la) ≤ 32000) (l2 : bl (V lb) ≤ 32000) :
    Ev (fun k => zbY.f k f m sa la ea sb lb eb) ((rq f m (decide (¬ sa = sb)) (V la) (V lb) (ea - eb)).1, (rq f m (decide (¬ sa = sb)) (V la) (V lb) (ea - eb)).2, 0) := by
  have ma : My false la 0 := ⟨⟨ha.dy.nm, fun h => ⟨rfl, rfl⟩, ha.dy.odd⟩, ha.len, by omega, by omega⟩
  have mb : My false lb 0 := ⟨⟨hb.dy.nm, fun h => ⟨rfl, rfl⟩, hb.dy.odd⟩, hb.len, by omega, by omega⟩
  have h1 := ha.lo
  have h2 := ha.hi
  have h3 := hb.lo
  have h4 := hb.hi
  have hq := zmH ha.dy.nm hb.dy.nm ma mb A0 B0 l1 l2
  have hr := zoe (m := m) h (decide (¬ sa = sb)) A0 B0 (ea - eb)
  obtain ⟨b1, b2, b3⟩ := zhn A0 B0
  have hN : qN (V la) (V lb) = 65 + bl (V lb) - bl (V la) := rfl
  have hC : qC (V la) (V lb) = bl (V la * 2 ^ qN (V la) (V lb) / V lb) - 64 := rfl
  rw [← hr]
  clear hr
  generalize qN (V la) (V lb) = n at *
  generalize qC (V la) (V lb) = c at *
  generalize qH (V la) (V lb) = H at *
  generalize qL (V la) (V lb) = L at *
  have H0 : (H : Int) ≠ 0 := fun h => by have : H = 0 := by omega
                                         rw [this, zaz] at b3; omega
  obtain ⟨j, j1, j2, j3, j4⟩ := zcb H0 (0 - (n : Int) + (c : Int))
  rw [Int.natAbs_natCast] at j1
  have hj : bl (V (mk (H : Int) (0 - (n : Int) + (c : Int))).2.1) + j = 64 := by
    have := zbe j4 j
    rw [← j1] at this; omega
  have hd := z8 (H : Int) (0 - (n : Int) + (c : Int))
  generalize (mk (H : Int) (0 - (n : Int) + (c : Int))) = g at *
  obtain ⟨g1, g2, g3⟩ := g
  dsimp only at *
  have hl := hd.nm.len
  have hlb := zaD (x := V g2) (k := 2) (by omega)
  have hmy : My g1 g2 g3 := ⟨hd, by omega, by omega, by omega⟩
  have hp := zjG hmy j4
  obtain ⟨k1, k2⟩ := zm1 hj
  rw [k1, k2, ← j1] at hp
  have hT : ∀ b, zcR f m (decide (¬ sa = sb)) (g3 + (bl (V g2) : Nat) + (ea - eb)) (UP m (decide (¬ sa = sb)) H (g3 + (bl (V g2) : Nat) + (ea - eb)) b) (XP H (g3 + (bl (V g2) : Nat) + (ea - eb)) b) = zt f m (decide (¬ sa = sb)) (stk H b) (ea - eb - (n : Int) + (c : Int) - 1) := by
    intro b
    rw [zlx h _ b3]
    congr 1
    omega
  have HH : 2 ^ 63 ≤ H ∧ H < 2 ^ 64 := by
    have hne : H ≠ 0 := fun h => H0 (by omega)
    have u1 := zcE hne
    have u2 := zU H
    rw [b3] at u1 u2
    exact ⟨u1, u2⟩
  have w1 : wrap64 (ea - eb) = ea - eb := zdA (by omega) (by omega) (by omega) (by omega)
  have w2 : wrap64 (g3 + ((bl (V g2) : Nat) : Int) + (ea - eb)) = g3 + ((bl (V g2) : Nat) : Int) + (ea - eb) := zcB (by omega) (by omega) (by omega) (by omega)
  have hw := fun b => zjH h hm (decide (¬ sa = sb)) HH (T := g3 + (bl (V g2) : Nat) + (ea - eb)) b (by omega) (by omega)
  have last : ∀ b : Bool, Ev (fun k => zbY.j1 k f m sa la ea sb lb eb (pr f : Int) (lo f) (wd f) (decide (¬ sa = sb)) (H : Int) (g3 + ((bl (V g2) : Nat) : Int)) b) ((zt f m (decide (¬ sa = sb)) (stk H b) (ea - eb - (n : Int) + (c : Int) - 1)).1, (zt f m (decide (¬ sa = sb)) (stk H b) (ea - eb - (n : Int) + (c : Int) - 1)).2, 0) := by
    intro b
    refine zf ?_
    simp only [zbY.j1, w1, w2]
    refine Ev.bind (hw b) ?_
    rw [hT b]
    exact Ev.now _
  clear w1 w2
  unfold zbY.f
  refine Ev.bind (znQ h hm ha hb) ?_; try dsimp only
  refine ze (by simp) ?_
  refine Ev.bind (zgX hb) ?_; try dsimp only
  refine ze (by rw [zd0 B0]; split <;> omega) ?_
  refine Ev.bind (zgX ha) ?_; try dsimp only
  refine ze (by rw [zd0 A0]; split <;> omega) ?_
  refine Ev.bind (hq) ?_; try dsimp only
  refine Ev.bind (hp) ?_; try dsimp only
  refine ze (by simp) ?_
  exact last L
theorem zoA {f m : Int} (h : isF f) (hm : isM m) {sa sb : Bool} {la lb : List Int} {ea eb : Int} (ha : Dy sa la ea) (hb : Dy sb lb eb) (A0 : V la ≠ 0) (B0 : V lb ≠ 0) (l1 : bl (V la) ≤ 300000) (l2 : bl (V lb) ≤ 300000) (h1 : -100000 ≤ ea) (h2 : ea ≤ 100000) (h3 : -100000 ≤ eb) (h4 : eb ≤ 100000) :
  Ev (fun k => zek.f k f m sa la ea sb lb eb) (rq f m (decide (¬ sa = sb)) (V la) (V lb) (ea - eb)) := by
 have hpr := zR h
 have hfb := zaw h
 have ll1 := zaD (k := 10000) (x := V la) (by omega)
 have ll2 := zaD (k := 10000) (x := V lb) (by omega)
 rw [ha.nm.len] at ll1
 rw [hb.nm.len] at ll2
 have hq := zot ha hb A0 B0 (by omega) (by omega) (by omega) (by omega) (by omega) (by omega) 60 (by omega)
 have hQb := zog (b := 60) A0 B0
 have hCb := zof (b := 60) A0 B0
 have hN : zp (V la) (V lb) 60 = 60 + 1 + bl (V lb) - bl (V la) := rfl
 have hC : zY (V la) (V lb) 60 = bl (V la * 2 ^ zp (V la) (V lb) 60 / V lb) - 60 := rfl
 have hqt := zfe A0 B0 (zp (V la) (V lb) 60) (by omega)
 have hrq := zew (m := m) h (sa != sb) A0 (Nat.pos_of_ne_zero B0) (ea - eb) (zp (V la) (V lb) 60) (by omega)
 have hne : (decide (¬ sa = sb)) = (sa != sb) := by cases sa <;> cases sb <;> rfl
 rw [hne]
 have hres : zt f m (sa != sb) (stk (zbu (V la) (V lb) 60) (zdm (V la) (V lb) 60)) (ea - eb - (zp (V la) (V lb) 60 : Nat) + (zY (V la) (V lb) 60 : Nat) - 1) = rq f m (sa != sb) (V la) (V lb) (ea - eb) := by
  rw [← hrq]
  have eQ : zbu (V la) (V lb) 60 = V la * 2 ^ zp (V la) (V lb) 60 / V lb / 2 ^ zY (V la) (V lb) 60 := by unfold zbu; rw [Nat.div_div_eq_div_mul]
  have eL : zdm (V la) (V lb) 60 = (decide (V la * 2 ^ zp (V la) (V lb) 60 / V lb % 2 ^ zY (V la) (V lb) 60 ≠ 0) || decide (V la * 2 ^ zp (V la) (V lb) 60 % V lb ≠ 0)) := by
   unfold zdm
   rw [Nat.mod_mul]
   generalize V la * 2 ^ zp (V la) (V lb) 60 / V lb % 2 ^ zY (V la) (V lb) 60 = x
   generalize V la * 2 ^ zp (V la) (V lb) 60 % V lb = y
   by_cases c : x = 0
   ·subst c; simp
   ·have : V lb * x ≠ 0 := Nat.mul_ne_zero (by omega) c
    rw [decide_eq_true (show y + V lb * x ≠ 0 by omega), decide_eq_true c, Bool.true_or]
  rw [eL]
  rw [eQ] at hQb ⊢
  generalize zp (V la) (V lb) 60 = n at *
  generalize zY (V la) (V lb) 60 = c at *
  generalize V la * 2 ^ n % V lb = y at *
  generalize V la * 2 ^ n / V lb = x at *
  have hr := Nat.mod_lt x (zj c)
  have hx := Nat.div_add_mod x (2 ^ c)
  have hb := zd9 (decide (y ≠ 0))
  have hs : stk x (decide (y ≠ 0)) = x / 2 ^ c * 2 ^ (c + 1) + (2 * (x % 2 ^ c) + bN (decide (y ≠ 0))) := by
   unfold stk
   conv => lhs; rw [← hx]
   rw [Nat.pow_succ, Nat.mul_comm (2 ^ c), ← Nat.mul_assoc]; omega
  rw [hs, zgj h _ (by omega) (by rw [Nat.pow_succ]; omega)]
  have hd := zjf (x % 2 ^ c) y
  rw [hd]
  congr 1
  omega
 clear hrq hqt
 rw [← hres]
 clear hres
 generalize zp (V la) (V lb) 60 = n at *
 generalize zY (V la) (V lb) 60 = c at *
 generalize zbu (V la) (V lb) 60 = Q at *
 generalize zdm (V la) (V lb) 60 = L at *
 generalize he : ea - eb - (n : Int) + (c : Int) = e at *
 have Q0 : Q ≠ 0 := fun h => by rw [h, zaz] at hQb; omega
 have z0 : sv (sa != sb) Q ≠ 0 := fun h => Q0 (zbc.1 h)
 have zb : bl (sv (sa != sb) Q).natAbs = 60 := by rw [zK, hQb]
 have zs : decide (sv (sa != sb) Q < 0) = (sa != sb) := zcg Q0
 unfold zek.f
 refine Ev.bind (hq) ?_; try dsimp only
 cases L
 ·have hr := zhu h hm z0 (e := e) (by omega) (by omega) (by omega)
  rw [zs, zK] at hr
  have hst : zt f m (sa != sb) (stk Q false) (e - 1) = zt f m (sa != sb) Q e := by
   have : stk Q false = Q * 2 ^ 1 := by unfold stk bN; rw [if_neg (by decide), Nat.pow_one]; omega
   rw [this, zhK f m _ Q0]
   congr 1
   omega
  rw [hst]
  have hb : Ev (fun k => zc9.f k (mk (sv (sa != sb) Q) e).1 (mk (sv (sa != sb) Q) e).2.1 (mk (sv (sa != sb) Q) e).2.2 false) (mk (sv (sa != sb) Q) e) := by
   unfold zc9.f
   exact zd rfl (Ev.now _)
  refine Ev.bind (hb) ?_; try dsimp only
  refine Ev.bind (hr) ?_; try dsimp only
  exact Ev.now _
 ·have g1 : Rg (sv (sa != sb) Q) e := ⟨by omega, by omega, by omega⟩
  have ht := zgf g1
  have htop : top (sv (sa != sb) Q) e = e + 60 := by
   unfold top
   rw [if_neg z0, zb]; rfl
  rw [htop] at ht
  have g2 : Rg 1 (e - 2) := ⟨by decide, by omega, by omega⟩
  have w1 : wrap64 (wrap64 (e + 60 - 60) - 2) = e - 2 := by
   rw [zdA (a := e + 60) (by omega) (by omega) (by omega) (by omega), zdA (by omega) (by omega) (by omega) (by omega)]; omega
  have hst : zt f m (sa != sb) (stk Q true) (e - 1) = zt f m (sa != sb) (4 * Q + 1) (e - 2) := by
   have h1 := zgj (m := m) h (sa != sb) (H := Q) (r := 1) (j := 2) (by omega) (by decide) (e - 2)
   rw [show Q * 2 ^ 2 + 1 = 4 * Q + 1 by omega, show decide (1 ≠ 0) = true from rfl] at h1
   rw [h1]
   congr 1
   omega
  rw [hst]
  have hsum : zN (sv (sa != sb) Q) e (if (sa != sb) = true then -1 else 1) (e - 2) = mk (sv (sa != sb) (4 * Q + 1)) (e - 2) := by
   have h1 := zgJ (if (sa != sb) = true then -1 else 1) (sv (sa != sb) Q) (e - 2) 2
   rw [show e - 2 + ((2 : Nat) : Int) = e by omega, zfE] at h1
   rw [h1]
   congr 1
   cases (sa != sb)
   ·simp [sv]; omega
   ·simp [sv]; omega
  have z1 : sv (sa != sb) (4 * Q + 1) ≠ 0 := fun h => by have := zbc.1 h; omega
  have zb1 : bl (sv (sa != sb) (4 * Q + 1)).natAbs ≤ 62 := by
   rw [zK]
   have := zU Q
   rw [hQb] at this
   exact zL (by omega)
  have zs1 : decide (sv (sa != sb) (4 * Q + 1) < 0) = (sa != sb) := zcg (by omega)
  have hr := zhu h hm z1 (e := e - 2) (by omega) (by omega) (by omega)
  rw [zs1, zK] at hr
  have hb : Ev (fun k => zc9.f k (mk (sv (sa != sb) Q) e).1 (mk (sv (sa != sb) Q) e).2.1 (mk (sv (sa != sb) Q) e).2.2 true) (mk (sv (sa != sb) (4 * Q + 1)) (e - 2)) := by
   unfold zc9.f
   refine ze (by simp) ?_
   refine Ev.bind (ht) ?_; try dsimp only
   rw [w1]
   clear w1
   refine zi (zjZ (e - 2)) ?_; try dsimp only
   have hsg : (mk (sv (sa != sb) Q) e).1 = (sa != sb) := by
    obtain ⟨j, _, _, j3, _⟩ := zcb z0 e
    rw [j3, zs]
   rw [hsg]
   cases hs : (sa != sb)
   ·rw [hs] at g1 hsum hsg
    refine ze (by simp) ?_
    have := zjS g1 g2
    rw [hsg] at this
    simp only [Bool.false_eq_true, if_false] at hsum
    rw [hsum] at this
    refine Ev.bind (this) ?_; try dsimp only
    exact Ev.now _
   ·rw [hs] at g1 hsum hsg
    refine zd rfl ?_
    have := zhy g1 g2
    rw [hsg] at this
    simp only [if_true] at hsum
    rw [hsum] at this
    refine Ev.bind (this) ?_; try dsimp only
    exact Ev.now _
  refine Ev.bind (hb) ?_; try dsimp only
  refine Ev.bind (hr) ?_; try dsimp only
  exact Ev.now _
theorem zmG {sa sb : Bool} {la lb : List Int} {ea eb : Int} (ha : My sa la ea) (hb : My sb lb eb) (hl : bl (V la) + bl (V lb) ≤ 131000) (h1 : -16000000 ≤ ea + eb) (h2 : ea + eb ≤ 16000000) : Ev (fun k => zdK.f k sa la ea sb lb eb) (ok3 (mk (sv sa (V la) * sv sb (V lb)) (ea + eb))) := by
 have a1 := ha.lo
 have a2 := ha.hi
 have b1 := hb.lo
 have b2 := hb.hi
 have hbl := zgO (V la) (V lb)
 have hlen := zaD (x := V la * V lb) (k := 4096) (by omega)
 have e : wrap64 (ea + eb) = ea + eb := zcB (by omega) (by omega) (by omega) (by omega)
 have m1 := znz ha.dy.nm hb.dy.nm ha.len hb.len
 rw [zeO (by omega)] at m1
 have k1 := zel (sa != sb) (zD (V la * V lb)) (by omega) (ea + eb)
 rw [V_D, zer (by omega) (by omega), ← zgl] at k1
 have hne : (decide (¬ sa = sb)) = (sa != sb) := by cases sa <;> cases sb <;> rfl
 unfold zdK.f
 refine Ev.bind (ziR ha hb) ?_; try dsimp only
 refine ze (by simp) ?_
 refine Ev.bind (m1) ?_; try dsimp only
 refine ze (by simp) ?_
 rw [e, hne]
 clear e
 refine Ev.bind (k1) ?_; try dsimp only
 exact Ev.now _
theorem zfa {z e : Int} (hb : bl z.natAbs ≤ 131072) (h1 : -16777216 ≤ e) (h2 : e + (bl z.natAbs : Nat) ≤ 16777216) : My (mk z e).1 (mk z e).2.1 (mk z e).2.2 := by
 have a1 := zcO z e
 have a2 := zbk z e
 have e1 : (mk z e).2.2 = me z e := rfl
 exact ⟨z8 z e, by omega, by omega, by omega⟩
theorem znu (za ea zb eb : Int) : mk (mz za ea * mz zb eb) (me za ea + me zb eb) = mk (za * zb) (ea + eb) := by
 by_cases c : za = 0
 ·subst c; rw [zcP, Int.zero_mul, Int.zero_mul]; rfl
 by_cases c2 : zb = 0
 ·subst c2; rw [zcP, Int.mul_zero, Int.mul_zero]; rfl
 obtain ⟨j, p1, p2, _, _⟩ := zbD c ea
 obtain ⟨i, q1, q2, _, _⟩ := zbD c2 eb
 have e3 : za * zb = mz za ea * mz zb eb * 2 ^ (j + i) := by
  conv => lhs; rw [p1, q1]
  rw [Int.pow_add, Int.mul_assoc, Int.mul_assoc]
  congr 1
  rw [Int.mul_left_comm]
 rw [e3, zbU, p2, q2]
 congr 1
 omega
theorem zd8 (z e : Int) : bl (V (mk z e).2.1) ≤ bl z.natAbs := by
 by_cases c : z = 0
 ·subst c; exact Nat.zero_le _
 ·obtain ⟨j, j1, _⟩ := zcb c e
  rw [j1]
  have h := zeN (V (mk z e).2.1) j
  have hp : V (mk z e).2.1 ≤ V (mk z e).2.1 * 2 ^ j := Nat.le_mul_of_pos_right _ (zj j)
  exact zaG hp
theorem znW {za ea zb eb : Int} (hb : bl za.natAbs + bl zb.natAbs ≤ 131000) (h1 : -8000000 ≤ ea) (h2 : ea ≤ 7000000) (h3 : -8000000 ≤ eb) (h4 : eb ≤ 7000000) : Ev (fun k => zdK.f k (mk za ea).1 (mk za ea).2.1 (mk za ea).2.2 (mk zb eb).1 (mk zb eb).2.1 (mk zb eb).2.2) (ok3 (mk (za * zb) (ea + eb))) := by
 have a2 := zbk za ea
 have b2 := zbk zb eb
 have a3 := zd8 za ea
 have b3 := zd8 zb eb
 have e1 : (mk za ea).2.2 = me za ea := rfl
 have e2 : (mk zb eb).2.2 = me zb eb := rfl
 refine zg (zmG (zfa (z := za) (e := ea) (by omega) (by omega) (by omega)) (zfa (z := zb) (e := eb) (by omega) (by omega) (by omega)) (by omega) (by omega) (by omega)) ?_
 show ok3 (mk (mz za ea * mz zb eb) (me za ea + me zb eb)) = _
 rw [znu]
theorem zkm {f m : Int} (h : isF f) (s : Bool) {A B : Nat} (hA : A ≠ 0) (hB : 0 < B) (e : Int) (j : Nat) : rq f m s A (B * 2 ^ j) e = rq f m s A B (e - j) := by
 have h1 := zhM (m := m) h s hA (Nat.mul_pos hB (zj j)) (e - j) j
 rw [show e - (j : Int) + j = e by omega] at h1
 rw [← h1, zoY h s hA hB (zj j)]
def z3 (f m : Int) (s : Bool) (n : Nat) (x : Int) : Int × Int := rq f m s (n * 10 ^ x.toNat) (10 ^ (-x).toNat) 0
theorem zch (n : Nat) : 0 < 10 ^ n := Nat.pow_pos (by omega)
theorem ziJ {f m : Int} (h : isF f) (s : Bool) {n : Nat} (hn : n ≠ 0) {x : Int} (hx : 400 ≤ x) : z3 f m s n x = ((zcv f m s : Int), 20) := by
 have hw := zd2 h
 unfold z3
 obtain ⟨K, hK⟩ : ∃ K : Nat, K = 1024 := ⟨_, rfl⟩
 refine zoX h s (zch _) (k := K) ?_ (by omega)
 have e1 : (-x).toNat = 0 := by omega
 rw [e1, Nat.pow_zero, Nat.one_mul]
 have h1 : 8 ^ x.toNat ≤ 10 ^ x.toNat := Nat.pow_le_pow_left (by omega) _
 have h2 : (2 : Nat) ^ K ≤ 2 ^ (3 * x.toNat) := Nat.pow_le_pow_right (by omega) (by omega)
 rw [Nat.pow_mul, show (2 : Nat) ^ 3 = 8 from rfl] at h2
 have h3 : 1 * 10 ^ x.toNat ≤ n * 10 ^ x.toNat := Nat.mul_le_mul_right _ (by omega)
 generalize (2 : Nat) ^ K = a at *
 generalize 8 ^ x.toNat = b at *
 omega
theorem ziK {f m : Int} (h : isF f) (s : Bool) {n p : Nat} (hn : n ≠ 0) (hb : n < 10 ^ p) {x : Int} (hx : x + p ≤ -500) : z3 f m s n x = zt f m s 1 (lo f - 2) := by
 have hw := zbT h
 have e1 : x.toNat = 0 := by omega
 unfold z3
 rw [e1, Nat.pow_zero, Nat.mul_one]
 obtain ⟨K, hK⟩ : ∃ K : Nat, K = 1080 := ⟨_, rfl⟩
 refine zoZ h s hn (zch _) (k := K) ?_ (by omega)
 obtain ⟨c, hc⟩ : ∃ c : Nat, (-x).toNat = p + c ∧ 500 ≤ c := ⟨(-x).toNat - p, by omega, by omega⟩
 rw [hc.1, Nat.pow_add]
 have h2 : (2 : Nat) ^ K ≤ 10 ^ c := by
  have h3 : (2 : Nat) ^ K ≤ 2 ^ (3 * c) := Nat.pow_le_pow_right (by omega) (by omega)
  rw [Nat.pow_mul] at h3
  exact Nat.le_trans h3 (Nat.pow_le_pow_left (by omega) _)
 exact Nat.mul_lt_mul_of_lt_of_le hb h2 (zch c)
theorem ziL {f m : Int} (h : isF f) (s : Bool) {n p : Nat} (hn : n ≠ 0) (hb : n < 10 ^ p) {a b : Int} (ha : 400 ≤ a) (hB : b + p ≤ -500) (x : Int) : z3 f m s n (if x > a then a else if x < b then b else x) = z3 f m s n x := by
 by_cases c1 : x > a
 ·rw [if_pos c1, ziJ h s hn ha, ziJ h s hn (by omega)]
 ·rw [if_neg c1]
  by_cases c2 : x < b
  ·rw [if_pos c2, ziK h s hn hb hB, ziK h s hn hb (by omega)]
  ·rw [if_neg c2]
theorem zmv {f m : Int} (h : isF f) (s : Bool) {n : Nat} (hn : n ≠ 0) (X : Nat) : zt f m s (n * 5 ^ X) X = z3 f m s n X := by
 have h5 : n * 5 ^ X ≠ 0 := Nat.mul_ne_zero hn (Nat.ne_of_gt (Nat.pow_pos (by omega)))
 have h1 := zhM (m := m) h s h5 (B := 1) (by omega) 0 X
 rw [Int.zero_add] at h1
 unfold z3
 rw [← zko h s h5, ← h1, Nat.mul_assoc, ← Nat.mul_pow]
 have e1 : (X : Int).toNat = X := Int.toNat_natCast X
 have e2 : (-(X : Int)).toNat = 0 := by omega
 rw [e1, e2]
theorem zmt {f m : Int} (h : isF f) (s : Bool) {n : Nat} (hn : n ≠ 0) (Y : Nat) : rq f m s n (5 ^ Y) (-(Y : Int)) = z3 f m s n (-(Y : Int)) := by
 have h1 := zkm (m := m) h s hn (B := 5 ^ Y) (Nat.pow_pos (by omega)) 0 Y
 rw [← Nat.mul_pow, Int.zero_sub] at h1
 unfold z3
 rw [← h1]
 have e1 : (-(Y : Int)).toNat = 0 := by omega
 have e2 : (-(-(Y : Int))).toNat = Y := by omega
 rw [e1, e2, Nat.pow_zero, Nat.mul_one]
theorem zlu {f m : Int} (h : isF f) (hm : isM m) (s : Bool) {n : Nat} (hn : n ≠ 0) {e : Int} (hb : bl n ≤ 100000) (h1 : -1000000 ≤ e) (h2 : e ≤ 1000000) : Ev (fun k => zdV.f k f m (mk (sv s n) e).1 (mk (sv s n) e).2.1 (mk (sv s n) e).2.2) ((zt f m s n e).1, (zt f m s n e).2, 0) := by
 have z0 : sv s n ≠ 0 := fun h => hn (zbc.1 h)
 obtain ⟨j, j1, j2, j3, j4⟩ := zcb z0 e
 have hm1 := zfa (z := sv s n) (e := e) (by rw [zK]; omega) (by omega) (by rw [zK]; omega)
 have hr := zlt h hm hm1 j4
 rw [zcg hn] at j3
 rw [zK] at j1
 have e1 := zhK f m s j4 e j
 rw [← j1, ← j2] at e1
 have e2 : zt f m (mk (sv s n) e).1 (V (mk (sv s n) e).2.1) (mk (sv s n) e).2.2 = zt f m s n e := by rw [j3, ← e1]
 rwa [e2] at hr
theorem zjI (n : Nat) : bl (5 ^ n) ≤ 3 * n + 1 := by
 refine zL ?_
 have h1 : 5 ^ n ≤ 8 ^ n := Nat.pow_le_pow_left (by omega) n
 rw [Nat.pow_succ, Nat.pow_mul]
 have : (2 : Nat) ^ 3 = 8 := rfl
 rw [this]
 have := Nat.pow_pos (n := n) (show 0 < 8 by omega)
 omega
theorem zdP (n : Nat) : bl (10 ^ n) ≤ 4 * n + 1 := by
 refine zL ?_
 have h1 : 10 ^ n ≤ 16 ^ n := Nat.pow_le_pow_left (by omega) n
 rw [Nat.pow_succ, Nat.pow_mul]
 have : (2 : Nat) ^ 4 = 16 := rfl
 rw [this]
 have := Nat.pow_pos (n := n) (show 0 < 16 by omega)
 omega
theorem zjw (s : Bool) : decide (¬ s = false) = s := by cases s <;> rfl
theorem zjM {f m : Int} (h : isF f) (s : Bool) {n N : Nat} {e e' : Int} (hn : n ≠ 0) (hN : N ≠ 0) : rq f m s (V (mk (sv s n) e).2.1) (V (mk (N : Int) e').2.1) ((mk (sv s n) e).2.2 - (mk (N : Int) e').2.2) = rq f m s n N (e - e') := by
 have z0 : sv s n ≠ 0 := fun h => hn (zbc.1 h)
 have z1 : (N : Int) ≠ 0 := by omega
 obtain ⟨j, j1, j2, j3, j4⟩ := zcb z0 e
 obtain ⟨i, i1, i2, i3, i4⟩ := zcb z1 e'
 rw [zK] at j1
 rw [Int.natAbs_natCast] at i1
 rw [i2, j2]
 have h1 := zhM (m := m) h s j4 (Nat.pos_of_ne_zero i4) (e - (e' + (i : Int))) j
 have h2 := zkm (m := m) h s hn (Nat.pos_of_ne_zero i4) (e - e') i
 rw [← j1] at h1
 rw [← i1] at h2
 rw [h2, show e - e' - (i : Int) = e - (e' + (i : Int)) by omega, h1]
 congr 1
 omega
theorem zmw {f m : Int} (h : isF f) (hm : isM m) (s : Bool) {n : Nat} (hn : n ≠ 0) {p : Nat} (hp : p ≤ 1200) (hb : n < 10 ^ p) (x : Int) : Ev (fun k => zdf.f k f m s (D n) x) ((z3 f m s n x).1, (z3 f m s n x).2, 0) := by
 have hx := ziL (m := m) h s hn hb (a := 3000) (b := -3000) (by omega) (by omega) x
 have ex : mn 3000 (mx (-3000) x) = (if x > 3000 then 3000 else if x < -3000 then -3000 else x) := by unfold mn mx; split <;> split <;> split <;> (try split) <;> omega
 rw [← hx]
 unfold zdf.f
 rw [ex]
 have hr : -3000 ≤ (if x > 3000 then 3000 else if x < -3000 then -3000 else x) ∧ (if x > 3000 then 3000 else if x < -3000 then -3000 else x) ≤ 3000 := by split <;> (try split) <;> omega
 clear ex hx
 generalize (if x > 3000 then 3000 else if x < -3000 then -3000 else x) = y at *
 have hbn : bl n ≤ 4801 := by
  have h1 := zaG (Nat.le_of_lt hb)
  have h2 := zdP p
  omega
 have lenn := zaD (x := n) (k := 200) (by omega)
 have hmk := zel s (zD n) (by omega) y
 rw [V_D, zer (by omega) (by omega)] at hmk
 refine Ev.bind (hmk) ?_; try dsimp only
 by_cases c : y ≥ 0
 ·refine zd c ?_
  obtain ⟨Y, rfl⟩ := Int.eq_ofNat_of_zero_le c
  have b5 := zjI Y
  have l5 := zaD (x := 5 ^ Y) (k := 400) (by omega)
  have hpw := zjt (b := 5) (n := Y) (by omega) (by omega)
  rw [zeO (by omega)] at hpw
  have hm5 := zel false (zD (5 ^ Y)) (by omega) 0
  rw [V_D, zer (by omega) (by omega)] at hm5
  refine Ev.bind (hpw) ?_; try dsimp only
  refine Ev.bind (hm5) ?_; try dsimp only
  have hmul := znW (za := sv s n) (ea := (Y : Int)) (zb := sv false (5 ^ Y)) (eb := 0) (by rw [zK, zK]; omega) (by omega) (by omega) (by omega) (by omega)
  rw [zgl, Bool.bne_false, Int.add_zero] at hmul
  have h50 : n * 5 ^ Y ≠ 0 := Nat.mul_ne_zero hn (Nat.ne_of_gt (Nat.pow_pos (by omega)))
  have hro := zlu h hm s h50 (e := (Y : Int)) (by have := zgO n (5 ^ Y); omega) (by omega) (by omega)
  rw [zmv h s hn Y] at hro
  refine Ev.bind (hmul) ?_; try dsimp only
  refine Ev.bind (hro) ?_; try dsimp only
  exact Ev.now _
 ·refine ze c ?_
  obtain ⟨Y, hY⟩ : ∃ Y : Nat, y = -(Y : Int) := ⟨(-y).toNat, by omega⟩
  subst hY
  have b5 := zjI Y
  have l5 := zaD (x := 5 ^ Y) (k := 400) (by omega)
  have hpw := zjt (b := 5) (n := Y) (by omega) (by omega)
  rw [zeO (by omega)] at hpw
  have hm5 := zel false (zD (5 ^ Y)) (by omega) 0
  rw [V_D, zer (by omega) (by omega)] at hm5
  rw [show wrap64 (-(-(Y : Int))) = (Y : Int) by rw [zd4 (by omega) (by omega)]; omega]
  refine Ev.bind (hpw) ?_; try dsimp only
  refine Ev.bind (hm5) ?_; try dsimp only
  have z0 : sv s n ≠ 0 := fun h => hn (zbc.1 h)
  have h50 : 5 ^ Y ≠ 0 := Nat.ne_of_gt (Nat.pow_pos (by omega))
  have z1 : sv false (5 ^ Y) ≠ 0 := fun h => h50 (zbc.1 h)
  have m1 := zfa (z := sv s n) (e := -(Y : Int)) (by rw [zK]; omega) (by omega) (by rw [zK]; omega)
  have m2 := zfa (z := sv false (5 ^ Y)) (e := 0) (by rw [zK]; omega) (by omega) (by rw [zK]; omega)
  obtain ⟨j, j1, j2, j3, j4⟩ := zcb z0 (-(Y : Int))
  obtain ⟨i, i1, i2, i3, i4⟩ := zcb z1 0
  have v1 := zd8 (sv s n) (-(Y : Int))
  have v2 := zd8 (sv false (5 ^ Y)) 0
  rw [zK] at v1 v2
  have hq := zlq h hm m1 m2 j4 i4 (by omega) (by omega)
  have hsg : decide (¬ (mk (sv s n) (-(Y : Int))).1 = (mk (sv false (5 ^ Y)) 0).1) = s := by
   rw [j3, i3, zcg hn, zcg h50]; exact zjw s
  rw [hsg] at hq
  have hpt := zjM (m := m) h s (e := -(Y : Int)) (e' := 0) hn h50
  rw [Int.sub_zero, zmt h s hn Y] at hpt
  rw [show sv false (5 ^ Y) = ((5 ^ Y : Nat) : Int) from rfl] at *
  rw [hpt] at hq
  refine Ev.bind (hq) ?_; try dsimp only
  exact Ev.now _
theorem zkb {Y : Nat} (hY : Y ≤ 1000000) : Ev (fun k => zdJ.f k (Y : Int)) (mk ((10 ^ Y : Nat) : Int) 0) := by
 have b10 := zdP Y
 have l10 := zaD (x := 10 ^ Y) (k := 130000) (by omega)
 have hpw := zoH (b := 10) (n := Y) (by omega) (by omega) (K := Y + 1) (by omega) (by omega) (by
  rw [show max 1 10 = 10 from rfl]
  exact Nat.lt_of_lt_of_le (Nat.pow_lt_pow_right (by omega) (Nat.lt_succ_self Y)) (Nat.pow_le_pow_left (by omega) _))
 have hf := zcw false (zD (10 ^ Y)) (by omega) (e := 0) (by omega) (by omega)
 rw [V_D] at hf
 unfold zdJ.f
 refine Ev.bind (hpw) ?_; try dsimp only
 refine Ev.bind (hf) ?_; try dsimp only
 exact Ev.now _
theorem zli {f m : Int} (h : isF f) (hm : isM m) (s : Bool) {n : Nat} (hn : n ≠ 0) {p : Nat} (hp : p ≤ 1200) (hb : n < 10 ^ p) (x : Int) : Ev (fun k => zaK.f k f m s (D n) x) (z3 f m s n x) := by
 have hx := ziL (m := m) h s hn hb (a := 400) (b := -1700) (by omega) (by omega) x
 rw [← hx]
 have hr : -1700 ≤ (if x > 400 then 400 else if x < -1700 then -1700 else x) ∧ (if x > 400 then 400 else if x < -1700 then -1700 else x) ≤ 400 := by split <;> (try split) <;> omega
 have hbn : bl n ≤ 4801 := by
  have h1 := zaG (Nat.le_of_lt hb)
  have h2 := zdP p
  omega
 have lenn := zaD (x := n) (k := 200) (by omega)
 have j1 : ∀ y : Int, -1700 ≤ y → y ≤ 400 → Ev (fun k => zaK.j1 k f m s (D n) y) (z3 f m s n y) := by
  intro y h1 h2
  have hf := zcw s (zD n) (by omega) (e := 0) (by omega) (by omega)
  rw [V_D] at hf
  have z0 : sv s n ≠ 0 := fun h => hn (zbc.1 h)
  refine zf ?_
  simp only [zaK.j1]
  refine Ev.bind (hf) ?_; try dsimp only
  by_cases c : y ≥ 0
  ·refine zd c ?_
   obtain ⟨Y, rfl⟩ := Int.eq_ofNat_of_zero_le c
   have b10 := zdP Y
   refine Ev.bind (zkb (Y := Y) (by omega)) ?_; try dsimp only
   have hmul := zon (za := sv s n) (ea := 0) (zb := sv false (10 ^ Y)) (eb := 0) ⟨by rw [zK]; omega, by omega, by omega⟩ ⟨by rw [zK]; omega, by omega, by omega⟩
   rw [zgl, Bool.bne_false, Int.add_zero] at hmul
   rw [show sv false (10 ^ Y) = ((10 ^ Y : Nat) : Int) from rfl] at hmul
   refine Ev.bind (hmul) ?_; try dsimp only
   have hne : n * 10 ^ Y ≠ 0 := Nat.mul_ne_zero hn (Nat.ne_of_gt (zch Y))
   have z2 : sv s (n * 10 ^ Y) ≠ 0 := fun h => hne (zbc.1 h)
   have hro := zhu h hm z2 (e := 0) (by rw [zK]; have := zgO n (10 ^ Y); omega) (by omega) (by omega)
   rw [zcg hne, zK] at hro
   have e3 : zt f m s (n * 10 ^ Y) 0 = z3 f m s n (Y : Int) := by
    rw [← zko h s hne]
    unfold z3
    have e1 : (Y : Int).toNat = Y := Int.toNat_natCast Y
    have e2 : (-(Y : Int)).toNat = 0 := by omega
    rw [e1, e2]
   rw [e3] at hro
   refine Ev.bind (hro) ?_; try dsimp only
   exact Ev.now _
  ·refine ze c ?_
   obtain ⟨Y, hY⟩ : ∃ Y : Nat, y = -(Y : Int) := ⟨(-y).toNat, by omega⟩
   subst hY
   have b10 := zdP Y
   rw [show wrap64 (-(-(Y : Int))) = (Y : Int) by rw [zd4 (by omega) (by omega)]; omega]
   refine Ev.bind (zkb (Y := Y) (by omega)) ?_; try dsimp only
   have hNe : 10 ^ Y ≠ 0 := Nat.ne_of_gt (zch Y)
   have z1 : sv false (10 ^ Y) ≠ 0 := fun h => hNe (zbc.1 h)
   obtain ⟨j, k1, k2, k3, k4⟩ := zcb z0 0
   obtain ⟨i, i1, i2, i3, i4⟩ := zcb z1 0
   have v1 := zd8 (sv s n) 0
   have v2 := zd8 (sv false (10 ^ Y)) 0
   have u1 := zbk (sv s n) 0
   have u2 := zbk (sv false (10 ^ Y)) 0
   have t1 : (mk (sv s n) 0).2.2 = me (sv s n) 0 := rfl
   have t2 : (mk (sv false (10 ^ Y)) 0).2.2 = me (sv false (10 ^ Y)) 0 := rfl
   rw [zK] at v1 v2 u1 u2
   have hq := zoA h hm (z8 (sv s n) 0) (z8 (sv false (10 ^ Y)) 0) k4 i4 (by omega) (by omega) (by omega) (by omega) (by omega) (by omega)
   have hsg : decide (¬ (mk (sv s n) 0).1 = (mk (sv false (10 ^ Y)) 0).1) = s := by
    rw [k3, i3, zcg hn, zcg hNe]; exact zjw s
   rw [hsg] at hq
   have hpt := zjM (m := m) h s (e := 0) (e' := 0) hn hNe
   have e4 : rq f m s n (10 ^ Y) (0 - 0) = z3 f m s n (-(Y : Int)) := by
    unfold z3
    have e1 : (-(Y : Int)).toNat = 0 := by omega
    have e2 : (-(-(Y : Int))).toNat = Y := by omega
    rw [e1, e2, Nat.pow_zero, Nat.mul_one]; rfl
   rw [e4] at hpt
   rw [show sv false (10 ^ Y) = ((10 ^ Y : Nat) : Int) from rfl] at *
   rw [hpt] at hq
   refine Ev.bind (hq) ?_; try dsimp only
   exact Ev.now _
 unfold zaK.f
 have j0 : ∀ y : Int, y ≤ 400 → Ev (fun k => zaK.j0 k f m s (D n) y) (z3 f m s n (if y < -1700 then -1700 else y)) := by
  intro y hy
  refine zf ?_
  simp only [zaK.j0]
  by_cases c2 : y < -1700
  ·rw [if_pos c2]
   exact zd c2 (j1 _ (by omega) (by omega))
  ·rw [if_neg c2]
   exact ze c2 (j1 _ (by omega) (by omega))
 by_cases c : x > 400
 ·rw [if_pos c]
  refine zd c ?_
  have := j0 400 (by omega)
  rwa [if_neg (by omega)] at this
 ·rw [if_neg c]
  exact ze c (j0 x (by omega))
def bx (l : List UInt8) : ByteArray := ⟨l.toArray⟩
theorem zy (l : List UInt8) : tl (bx l) = l := rfl
theorem zl0 (s : ByteArray) : bx (tl s) = s := zbI.1 rfl
theorem zO (l : List UInt8) : (bx l).size = l.length := by rw [zcy, zy]
theorem zbM {l : List UInt8} : bx l = (⟨#[]⟩ : ByteArray) ↔ l = [] := by rw [← zkR, zy]
theorem ze0 {s : ByteArray} {A B C : List UInt8} (h : tl s = A ++ (B ++ C)) : s.extract A.length (A.length + B.length) = bx B := by
 apply zbI.1
 rw [zgn, zy, h, ← List.append_assoc, List.take_append_of_le_length (by simp), List.take_of_length_le (by simp), List.drop_left]
theorem zfU {s : ByteArray} {A B : List UInt8} (h : tl s = A ++ B) : s.extract A.length s.size = bx B := by
 have hz := zaj h
 have := ze0 (s := s) (A := A) (B := B) (C := []) (by simpa using h)
 rw [hz]; exact this
def zbd (d : List UInt8) (x : Int) (l : List UInt8) : Option (List UInt8 × Int) :=
 if l = [] then some (d, x) else if l.head? = some 101 ∧ zav l.tail = true then some (d, x + zem l.tail) else none
def zaN (l : List UInt8) : Option (List UInt8 × Int) :=
 if l.takeWhile isD = [] then none
 else if (l.dropWhile isD).head? = some 46 then
  if (l.dropWhile isD).tail.takeWhile isD = [] then none
  else zbd (l.takeWhile isD ++ (l.dropWhile isD).tail.takeWhile isD) (-(((l.dropWhile isD).tail.takeWhile isD).length : Int)) ((l.dropWhile isD).tail.dropWhile isD)
 else zbd (l.takeWhile isD) 0 (l.dropWhile isD)
def zcq (f m : Int) (s : Bool) (n : Nat) (x : Int) : Int × Int × Int := if n = 0 then ((sgn f s : Int), 0, 0) else ((z3 f m s n x).1, (z3 f m s n x).2, 0)
def zms (f m : Int) (s : Bool) : Option (List UInt8 × Int) → Int × Int × Int
 | some x => zcq f m s (zn x.1 0) x.2
 | none => (0, 0, 12)
def zeT (f m : Int) (s : Bool) (l : List UInt8) : Int × Int × Int :=
 if l = [105, 110, 102] then (((mo f * 2 ^ fb f + sgn f s : Nat) : Int), 0, 0) else zms f m s (zaN l)
def zP (f m : Int) (l : List UInt8) : Int × Int × Int :=
 if 1200 < l.length then (0, 0, 3) else if l = [110, 97, 110] then ((zfb f : Int), 0, 0) else zeT f m (zaZ l) (zJ l)
theorem zb8 {b : UInt8} : isD b = true ↔ 48 ≤ (b.toNat : Int) ∧ (b.toNat : Int) ≤ 57 := by unfold isD; rw [decide_eq_true_iff]; omega
section
variable {s : ByteArray} (hs : s.size ≤ 1000000)
include hs
theorem zku (A0 : List UInt8) : ∀ (B C : List UInt8), tl s = A0 ++ (C ++ B) →
  Ev (fun k => zbh.l0 k s ((A0.length + C.length : Nat) : Int) (A0.length : Int)) (bx (C ++ B.takeWhile isD), s, ((A0.length + (C ++ B.takeWhile isD).length : Nat) : Int))
 | [], C, he => by
  have hz := zaj (A := A0 ++ C) (B := []) (by simpa using he)
  simp only [List.length_append, List.length_nil] at hz
  have hx := ze0 (s := s) (A := A0) (B := C) (C := []) (by simpa using he)
  refine zf ?_; simp only [zbh.l0]
  refine ze (by omega) (zd (by omega) (zd (by omega) (zd (by omega) ?_)))
  rw [Int.toNat_natCast, Int.toNat_natCast, hx]
  exact zg (Ev.now _) (by simp)
 | b :: B, C, he => by
  have he2 : tl s = (A0 ++ C) ++ b :: B := by rw [he]; simp
  have hz := zaj he2
  simp only [List.length_append, List.length_cons] at hz
  have hb := zaH he2
  rw [List.length_append] at hb
  have hx := ze0 (s := s) (A := A0) (B := C) (C := b :: B) he
  have stop : Ev (fun k => (if 0 ≤ ((A0.length : Nat) : Int) then (if ((A0.length : Nat) : Int) ≤ ((A0.length + C.length : Nat) : Int) then (if ((A0.length + C.length : Nat) : Int) ≤ (s.size : Int) then (some (s.extract ((A0.length : Nat) : Int).toNat (((A0.length + C.length : Nat) : Int)).toNat, s, ((A0.length + C.length : Nat) : Int))) else (none)) else (none)) else (none))) (bx C, s, ((A0.length + C.length : Nat) : Int)) := by
   refine zd (by omega) (zd (by omega) (zd (by omega) ?_))
   rw [Int.toNat_natCast, Int.toNat_natCast, hx]
   exact Ev.now _
  refine zf ?_; simp only [zbh.l0]
  rw [hb]
  refine zd (by omega) (zd (by omega) (zd (by omega) ?_))
  by_cases c1 : 48 ≤ (b.toNat : Int)
  ·refine zd c1 (zd (by omega) (zd (by omega) ?_))
   by_cases c2 : (b.toNat : Int) ≤ 57
   ·refine zd c2 ?_
    have e1 : wrap64 (((A0.length + C.length : Nat) : Int) + 1) = ((A0.length + (C ++ [b]).length : Nat) : Int) := by
     rw [List.length_append, List.length_singleton, w64 (by omega) (by omega)]; omega
    rw [e1]
    clear e1
    have := zku A0 B (C ++ [b]) (by rw [he]; simp)
    rw [List.append_assoc, List.singleton_append] at this
    rw [List.takeWhile_cons, zb8.2 ⟨c1, c2⟩]
    simpa using this
   ·refine ze c2 ?_
    have : isD b = false := by rw [Bool.eq_false_iff]; intro h; exact c2 (zb8.1 h).2
    rw [List.takeWhile_cons, this]
    simpa using stop
  ·refine ze c1 ?_
   have : isD b = false := by rw [Bool.eq_false_iff]; intro h; exact c1 (zb8.1 h).1
   rw [List.takeWhile_cons, this]
   simpa using stop
theorem zhO {A B : List UInt8} (he : tl s = A ++ B) : Ev (fun k => zbh.f k s (A.length : Int)) (bx (B.takeWhile isD), s, (((A ++ B.takeWhile isD).length : Nat) : Int)) := by
 unfold zbh.f
 have := zku hs A B [] (by simpa using he)
 simpa using this
theorem zfl {A r : List UInt8} {x : UInt8} (he : tl s = A ++ x :: r) {c : ByteArray} (hc : x ∈ tl c) : Ev (fun k => zal.f k s (A.length : Int) c) ((x.toNat : Int), true, s, (((A ++ [x]).length : Nat) : Int)) := by
 have hz := zaj he
 simp only [List.length_cons] at hz
 have hb := zaH he
 have hi : zdr.f c (x.toNat : Int) = some (Lib.indexByte (tl c) x) := by
  unfold zdr.f zb9.f
  have : ((x.toNat : Int)).toNat.toUInt8 = x := by rw [Int.toNat_natCast]; exact UInt8.ofNat_toNat
  rw [this]; rfl
 have h0 : decide (Lib.indexByte (tl c) x ≥ 0) = true := by
  rcases zi2 (tl c) x with ⟨_, h2⟩ | ⟨P, Q, _, _, h3⟩
  ·exact absurd hc h2
  ·rw [h3]; exact decide_eq_true (by omega)
 have e1 : wrap64 ((A.length : Int) + 1) = ((A.length + 1 : Nat) : Int) := by rw [w64 (by omega) (by omega)]; omega
 have e2 : wrap64 (((A.length + 1 : Nat) : Int) - 1) = (A.length : Int) := by clear e1; rw [w64 (by omega) (by omega)]; omega
 unfold zal.f
 rw [hb]
 refine zd (by omega) (zd (by omega) (zd (by omega) (zi hi ?_)))
 rw [h0]
 refine zf ?_; simp only [zal.j0]
 rw [e1, e2, hb]
 clear e1 e2
 refine zd trivial (zd (by omega) (zd (by omega) (zg (Ev.now _) ?_)))
 rw [List.length_append]; rfl
theorem zfm {A B : List UInt8} (he : tl s = A ++ B) {c : ByteArray} (hc : ∀ x r, B = x :: r → x ∉ tl c) : Ev (fun k => zal.f k s (A.length : Int) c) (0, false, s, (A.length : Int)) := by
 have hs' := hs
 have hz := zaj he
 have no : Ev (fun k => zal.j0 k s (A.length : Int) false) (0, false, s, (A.length : Int)) := by
  refine zf ?_; simp only [zal.j0]
  exact ze (by simp) (Ev.now _)
 unfold zal.f
 cases B with
 | nil =>
  simp only [List.length_nil] at hz
  exact ze (by omega) no
 | cons x r =>
  simp only [List.length_cons] at hz
  have hb := zaH he
  have hi : zdr.f c (x.toNat : Int) = some (Lib.indexByte (tl c) x) := by
   unfold zdr.f zb9.f
   have : ((x.toNat : Int)).toNat.toUInt8 = x := by rw [Int.toNat_natCast]; exact UInt8.ofNat_toNat
   rw [this]; rfl
  have h0 : decide (Lib.indexByte (tl c) x ≥ 0) = false := by
   rcases zi2 (tl c) x with ⟨h2, _⟩ | ⟨P, Q, h3, _, _⟩
   ·rw [h2]; rfl
   ·exact absurd (by rw [h3]; simp) (hc x r rfl)
  rw [hb]
  refine zd (by omega) (zd (by omega) (zd (by omega) (zi hi ?_)))
  rw [h0]
  exact no
end
theorem ziI : ∀ (l : List UInt8) (a : Nat), l.all isD = true → Lib.decFrom a l = some (zn l a)
 | [], a, _ => rfl
 | b :: l, a, h => by
  simp only [List.all_cons, Bool.and_eq_true] at h
  have hb := zb8.1 h.1
  unfold Lib.decFrom
  have hd : Lib.digitVal b = some (b.toNat - 48) := by unfold Lib.digitVal; rw [if_pos (by omega)]
  rw [hd]
  show Lib.decFrom (a * 10 + (b.toNat - 48)) l = _
  rw [ziI l _ h.2]
  show _ = some (zn l (10 * a + (b.toNat - 48)))
  rw [Nat.mul_comm]
theorem zlM {l : List UInt8} (h : l.all isD = true) (h0 : l ≠ []) : Lib.atoi l = some ((zn l 0 : Nat) : Int) := by
 cases l with
 | nil => exact absurd rfl h0
 | cons b r =>
  have hb : isD b = true := by simp only [List.all_cons, Bool.and_eq_true] at h; exact h.1
  have hb := zb8.1 hb
  have n1 : (b == 45) = false := by rw [beq_eq_false_iff_ne]; intro h; rw [h] at hb; exact absurd hb.1 (by decide)
  have n2 : (b == 43) = false := by rw [beq_eq_false_iff_ne]; intro h; rw [h] at hb; exact absurd hb.1 (by decide)
  unfold Lib.atoi
  simp only [n1, n2, Bool.false_eq_true, if_false]
  have : Lib.decNat (b :: r) = some (zn (b :: r) 0) := by
   unfold Lib.decNat
   simp only [List.isEmpty_cons, Bool.false_eq_true, if_false]
   exact ziI _ 0 h
  rw [this]; rfl
theorem ziX (E : List UInt8) : (∃ r, E = 45 :: r ∧ zq E = r ∧ zcM E = true) ∨ (∃ r, E = 43 :: r ∧ zq E = r ∧ zcM E = false) ∨ ((∀ x r, E = x :: r → x ≠ 45 ∧ x ≠ 43) ∧ zq E = E ∧ zcM E = false) := by
 cases E with
 | nil => exact .inr (.inr ⟨by simp, rfl, rfl⟩)
 | cons x r =>
  by_cases c1 : x = 45
  ·subst c1; exact .inl ⟨r, rfl, rfl, rfl⟩
  by_cases c2 : x = 43
  ·subst c2; exact .inr (.inl ⟨r, rfl, rfl, rfl⟩)
  obtain ⟨h1, h2⟩ := zmO (l := x :: r) (by simpa using c1) (by simpa using c2)
  refine .inr (.inr ⟨?_, h2, h1⟩)
  intro y t h
  rw [← (List.cons.inj h).1]
  exact ⟨c1, c2⟩
theorem zkV {l : List UInt8} {p : UInt8 → Bool} (h : l.dropWhile p = []) : l.all p = true ∧ l.takeWhile p = l := by
 have h1 := zb0 p l
 rw [h, List.append_nil] at h1
 have h2 := zdu p l
 rw [h1] at h2
 exact ⟨h2, h1⟩
theorem zfT {l : List UInt8} {p : UInt8 → Bool} (h : l.all p = true) : l.dropWhile p = [] ∧ l.takeWhile p = l := by
 induction l with
 | nil => exact ⟨rfl, rfl⟩
 | cons a l ih =>
  simp only [List.all_cons, Bool.and_eq_true] at h
  obtain ⟨h1, h2⟩ := ih h.2
  simp [h.1, h1, h2]
def zgB (s : ByteArray) (o : Option (List UInt8 × Int)) (r : ByteArray × Int × Bool × ByteArray × Int) : Prop :=
 match o with
 | some (d, x) => r.1 = bx d ∧ r.2.1 = x ∧ r.2.2.1 = true
 | none => r.2.2.1 = false
theorem ziM {s : ByteArray} (hs : s.size ≤ 1000000) {A B d : List UInt8} (he : tl s = A ++ B) {x : Int} (hx : -1000000 ≤ x ∧ x ≤ 1000000) :
  ∃ r, Ev (fun k => zQ.j2 k s (A.length : Int) (bx d) x) r ∧ zgB s (zbd d x B) r := by
 have hz := zaj he
 have last : ∀ (a : Int) (y : Int), Ev (fun k => zQ.j6 k s a (bx d) y) (bx d, y, decide (a = (s.size : Int)), s, a) := by
  intro a y
  refine zf ?_; simp only [zQ.j6]
  exact Ev.now _
 by_cases c0 : B.head? = some 101
 ·obtain ⟨E, hB⟩ : ∃ E, B = 101 :: E := by
   cases B with
   | nil => simp at c0
   | cons y E => simp at c0; exact ⟨E, by rw [c0]⟩
  subst hB
  have he2 : tl s = (A ++ [101]) ++ E := by rw [he]; simp
  have ht := zfl hs he (c := (⟨#[101]⟩ : ByteArray)) (by simp [tl])
  have hT : zbd d x (101 :: E) = if zav E = true then some (d, x + zem E) else none := by
   unfold zbd
   rw [if_neg (by simp)]
   simp
  rw [hT]
  obtain ⟨A2, b, ok, hA2, hsg, hbn⟩ : ∃ (A2 : List UInt8) (b : Int) (ok : Bool), tl s = A2 ++ zq E ∧ Ev (fun k => zal.f k s (((A ++ [101]).length : Nat) : Int) (⟨#[43, 45]⟩ : ByteArray)) (b, ok, s, (A2.length : Int)) ∧ (b = 45 ↔ zcM E = true) := by
   rcases ziX E with ⟨r, h1, h2, h3⟩ | ⟨r, h1, h2, h3⟩ | ⟨h1, h2, h3⟩
   ·subst h1
    refine ⟨A ++ [101] ++ [45], 45, true, by rw [he2, h2]; simp, ?_, by simp [h3]⟩
    exact zfl hs he2 (c := (⟨#[43, 45]⟩ : ByteArray)) (by simp [tl])
   ·subst h1
    refine ⟨A ++ [101] ++ [43], 43, true, by rw [he2, h2]; simp, ?_, by simp [h3]⟩
    exact zfl hs he2 (c := (⟨#[43, 45]⟩ : ByteArray)) (by simp [tl])
   ·refine ⟨A ++ [101], 0, false, by rw [he2, h2], ?_, by simp [h3]⟩
    refine zfm hs he2 (c := (⟨#[43, 45]⟩ : ByteArray)) ?_
    intro y t h
    have := h1 y t h
    simp [tl, this.1, this.2]
  have hd := zhO hs hA2
  have htw := zb0 isD (zq E)
  have hz2 := zaj (s := s) (A := A2 ++ (zq E).takeWhile isD) (B := (zq E).dropWhile isD) (by rw [hA2, List.append_assoc, htw])
  by_cases k1 : (zq E).takeWhile isD = []
  ·have hno : zav E = false := by
    unfold zav
    by_cases c : zq E = []
    ·simp [c]
    ·cases hE : zq E with
     | nil => exact absurd hE c
     | cons y t =>
      rw [hE] at k1
      have : isD y = false := by
       by_cases hy : isD y = true
       ·rw [List.takeWhile_cons, hy] at k1; simp at k1
       ·simpa using hy
      simp [this]
   rw [if_neg (by rw [hno]; simp)]
   refine ⟨((⟨#[]⟩ : ByteArray), 0, false, s, (((A2 ++ (zq E).takeWhile isD).length : Nat) : Int)), ?_, rfl⟩
   refine zf ?_; simp only [zQ.j2]
   refine Ev.bind (ht) ?_; try dsimp only
   refine zd rfl ?_
   refine Ev.bind (hsg) ?_; try dsimp only
   refine Ev.bind (hd) ?_; try dsimp only
   exact zd (zbM.2 k1) (Ev.now _)
  by_cases k2 : 6 < ((zq E).takeWhile isD).length
  ·have hno : zav E = false := by
    unfold zav
    have h1 := congrArg List.length htw
    rw [List.length_append] at h1
    have : decide ((zq E).length ≤ 6) = false := decide_eq_false (by omega)
    rw [this]; simp
   rw [if_neg (by rw [hno]; simp)]
   refine ⟨((⟨#[]⟩ : ByteArray), 0, false, s, (((A2 ++ (zq E).takeWhile isD).length : Nat) : Int)), ?_, rfl⟩
   refine zf ?_; simp only [zQ.j2]
   refine Ev.bind (ht) ?_; try dsimp only
   refine zd rfl ?_
   refine Ev.bind (hsg) ?_; try dsimp only
   refine Ev.bind (hd) ?_; try dsimp only
   refine ze (fun h => k1 (zbM.1 h)) (zd ?_ (Ev.now _))
   rw [zO]; omega
  ·have hat := zlM (zdu isD (zq E)) k1
   have hv := zfR (zdu isD (zq E)) (by omega)
   have hsc : zbG.f (bx ((zq E).takeWhile isD)) = some ((zn ((zq E).takeWhile isD) 0 : Nat) : Int) := by
    unfold zbG.f
    rw [if_pos (by rw [zO]; omega)]
    exact hat
   have main : ∃ y : Int, Ev (fun k => zQ.j2 k s (A.length : Int) (bx d) x) (bx d, y, decide ((((A2 ++ (zq E).takeWhile isD).length : Nat) : Int) = (s.size : Int)), s, (((A2 ++ (zq E).takeWhile isD).length : Nat) : Int)) ∧ (zav E = true → y = x + zem E) := by
    refine ⟨x + (if zcM E = true then -((zn ((zq E).takeWhile isD) 0 : Nat) : Int) else ((zn ((zq E).takeWhile isD) 0 : Nat) : Int)), ?_, ?_⟩
    ·refine zf ?_; simp only [zQ.j2]
     refine Ev.bind (ht) ?_; try dsimp only
     refine zd rfl ?_
     refine Ev.bind (hsg) ?_; try dsimp only
     refine Ev.bind (hd) ?_; try dsimp only
     refine ze (fun h => k1 (zbM.1 h)) (ze (by rw [zO]; omega) ?_)
     refine zi (hsc) ?_; try dsimp only
     by_cases c : b = 45
     ·rw [if_pos (hbn.1 c)]
      refine zd c ?_
      have w : wrap64 (x + wrap64 (-((zn ((zq E).takeWhile isD) 0 : Nat) : Int))) = x + -((zn ((zq E).takeWhile isD) 0 : Nat) : Int) := by
       rw [zd4 (by omega) (by omega), zcB (by omega) (by omega) (by omega) (by omega)]
      rw [w]
      exact last _ _
     ·rw [if_neg (fun h => c (hbn.2 h))]
      refine ze c ?_
      rw [zcB (by omega) (by omega) (by omega) (by omega)]
      exact last _ _
    ·intro hok
     unfold zav at hok
     simp only [Bool.and_eq_true, decide_eq_true_eq] at hok
     rw [(zfT hok.2).2]
     rfl
   obtain ⟨y, hy, hyv⟩ := main
   refine ⟨_, hy, ?_⟩
   by_cases hok : zav E = true
   ·rw [if_pos hok]
    refine ⟨rfl, hyv hok, ?_⟩
    unfold zav at hok
    simp only [Bool.and_eq_true, decide_eq_true_eq] at hok
    rw [(zfT hok.2).1, List.length_nil] at hz2
    exact decide_eq_true (by omega)
   ·rw [if_neg hok]
    refine decide_eq_false ?_
    intro h
    have h3 : (zq E).dropWhile isD = [] := List.eq_nil_of_length_eq_zero (by omega)
    obtain ⟨h4, h5⟩ := zkV h3
    refine hok ?_
    unfold zav
    rw [h5] at k1 k2
    rw [h4, decide_eq_true (show zq E ≠ [] from k1), decide_eq_true (show (zq E).length ≤ 6 by omega)]; rfl
 ·have ht := zfm hs he (c := (⟨#[101]⟩ : ByteArray)) (by intro y t h; rw [h] at c0; simpa [tl] using c0)
  refine ⟨(bx d, x, decide ((A.length : Int) = (s.size : Int)), s, (A.length : Int)), ?_, ?_⟩
  ·refine zf ?_; simp only [zQ.j2]
   refine Ev.bind (ht) ?_; try dsimp only
   exact ze (by simp) (last _ _)
  ·unfold zbd
   by_cases c1 : B = []
   ·rw [if_pos c1]
    subst c1
    exact ⟨rfl, rfl, decide_eq_true (by rw [List.length_nil] at hz; omega)⟩
   ·rw [if_neg c1, if_neg (fun h => c0 h.1)]
    have : 0 < B.length := by cases B with | nil => exact absurd rfl c1 | cons _ _ => simp
    exact decide_eq_false (by omega)
theorem zmx {s : ByteArray} (hs : s.size ≤ 1000000) {A B : List UInt8} (he : tl s = A ++ B) :
  ∃ r, Ev (fun k => zQ.f k s (A.length : Int)) r ∧ zgB s (zaN B) r := by
 have hz := zaj he
 have hd := zhO hs he
 have htw := zb0 isD B
 unfold zaN
 by_cases c0 : B.takeWhile isD = []
 ·rw [if_pos c0]
  refine ⟨((⟨#[]⟩ : ByteArray), 0, false, s, (((A ++ B.takeWhile isD).length : Nat) : Int)), ?_, rfl⟩
  unfold zQ.f
  refine Ev.bind (hd) ?_; try dsimp only
  exact zd (zbM.2 c0) (Ev.now _)
 rw [if_neg c0]
 have he2 : tl s = (A ++ B.takeWhile isD) ++ B.dropWhile isD := by rw [he, List.append_assoc, htw]
 have hz2 := zaj he2
 by_cases c1 : (B.dropWhile isD).head? = some 46
 ·rw [if_pos c1]
  obtain ⟨r, hr⟩ : ∃ r, B.dropWhile isD = 46 :: r := by
   cases hB : B.dropWhile isD with
   | nil => rw [hB] at c1; simp at c1
   | cons y E => rw [hB] at c1; simp at c1; exact ⟨E, by rw [c1]⟩
  rw [hr] at he2 ⊢
  have ht := zfl hs he2 (c := (⟨#[46]⟩ : ByteArray)) (by simp [tl])
  have he3 : tl s = (A ++ B.takeWhile isD ++ [46]) ++ r := by rw [he2]; simp
  have hz3 := zaj he3
  have hd2 := zhO hs he3
  have htw2 := zb0 isD r
  have hl2 := congrArg List.length htw2
  rw [List.length_append] at hl2
  simp only [List.length_append, List.length_singleton] at hz3
  show ∃ r_1, _ ∧ zgB s (if r.takeWhile isD = [] then none else zbd (B.takeWhile isD ++ r.takeWhile isD) (-((r.takeWhile isD).length : Int)) (r.dropWhile isD)) r_1
  by_cases c2 : r.takeWhile isD = []
  ·rw [if_pos c2]
   refine ⟨((⟨#[]⟩ : ByteArray), 0, false, s, (((A ++ B.takeWhile isD ++ [46] ++ r.takeWhile isD).length : Nat) : Int)), ?_, rfl⟩
   unfold zQ.f
   refine Ev.bind (hd) ?_; try dsimp only
   refine ze (fun h => c0 (zbM.1 h)) ?_
   refine Ev.bind (ht) ?_; try dsimp only
   refine zd rfl ?_
   refine Ev.bind (hd2) ?_; try dsimp only
   exact zd (zbM.2 c2) (Ev.now _)
  rw [if_neg c2]
  have he4 : tl s = (A ++ B.takeWhile isD ++ [46] ++ r.takeWhile isD) ++ r.dropWhile isD := by rw [he3]; simp [htw2]
  obtain ⟨q, hq, hok⟩ := ziM hs he4 (d := B.takeWhile isD ++ r.takeWhile isD) (x := -((r.takeWhile isD).length : Int)) (by omega)
  refine ⟨q, ?_, hok⟩
  unfold zQ.f
  refine Ev.bind (hd) ?_; try dsimp only
  refine ze (fun h => c0 (zbM.1 h)) ?_
  refine Ev.bind (ht) ?_; try dsimp only
  refine zd rfl ?_
  refine Ev.bind (hd2) ?_; try dsimp only
  refine ze (fun h => c2 (zbM.1 h)) (zd (by rw [zO, zO]; omega) ?_)
  have e1 : bx (B.takeWhile isD) ++ bx (r.takeWhile isD) = bx (B.takeWhile isD ++ r.takeWhile isD) := zbI.1 (by rw [zkQ, zy, zy, zy])
  rw [e1, zO, zd4 (by omega) (by omega)]
  exact hq
 ·rw [if_neg c1]
  have ht := zfm hs he2 (c := (⟨#[46]⟩ : ByteArray)) (by intro y t h; rw [h] at c1; simpa [tl] using c1)
  obtain ⟨q, hq, hok⟩ := ziM hs he2 (d := B.takeWhile isD) (x := 0) (by omega)
  refine ⟨q, ?_, hok⟩
  unfold zQ.f
  refine Ev.bind (hd) ?_; try dsimp only
  refine ze (fun h => c0 (zbM.1 h)) ?_
  refine Ev.bind (ht) ?_; try dsimp only
  exact ze (by simp) hq
theorem zed (l : List UInt8) : qcC (bx l) = l.map fun b => (b.toNat : Int) := rfl
theorem zjK : ∀ (l : List UInt8) (a : Nat), pvA a (l.map fun b => (b.toNat : Int)) = zn l a
 | [], a => rfl
 | b :: l, a => by
  have e : ((b.toNat : Int) - 48).toNat = b.toNat - 48 := by omega
  rw [List.map_cons, pvA, e, zjK l]
  rfl
theorem zgb (l : List UInt8) : pv (qcC (bx l)) = zn l 0 := zjK l 0
theorem zeW {l : List UInt8} (h : l.all isD = true) : zaT (qcC (bx l)) := by
 intro x hx
 rw [zed, List.mem_map] at hx
 obtain ⟨b, hb, rfl⟩ := hx
 exact zb8.1 (List.all_eq_true.1 h b hb)
theorem zfS {l : List UInt8} (h : l.all isD = true) : zn l 0 < 10 ^ l.length := by
 have := zhm (zeW h)
 rw [zgb, zed, List.length_map] at this
 exact this
def tz0 (l : List UInt8) : List UInt8 := l.dropWhile (· == 48)
theorem zgW (l : List UInt8) : zn (tz0 l) 0 = zn l 0 := by
 induction l with
 | nil => rfl
 | cons b l ih =>
  unfold tz0 at *
  by_cases c : b = 48
  ·subst c; rw [List.dropWhile_cons]; simp only [beq_self_eq_true, if_true]; rw [ih]; rfl
  ·rw [List.dropWhile_cons, if_neg (by simpa using c)]
theorem zkY {l : List UInt8} (h : l.all isD = true) : (tz0 l).all isD = true := by
 induction l with
 | nil => rfl
 | cons b l ih =>
  have h' := h
  simp only [List.all_cons, Bool.and_eq_true] at h
  unfold tz0 at *
  by_cases c : b = 48
  ·subst c; rw [List.dropWhile_cons]; simpa using ih h.2
  ·rw [List.dropWhile_cons, if_neg (by simpa using c)]; exact h'
theorem zpy (l : List UInt8) : (tz0 l).length ≤ l.length := by
 have h := congrArg List.length (zb0 (· == 48) l)
 rw [List.length_append] at h
 unfold tz0; omega
theorem zkZ {l : List UInt8} {b : UInt8} {r : List UInt8} (h : tz0 l = b :: r) : b ≠ 48 := by
 have := zmF _ l h
 simpa using this
theorem zm7 {l : List UInt8} {b : UInt8} {r : List UInt8} (h : l.all isD = true) (e : tz0 l = b :: r) : isT (qcC (bx (b :: r))) = true := by
 have h1 := zkY h
 rw [e] at h1
 have h2 := zkZ e
 have hd : decide (zaT (qcC (bx (b :: r)))) = true := decide_eq_true (zeW h1)
 unfold isT
 rw [hd, zed]
 have h3 : (b.toNat : Int) ≠ 48 := fun c => h2 (UInt8.toNat_inj.1 (by show _ = 48; omega))
 cases r with
 | nil => rfl
 | cons c t => simp [h3]
theorem zhZ {l : List UInt8} (h : l.all isD = true) : tz0 l = [] ↔ zn l 0 = 0 := by
 constructor
 ·intro e; rw [← zgW, e]; rfl
 ·intro e
  cases ht : tz0 l with
  | nil => rfl
  | cons b r =>
   have h1 := zkY h
   have h2 := zkZ ht
   have h3 := zgW l
   rw [ht] at h1 h3
   have h4 := zjL (l := qcC (bx (b :: r))) (zeW h1) (by
    rw [zed]; show ((b.toNat : Int)) ≠ 48
    exact fun c => h2 (UInt8.toNat_inj.1 (by show _ = 48; omega))) (by rw [zed]; simp)
   rw [zgb] at h4
   have := zch ((qcC (bx (b :: r))).length - 1)
   omega
theorem znY {l : List UInt8} (h : l.all isD = true) (hl : l.length ≤ 1200) (h0 : zn l 0 ≠ 0) : zcc (qcC (bx (tz0 l))) = (D (zn l 0), 0) := by
 cases ht : tz0 l with
 | nil => exact absurd ((zhZ h).1 ht) h0
 | cons b r =>
  have h3 := zgW l
  rw [ht] at h3
  unfold zcc
  rw [if_pos (zm7 h ht), zgb, h3, zeO]
  have h5 := zaG (Nat.le_of_lt (zfS h))
  have h6 := zdP l.length
  omega
theorem zkT : ∀ (l : List UInt8), l.length ≤ 1000000 → Ev (fun k => zbZ.l0 k (bx l) 48) (bx (tz0 l))
 | [], _ => by
  refine zf ?_; simp only [zbZ.l0]
  exact ze (by decide) (Ev.now _)
 | b :: l, hl => by
  have hz := zO (b :: l)
  simp only [List.length_cons] at hz hl
  have hb := zaH (s := bx (b :: l)) (A := []) (B := l) (b := b) (by rw [zy]; rfl)
  rw [List.length_nil, show ((0 : Nat) : Int) = 0 from rfl] at hb
  refine zf ?_; simp only [zbZ.l0]
  rw [hb]
  refine zd (by omega) (zd (by omega) ?_)
  by_cases c : b = 48
  ·subst c
   refine zd rfl (zd (by decide) (zd (by omega) ?_))
   have hx := zfU (s := bx (48 :: l)) (A := [48]) (B := l) (by rw [zy]; rfl)
   have e1 : (1 : Int).toNat = ([48] : List UInt8).length := rfl
   rw [e1, hx]
   have ih := zkT l (by omega)
   have e2 : tz0 (48 :: l) = tz0 l := by unfold tz0; rw [List.dropWhile_cons]; simp
   rw [e2]
   exact ih
  ·refine ze (fun h => c (UInt8.toNat_inj.1 (by show _ = 48; omega))) ?_
   have e2 : tz0 (b :: l) = b :: l := by unfold tz0; rw [List.dropWhile_cons, if_neg (by simpa using c)]
   rw [e2]
   exact Ev.now _
theorem zpu {l : List UInt8} (hl : l.length ≤ 1000000) : Ev (fun k => zcf.f k (bx l) (⟨#[48]⟩ : ByteArray)) (bx (tz0 l)) := by
 unfold zcf.f
 by_cases c : l = []
 ·subst c
  exact zd rfl (Ev.now _)
 ·refine ze (fun h => c (zbM.1 h)) (ze (by decide) (zd (by decide) (zd (by decide) ?_)))
  have e : decide (bt (⟨#[48]⟩ : ByteArray) 0 < 128) = true := by decide
  have e2 : bt (⟨#[48]⟩ : ByteArray) 0 = 48 := by decide
  rw [e]
  refine zf ?_; simp only [zcf.j2]
  rw [e2]
  refine zd trivial (zd (by decide) ?_)
  unfold zbZ.f
  exact Ev.bind (zkT l hl) (Ev.now _)
theorem zmN {E : List UInt8} (h : zav E = true) : -1000000 < zem E ∧ zem E < 1000000 := by
 unfold zav at h
 simp only [Bool.and_eq_true, decide_eq_true_eq] at h
 have := zfR h.2 h.1.2
 unfold zem
 split <;> omega
theorem zkN {d : List UInt8} {x : Int} {l : List UInt8} {y : List UInt8 × Int} (h : zbd d x l = some y) : y.1 = d ∧ x - 1000000 < y.2 ∧ y.2 < x + 1000000 := by
 unfold zbd at h
 split at h
 ·cases h; exact ⟨rfl, by omega, by omega⟩
 ·split at h
  ·rename_i h2
   cases h
   have := zmN h2.2
   exact ⟨rfl, by omega, by omega⟩
  ·cases h
theorem zj4 {l : List UInt8} {y : List UInt8 × Int} (h : zaN l = some y) : y.1.all isD = true ∧ y.1 ≠ [] ∧ y.1.length ≤ l.length ∧ -(l.length : Int) - 1000000 < y.2 ∧ y.2 < 1000000 := by
 have h1 := congrArg List.length (zb0 isD l)
 rw [List.length_append] at h1
 unfold zaN at h
 split at h
 ·cases h
 rename_i c0
 split at h
 ·rename_i c1
  obtain ⟨r, hr⟩ : ∃ r, l.dropWhile isD = 46 :: r := by
   cases hB : l.dropWhile isD with
   | nil => rw [hB] at c1; simp at c1
   | cons y E => rw [hB] at c1; simp at c1; exact ⟨E, by rw [c1]⟩
  rw [hr] at h h1
  rw [List.tail_cons] at h
  simp only [List.length_cons] at h1
  have h2 := congrArg List.length (zb0 isD r)
  rw [List.length_append] at h2
  split at h
  ·cases h
  obtain ⟨h3, h4, h5⟩ := zkN h
  rw [h3]
  refine ⟨by rw [List.all_append, zdu, zdu]; rfl, fun h => c0 (List.append_eq_nil_iff.1 h).1, ?_, by omega, by omega⟩
  rw [List.length_append]; omega
 ·obtain ⟨h3, h4, h5⟩ := zkN h
  rw [h3]
  exact ⟨zdu _ _, c0, by omega, by omega, by omega⟩
theorem zfz {f m : Int} (h : isF f) (hm : isM m) (s : ByteArray) : Ev (fun k => zcr.f k f m s) (zP f m (tl s)) := by
 unfold zcr.f zP
 refine Ev.bind (zgF h hm false) (ze (by simp) ?_)
 by_cases c0 : 1200 < (tl s).length
 ·rw [if_pos c0]
  exact zd (by rw [zcy]; omega) (Ev.now _)
 rw [if_neg c0]
 refine ze (by rw [zcy]; omega) ?_
 by_cases c1 : s = (⟨#[110, 97, 110]⟩ : ByteArray)
 ·rw [if_pos (by rw [c1]; rfl)]
  exact zd c1 (Ev.bind (zpU h) (Ev.now _))
 rw [if_neg (fun h => c1 (zbI.1 (by rw [h]; rfl)))]
 refine ze c1 ?_
 have hs : s.size ≤ 1200 := by rw [zcy]; omega
 obtain ⟨A, b, hA, ht⟩ : ∃ (A : List UInt8) (b : Int), tl s = A ++ zJ (tl s) ∧ Ev (fun k => zal.f k s 0 (⟨#[45]⟩ : ByteArray)) (b, zaZ (tl s), s, (A.length : Int)) := by
  cases hl : tl s with
  | nil =>
   refine ⟨[], 0, rfl, ?_⟩
   exact zfm (A := []) (B := []) (by omega) (by rw [hl]; rfl) (by simp)
  | cons x r =>
   by_cases c2 : x = 45
   ·subst c2
    refine ⟨[45], 45, rfl, ?_⟩
    exact zfl (A := []) (r := r) (x := 45) (by omega) (by rw [hl]; rfl) (by simp [tl])
   ·have n1 : zaZ (x :: r) = false := by
     unfold zaZ; split
     ·rename_i h; exact absurd (List.cons.inj h).1 c2
     ·rfl
    have n2 : zJ (x :: r) = x :: r := by
     unfold zJ; split
     ·rename_i h; exact absurd (List.cons.inj h).1 c2
     ·rfl
    rw [n1, n2]
    refine ⟨[], 0, rfl, ?_⟩
    exact zfm (A := []) (B := x :: r) (by omega) (by rw [hl]; rfl) (by intro y t h; rw [← (List.cons.inj h).1]; simpa [tl] using c2)
 refine Ev.bind (ht) ?_; try dsimp only
 have hz := zaj hA
 refine zd (by omega) (zd (by omega) ?_)
 rw [Int.toNat_natCast, zfU hA]
 unfold zeT
 by_cases c2 : zJ (tl s) = [105, 110, 102]
 ·rw [if_pos c2]
  exact zd (by rw [c2]; rfl) (Ev.bind (zlb h _) (Ev.now _))
 rw [if_neg c2]
 refine ze (fun h => c2 (zbI.2 h)) ?_
 obtain ⟨q, hq, hok⟩ := zmx (by omega) hA
 refine Ev.bind (hq) ?_; try dsimp only
 cases ho : zaN (zJ (tl s)) with
 | none =>
  rw [ho] at hok
  have hok : q.2.2.1 = false := hok
  rw [hok]
  exact zd rfl (Ev.now _)
 | some y =>
  rw [ho] at hok
  obtain ⟨k1, k2, k3⟩ : q.1 = bx y.1 ∧ q.2.1 = y.2 ∧ q.2.2.1 = true := hok
  obtain ⟨b1, b2, b3, b4, b5⟩ := zj4 ho
  rw [k1, k2, k3]
  refine ze (by simp) ?_
  have hl : y.1.length ≤ 1200 := by omega
  refine Ev.bind (zpu (l := y.1) (by omega)) ?_; try dsimp only
  show Ev _ (zcq f m (zaZ (tl s)) (zn y.1 0) y.2)
  unfold zcq
  by_cases c3 : zn y.1 0 = 0
  ·rw [if_pos c3]
   refine zd (zbM.2 ((zhZ b1).2 c3)) ?_
   refine Ev.bind (zlc h _) ?_; try dsimp only
   exact Ev.now _
  ·rw [if_neg c3]
   refine ze (fun h => c3 ((zhZ b1).1 (zbM.1 h))) ?_
   have hp := znA (s := bx (tz0 y.1)) (by rw [zO]; have := zpy y.1; omega)
   rw [znY b1 hl c3] at hp
   refine Ev.bind (hp) ?_; try dsimp only
   have hr := zmw h hm (zaZ (tl s)) c3 (p := y.1.length) hl (zfS b1) y.2
   refine Ev.bind (hr) ?_; try dsimp only
   exact Ev.now _
theorem zg4 (A : List UInt8) (x : UInt8) : (A ++ [x]).length = A.length + 1 := by simp
theorem zgs {a b : Int} (h1 : -10000000000000000 ≤ a) (h2 : a ≤ 10000000000000000) (h3 : -10000000000000000 ≤ b) (h4 : b ≤ 10000000000000000) : wrap64 (a + b) = a + b := by unfold wrap64; omega
theorem zla {E : Int} (h1 : -10000000000000000 ≤ E) (h2 : E ≤ 10000000000000000) : wrap64 (-E) = -E := by unfold wrap64; omega
theorem zjO {s : ByteArray} (hs : s.size ≤ 1000000000000000) (at0 : Nat) : ∀ (B A : List UInt8) (n : Nat), tl s = A ++ B → A.length = at0 + n →
  Ev (fun k => zbr.l0 k s (at0 : Int) (n : Int)) ((n + (B.takeWhile isD).length : Nat) : Int)
 | [], A, n, he, hA => by
  have hz := zaj he
  simp only [List.length_nil] at hz
  refine zf ?_; simp only [zbr.l0]
  rw [w64 (n := (at0 : Int) + (n : Int)) (by omega) (by omega)]
  exact ze (by omega) (zg (Ev.now _) (by simp))
 | b :: B, A, n, he, hA => by
  have hz := zaj he
  simp only [List.length_cons] at hz
  have hb := zaH he
  refine zf ?_; simp only [zbr.l0]
  have e1 : wrap64 ((at0 : Int) + (n : Int)) = (A.length : Int) := by rw [w64 (by omega) (by omega)]; omega
  rw [e1, hb]
  clear e1
  refine zd (by omega) (zd (by omega) (zd (by omega) ?_))
  by_cases c1 : 48 ≤ (b.toNat : Int)
  ·refine zd c1 (zd (by omega) (zd (by omega) ?_))
   by_cases c2 : (b.toNat : Int) ≤ 57
   ·refine zd c2 ?_
    have e2 : wrap64 ((n : Int) + 1) = ((n + 1 : Nat) : Int) := by rw [w64 (by omega) (by omega)]; omega
    rw [e2]
    clear e2
    refine zg (zjO hs at0 B (A ++ [b]) (n + 1) (by rw [he]; simp) (by simp; omega)) ?_
    rw [List.takeWhile_cons, zb8.2 ⟨c1, c2⟩]
    simp only [if_true, List.length_cons]
    omega
   ·have : isD b = false := by rw [Bool.eq_false_iff]; intro h; exact c2 (zb8.1 h).2
    rw [List.takeWhile_cons, this]
    exact ze c2 (zg (Ev.now _) (by simp))
  ·have : isD b = false := by rw [Bool.eq_false_iff]; intro h; exact c1 (zb8.1 h).1
   rw [List.takeWhile_cons, this]
   exact ze (by omega) (zg (Ev.now _) (by simp))
theorem zhp {s : ByteArray} (hs : s.size ≤ 1000000000000000) {A B : List UInt8} (he : tl s = A ++ B) : Ev (fun k => zbr.f k s (A.length : Int)) ((B.takeWhile isD).length : Int) := by
 have := zjO hs A.length B A 0 he rfl
 rw [Nat.zero_add] at this
 exact this
theorem zjF {l : List UInt8} (h : isT (qcC (bx l)) = true) (hd : l.all isD = true) (hl : l.length ≤ 20000) : zcc (qcC (bx l)) = (D (zn l 0), 0) := by
 unfold zcc
 rw [if_pos h, zgb, zeO]
 have h5 := zaG (Nat.le_of_lt (zfS hd))
 have h6 := zdP l.length
 omega
theorem zjR : ∀ (l : List UInt8), l.all isD = true → l ≠ [] → l.length ≤ 20000 → Ev (fun k => zbg.l0 k (bx l)) (D (zn l 0))
 | [], _, h0, _ => absurd rfl h0
 | [b], hd, _, _ => by
  have hp := zj9 (bx [b]) (by rw [zO]; simp)
  rw [zjF (by
   have hdg : decide (zaT (qcC (bx [b]))) = true := decide_eq_true (zeW hd)
   unfold isT; rw [hdg]; rfl) hd (by simp)] at hp
  refine zf ?_; simp only [zbg.l0]
  refine ze (by rw [zO]; simp) ?_
  refine Ev.bind (hp) ?_; try dsimp only
  exact Ev.now _
 | b :: c :: l, hd, _, hl => by
  have hz := zO (b :: c :: l)
  simp only [List.length_cons] at hz hl
  have hb := zaH (s := bx (b :: c :: l)) (A := []) (B := c :: l) (b := b) (by rw [zy]; rfl)
  rw [List.length_nil, show ((0 : Nat) : Int) = 0 from rfl] at hb
  refine zf ?_; simp only [zbg.l0]
  rw [hb]
  refine zd (by omega) (zd (by omega) ?_)
  by_cases c0 : b = 48
  ·subst c0
   refine zd rfl (zd (by decide) (zd (by omega) ?_))
   have hx := zfU (s := bx (48 :: c :: l)) (A := [48]) (B := c :: l) (by rw [zy]; rfl)
   have e1 : (1 : Int).toNat = ([48] : List UInt8).length := rfl
   rw [e1, hx]
   have hd' : (c :: l).all isD = true := by rw [List.all_cons, Bool.and_eq_true] at hd; exact hd.2
   have ih := zjR (c :: l) hd' (by simp) (by simp only [List.length_cons]; omega)
   exact ih
  ·have hb3 : (b.toNat : Int) ≠ 48 := fun h => c0 (UInt8.toNat_inj.1 (by show _ = 48; omega))
   refine ze hb3 ?_
   have hp := zj9 (bx (b :: c :: l)) (by rw [hz]; omega)
   rw [zjF (by
    have hdg : decide (zaT (qcC (bx (b :: c :: l)))) = true := decide_eq_true (zeW hd)
    unfold isT; rw [hdg, zed]; simp [hb3]) hd (by simp only [List.length_cons]; omega)] at hp
   refine Ev.bind (hp) ?_; try dsimp only
   exact Ev.now _
theorem zoj {l : List UInt8} (hd : l.all isD = true) (h0 : l ≠ []) (hl : l.length ≤ 20000) : Ev (fun k => zbg.f k (bx l)) (D (zn l 0)) := zjR l hd h0 hl
section
variable {s : ByteArray} (hs : s.size ≤ 1000000000000000) (a : Bool) (b : ByteArray) (c : List Int) (d : Int)
include hs
theorem zjP (g : Bool) (nm : ByteArray) (mg : List Int) {ex : Int} (hx : -1000000000000000 ≤ ex ∧ ex ≤ 1000000000000000) (low : Bool) : ∀ (B A C : List UInt8), tl s = A ++ B → C.all isD = true → C.length + B.length ≤ 6 → B.all isD = true →
  Ev (fun k => zl.l0 k s a b c d g nm mg ex low ((zn C 0 : Nat) : Int) (A.length : Int)) (g, nm, mg, ex + (if low = true then -((zn (C ++ B) 0 : Nat) : Int) else ((zn (C ++ B) 0 : Nat) : Int)), true)
 | [], A, C, he, hC, hl, hB => by
  have hz := zaj he
  simp only [List.length_nil] at hz hl
  have hv := zfR hC (by omega)
  have j15 : ∀ y : Int, -1000000 ≤ y → y ≤ 1000000 → Ev (fun k => zl.j15 k a b c d g nm mg ex y) (g, nm, mg, ex + y, true) := by
   intro y h1 h2
   refine zf ?_; simp only [zl.j15]
   rw [zgs (by omega) (by omega) (by omega) (by omega)]
   exact Ev.now _
  refine zf ?_; simp only [zl.l0]
  refine ze (by omega) ?_
  rw [List.append_nil]
  cases low
  ·exact ze (by simp) (j15 _ (by omega) (by omega))
  ·refine zd rfl ?_
   rw [zla (by omega) (by omega)]
   exact j15 _ (by omega) (by omega)
 | x :: B, A, C, he, hC, hl, hB => by
  have hz := zaj he
  simp only [List.length_cons] at hz hl
  have hb := zaH he
  have hv := zfR hC (by omega)
  rw [List.all_cons, Bool.and_eq_true] at hB
  have hxd := zb8.1 hB.1
  refine zf ?_; simp only [zl.l0]
  rw [hb]
  refine zd (by omega) (zd (by omega) (zd (by omega) ?_))
  have e1 : wrap64 ((A.length : Int) + 1) = ((A ++ [x]).length : Int) := by rw [List.length_append, List.length_singleton, w64 (by omega) (by omega)]; omega
  have e2 : wrap64 (wrap64 (10 * ((zn C 0 : Nat) : Int)) + wrap64 (((x.toNat : Int) - 48) % 256)) = ((zn (C ++ [x]) 0 : Nat) : Int) := by
   have h3 : zn (C ++ [x]) 0 = 10 * zn C 0 + (x.toNat - 48) := by rw [zmD]; rfl
   rw [h3]
   clear e1
   generalize zn C 0 = v at *
   rw [w64 (n := 10 * (v : Int)) (by omega) (by omega), w64 (n := ((x.toNat : Int) - 48) % 256) (by omega) (by omega), w64 (by omega) (by omega)]
   omega
  rw [e1, e2]
  clear e1 e2
  have ih := zjP g nm mg hx low B (A ++ [x]) (C ++ [x]) (by rw [he]; simp) (by rw [List.all_append, hC]; simp [hB.1]) (by simp; omega) hB.2
  rw [List.append_assoc, List.singleton_append] at ih
  exact ih
theorem zhq (g : Bool) (nm : ByteArray) (mg : List Int) {ex : Int} (hx : -1000000000000000 ≤ ex ∧ ex ≤ 1000000000000000) (low : Bool) {A B : List UInt8} (he : tl s = A ++ B) :
  Ev (fun k => zl.j11 k s a b c d g nm mg ex (A.length : Int) low) (if B ≠ [] ∧ B.length ≤ 6 ∧ B.all isD = true then (g, nm, mg, ex + (if low = true then -((zn B 0 : Nat) : Int) else ((zn B 0 : Nat) : Int)), true) else rF) := by
 have hz := zaj he
 have hl := congrArg List.length (zb0 isD B)
 rw [List.length_append] at hl
 refine zf ?_; simp only [zl.j11]
 refine Ev.bind (zhp (by omega) he) ?_; try dsimp only
 by_cases c1 : B.takeWhile isD = []
 ·refine zd (by rw [c1]; rfl) (zg (Ev.now _) ?_)
  rw [if_neg]; rfl
  rintro ⟨k1, k2, k3⟩
  rw [(zfT k3).2] at c1
  exact k1 c1
 have hp : 0 < (B.takeWhile isD).length := by cases h : B.takeWhile isD with | nil => exact absurd h c1 | cons _ _ => simp
 refine ze (by omega) ?_
 by_cases c2 : (B.takeWhile isD).length > 6
 ·refine zd (by omega) (zg (Ev.now _) ?_)
  rw [if_neg]; rfl
  rintro ⟨k1, k2, k3⟩
  omega
 refine ze (by omega) ?_
 have w : wrap64 ((A.length : Int) + ((B.takeWhile isD).length : Int)) = (A.length : Int) + ((B.takeWhile isD).length : Int) := zgs (by omega) (by omega) (by omega) (by omega)
 rw [w]
 clear w
 by_cases c3 : B.dropWhile isD = []
 ·obtain ⟨k1, k2⟩ := zkV c3
  rw [k2] at c1 c2 hp ⊢
  refine ze (by omega) ?_
  rw [if_pos ⟨c1, by omega, k1⟩]
  have := zjP hs a b c d g nm mg hx low B A [] he rfl (by simp; omega) k1
  exact this
 ·have hq : 0 < (B.dropWhile isD).length := by cases h : B.dropWhile isD with | nil => exact absurd h c3 | cons _ _ => simp
  refine zd (by omega) (zg (Ev.now _) ?_)
  rw [if_neg]; rfl
  rintro ⟨k1, k2, k3⟩
  exact c3 (zfT k3).1
theorem zjQ (g : Bool) (nm : ByteArray) (m0 : List Int) {ex : Int} (hx : -1000000000000000 ≤ ex ∧ ex ≤ 1000000000000000) (num : List UInt8 → List Int) {A B dd : List UInt8} (he : tl s = A ++ B) (hn : Ev (fun k => zbg.f k (bx dd)) (num dd)) :
  Ev (fun k => zl.j7 k s a b c d g nm m0 ex (A.length : Int) (bx dd)) (match zbd dd ex B with | some y => (g, nm, num y.1, y.2, true) | none => rF) := by
 have hz := zaj he
 refine zf ?_; simp only [zl.j7]
 refine Ev.bind (hn) ?_; try dsimp only
 cases B with
 | nil =>
  rw [List.length_nil] at hz
  refine zd (by omega) (zg (Ev.now _) ?_)
  rfl
 | cons x E =>
  rw [List.length_cons] at hz
  have hb := zaH he
  refine ze (by omega) (zd (by omega) (zd (by omega) ?_))
  rw [hb]
  by_cases c1 : x = 101
  ·subst c1
   refine ze (by decide) ?_
   have w : wrap64 ((A.length : Int) + 1) = (((A ++ [101]).length : Nat) : Int) := by rw [List.length_append, List.length_singleton, w64 (by omega) (by omega)]; omega
   rw [w]
   clear w
   have he2 : tl s = (A ++ [101]) ++ E := by rw [he]; simp
   have hz2 := zaj he2
   have hT : (match zbd dd ex (101 :: E) with | some y => (g, nm, num y.1, y.2, true) | none => rF) = if zq E ≠ [] ∧ (zq E).length ≤ 6 ∧ (zq E).all isD = true then (g, nm, num dd, ex + (if zcM E = true then -((zn (zq E) 0 : Nat) : Int) else ((zn (zq E) 0 : Nat) : Int)), true) else rF := by
    have hok : zav E = true ↔ (zq E ≠ [] ∧ (zq E).length ≤ 6 ∧ (zq E).all isD = true) := by
     unfold zav
     simp only [Bool.and_eq_true, decide_eq_true_eq]
     constructor
     ·rintro ⟨⟨h1, h2⟩, h3⟩; exact ⟨h1, h2, h3⟩
     ·rintro ⟨h1, h2, h3⟩; exact ⟨⟨h1, h2⟩, h3⟩
    unfold zbd
    rw [if_neg (by simp)]
    by_cases k : zav E = true
    ·rw [if_pos ⟨rfl, k⟩, if_pos (hok.1 k)]; rfl
    ·rw [if_neg (fun h => k h.2), if_neg (fun h => k (hok.2 h))]
   rw [hT]
   rcases ziX E with ⟨r, k1, k2, k3⟩ | ⟨r, k1, k2, k3⟩ | ⟨k1, k2, k3⟩
   ·subst k1
    rw [List.length_cons] at hz2
    have hb2 := zaH he2
    have w2 : wrap64 ((((A ++ [101]).length : Nat) : Int) + 1) = (((A ++ [101] ++ [45]).length : Nat) : Int) := by rw [zg4 (A ++ [101]), w64 (by omega) (by omega)]; omega
    refine zd (by omega) (zd (by omega) (zd (by omega) ?_))
    rw [hb2]
    refine zd rfl ?_
    refine zf ?_; simp only [zl.j10]
    rw [w2, hb2]
    clear w2
    refine zd trivial (zd (by omega) (zd (by omega) ?_))
    have hj := zhq hs a b c d g nm (num dd) hx true (A := A ++ [101] ++ [45]) (B := r) (by rw [he2]; simp)
    rw [k2, k3]
    exact hj
   ·subst k1
    rw [List.length_cons] at hz2
    have hb2 := zaH he2
    have w2 : wrap64 ((((A ++ [101]).length : Nat) : Int) + 1) = (((A ++ [101] ++ [43]).length : Nat) : Int) := by rw [zg4 (A ++ [101]), w64 (by omega) (by omega)]; omega
    refine zd (by omega) (zd (by omega) (zd (by omega) ?_))
    rw [hb2]
    refine ze (by decide) (zd (by omega) (zd (by omega) ?_))
    refine zf ?_; simp only [zl.j10]
    rw [w2, hb2]
    clear w2
    refine zd (by decide) (zd (by omega) (zd (by omega) ?_))
    have hj := zhq hs a b c d g nm (num dd) hx false (A := A ++ [101] ++ [43]) (B := r) (by rw [he2]; simp)
    rw [k2, k3]
    exact hj
   ·have hj := zhq hs a b c d g nm (num dd) hx false (A := A ++ [101]) (B := E) he2
    have last : Ev (fun k => zl.j10 k s a b c d g nm (num dd) ex (((A ++ [101]).length : Nat) : Int) false false) (if E ≠ [] ∧ E.length ≤ 6 ∧ E.all isD = true then (g, nm, num dd, ex + (if false = true then -((zn E 0 : Nat) : Int) else ((zn E 0 : Nat) : Int)), true) else rF) := by
     refine zf ?_; simp only [zl.j10]
     exact ze (by simp) hj
    rw [k2, k3]
    cases E with
    | nil =>
     rw [List.length_nil] at hz2
     exact ze (by omega) last
    | cons y r =>
     rw [List.length_cons] at hz2
     obtain ⟨n1, n2⟩ := k1 y r rfl
     have hb2 := zaH he2
     refine zd (by omega) (zd (by omega) (zd (by omega) ?_))
     rw [hb2]
     refine ze (fun h => n1 (UInt8.toNat_inj.1 (by show _ = 45; omega))) (zd (by omega) (zd (by omega) ?_))
     rw [show decide ((y.toNat : Int) = 43) = false from decide_eq_false (fun h => n2 (UInt8.toNat_inj.1 (by show _ = 43; omega)))]
     exact last
  ·refine zd (fun h => c1 (UInt8.toNat_inj.1 (by show _ = 101; omega))) (zg (Ev.now _) ?_)
   unfold zbd
   rw [if_neg (by simp), if_neg (by simp [c1])]
   rfl
theorem zhr (num : List UInt8 → List Int) (hnum : ∀ dd : List UInt8, dd.all isD = true → dd ≠ [] → dd.length ≤ s.size → Ev (fun k => zbg.f k (bx dd)) (num dd)) (g : Bool) {A B : List UInt8} (he : tl s = A ++ B) :
  Ev (fun k => zl.j2 k s a b c d g (⟨#[]⟩ : ByteArray) ([] : List Int) 0 (A.length : Int)) (if B = [105, 110, 102] then (g, (⟨#[105, 110, 102]⟩ : ByteArray), [], 0, true) else match zaN B with | some y => (g, (⟨#[]⟩ : ByteArray), num y.1, y.2, true) | none => rF) := by
 have hz := zaj he
 have htw := zb0 isD B
 have hl := congrArg List.length htw
 rw [List.length_append] at hl
 refine zf ?_; simp only [zl.j2]
 refine zd (by omega) (zd (by omega) ?_)
 rw [Int.toNat_natCast, zfU he]
 by_cases c0 : B = [105, 110, 102]
 ·rw [if_pos c0]
  exact zd (by rw [c0]; rfl) (Ev.now _)
 rw [if_neg c0]
 refine ze (fun h => c0 (zbI.2 h)) ?_
 refine Ev.bind (zhp (by omega) he) ?_; try dsimp only
 unfold zaN
 by_cases c1 : B.takeWhile isD = []
 ·rw [if_pos c1]
  exact zd (by rw [c1]; rfl) (Ev.now _)
 rw [if_neg c1]
 have hp : 0 < (B.takeWhile isD).length := by cases h : B.takeWhile isD with | nil => exact absurd h c1 | cons _ _ => simp
 have w : wrap64 ((A.length : Int) + ((B.takeWhile isD).length : Int)) = (((A ++ B.takeWhile isD).length : Nat) : Int) := by rw [List.length_append, zgs (by omega) (by omega) (by omega) (by omega)]; omega
 rw [w]
 clear w
 have he2 : tl s = (A ++ B.takeWhile isD) ++ B.dropWhile isD := by rw [he, List.append_assoc, htw]
 have hz2 := zaj he2
 have hlA : (A ++ B.takeWhile isD).length = A.length + (B.takeWhile isD).length := List.length_append
 refine ze (by omega) (zd (by omega) (zd (by omega) (zd (by omega) ?_)))
 have hx : s.extract A.length ((((A ++ B.takeWhile isD).length : Nat) : Int)).toNat = bx (B.takeWhile isD) := by
  rw [Int.toNat_natCast, hlA]
  exact ze0 (C := B.dropWhile isD) (by rw [htw]; exact he)
 rw [hx]
 clear hx
 have hall := zdu isD B
 by_cases c2 : (B.dropWhile isD).head? = some 46
 ·rw [if_pos c2]
  obtain ⟨r, hr⟩ : ∃ r, B.dropWhile isD = 46 :: r := by
   cases hB : B.dropWhile isD with
   | nil => rw [hB] at c2; simp at c2
   | cons y E => rw [hB] at c2; simp at c2; exact ⟨E, by rw [c2]⟩
  rw [hr] at he2 hz2 hl ⊢
  rw [List.length_cons] at hz2
  have hb := zaH he2
  refine zd (by omega) (zd (by omega) (zd (by omega) ?_))
  rw [hb]
  rw [List.tail_cons]
  rw [show decide ((((46 : UInt8).toNat : Nat) : Int) = 46) = true from rfl]
  have he3 : tl s = (A ++ B.takeWhile isD ++ [46]) ++ r := by rw [he2]; simp
  have htw2 := zb0 isD r
  have hl2 := congrArg List.length htw2
  rw [List.length_append] at hl2
  have hz3 := zaj he3
  have w : wrap64 ((((A ++ B.takeWhile isD).length : Nat) : Int) + 1) = (((A ++ B.takeWhile isD ++ [46]).length : Nat) : Int) := by rw [zg4 (A ++ B.takeWhile isD), w64 (by omega) (by omega)]; omega
  refine zf ?_; simp only [zl.j5]
  rw [w]
  clear w
  refine zd trivial ?_
  refine Ev.bind (zhp (by omega) he3) ?_; try dsimp only
  by_cases c3 : r.takeWhile isD = []
  ·rw [if_pos c3]
   exact zd (by rw [c3]; rfl) (Ev.now _)
  rw [if_neg c3]
  have hp2 : 0 < (r.takeWhile isD).length := by cases h : r.takeWhile isD with | nil => exact absurd h c3 | cons _ _ => simp
  have he4 : tl s = (A ++ B.takeWhile isD ++ [46] ++ r.takeWhile isD) ++ r.dropWhile isD := by rw [he3, List.append_assoc _ (r.takeWhile isD), htw2]
  have hlA2 : (A ++ B.takeWhile isD ++ [46] ++ r.takeWhile isD).length = (A ++ B.takeWhile isD ++ [46]).length + (r.takeWhile isD).length := List.length_append
  have w : wrap64 ((((A ++ B.takeWhile isD ++ [46]).length : Nat) : Int) + ((r.takeWhile isD).length : Int)) = (((A ++ B.takeWhile isD ++ [46] ++ r.takeWhile isD).length : Nat) : Int) := by rw [hlA2, zgs (by omega) (by omega) (by omega) (by omega)]; omega
  rw [w]
  clear w
  have hx : s.extract ((((A ++ B.takeWhile isD ++ [46]).length : Nat) : Int)).toNat ((((A ++ B.takeWhile isD ++ [46] ++ r.takeWhile isD).length : Nat) : Int)).toNat = bx (r.takeWhile isD) := by
   rw [Int.toNat_natCast, Int.toNat_natCast, hlA2]
   exact ze0 (C := r.dropWhile isD) (by rw [htw2]; exact he3)
  rw [hx]
  clear hx
  have hz4 := zaj he4
  refine ze (by omega) (zd (by omega) (zd (by omega) (zd (by omega) (zd (by rw [zO, zO]; omega) ?_))))
  have e1 : bx (B.takeWhile isD) ++ bx (r.takeWhile isD) = bx (B.takeWhile isD ++ r.takeWhile isD) := zbI.1 (by rw [zkQ, zy, zy, zy])
  rw [e1, zla (by omega) (by omega)]
  exact zjQ hs a b c d g (⟨#[]⟩ : ByteArray) [] (by omega) num he4 (hnum _ (by rw [List.all_append, hall, zdu]; rfl) (fun h => c1 (List.append_eq_nil_iff.1 h).1) (by rw [List.length_append]; omega))
 ·rw [if_neg c2]
  have hj := zjQ hs a b c d g (⟨#[]⟩ : ByteArray) [] (ex := 0) (by omega) num he2 (hnum _ hall c1 (by omega))
  have last : Ev (fun k => zl.j5 k s a b c d g (⟨#[]⟩ : ByteArray) ([] : List Int) 0 (((A ++ B.takeWhile isD).length : Nat) : Int) (bx (B.takeWhile isD)) false) (match zbd (B.takeWhile isD) 0 (B.dropWhile isD) with | some y => (g, (⟨#[]⟩ : ByteArray), num y.1, y.2, true) | none => rF) := by
   refine zf ?_; simp only [zl.j5]
   exact ze (by simp) hj
  cases hB : B.dropWhile isD with
  | nil =>
   rw [hB] at hz2 last
   rw [List.length_nil] at hz2
   exact ze (by omega) last
  | cons y r =>
   rw [hB] at he2 hz2 last c2
   rw [List.length_cons] at hz2
   have hb := zaH he2
   refine zd (by omega) (zd (by omega) (zd (by omega) ?_))
   rw [hb]
   rw [show decide ((y.toNat : Int) = 46) = false from decide_eq_false (fun h => c2 (by rw [List.head?_cons, UInt8.toNat_inj.1 (show y.toNat = (46 : UInt8).toNat from (by show _ = 46; omega))]))]
   exact last
end
def r8S (g : Bool) (l : List UInt8) : RT := if l = [105, 110, 102] then (g, (⟨#[105, 110, 102]⟩ : ByteArray), [], 0, true) else match zaN l with | some y => (g, (⟨#[]⟩ : ByteArray), D (zn y.1 0), y.2, true) | none => rF
def zgd (l : List UInt8) : RT := if l = [110, 97, 110] then (false, ⟨#[110, 97, 110]⟩, [], 0, true) else r8S (zaZ l) (zJ l)
def r8T (num : List UInt8 → List Int) (g : Bool) (l : List UInt8) : RT := if l = [105, 110, 102] then (g, (⟨#[105, 110, 102]⟩ : ByteArray), [], 0, true) else match zaN l with | some y => (g, (⟨#[]⟩ : ByteArray), num y.1, y.2, true) | none => rF
def r8R (num : List UInt8 → List Int) (l : List UInt8) : RT := if l = [110, 97, 110] then (false, ⟨#[110, 97, 110]⟩, [], 0, true) else r8T num (zaZ l) (zJ l)
theorem zoh {s : ByteArray} (hs : s.size ≤ 1000000000000000) (num : List UInt8 → List Int) (hnum : ∀ dd : List UInt8, dd.all isD = true → dd ≠ [] → dd.length ≤ s.size → Ev (fun k => zbg.f k (bx dd)) (num dd)) : Ev (fun k => zl.f k s) (r8R num (tl s)) := by
 unfold zl.f r8R
 by_cases c1 : s = (⟨#[110, 97, 110]⟩ : ByteArray)
 ·rw [if_pos (by rw [c1]; rfl)]
  exact zd c1 (Ev.now _)
 rw [if_neg (fun h => c1 (zbI.1 (by rw [h]; rfl)))]
 refine ze c1 ?_
 cases hl : tl s with
 | nil =>
  have hz : s.size = 0 := by rw [zcy, hl]; rfl
  refine ze (by omega) ?_
  exact zhr hs false ⟨#[]⟩ [] 0 num hnum false (A := []) (B := []) (by rw [hl]; rfl)
 | cons x r =>
  have hz : s.size = r.length + 1 := by rw [zcy, hl]; rfl
  refine zd (by omega) (zd (by omega) ?_)
  have hb : bt s 0 = (x.toNat : Int) := zaH (A := []) (B := r) (by rw [hl]; rfl)
  rw [hb]
  by_cases c2 : x = 45
  ·subst c2
   refine zd rfl ?_
   exact zhr hs false ⟨#[]⟩ [] 0 num hnum true (A := [45]) (B := r) (by rw [hl]; rfl)
  ·refine ze (fun h => c2 (UInt8.toNat_inj.1 (by show _ = 45; omega))) ?_
   have n1 : zaZ (x :: r) = false := by
    unfold zaZ; split
    ·rename_i h; exact absurd (List.cons.inj h).1 c2
    ·rfl
   have n2 : zJ (x :: r) = x :: r := by
    unfold zJ; split
    ·rename_i h; exact absurd (List.cons.inj h).1 c2
    ·rfl
   rw [n1, n2]
   exact zhr hs false ⟨#[]⟩ [] 0 num hnum false (A := []) (B := x :: r) (by rw [hl]; rfl)
theorem zjN {s : ByteArray} (hs : s.size ≤ 1200) : Ev (fun k => zl.f k s) (zgd (tl s)) :=
 zoh (by omega) (fun l => D (zn l 0)) fun dd h1 h2 h3 => zoj h1 h2 (by omega)
theorem zgc {f m : Int} (h : isF f) (hm : isM m) (s : ByteArray) : Ev (fun k => zaC.f k f m s) (zP f m (tl s)) := by
 unfold zaC.f zP
 by_cases c0 : 1200 < (tl s).length
 ·rw [if_pos c0]
  exact zd (by rw [zcy]; omega) (Ev.now _)
 rw [if_neg c0]
 refine ze (by rw [zcy]; omega) ?_
 refine Ev.bind (zjN (by rw [zcy]; omega)) ?_
 unfold zgd
 by_cases c1 : tl s = [110, 97, 110]
 ·rw [if_pos c1, if_pos c1]
  exact ze (by simp) (zd rfl (zi (zoo h) (Ev.now _)))
 rw [if_neg c1, if_neg c1]
 unfold r8S zeT
 have hbl := zlV (tl s)
 by_cases c2 : zJ (tl s) = [105, 110, 102]
 ·rw [if_pos c2, if_pos c2]
  refine ze (by simp) (ze ?_ (zd rfl (zi (zhs h _) (Ev.now _))))
  intro hh
  have := zbI.2 hh
  exact absurd this (by show ¬ tl (⟨#[105, 110, 102]⟩ : ByteArray) = tl (⟨#[110, 97, 110]⟩ : ByteArray); decide)
 rw [if_neg c2, if_neg c2]
 cases ho : zaN (zJ (tl s)) with
 | none => exact zd rfl (Ev.now _)
 | some y =>
  obtain ⟨b1, b2, b3, b4, b5⟩ := zj4 ho
  have hl : y.1.length ≤ 1200 := by omega
  show Ev _ (zcq f m (zaZ (tl s)) (zn y.1 0) y.2)
  have hemp : ∀ t : ByteArray, tl t ≠ [] → ¬ ((⟨#[]⟩ : ByteArray) = t) := by
   intro t ht hh
   rw [← hh] at ht
   exact ht rfl
  refine ze (by simp) (ze (hemp _ (by decide)) (ze (hemp _ (by decide)) ?_))
  unfold zcq
  by_cases c3 : zn y.1 0 = 0
  ·rw [if_pos c3]
   refine zd (by simp only; rw [c3, zw]; rfl) ?_
   refine zi (zhx h 0 _) ?_
   rw [Nat.zero_mod, Nat.zero_add]
   exact Ev.now _
  ·rw [if_neg c3]
   refine ze (fun hh => c3 (zlg (by rw [zw]; exact zbW.1 hh))) ?_
   have hd := zli h hm (zaZ (tl s)) c3 (p := y.1.length) hl (zfS b1) y.2
   refine Ev.bind (hd) ?_; try dsimp only
   exact Ev.now _
theorem zmS {f m : Int} (h : fmE f m = 0) : isF f ∧ isM m := by
 unfold fmE at h
 by_cases c : isF f
 ·rw [if_pos c] at h
  by_cases c2 : isM m
  ·exact ⟨c, c2⟩
  ·rw [if_neg c2] at h; omega
 ·rw [if_neg c] at h; omega
theorem zp4 {a b : UInt8} (h : (a.toNat : Int) = (b.toNat : Int)) : a = b := UInt8.toNat_inj.1 (by omega)
theorem zi3 {b : UInt8} (h : isD b = true) : 48 ≤ b.toNat ∧ b.toNat ≤ 57 := by
 have := zb8.1 h
 omega
theorem zlG {b : UInt8} {r : List UInt8} (h : (b :: r).all isD = true) : isD b = true ∧ r.all isD = true := by
 simpa only [List.all_cons, Bool.and_eq_true] using h
theorem zip {a b : List UInt8} (h : (a ++ b).all isD = true) : a.all isD = true ∧ b.all isD = true := by
 simpa only [List.all_append, Bool.and_eq_true] using h
theorem zmJ (f : Int) {n : Nat} (h : n ≠ 0) (e : Int) (j : Nat) : zbj f (n * 2 ^ j) e = zbj f n (e + j) := by
 unfold zbj
 rw [zji h, Nat.pow_add, Nat.mul_div_mul_right _ _ (zj j)]
 congr 1; omega
theorem zmI {f : Int} (h : isF f) {q : Nat} {u : Int} (hu : lo f ≤ u) (hq : q ≤ 2 ^ pr f) (hn : u = lo f ∨ 2 ^ fb f ≤ q) (h0 : q ≠ 0) : zbj f q u = (u - lo f).toNat * 2 ^ fb f + q := by
 have hpr := zR h
 have hp := zj (fb f)
 have hs : 2 ^ pr f = 2 ^ fb f * 2 := by rw [hpr, Nat.pow_succ]
 by_cases c : q = 2 ^ pr f
 ·have hb : bl (2 ^ fb f) = fb f + 1 := by
   have := zbe (v := 1) (by omega) (fb f)
   rw [Nat.one_mul, show bl 1 = 1 by decide] at this
   omega
  have e1 : zm f (2 ^ fb f) (u + 1) = u + 1 := by unfold zm; rw [hb, hpr]; omega
  rw [c, hs, ← Nat.pow_one 2, Nat.pow_one, show 2 ^ fb f * 2 = 2 ^ fb f * 2 ^ 1 from rfl, zmJ f (by omega), ziS (by omega) (by rw [show u + ((1 : Nat) : Int) = u + 1 from rfl, e1]; omega), show u + ((1 : Nat) : Int) = u + 1 from rfl, e1, show (u + 1 - (u + 1)).toNat = 0 by omega, Nat.pow_zero, Nat.mul_one,
   show (u + 1 - lo f).toNat = (u - lo f).toNat + 1 by omega, Nat.add_mul, show 2 ^ fb f * 2 ^ 1 = 2 ^ fb f * 2 from rfl]
  omega
 ·have hlt : q < 2 ^ pr f := by omega
  have hb : bl q ≤ pr f := zL hlt
  have e1 : zm f q u = u := by
   unfold zm
   rcases hn with hn | hn
   ·omega
   ·have := zaG hn
    have h2 := zbe (v := 1) (by omega) (fb f)
    rw [Nat.one_mul, show bl 1 = 1 by decide] at h2
    omega
  rw [ziS h0 (by omega), e1, show (u - u).toNat = 0 by omega, Nat.pow_zero, Nat.mul_one]
theorem zpG (m : Int) (s o : Bool) {x y p : Nat} (h : x ≤ y) (hy : y < p) (kx : 2 * x % p ≠ 0 ↔ x ≠ 0 ∧ 2 * x ≠ p) (ky : 2 * y % p ≠ 0 ↔ y ≠ 0 ∧ 2 * y ≠ p) :
  upB m s o (decide (p ≤ 2 * x)) (decide (2 * x % p ≠ 0)) = true → upB m s o (decide (p ≤ 2 * y)) (decide (2 * y % p ≠ 0)) = true := by
 unfold upB
 by_cases c1 : m = 1
 ·rw [if_pos c1, if_pos c1]
  simp only [Bool.and_eq_true, Bool.or_eq_true, decide_eq_true_eq, kx, ky]
  rintro ⟨g1, g2⟩
  refine ⟨by omega, ?_⟩
  by_cases c2 : 2 * y = p
  ·exact .inr (g2.resolve_left (by omega))
  ·exact .inl (by omega)
 rw [if_neg c1, if_neg c1]
 by_cases c2 : m = 2
 ·rw [if_pos c2, if_pos c2]
  simp only [decide_eq_true_eq]
  omega
 rw [if_neg c2, if_neg c2]
 by_cases c4 : m = 4
 ·rw [if_pos c4, if_pos c4]
  simp only [Bool.and_eq_true, Bool.or_eq_true, decide_eq_true_eq, kx, ky]
  rintro ⟨g1, g2⟩
  exact ⟨g1, by omega⟩
 rw [if_neg c4, if_neg c4]
 by_cases c5 : m = 5
 ·rw [if_pos c5, if_pos c5]
  simp only [Bool.and_eq_true, Bool.or_eq_true, decide_eq_true_eq, kx, ky]
  rintro ⟨g1, g2⟩
  exact ⟨g1, by omega⟩
 rw [if_neg c5, if_neg c5]
 exact id
theorem zoS (m : Int) (s : Bool) {a b k : Nat} (h : a ≤ b) : rnd m s a k ≤ rnd m s b k := by
 have hp := zj k
 have h1 : a / 2 ^ k ≤ b / 2 ^ k := Nat.div_le_div_right h
 unfold rnd
 by_cases c : a / 2 ^ k = b / 2 ^ k
 ·have h2 : a % 2 ^ k ≤ b % 2 ^ k := by
   have ea := Nat.div_add_mod a (2 ^ k)
   have eb := Nat.div_add_mod b (2 ^ k)
   rw [c] at ea
   omega
  have h3 := Nat.mod_lt b hp
  rw [c]
  suffices hh : upB m s (decide (b / 2 ^ k % 2 = 1)) (decide (2 ^ k ≤ 2 * (a % 2 ^ k))) (decide (2 * (a % 2 ^ k) % 2 ^ k ≠ 0)) = true → upB m s (decide (b / 2 ^ k % 2 = 1)) (decide (2 ^ k ≤ 2 * (b % 2 ^ k))) (decide (2 * (b % 2 ^ k) % 2 ^ k ≠ 0)) = true by
   split
   ·rename_i hu; rw [if_pos (hh hu)]; omega
   ·split <;> omega
  have key : ∀ r, r < 2 ^ k → (2 * r % 2 ^ k ≠ 0 ↔ r ≠ 0 ∧ 2 * r ≠ 2 ^ k) := by
   intro r hr
   by_cases c1 : 2 * r < 2 ^ k
   ·rw [Nat.mod_eq_of_lt c1]; omega
   ·rw [Nat.mod_eq_sub_mod (by omega), Nat.mod_eq_of_lt (by omega)]; omega
  have ka := key (a % 2 ^ k) (by omega)
  have kb := key (b % 2 ^ k) h3
  exact zpG m s _ h2 h3 ka kb
 ·have h2 : a / 2 ^ k < b / 2 ^ k := by omega
  split <;> split <;> omega
def zfd (f m : Int) (s : Bool) : Nat := if inw m s = true then mo f * 2 ^ fb f - 1 else mo f * 2 ^ fb f
def zdC (f m : Int) (s : Bool) (n : Nat) (e : Int) : Nat :=
 if (bl (R m s n e (zh f n e)) : Int) + zh f n e > wd f then zfd f m s
 else if R m s n e (zh f n e) = 0 then 0 else zbj f (R m s n e (zh f n e)) (zh f n e)
theorem zki (f m : Int) (s : Bool) (n : Nat) (e : Int) : (zt f m s n e).1 = ((zdC f m s n e + sgn f s : Nat) : Int) := by
 unfold zt zdC
 dsimp only
 by_cases c : (bl (R m s n e (zh f n e)) : Int) + zh f n e > wd f
 ·rw [if_pos c, if_pos c]; rfl
 ·rw [if_neg c, if_neg c]
def zc1 (f m : Int) (s : Bool) (n : Nat) (e : Int) : Nat := (zh f n e - lo f).toNat * 2 ^ fb f + R m s n e (zh f n e)
theorem zh0 {f m : Int} (h : isF f) (s : Bool) {n : Nat} (hn : n ≠ 0) (e : Int) : lo f ≤ zh f n e ∧ R m s n e (zh f n e) ≤ 2 ^ pr f ∧ (zh f n e = lo f ∨ 2 ^ fb f ≤ R m s n e (zh f n e)) := by
 have hpr := zR h
 refine ⟨by unfold zh; omega, zfA (p := pr f) (by unfold zh; omega), ?_⟩
 by_cases c : zh f n e = lo f
 ·exact .inl c
 ·right
  have hu : zh f n e = e + (bl n : Nat) - (pr f : Nat) := by unfold zh at c ⊢; omega
  obtain ⟨h1, _⟩ := zeH (m := m) (s := s) (e := e) hn (E := zh f n e) (by omega)
  have h2 : R m s n e (zh f n e) ≠ 0 := by
   intro hz
   rw [hz, zaz] at h1
   omega
  have h3 := zcE h2
  exact Nat.le_trans (Nat.pow_le_pow_right (by omega) (by omega)) h3
theorem ziF {f m : Int} (h : isF f) (s : Bool) {n : Nat} (hn : n ≠ 0) (e : Int) : zdC f m s n e = if mo f * 2 ^ fb f ≤ zc1 f m s n e then zfd f m s else zc1 f m s n e := by
 obtain ⟨h1, h2, h3⟩ := zh0 (m := m) h s hn e
 have hpr := zR h
 have hro := ziY h
 have hmo := zdN h
 have hp := zj (fb f)
 have hs : 2 ^ pr f = 2 * 2 ^ fb f := by rw [hpr, Nat.pow_succ]; omega
 have hiff : (bl (R m s n e (zh f n e)) : Int) + zh f n e > wd f ↔ mo f * 2 ^ fb f ≤ zc1 f m s n e := by
  unfold zc1
  obtain ⟨u, hu⟩ : ∃ u, u = zh f n e := ⟨_, rfl⟩
  obtain ⟨q, hq⟩ : ∃ q, q = R m s n e u := ⟨_, rfl⟩
  rw [← hu] at h1 h2 h3 ⊢
  rw [← hq] at h2 h3 ⊢
  obtain ⟨d, hd⟩ : ∃ d, d = (u - lo f).toNat := ⟨_, rfl⟩
  rw [← hd]
  have hud : u = lo f + (d : Int) := by omega
  by_cases c : q = 2 ^ pr f
  ·have hb : bl q = pr f + 1 := by
    have := zbe (v := 1) (by omega) (pr f)
    rw [Nat.one_mul, show bl 1 = 1 by decide] at this
    rw [c]; omega
   rw [hb, c, hs]
   have : d * 2 ^ fb f + 2 * 2 ^ fb f = (d + 2) * 2 ^ fb f := by rw [Nat.add_mul]
   rw [this, Nat.mul_le_mul_right_iff hp]
   omega
  ·have hlt : q < 2 * 2 ^ fb f := by omega
   have hb : bl q ≤ pr f := zL (by omega)
   rcases h3 with h3 | h3
   ·have : d = 0 := by omega
    subst this
    have h5 : 2 * 2 ^ fb f ≤ mo f * 2 ^ fb f := Nat.mul_le_mul_right _ (by omega)
    constructor
    ·intro; omega
    ·intro; omega
   ·have h4 := zaG h3
    have h5 := zbe (v := 1) (by omega) (fb f)
    rw [Nat.one_mul, show bl 1 = 1 by decide] at h5
    have hb2 : bl q = pr f := by omega
    rw [hb2]
    constructor
    ·intro hh
     have h6 : (mo f - 1) * 2 ^ fb f ≤ d * 2 ^ fb f := Nat.mul_le_mul_right _ (by omega)
     have h7 : mo f * 2 ^ fb f = (mo f - 1) * 2 ^ fb f + 2 ^ fb f := by
      rw [← Nat.succ_mul]; congr 1; omega
     omega
    ·intro hh
     apply Int.lt_of_not_ge
     intro hc
     have h6 : d * 2 ^ fb f ≤ (mo f - 2) * 2 ^ fb f := Nat.mul_le_mul_right _ (by omega)
     have h7 : mo f * 2 ^ fb f = (mo f - 2) * 2 ^ fb f + 2 * 2 ^ fb f := by
      rw [← Nat.add_mul]; congr 1; omega
     omega
 unfold zdC
 by_cases c : (bl (R m s n e (zh f n e)) : Int) + zh f n e > wd f
 ·rw [if_pos c, if_pos (hiff.1 c)]
 ·rw [if_neg c, if_neg (fun hh => c (hiff.2 hh))]
  by_cases c0 : R m s n e (zh f n e) = 0
  ·rw [if_pos c0]
   have : zh f n e = lo f := h3.resolve_right (by omega)
   unfold zc1
   rw [c0, this, show (lo f - lo f).toNat = 0 by omega, Nat.zero_mul]
  ·rw [if_neg c0, zmI h h1 h2 h3 c0]; rfl
theorem zme {f m : Int} (h : isF f) (s : Bool) {n n' : Nat} (hn : n ≠ 0) (hle : n ≤ n') (e : Int) : zc1 f m s n e ≤ zc1 f m s n' e := by
 obtain ⟨h1, h2, h3⟩ := zh0 (m := m) h s hn e
 obtain ⟨k1, k2, k3⟩ := zh0 (m := m) h s (n := n') (by omega) e
 have hpr := zR h
 have hs : 2 ^ pr f = 2 * 2 ^ fb f := by rw [hpr, Nat.pow_succ]; omega
 have hb := zaG hle
 have hu : zh f n e ≤ zh f n' e := by unfold zh; omega
 unfold zc1
 by_cases c : zh f n e = zh f n' e
 ·rw [← c]
  have : R m s n e (zh f n e) ≤ R m s n' e (zh f n e) := by
   unfold R
   exact zoS m s (Nat.mul_le_mul_right _ hle)
  omega
 ·have k4 := k3.resolve_left (by omega)
  have e1 : ((zh f n e - lo f).toNat + 1) * 2 ^ fb f ≤ (zh f n' e - lo f).toNat * 2 ^ fb f := Nat.mul_le_mul_right _ (by omega)
  rw [Nat.add_mul] at e1
  omega
theorem zmf {f m : Int} (h : isF f) (s : Bool) {n n' : Nat} (hn : n ≠ 0) (hle : n ≤ n') (e : Int) : zdC f m s n e ≤ zdC f m s n' e ∧ zdC f m s n' e ≤ mo f * 2 ^ fb f := by
 have h1 := zme (m := m) h s hn hle e
 rw [ziF h s hn, ziF h s (n := n') (by omega)]
 have hm : zfd f m s ≤ mo f * 2 ^ fb f ∧ mo f * 2 ^ fb f - 1 ≤ zfd f m s := by unfold zfd; split <;> omega
 constructor
 ·split <;> split <;> omega
 ·split <;> omega
theorem zpf {A B A' B' : Nat} (hB : 0 < B) (hB' : 0 < B') (hx : A * B' ≤ A' * B) : stk (A / B) (decide (A % B ≠ 0)) ≤ stk (A' / B') (decide (A' % B' ≠ 0)) := by
 have ea := Nat.div_add_mod A B
 have ea' := Nat.div_add_mod A' B'
 have hl' := Nat.mod_lt A' hB'
 have hq : A / B ≤ A' / B' := by
  rw [Nat.le_div_iff_mul_le hB']
  have h1 : A / B * B * B' ≤ A * B' := Nat.mul_le_mul_right _ (Nat.div_mul_le_self A B)
  have h2 : A / B * B' * B ≤ A' * B := by
   rw [Nat.mul_assoc, Nat.mul_comm B' B, ← Nat.mul_assoc]; omega
  exact Nat.le_of_mul_le_mul_right h2 hB
 unfold stk
 have hb1 := zd9 (decide (A % B ≠ 0))
 have hb2 := zd9 (decide (A' % B' ≠ 0))
 by_cases c : A / B = A' / B'
 ·by_cases c0 : A % B = 0
  ·have : bN (decide (A % B ≠ 0)) = 0 := by rw [zfG]; exact decide_eq_false (by simpa using c0)
   omega
  ·have c1 : A' % B' ≠ 0 := by
    intro hz
    rw [hz, Nat.add_zero] at ea'
    rw [← ea, ← ea', ← c, Nat.add_mul] at hx
    have h3 : B * (A / B) * B' = B' * (A / B) * B := by
     rw [Nat.mul_comm B, Nat.mul_assoc, Nat.mul_comm B B', ← Nat.mul_assoc, Nat.mul_comm (A / B) B']
    rw [h3] at hx
    have h4 : 0 < A % B * B' := Nat.mul_pos (by omega) hB'
    omega
   have : bN (decide (A' % B' ≠ 0)) = 1 := by
    have : bN (decide (A' % B' ≠ 0)) ≠ 0 := fun hz => by
     rw [zfG] at hz
     exact absurd (of_decide_eq_false hz) (by simpa using c1)
    omega
   omega
 ·omega
theorem zoW {f m : Int} (h : isF f) (s : Bool) {A B A' B' : Nat} (hA : A ≠ 0) (hA' : A' ≠ 0) (hB : 0 < B) (hB' : 0 < B') (hx : A * B' ≤ A' * B) (e : Int) :
  ∃ c c' : Nat, (rq f m s A B e).1 = ((c + sgn f s : Nat) : Int) ∧ (rq f m s A' B' e).1 = ((c' + sgn f s : Nat) : Int) ∧ c ≤ c' ∧ c' ≤ mo f * 2 ^ fb f := by
 obtain ⟨N, hN⟩ : ∃ N, N = max (bl B + 64) (bl B' + 64) := ⟨_, rfl⟩
 have bits : ∀ {A B : Nat}, A ≠ 0 → 0 < B → bl B + 64 ≤ N → pr f + 1 ≤ bl (A * 2 ^ N / B) ∧ A * 2 ^ N / B ≠ 0 := by
  intro A B hA hB hle
  have h1 := zfi hA hB
  have h2 : A * 2 ^ (bl B + 64) / B ≤ A * 2 ^ N / B := Nat.div_le_div_right (Nat.mul_le_mul_left _ (Nat.pow_le_pow_right (by omega) hle))
  have h3 := zaG h2
  have h4 : pr f ≤ 53 := by rcases h with rfl | rfl <;> decide
  refine ⟨by omega, fun hz => ?_⟩
  rw [hz, zaz] at h3
  omega
 have b1 := bits hA hB (by omega)
 have b2 := bits hA' hB' (by omega)
 have hm := zpf (A := A * 2 ^ N) (A' := A' * 2 ^ N) hB hB' (by
  rw [Nat.mul_right_comm, Nat.mul_right_comm A']
  exact Nat.mul_le_mul_right _ hx)
 have hne : stk (A * 2 ^ N / B) (decide (A * 2 ^ N % B ≠ 0)) ≠ 0 := by unfold stk; omega
 obtain ⟨g1, g2⟩ := zmf (m := m) h s hne hm (e - N - 1)
 exact ⟨_, _, by rw [← zew h s hA hB e N b1.1, zki], by rw [← zew h s hA' hB' e N b2.1, zki], g1, g2⟩
theorem zfJ (T : List UInt8) (n : Nat) : (bx T).extract 0 n = bx (T.take n) := zbI.1 (by rw [zgn]; rfl)
theorem zeP (T : List UInt8) (n : Nat) : (bx T).extract n (bx T).size = bx (T.drop n) := zbI.1 (by rw [zgn, zO, zy, zy, List.take_length])
theorem zp3 {a : Int} {c : Int} (h : 0 < c) : (a * c).sign = a.sign := by
 rw [Int.sign_mul, Int.sign_eq_one_of_pos h, Int.mul_one]
def zkK (f : Int) (w : Nat) : Int := if zd3 f w = true then -((w % sg f : Nat) : Int) else ((w % sg f : Nat) : Int)
theorem zm3 {f : Int} (h : isF f) : 0 < mo f * 2 ^ fb f ∧ mo f * 2 ^ fb f < sg f := by
 have := zdh h
 have := zj (fb f)
 have := zdN h
 exact ⟨Nat.mul_pos (by omega) (zj _), by omega⟩
theorem zn6 {n n' a b a' b' : Nat} (e : a + b' = a' + b) (h : n * 10 ^ a ≤ n' * 10 ^ b) : n * 10 ^ a' ≤ n' * 10 ^ b' := by
 have h1 : n * 10 ^ a * 10 ^ b' ≤ n' * 10 ^ b * 10 ^ b' := Nat.mul_le_mul_right _ h
 rw [Nat.mul_assoc, ← Nat.pow_add, e, Nat.pow_add, ← Nat.mul_assoc, Nat.mul_right_comm n'] at h1
 exact Nat.le_of_mul_le_mul_right h1 (zch b)
theorem zmu {f m : Int} (h : isF f) (s : Bool) {n n' : Nat} (hn : n ≠ 0) (hn' : n' ≠ 0) {x x' : Int} {a b : Nat} (hx : (a : Int) - b = x - x') (hle : n * 10 ^ a ≤ n' * 10 ^ b) :
  ∃ c c' : Nat, (z3 f m s n x).1 = ((c + sgn f s : Nat) : Int) ∧ (z3 f m s n' x').1 = ((c' + sgn f s : Nat) : Int) ∧ c ≤ c' ∧ c' ≤ mo f * 2 ^ fb f := by
 have h1 := zn6 (a' := x.toNat + (-x').toNat) (b' := x'.toNat + (-x).toNat) (by omega) hle
 rw [Nat.pow_add, Nat.pow_add, ← Nat.mul_assoc, ← Nat.mul_assoc] at h1
 exact zoW (m := m) h s (Nat.mul_ne_zero hn (Nat.ne_of_gt (zch _))) (Nat.mul_ne_zero hn' (Nat.ne_of_gt (zch _))) (zch _) (zch _) h1 0
theorem zkL {f : Int} (h : isF f) (s : Bool) {c : Nat} (hc : c ≤ mo f * 2 ^ fb f) : zkK f (c + sgn f s) = (if s = true then -(c : Int) else (c : Int)) ∧ c + sgn f s < 2 * sg f ∧ cls f (c + sgn f s) ≠ 5 := by
 have hi := zm3 h
 have hm := zpk h (x := c) (by omega) s
 have e : zd3 f (c + sgn f s) = s := by
  unfold zd3 sgn
  cases s
  ·rw [if_neg (by simp)]; exact decide_eq_false (by omega)
  ·rw [if_pos rfl]; exact decide_eq_true (by omega)
 refine ⟨?_, ?_, ?_⟩
 ·unfold zkK
  rw [hm, e]
 ·unfold sgn; split <;> omega
 ·unfold cls
  rw [hm]
  split
  ·omega
  ·split
   ·omega
   ·split
    ·omega
    ·split <;> omega
def dg (t : List UInt8) : List UInt8 := (t.takeWhile (· != 101)).filter isD
theorem zhY : ∀ l : List UInt8, (l.takeWhile isD).all isD = true
 | [] => rfl
 | c :: l => by
  rw [List.takeWhile_cons]
  split
  ·rename_i h
   rw [List.all_cons, h, zhY l]; rfl
  ·rfl
def okT (l : List UInt8) : Bool := decide (l = [110, 97, 110]) || decide (zJ l = [105, 110, 102]) || (zaN (zJ l)).isSome
def isS (c : UInt8) : Bool := c == 43 || c == 45
def sg1 : Bool → List UInt8 → Bool
 | _, [] => true
 | p, c :: l => (p || !isS c) && sg1 (c == 101) l
theorem zkv : ∀ (P : List UInt8) (p : Bool) (c : UInt8) (Q : List UInt8), sg1 p (P ++ c :: Q) = true → isS c = true → (P = [] ∧ p = true) ∨ ∃ P', P = P' ++ [101]
 | [], p, c, Q, h, hc => by
  simp only [List.nil_append, sg1, Bool.and_eq_true, Bool.or_eq_true, Bool.not_eq_true'] at h
  rcases h.1 with h1 | h1
  ·exact .inl ⟨rfl, h1⟩
  ·rw [hc] at h1; cases h1
 | b :: P, p, c, Q, h, hc => by
  simp only [List.cons_append, sg1, Bool.and_eq_true] at h
  rcases zkv P (b == 101) c Q h.2 hc with ⟨rfl, h1⟩ | ⟨P', rfl⟩
  ·right
   refine ⟨[], ?_⟩
   rw [show b = 101 by simpa using h1]; rfl
  ·exact .inr ⟨b :: P', rfl⟩
theorem zi5 {c : UInt8} (h : isD c = true ∨ c = 46) : isS c = false ∧ (c == 101) = false := by
 rcases h with h | h
 ·have h1 := zi3 h
  have n1 : c ≠ 43 := fun e => by rw [e] at h1; revert h1; decide
  have n2 : c ≠ 45 := fun e => by rw [e] at h1; revert h1; decide
  have n3 : c ≠ 101 := fun e => by rw [e] at h1; revert h1; decide
  unfold isS
  simp [n1, n2, n3]
 ·rw [h]; decide
theorem zhP : ∀ (W T : List UInt8) (p : Bool), (∀ c ∈ W, isD c = true ∨ c = 46) → W ≠ [] → sg1 false T = true → sg1 p (W ++ T) = true
 | [], _, _, _, h, _ => absurd rfl h
 | [c], T, p, hW, _, hT => by
  obtain ⟨h1, h2⟩ := zi5 (hW c (by simp))
  simp [sg1, h1, h2, hT]
 | c :: d :: W, T, p, hW, _, hT => by
  obtain ⟨h1, h2⟩ := zi5 (hW c (by simp))
  have := zhP (d :: W) T false (fun x hx => hW x (by simp at hx ⊢; exact .inr hx)) (by simp) hT
  show ((p || !isS c) && sg1 (c == 101) (d :: W ++ T)) = true
  rw [h1, h2, this]; simp
theorem zo3 {R : List UInt8} (h : R.all isD = true) (p : Bool) : sg1 p R = true := by
 cases R with
 | nil => rfl
 | cons c R =>
  have := zhP (c :: R) [] p (fun x hx => .inl (List.all_eq_true.1 h x hx)) (by simp) rfl
  rwa [List.append_nil] at this
theorem ziW {E : List UInt8} (h : zav E = true) : ∃ R, R ≠ [] ∧ R.all isD = true ∧ (E = R ∨ E = 45 :: R ∨ E = 43 :: R) := by
 unfold zav at h
 simp only [Bool.and_eq_true, decide_eq_true_eq] at h
 obtain ⟨⟨h1, _⟩, h3⟩ := h
 refine ⟨zq E, h1, h3, ?_⟩
 unfold zq
 split
 ·exact .inr (.inl rfl)
 ·exact .inr (.inr rfl)
 ·exact .inl rfl
theorem zoy {l : List UInt8} {y : List UInt8 × Int} (h : zaN l = some y) : ∃ (W : List UInt8) (d : UInt8) (T : List UInt8), l = W ++ [d] ++ T ∧ (∀ c ∈ W ++ [d], isD c = true ∨ c = 46) ∧ isD d = true ∧ (∃ b r, W ++ [d] = b :: r ∧ isD b = true) ∧ (T = [] ∨ ∃ E, T = 101 :: E ∧ zav E = true) := by
 have tail : ∀ {d : List UInt8} {x : Int} {t : List UInt8}, zbd d x t = some y → t = [] ∨ ∃ E, t = 101 :: E ∧ zav E = true := by
  intro d x t ht
  unfold zbd at ht
  split at ht
  ·rename_i h0; exact .inl h0
  ·split at ht
   ·rename_i h0 h1
    cases t with
    | nil => exact absurd rfl h0
    | cons c t =>
     have : c = 101 := by simpa using h1.1
     subst this
     exact .inr ⟨t, rfl, h1.2⟩
   ·cases ht
 have e1 := zb0 isD l
 have a1 := zhY l
 have last : ∀ {A : List UInt8}, A ≠ [] → A.all isD = true → ∃ B d, A = B ++ [d] ∧ isD d = true := by
  intro A h0 hA
  rcases List.eq_nil_or_concat A with h1 | ⟨B, d, h1⟩
  ·exact absurd h1 h0
  ·rw [List.concat_eq_append] at h1
   rw [h1] at hA
   exact ⟨B, d, h1, by simpa using (zip hA).2⟩
 unfold zaN at h
 split at h
 ·cases h
 ·rename_i h0
  obtain ⟨b, r, hbr⟩ : ∃ b r, l.takeWhile isD = b :: r := by
   cases hh : l.takeWhile isD with
   | nil => exact absurd hh h0
   | cons b r => exact ⟨b, r, rfl⟩
  have hb : isD b = true := by rw [hbr] at a1; exact (zlG a1).1
  split at h
  ·rename_i h1
   split at h
   ·cases h
   ·rename_i h2
    cases hd : l.dropWhile isD with
    | nil => rw [hd] at h1; cases h1
    | cons c t =>
     rw [hd] at h h1 h2 e1
     have hc : c = 46 := by simpa using h1
     subst hc
     rw [List.tail_cons] at h h2
     have e2 := zb0 isD t
     have a2 := zhY t
     obtain ⟨B, d, k1, k2⟩ := last h2 a2
     refine ⟨l.takeWhile isD ++ 46 :: B, d, t.dropWhile isD, ?_, ?_, k2, ⟨b, r ++ 46 :: B ++ [d], by rw [hbr]; simp, hb⟩, tail h⟩
     ·conv => lhs; rw [← e1, ← e2, k1]
      simp
     ·intro c hc
      rw [k1] at a2
      simp only [List.mem_append, List.mem_cons, List.not_mem_nil, or_false] at hc
      rcases hc with (hx | hx | hx) | hx
      ·exact .inl (List.all_eq_true.1 a1 c hx)
      ·exact .inr hx
      ·exact .inl (List.all_eq_true.1 a2 c (by simp [hx]))
      ·exact .inl (List.all_eq_true.1 a2 c (by simp [hx]))
  ·obtain ⟨B, d, k1, k2⟩ := last h0 a1
   refine ⟨B, d, l.dropWhile isD, ?_, ?_, k2, ⟨b, r, by rw [← k1, hbr], hb⟩, tail h⟩
   ·rw [← k1]; exact e1.symm
   ·intro c hc
    rw [← k1] at hc
    exact .inl (List.all_eq_true.1 a1 c hc)
theorem zf7 {l : List UInt8} (h : okT l = true) : sg1 true l = true ∧ (∃ P c, l = P ++ [c] ∧ c ≠ 101 ∧ c ≠ 105) ∧ (∀ c r, l = c :: r → c ≠ 43) := by
 unfold okT at h
 simp only [Bool.or_eq_true, decide_eq_true_eq] at h
 have num : ∀ {b : List UInt8}, (zaN b).isSome = true → sg1 false b = true ∧ (∃ P c, b = P ++ [c] ∧ c ≠ 101 ∧ c ≠ 105) ∧ (∀ c r, b = c :: r → c ≠ 43) := by
  intro b hb
  obtain ⟨y, hy⟩ := Option.isSome_iff_exists.1 hb
  obtain ⟨W, d, T, w1, w2, w3, ⟨b0, r0, w4, w5⟩, w6⟩ := zoy hy
  have dl : ∀ {x : UInt8}, isD x = true → x ≠ 101 ∧ x ≠ 105 ∧ x ≠ 43 := by
   intro x hx
   have h1 := zi3 hx
   exact ⟨fun e => by rw [e] at h1; revert h1; decide, fun e => by rw [e] at h1; revert h1; decide, fun e => by rw [e] at h1; revert h1; decide⟩
  refine ⟨?_, ?_, ?_⟩
  ·rw [w1]
   refine zhP _ _ _ w2 (by simp) ?_
   rcases w6 with rfl | ⟨E, rfl, hE⟩
   ·rfl
   ·obtain ⟨R, r1, r2, r3⟩ := ziW hE
    have hd := zo3 r2
    rcases r3 with rfl | rfl | rfl
    ·simp [sg1, isS, hd]
    ·simp [sg1, isS, hd]
    ·simp [sg1, isS, hd]
  ·rcases w6 with rfl | ⟨E, rfl, hE⟩
   ·exact ⟨W, d, by rw [w1, List.append_nil], (dl w3).1, (dl w3).2.1⟩
   ·obtain ⟨R, r1, r2, r3⟩ := ziW hE
    rcases List.eq_nil_or_concat R with hh | ⟨B, x, hh⟩
    ·exact absurd hh r1
    ·rw [List.concat_eq_append] at hh
     have hx : isD x = true := by rw [hh] at r2; simpa using (zip r2).2
     rcases r3 with rfl | rfl | rfl
     ·exact ⟨W ++ [d] ++ 101 :: B, x, by rw [w1, hh]; simp, (dl hx).1, (dl hx).2.1⟩
     ·exact ⟨W ++ [d] ++ 101 :: 45 :: B, x, by rw [w1, hh]; simp, (dl hx).1, (dl hx).2.1⟩
     ·exact ⟨W ++ [d] ++ 101 :: 43 :: B, x, by rw [w1, hh]; simp, (dl hx).1, (dl hx).2.1⟩
  ·intro c r hcr
   rw [w1, w4] at hcr
   rw [← (List.cons.inj hcr).1]
   exact (dl w5).2.2
 have body : l = zJ l ∨ l = 45 :: zJ l := by
  cases l with
  | nil => exact .inl rfl
  | cons c t =>
   by_cases hc : c = 45
   ·subst hc; exact .inr rfl
   ·left; unfold zJ; split <;> simp_all
 have lift : sg1 false (zJ l) = true → (∃ P c, zJ l = P ++ [c] ∧ c ≠ 101 ∧ c ≠ 105) → (∀ c r, zJ l = c :: r → c ≠ 43) → sg1 true l = true ∧ (∃ P c, l = P ++ [c] ∧ c ≠ 101 ∧ c ≠ 105) ∧ (∀ c r, l = c :: r → c ≠ 43) := by
  intro g1 g2 g3
  generalize zJ l = b at body g1 g2 g3
  have g1' : sg1 true b = true := by
   cases b with
   | nil => rfl
   | cons c b =>
    simp only [sg1, Bool.and_eq_true] at g1 ⊢
    exact ⟨rfl, g1.2⟩
  rcases body with rfl | rfl
  ·exact ⟨g1', g2, g3⟩
  ·obtain ⟨P, c, k1, k2, k3⟩ := g2
   refine ⟨by simp [sg1, isS, g1], ⟨45 :: P, c, by rw [k1]; rfl, k2, k3⟩, fun c r hcr => by rw [← (List.cons.inj hcr).1]; decide⟩
 rcases h with (h | h) | h
 ·subst h
  exact ⟨by decide, ⟨[110, 97], 110, rfl, by decide, by decide⟩, fun c r hcr => by rw [← (List.cons.inj hcr).1]; decide⟩
 ·rw [h] at lift
  exact lift (by decide) ⟨[105, 110], 102, rfl, by decide, by decide⟩ (fun c r hcr => by rw [← (List.cons.inj hcr).1]; decide)
 ·obtain ⟨n1, n2, n3⟩ := num h
  exact lift n1 n2 n3
def zgr (A : List UInt8) (c : UInt8) (B : List UInt8) : Prop := isS c = true ∧ okT A = true ∧ okT B = true ∧ (∀ x r, B = x :: r → x ≠ 45) ∧ ¬ (c = 45 ∧ B = [110, 97, 110])
theorem zkX {A B : List UInt8} {c : UInt8} (h : zgr A c B) : A ≠ [] ∧ (∀ P x, A = P ++ [x] → x ≠ 101) ∧ ∀ (P : List UInt8) (x : UInt8) (Q : List UInt8), B = P ++ x :: Q → isS x = true → ∃ P', P = P' ++ [101] := by
 obtain ⟨h1, h2, h3, h4, h5⟩ := h
 obtain ⟨a1, ⟨P0, c0, a2, a3, _⟩, a4⟩ := zf7 h2
 obtain ⟨b1, _, b4⟩ := zf7 h3
 refine ⟨by rw [a2]; simp, fun P x hPx => ?_, fun P x Q hB hx => ?_⟩
 ·rw [a2] at hPx
  have := (List.append_inj' hPx rfl).2
  rw [← (List.cons.inj this).1]; exact a3
 ·rw [hB] at b1
  rcases zkv P true x Q b1 hx with ⟨rfl, _⟩ | hP
  ·exfalso
   have n1 := h4 x Q hB
   have n2 := b4 x Q hB
   unfold isS at hx
   simp [n1, n2] at hx
  ·exact hP
def spl (t : List UInt8) : Nat → Option Nat
 | 0 => none
 | i + 1 => if isS (t.getD (i + 1) 0) = true ∧ t.getD i 0 ≠ 101 then some (i + 1) else spl t i
theorem zhT {t : List UInt8} : ∀ {n i : Nat}, spl t n = some i → 1 ≤ i ∧ i ≤ n ∧ isS (t.getD i 0) = true
 | 0, _, h => by cases h
 | n + 1, i, h => by
  unfold spl at h
  split at h
  ·rename_i hc
   cases h
   exact ⟨by omega, Nat.le_refl _, hc.1⟩
  ·obtain ⟨h1, h2, h3⟩ := zhT h
   exact ⟨h1, by omega, h3⟩
theorem zmW {A B : List UInt8} {i : Nat} (h : i < A.length) : (A ++ B).getD i 0 = A.getD i 0 := by
 rw [List.getD_eq_getElem?_getD, List.getD_eq_getElem?_getD, List.getElem?_append_left h]
theorem zfW {A B : List UInt8} {i : Nat} (h : A.length ≤ i) : (A ++ B).getD i 0 = B.getD (i - A.length) 0 := by
 rw [List.getD_eq_getElem?_getD, List.getD_eq_getElem?_getD, List.getElem?_append_right h]
theorem zkC {A B : List UInt8} {c : UInt8} (h : zgr A c B) : ∀ (j : Nat), j ≤ B.length → spl (A ++ c :: B) (A.length + j) = some A.length
 | 0, _ => by
  obtain ⟨h1, h2, _⟩ := zkX h
  rcases List.eq_nil_or_concat A with hA | ⟨P, x, hA⟩
  ·exact absurd hA h1
  ·rw [List.concat_eq_append] at hA
   have hx := h2 P x hA
   have hl : A.length = P.length + 1 := by rw [hA]; simp
   have e1 : (A ++ c :: B).getD (P.length + 1) 0 = c := by rw [zfW (by omega), hl]; simp
   have e2 : (A ++ c :: B).getD P.length 0 = x := by rw [zmW (by omega), hA]; simp
   rw [Nat.add_zero, hl]
   unfold spl
   rw [e1, e2, if_pos ⟨h.1, hx⟩]
 | j + 1, hj => by
  obtain ⟨_, _, h3⟩ := zkX h
  have ih := zkC h j (by omega)
  show spl (A ++ c :: B) (A.length + j + 1) = some A.length
  unfold spl
  rw [if_neg, ih]
  rintro ⟨k1, k2⟩
  have e1 : (A ++ c :: B).getD (A.length + j + 1) 0 = B.getD j 0 := by
   rw [zfW (by omega), show A.length + j + 1 - A.length = j + 1 by omega]; simp
  rw [e1] at k1
  have hB : B = B.take j ++ B.getD j 0 :: B.drop (j + 1) := by
   rw [List.getD_eq_getElem?_getD, List.getElem?_eq_getElem (by omega), Option.getD_some]
   conv => lhs; rw [← List.take_append_drop j B]
   rw [List.drop_eq_getElem_cons (by omega)]
  obtain ⟨P', hP'⟩ := h3 _ _ _ hB k1
  have hl := congrArg List.length hP'
  rw [List.length_take, List.length_append, List.length_singleton] at hl
  have hj1 : 1 ≤ j := by omega
  have e2 : (A ++ c :: B).getD (A.length + j) 0 = 101 := by
   rw [zfW (by omega), show A.length + j - A.length = (j - 1) + 1 by omega]
   have e3 : (c :: B).getD (j - 1 + 1) 0 = B.getD (j - 1) 0 := by simp
   rw [e3]
   conv => lhs; rw [hB, hP', List.append_assoc]
   rw [zfW (by omega), show j - 1 - P'.length = 0 by omega]
   simp
  exact k2 e2
theorem zpb {A B : List UInt8} {c : UInt8} (h : zgr A c B) : spl (A ++ c :: B) ((A ++ c :: B).length - 1) = some A.length := by
 have := zkC h B.length (Nat.le_refl _)
 rw [show (A ++ c :: B).length - 1 = A.length + B.length by simp]
 exact this
theorem zmr {f m : Int} (h : isF f) (s : Bool) (n : Nat) (x : Int) : ∃ c : Nat, c ≤ mo f * 2 ^ fb f ∧ (zcq f m s n x).1 = ((c + sgn f s : Nat) : Int) ∧ (zcq f m s n x).2.2 = 0 ∧ (n = 0 → c = 0) := by
 unfold zcq
 by_cases c0 : n = 0
 ·rw [if_pos c0]
  exact ⟨0, Nat.zero_le _, by simp, rfl, fun _ => rfl⟩
 ·rw [if_neg c0]
  obtain ⟨c, c', p1, _, p3, p4⟩ := zmu (m := m) h s c0 c0 (x := x) (x' := x) (a := 0) (b := 0) (by omega) (Nat.le_refl _)
  exact ⟨c, by omega, p1, rfl, fun hh => absurd hh c0⟩
theorem zle {k w : Nat} (h : w < 2 ^ k) : w ^^^ 2 ^ k = 2 ^ k + w := by
 apply Nat.eq_of_testBit_eq
 intro i
 rw [Nat.testBit_xor, Nat.testBit_two_pow]
 rcases Nat.lt_trichotomy i k with c | c | c
 ·rw [Nat.testBit_two_pow_add_gt c, show decide (k = i) = false from decide_eq_false (by omega)]; simp
 ·subst c
  rw [Nat.testBit_two_pow_add_eq]; simp
 ·have h1 : w < 2 ^ i := Nat.lt_of_lt_of_le h (Nat.pow_le_pow_right (by omega) (by omega))
  have h2 : 2 ^ k + w < 2 ^ i := by
   have : 2 ^ (k + 1) ≤ 2 ^ i := Nat.pow_le_pow_right (by omega) (by omega)
   rw [Nat.pow_succ] at this; omega
  rw [Nat.testBit_lt_two_pow h1, Nat.testBit_lt_two_pow h2, show decide (k = i) = false from decide_eq_false (by omega)]; rfl
theorem zp2 {a b : Nat} (ha : a < 18446744073709551616) (hb : b < 18446744073709551616) : Go.bits .xor .u64 (a : Int) (b : Int) = ((a ^^^ b : Nat) : Int) := by
 show IntKind.u64.wrap ((BitVec.ofInt 64 (a : Int) ^^^ BitVec.ofInt 64 (b : Int)).toNat : Int) = _
 have e : ∀ n : Nat, n < 18446744073709551616 → (BitVec.ofInt 64 (n : Int)).toNat = n := fun n hn => by simp; omega
 have hx : a ^^^ b < 2 ^ 64 := Nat.xor_lt_two_pow (by omega) (by omega)
 rw [BitVec.toNat_xor, e a ha, e b hb, u64 (by omega) (by omega)]
def zdO (f : Int) (v : Nat) : Nat := v % sg f + sgn f (!zd3 f v)
theorem znI {f : Int} (h : isF f) {v : Nat} (hv : v < 2 * sg f) : Go.bits .xor .u64 (v : Int) (sg f : Int) = ((zdO f v : Nat) : Int) := by
 have hp := zbw h
 rw [zp2 (by omega) (by omega)]
 congr 1
 unfold zdO zd3 sgn
 have hk := zfj h
 by_cases c : sg f ≤ v
 ·obtain ⟨u, rfl⟩ : ∃ u, v = sg f + u := ⟨v - sg f, by omega⟩
  have hu : u < 2 ^ sk f := by rw [← hk]; omega
  rw [decide_eq_true c, if_neg (by simp), Nat.add_mod_left, Nat.mod_eq_of_lt (by rw [hk]; exact hu)]
  rw [hk, ← zle hu, Nat.xor_assoc, Nat.xor_self, Nat.xor_zero, Nat.add_zero]
 ·have hu : v < 2 ^ sk f := by rw [← hk]; omega
  rw [decide_eq_false c, if_pos (by simp), Nat.mod_eq_of_lt (by omega), hk, zle hu, Nat.add_comm]
theorem zll {f : Int} (h : isF f) {v : Nat} (hv : v < 2 * sg f) (c5 : cls f v ≠ 5) : Ev (fun k => zeA.f k f (v : Int)) (((zdO f v : Nat) : Int), 0) := by
 have ho := zpY h v
 unfold zg1 at ho
 rw [if_pos hv] at ho
 have ht : Ev (fun k => zeE.f k f (v : Int) (v : Int)) (((zdO f v : Nat) : Int), 0) := by
  unfold zeE.f
  refine Ev.bind ho (ze (by simp) (zi (zl6 h hv) (ze c5 ?_)))
  exact zi (a := ((zdO f v : Nat) : Int)) (by unfold zfr.f; rw [znI h hv]) (Ev.now _)
 unfold zeA.f
 exact Ev.bind ht (Ev.now _)
theorem zlk {f : Int} (h : isF f) {v : Nat} (c5 : cls f v ≠ 5) : zcJ.f f (v : Int) = some ((zdO f v : Nat) : Int) := by
 unfold zcJ.f
 rw [zok h v, Option.bind_some, if_neg c5, zjX h v, Option.bind_some, zhx h v, Option.bind_some]
 rfl
theorem zeU {f m : Int} (h : isF f) {l : List UInt8} (hl : l.length ≤ 1200) (ok : okT l = true) : (zP f m l).2.2 = 0 ∧ (l ≠ [110, 97, 110] → ∃ v : Nat, (zP f m l).1 = (v : Int) ∧ v < 2 * sg f ∧ cls f v ≠ 5) := by
 unfold okT at ok
 simp only [Bool.or_eq_true, decide_eq_true_eq] at ok
 unfold zP
 rw [if_neg (by omega)]
 by_cases c1 : l = [110, 97, 110]
 ·rw [if_pos c1]
  exact ⟨rfl, fun hh => absurd c1 hh⟩
 rw [if_neg c1]
 unfold zeT
 by_cases c2 : zJ l = [105, 110, 102]
 ·rw [if_pos c2]
  obtain ⟨_, s2, s3⟩ := zkL h (zaZ l) (c := mo f * 2 ^ fb f) (Nat.le_refl _)
  exact ⟨rfl, fun _ => ⟨_, rfl, s2, s3⟩⟩
 rw [if_neg c2]
 obtain ⟨y, hy⟩ := Option.isSome_iff_exists.1 ((ok.resolve_left (fun hh => hh.elim c1 c2)))
 rw [hy]
 show (zcq f m (zaZ l) (zn y.1 0) y.2).2.2 = 0 ∧ (l ≠ [110, 97, 110] → ∃ v : Nat, (zcq f m (zaZ l) (zn y.1 0) y.2).1 = (v : Int) ∧ _)
 obtain ⟨c, d1, d2, d3, _⟩ := zmr (m := m) h (zaZ l) (zn y.1 0) y.2
 obtain ⟨_, s2, s3⟩ := zkL h (zaZ l) d1
 exact ⟨d3, fun _ => ⟨_, d2, s2, s3⟩⟩
theorem zfL {f m : Int} {l : List UInt8} (hl : l.length ≤ 1200) (ok : ¬ okT l = true) : zP f m l = (0, 0, 12) := by
 unfold okT at ok
 simp only [Bool.or_eq_true, decide_eq_true_eq, not_or] at ok
 obtain ⟨⟨c1, c2⟩, c3⟩ := ok
 have : zaN (zJ l) = none := by
  cases hr : zaN (zJ l) with
  | none => rfl
  | some y => rw [hr] at c3; exact absurd rfl c3
 unfold zP zeT
 rw [if_neg (by omega), if_neg c1, if_neg c2, this]
 rfl
def zag (m : Int) (c : UInt8) : Int := if c = 45 ∧ m ≥ 4 then 9 - m else m
def zdZ (f : Int) (c : UInt8) (x : Int) : Int := if c = 45 then ((zdO f x.toNat : Nat) : Int) else x
def zgq (f m : Int) (A : List UInt8) (c : UInt8) (B : List UInt8) : Int × Int × Int × Int × Int :=
 ((zP f m A).1, zdZ f c (zP f (zag m c) B).1, (zP f m A).2.1, (zP f (zag m c) B).2.1, 0)
def zaU (c : UInt8) (B : List UInt8) : Bool := decide (B.head? ≠ some 45) && !decide (c = 45 ∧ B = [110, 97, 110]) && okT B
theorem zn9 (B : List UInt8) : zcU.f (bx B) (⟨#[45]⟩ : ByteArray) = some (decide (B.head? = some 45)) := by
 rw [zo2]
 congr 1
 apply decide_eq_decide.2
 show (tl (bx B)).take 1 = [45] ↔ _
 rw [zy]
 cases B with
 | nil => simp
 | cons x r => simp
theorem zjk {m : Int} (hm : isM m) (c : UInt8) : isM (zag m c) := by
 unfold isM at *
 unfold zag
 split <;> omega
theorem zm2 {f m : Int} (h : isF f) (hm : isM m) {c : UInt8} {B : List UInt8} (hl : B.length ≤ 1200) :
  ∃ r : Int × Int × Bool, Ev (fun k => zx.f k f m (bx (c :: B))) r ∧ (r.2.2 = zaU c B) ∧ (zaU c B = true → r.1 = zdZ f c (zP f (zag m c) B).1 ∧ r.2.1 = (zP f (zag m c) B).2.1) := by
 have hz := zO (c :: B)
 rw [List.length_cons] at hz
 have hb : bt (bx (c :: B)) 0 = (c.toNat : Int) := zaH (A := []) (B := B) (by rw [zy]; rfl)
 have hd : (bx (c :: B)).extract (1 : Int).toNat (bx (c :: B)).size = bx B := by
  rw [show (1 : Int).toNat = 1 from rfl, zeP]; rfl
 have c45 : (c.toNat : Int) = 45 ↔ c = 45 := ⟨fun hh => UInt8.toNat_inj.1 (by show _ = 45; omega), fun hh => by rw [hh]; rfl⟩
 have hgo : ∀ {r},
   (∀ hB : B.head? = some 45, r = (0, 0, false)) →
   (∀ (h0 : ¬ B.head? = some 45) (h1 : c = 45 ∧ B = [110, 97, 110]), r = (0, 0, false)) →
   (∀ (h0 : ¬ B.head? = some 45) (h1 : ¬ (c = 45 ∧ B = [110, 97, 110])), Ev (fun k => zx.j3 k (bx (c :: B)) f m (bx B) (zag m c)) r) →
   Ev (fun k => zx.f k f m (bx (c :: B))) r := by
  intro r k1 k2 k3
  unfold zx.f
  rw [hd, hb]
  refine zd (by decide) (zd (by omega) (zi (zn9 B) ?_))
  by_cases h0 : B.head? = some 45
  ·rw [decide_eq_true h0, k1 h0]
   exact zd rfl (Ev.now _)
  rw [decide_eq_false h0]
  refine ze (by simp) (zd (by omega) ?_)
  by_cases hc : c = 45
  ·refine zd (c45.2 hc) ?_
   by_cases hn : B = [110, 97, 110]
   ·rw [k2 h0 ⟨hc, hn⟩]
    exact zd (by rw [hn]; rfl) (Ev.now _)
   ·have := k3 h0 (fun hh => hn hh.2)
    refine ze (fun hh => hn (by have := congrArg tl hh; rwa [zy] at this)) (zd (by omega) (zd (c45.2 hc) ?_))
    unfold zag at this
    by_cases hm4 : m ≥ 4
    ·rw [if_pos ⟨hc, hm4⟩] at this
     refine zd hm4 ?_
     unfold isM at hm
     rw [show (9 - m) % 256 = 9 - m by omega]
     exact this
    ·rw [if_neg (fun hh => hm4 hh.2)] at this
     exact ze hm4 this
  ·have := k3 h0 (fun hh => hc hh.1)
   unfold zag at this
   rw [if_neg (fun hh => hc hh.1)] at this
   exact ze (fun hh => hc (c45.1 hh)) (zd (by omega) (ze (fun hh => hc (c45.1 hh)) this))
 have no : zaU c B = false → (B.head? = some 45 ∨ (c = 45 ∧ B = [110, 97, 110])) → ∃ r : Int × Int × Bool, Ev (fun k => zx.f k f m (bx (c :: B))) r ∧ (r.2.2 = zaU c B) ∧ (zaU c B = true → r.1 = zdZ f c (zP f (zag m c) B).1 ∧ r.2.1 = (zP f (zag m c) B).2.1) := by
  intro hno hw
  refine ⟨(0, 0, false), hgo (fun _ => rfl) (fun _ _ => rfl) (fun h0 h1 => absurd hw (fun hh => hh.elim h0 h1)), hno.symm, fun hh => by rw [hno] at hh; cases hh⟩
 by_cases h0 : B.head? = some 45
 ·exact no (by unfold zaU; simp [h0]) (.inl h0)
 by_cases h1 : c = 45 ∧ B = [110, 97, 110]
 ·exact no (by unfold zaU; simp [h1]) (.inr h1)
 have him : zaU c B = okT B := by
  unfold zaU
  rw [decide_eq_true h0, decide_eq_false h1]; simp
 have hp := zfz h (zjk hm c) (bx B)
 rw [zy] at hp
 by_cases ok : okT B = true
 ·obtain ⟨e0, ew⟩ := zeU (m := zag m c) h hl ok
  refine ⟨(zdZ f c (zP f (zag m c) B).1, (zP f (zag m c) B).2.1, true), hgo (fun hh => absurd hh h0) (fun _ hh => absurd hh h1) (fun _ _ => ?_), by rw [him, ok], fun _ => ⟨rfl, rfl⟩⟩
  have j5 : ∀ w : Int, Ev (fun k => zx.j5 k w (zP f (zag m c) B).2.1 (zP f (zag m c) B).2.2) (w, (zP f (zag m c) B).2.1, true) := by
   intro w
   refine zf ?_; simp only [zx.j5]
   exact zg (Ev.now _) (by rw [e0]; rfl)
  refine zf ?_; simp only [zx.j3]
  refine Ev.bind hp (zd (by omega) ?_)
  rw [hb]
  unfold zdZ
  by_cases hc : c = 45
  ·obtain ⟨v, v1, v2, v3⟩ := ew (fun hh => h1 ⟨hc, hh⟩)
   rw [if_pos hc]
   refine zd (c45.2 hc) ?_
   rw [decide_eq_true e0]
   refine zf ?_; simp only [zx.j4]
   refine zd trivial ?_
   have hn := zll h v2 v3
   rw [v1, Int.toNat_natCast]
   exact Ev.bind hn (j5 _)
  ·rw [if_neg hc]
   refine ze (fun hh => hc (c45.1 hh)) ?_
   refine zf ?_; simp only [zx.j4]
   exact ze (by simp) (j5 _)
 ·have e0 := zfL (f := f) (m := zag m c) hl ok
  rw [e0] at hp
  refine ⟨(0, 0, false), hgo (fun hh => absurd hh h0) (fun _ hh => absurd hh h1) (fun _ _ => ?_), by rw [him]; simpa using ok, fun hh => by rw [him] at hh; exact absurd hh ok⟩
  have j4 : Ev (fun k => zx.j4 k f m 0 0 12 false) (0, 0, false) := by
   refine zf ?_; simp only [zx.j4]
   refine ze (by simp) ?_
   refine zf ?_; simp only [zx.j5]
   exact Ev.now _
  refine zf ?_; simp only [zx.j3]
  refine Ev.bind hp (zd (by omega) ?_)
  rw [hb]
  by_cases hc : c = 45
  ·exact zd (c45.2 hc) j4
  ·exact ze (fun hh => hc (c45.1 hh)) j4
theorem zkD (t : List UInt8) (ht : t.length ≤ 2000) : ∀ n : Nat, n < t.length ∨ n = 0 → Ev (fun k => za3.l0 k (bx t) (n : Int)) (match spl t n with | some i => (i : Int) | none => -1)
 | 0, _ => by
  refine zf ?_; simp only [za3.l0]
  exact ze (by decide) (Ev.now _)
 | n + 1, hn => by
  have hz := zO t
  have hb : ∀ i : Nat, bt (bx t) (i : Int) = ((t.getD i 0).toNat : Int) := fun i => by rw [zfI, zy, Int.toNat_natCast]
  have ih := zkD t ht n (by omega)
  have e1 : wrap64 (((n + 1 : Nat) : Int) - 1) = (n : Int) := by rw [w64 (by omega) (by omega)]; omega
  have is43 : ∀ {x : UInt8}, (x.toNat : Int) = 43 ↔ x = 43 := fun {x} => ⟨fun hh => UInt8.toNat_inj.1 (by show _ = 43; omega), fun hh => by rw [hh]; rfl⟩
  have is45 : ∀ {x : UInt8}, (x.toNat : Int) = 45 ↔ x = 45 := fun {x} => ⟨fun hh => UInt8.toNat_inj.1 (by show _ = 45; omega), fun hh => by rw [hh]; rfl⟩
  have is101 : ∀ {x : UInt8}, (x.toNat : Int) = 101 ↔ x = 101 := fun {x} => ⟨fun hh => UInt8.toNat_inj.1 (by show _ = 101; omega), fun hh => by rw [hh]; rfl⟩
  refine zf ?_; simp only [za3.l0]
  rw [e1, hb, hb]
  unfold spl
  refine zd (by omega) (zd (by omega) (zd (by omega) ?_))
  by_cases c1 : t.getD (n + 1) 0 = 43
  ·refine zd (is43.2 c1) (zd (by omega) (zd (by omega) ?_))
   by_cases c3 : t.getD n 0 = 101
   ·rw [if_neg (fun hh => hh.2 c3)]
    exact ze (fun hh => hh (is101.2 c3)) ih
   ·rw [if_pos (show isS (t.getD (n + 1) 0) = true ∧ t.getD n 0 ≠ 101 from ⟨by rw [c1]; rfl, c3⟩)]
    exact zd (fun hh => c3 (is101.1 hh)) (Ev.now _)
  ·refine ze (fun hh => c1 (is43.1 hh)) (zd (by omega) (zd (by omega) ?_))
   by_cases c2 : t.getD (n + 1) 0 = 45
   ·refine zd (is45.2 c2) (zd (by omega) (zd (by omega) ?_))
    by_cases c3 : t.getD n 0 = 101
    ·rw [if_neg (fun hh => hh.2 c3)]
     exact ze (fun hh => hh (is101.2 c3)) ih
    ·rw [if_pos (show isS (t.getD (n + 1) 0) = true ∧ t.getD n 0 ≠ 101 from ⟨by rw [c2]; rfl, c3⟩)]
     exact zd (fun hh => c3 (is101.1 hh)) (Ev.now _)
   ·rw [if_neg (fun hh => by have := hh.1; unfold isS at this; rw [Bool.or_eq_true, beq_iff_eq, beq_iff_eq] at this; exact this.elim c1 c2)]
    exact ze (fun hh => c2 (is45.1 hh)) ih
def zcG (f m : Int) (t : List UInt8) : Int × Int × Int × Int × Int :=
 match spl t (t.length - 1) with
 | none => (0, 0, 0, 0, 12)
 | some i => if okT (t.take i) = true ∧ zaU (t.getD i 0) (t.drop (i + 1)) = true then zgq f m (t.take i) (t.getD i 0) (t.drop (i + 1)) else (0, 0, 0, 0, 12)
theorem zmn (t : List UInt8) (ht : t.length ≤ 2000) : Ev (fun k => za3.f k (bx t)) (match spl t (t.length - 1) with | some i => (i : Int) | none => -1) := by
 unfold za3.f
 have hz := zO t
 cases t with
 | nil =>
  have : wrap64 (((bx []).size : Int) - 1) = -1 := by rw [hz]; rfl
  rw [this]
  refine zf ?_; simp only [za3.l0]
  exact ze (by decide) (Ev.now _)
 | cons c t =>
  rw [List.length_cons] at hz ht ⊢
  have : wrap64 (((bx (c :: t)).size : Int) - 1) = ((t.length + 1 - 1 : Nat) : Int) := by rw [w64 (by omega) (by omega)]; omega
  rw [this]
  exact zkD (c :: t) (by rw [List.length_cons]; omega) _ (.inl (by rw [List.length_cons]; omega))
theorem ziH {t : List UInt8} {i : Nat} (h : i < t.length) : t.drop i = t.getD i 0 :: t.drop (i + 1) := by
 rw [List.drop_eq_getElem_cons h, List.getD_eq_getElem?_getD, List.getElem?_eq_getElem h, Option.getD_some]
theorem zlY {f m : Int} (h : isF f) (hm : isM m) {t : List UInt8} (ht : t.length ≤ 1200) : Ev (fun k => zeg.f k f m (bx t)) (zcG f m t) := by
 unfold zeg.f zcG
 refine Ev.bind (zmn t (by omega)) ?_
 cases hs : spl t (t.length - 1) with
 | none => exact zd (by decide) (Ev.now _)
 | some i =>
  obtain ⟨i1, i2, i3⟩ := zhT hs
  have hz := zO t
  have hd := ziH (t := t) (i := i) (by omega)
  obtain ⟨r, r1, r2, r3⟩ := zm2 (f := f) (m := m) h hm (c := t.getD i 0) (B := t.drop (i + 1)) (by rw [List.length_drop]; omega)
  have hl : (t.take i).length ≤ 1200 := by rw [List.length_take]; omega
  have hp := zfz h hm (bx (t.take i))
  rw [zy] at hp
  dsimp only
  refine ze (by omega) (zd (by omega) (zd (by omega) ?_))
  rw [Int.toNat_natCast, zfJ, zeP, hd]
  refine Ev.bind hp (zd (by omega) (zd (by omega) (Ev.bind r1 ?_)))
  by_cases ok : okT (t.take i) = true
  ·have e0 := (zeU (m := m) h hl ok).1
   refine ze (fun hh => hh e0) ?_
   by_cases im : zaU (t.getD i 0) (t.drop (i + 1)) = true
   ·rw [if_pos (show okT (t.take i) = true ∧ zaU (t.getD i 0) (t.drop (i + 1)) = true from ⟨ok, im⟩)]
    obtain ⟨r4, r5⟩ := r3 im
    refine ze (by rw [r2, im]; simp) ?_
    rw [r4, r5]
    exact Ev.now _
   ·rw [if_neg (show ¬ (okT (t.take i) = true ∧ zaU (t.getD i 0) (t.drop (i + 1)) = true) from fun hh => im hh.2)]
    exact zd (by rw [r2]; simpa using im) (Ev.now _)
  ·rw [if_neg (show ¬ (okT (t.take i) = true ∧ zaU (t.getD i 0) (t.drop (i + 1)) = true) from fun hh => ok hh.1), zfL hl ok]
   exact zd (by simp) (Ev.now _)
theorem zoi (l : List UInt8) : (zgd l).2.2.2.2 = okT l := by
 unfold zgd okT
 by_cases c1 : l = [110, 97, 110]
 ·rw [if_pos c1, decide_eq_true c1]; rfl
 rw [if_neg c1, decide_eq_false c1]
 unfold r8S
 by_cases c2 : zJ l = [105, 110, 102]
 ·rw [if_pos c2, decide_eq_true c2]; rfl
 rw [if_neg c2, decide_eq_false c2]
 cases zaN (zJ l) <;> rfl
theorem zgg {B : List UInt8} (hl : B.length ≤ 1200) : ∃ r, Ev (fun k => zl.f k (bx B)) r ∧ r.2.2.2.2 = okT B :=
 ⟨_, by have := zjN (s := bx B) (by rw [zO]; exact hl); rw [zy] at this; exact this, zoi B⟩
theorem zo0 {B : List UInt8} (hl : B.length ≤ 1200) : Ev (fun k => zda.f k (bx B)) (okT B && decide (B.head? ≠ some 45)) := by
 obtain ⟨r, r1, r2⟩ := zgg hl
 have hz := zO B
 unfold zda.f
 refine Ev.bind r1 ?_
 rw [r2]
 by_cases ok : okT B = true
 ·rw [ok, Bool.true_and]
  obtain ⟨_, ⟨P, c, hc, _⟩, _⟩ := zf7 ok
  have hp : 0 < B.length := by rw [hc]; simp
  refine zd rfl (zd (by omega) ?_)
  refine zg (Ev.now _) (decide_eq_decide.2 ?_)
  cases B with
  | nil => exact absurd hp (by simp)
  | cons x r =>
   have hb : bt (bx (x :: r)) 0 = (x.toNat : Int) := zaH (A := []) (B := r) (by rw [zy]; rfl)
   rw [hb]
   refine not_congr ⟨fun hh => ?_, fun hh => ?_⟩
   ·rw [show x = 45 from UInt8.toNat_inj.1 (by show _ = 45; omega)]; rfl
   ·rw [Option.some.inj hh]; rfl
 ·rw [Bool.not_eq_true] at ok
  rw [ok]
  exact ze (by simp) (Ev.now _)
def zd1 (t : List UInt8) (i : Nat) : Prop := isS (t.getD i 0) = true ∧ okT (t.take i) = true ∧ zaU (t.getD i 0) (t.drop (i + 1)) = true
theorem zi1 {c : UInt8} {B : List UInt8} : zaU c B = true ↔ okT B = true ∧ B.head? ≠ some 45 ∧ ¬ (c = 45 ∧ B = [110, 97, 110]) := by
 unfold zaU
 rw [Bool.and_eq_true, Bool.and_eq_true, decide_eq_true_eq, Bool.not_eq_true', decide_eq_false_iff_not]
 exact ⟨fun h => ⟨h.2, h.1.1, h.1.2⟩, fun h => ⟨⟨h.2.1, h.2.2⟩, h.1⟩⟩
theorem zpv {t : List UInt8} {i : Nat} (h : zd1 t i) : zgr (t.take i) (t.getD i 0) (t.drop (i + 1)) := by
 obtain ⟨h1, h2, h3⟩ := h
 obtain ⟨k1, k2, k3⟩ := zi1.1 h3
 exact ⟨h1, h2, k1, fun x r hx hh => k2 (by rw [hx, hh]; rfl), k3⟩
theorem zlX {f m : Int} {t : List UInt8} {i : Nat} (hi : i < t.length) (h : zd1 t i) : zcG f m t = zgq f m (t.take i) (t.getD i 0) (t.drop (i + 1)) := by
 have h1 := zpb (zpv h)
 rw [← ziH hi, List.take_append_drop, List.length_take, Nat.min_eq_left (by omega)] at h1
 unfold zcG
 rw [h1]
 exact if_pos ⟨h.2.1, h.2.2⟩
theorem zlZ {f m : Int} {t : List UInt8} (h : ∀ j, 1 ≤ j → j < t.length → ¬ zd1 t j) : zcG f m t = (0, 0, 0, 0, 12) := by
 unfold zcG
 cases hs : spl t (t.length - 1) with
 | none => rfl
 | some i =>
  obtain ⟨i1, i2, i3⟩ := zhT hs
  exact if_neg (fun hh => h i i1 (by omega) ⟨i3, hh.1, hh.2⟩)
theorem zoQ {m : Int} (hm : isM m) : zcK.f m = some (zag m 45) := by
 unfold zcK.f zag
 unfold isM at hm
 by_cases c4 : m = 4
 ·rw [if_pos c4, if_pos ⟨rfl, by omega⟩, c4]; rfl
 rw [if_neg c4]
 by_cases c5 : m = 5
 ·rw [if_pos c5, if_pos ⟨rfl, by omega⟩, c5]; rfl
 rw [if_neg c5, if_neg (fun hh => by omega)]
theorem zke {f m : Int} (h : isF f) (hm : isM m) {t : List UInt8} (ht : t.length ≤ 1200) : ∀ n i : Nat, i + n = t.length ∨ (n = 0 ∧ t.length ≤ i ∧ i ≤ 2000) → 1 ≤ i → (∀ j, 1 ≤ j → j < i → ¬ zd1 t j) →
  Ev (fun k => zau.l0 k f m 0 0 0 0 (bx t) (i : Int)) (zcG f m t)
 | 0, i, hi, h1, hno => by
  have hz := zO t
  rw [zlZ (fun j j1 j2 => hno j j1 (by omega))]
  refine zf ?_; simp only [zau.l0]
  exact ze (by omega) (Ev.now _)
 | n + 1, i, hi, h1, hno => by
  have hz := zO t
  have e1 : wrap64 ((i : Int) + 1) = ((i + 1 : Nat) : Int) := by rw [w64 (by omega) (by omega)]; omega
  have next : ¬ zd1 t i → Ev (fun k => zau.l0 k f m 0 0 0 0 (bx t) ((i + 1 : Nat) : Int)) (zcG f m t) := by
   intro hn
   refine zke h hm ht n (i + 1) (by omega) (by omega) (fun j j1 j2 => ?_)
   by_cases hj : j = i
   ·rw [hj]; exact hn
   ·exact hno j j1 (by omega)
  have yes := zlX (f := f) (m := m) (t := t) (i := i) (by omega)
  have hb : bt (bx t) (i : Int) = ((t.getD i 0).toNat : Int) := by rw [zfI, zy, Int.toNat_natCast]
  obtain ⟨r, r1, r2⟩ := zgg (B := t.take i) (by rw [List.length_take]; omega)
  have hlB : (t.drop (i + 1)).length ≤ 1200 := by rw [List.length_drop]; omega
  have hsz := zo0 hlB
  have pA := zgc h hm (bx (t.take i))
  have pB := fun c : UInt8 => zgc h (zjk hm c) (bx (t.drop (i + 1)))
  rw [zy] at pA
  simp only [zy] at pB
  refine zf ?_; simp only [zau.l0]
  rw [e1, hb, Int.toNat_natCast, Int.toNat_natCast, zfJ, zeP]
  have is43 : ((t.getD i 0).toNat : Int) = 43 ↔ t.getD i 0 = 43 := ⟨fun hh => UInt8.toNat_inj.1 (by show _ = 43; omega), fun hh => by rw [hh]; rfl⟩
  have is45 : ((t.getD i 0).toNat : Int) = 45 ↔ t.getD i 0 = 45 := ⟨fun hh => UInt8.toNat_inj.1 (by show _ = 45; omega), fun hh => by rw [hh]; rfl⟩
  have isn : bx (t.drop (i + 1)) = (⟨#[110, 97, 110]⟩ : ByteArray) ↔ t.drop (i + 1) = [110, 97, 110] := ⟨fun hh => by have := congrArg tl hh; rwa [zy] at this, fun hh => by rw [hh]; rfl⟩
  generalize hc : t.getD i 0 = c at *
  generalize hB : t.drop (i + 1) = B at *
  generalize hA : t.take i = A at *
  have un : zd1 t i ↔ isS c = true ∧ okT A = true ∧ okT B = true ∧ B.head? ≠ some 45 ∧ ¬ (c = 45 ∧ B = [110, 97, 110]) := by
   unfold zd1
   rw [hc, hA, hB, zi1]
  have hsz' : ∀ {b : Bool}, (okT B && decide (B.head? ≠ some 45)) = b → Ev (fun k => zda.f k (bx B)) b := fun e => by rw [← e]; exact hsz
  refine zd (by omega) (zd (by omega) (zd (by omega) (Ev.bind r1 (zd (by omega) (zd (by omega) ?_)))))
  rw [r2]
  by_cases c43 : c = 43
  ·refine ze (fun hh => hh (is43.2 c43)) ?_
   have n45 : ¬ c = 45 := by rw [c43]; decide
   by_cases ok : okT A = true
   rotate_left
   ·exact zd (by simpa using ok) (next (fun hh => ok (un.1 hh).2.1))
   refine ze (by rw [ok]; simp) (zd (by omega) (zd (by omega) ?_))
   by_cases sz : (okT B && decide (B.head? ≠ some 45)) = true
   rotate_left
   ·rw [Bool.not_eq_true] at sz
    refine Ev.bind (hsz' sz) (zd rfl (next (fun hh => ?_)))
    obtain ⟨_, _, k1, k2, _⟩ := un.1 hh
    rw [k1, decide_eq_true k2] at sz; cases sz
   refine Ev.bind (hsz' sz) (ze (by simp) (zd (by omega) (zd (by omega) (ze (fun hh => n45 (is45.1 hh)) (zd (by omega) (zd (by omega) ?_))))))
   rw [Bool.and_eq_true, decide_eq_true_eq] at sz
   rw [yes (un.2 ⟨by rw [c43]; rfl, ok, sz.1, sz.2, fun hh => n45 hh.1⟩)]
   refine Ev.bind pA (zd (by omega) (zd (by omega) (zd (is43.2 c43) (zd (by omega) (zd (by omega) ?_)))))
   have pB := pB c
   unfold zgq zdZ
   rw [if_neg n45]
   unfold zag at pB ⊢
   rw [if_neg (fun hh => n45 hh.1)] at pB ⊢
   exact Ev.bind pB (Ev.now _)
  refine zd (fun hh => c43 (is43.1 hh)) (zd (by omega) (zd (by omega) ?_))
  by_cases c45 : c = 45
  rotate_left
  ·refine zd (fun hh => c45 (is45.1 hh)) (next (fun hh => ?_))
   have := (un.1 hh).1
   unfold isS at this
   rw [Bool.or_eq_true, beq_iff_eq, beq_iff_eq] at this
   exact this.elim c43 c45
  refine ze (fun hh => hh (is45.2 c45)) ?_
  by_cases ok : okT A = true
  rotate_left
  ·exact zd (by simpa using ok) (next (fun hh => ok (un.1 hh).2.1))
  refine ze (by rw [ok]; simp) (zd (by omega) (zd (by omega) ?_))
  by_cases sz : (okT B && decide (B.head? ≠ some 45)) = true
  rotate_left
  ·rw [Bool.not_eq_true] at sz
   refine Ev.bind (hsz' sz) (zd rfl (next (fun hh => ?_)))
   obtain ⟨_, _, k1, k2, _⟩ := un.1 hh
   rw [k1, decide_eq_true k2] at sz; cases sz
  refine Ev.bind (hsz' sz) (ze (by simp) (zd (by omega) (zd (by omega) (zd (is45.2 c45) (zd (by omega) (zd (by omega) ?_))))))
  rw [Bool.and_eq_true, decide_eq_true_eq] at sz
  by_cases hn : B = [110, 97, 110]
  ·exact zd (isn.2 hn) (next (fun hh => (un.1 hh).2.2.2.2 ⟨c45, hn⟩))
  refine ze (fun hh => hn (isn.1 hh)) (zd (by omega) (zd (by omega) ?_))
  rw [yes (un.2 ⟨by rw [c45]; rfl, ok, sz.1, sz.2, fun hh => hn hh.2⟩)]
  refine Ev.bind pA (zd (by omega) (zd (by omega) (ze (fun hh => c43 (is43.1 hh)) (zi (zoQ hm) (zd (by omega) (zd (by omega) ?_))))))
  have pB := pB c
  obtain ⟨_, ew⟩ := zeU (m := zag m c) h hlB sz.1
  obtain ⟨v, v1, v2, v3⟩ := ew hn
  unfold zgq zdZ
  rw [if_pos c45]
  rw [c45] at pB v1 ⊢
  have hM := zlk h v3
  rw [v1, Int.toNat_natCast]
  refine Ev.bind pB ?_
  rw [v1]
  exact zi hM (Ev.now _)
def ctS (f m : Int) (s : List UInt8) : Int × Int × Int × Int × Int :=
 if 1200 < s.length then (0, 0, 0, 0, 3)
 else if s.getLast? = some 105 then (if okT s.dropLast = true then (0, (zP f m s.dropLast).1, 0, (zP f m s.dropLast).2.1, 0) else zcG f m s.dropLast)
 else if okT s = true then ((zP f m s).1, 0, (zP f m s).2.1, 0, 0) else (0, 0, 0, 0, 12)
theorem znL (t : List UInt8) : okT (t ++ [105]) = false := by
 by_cases ok : okT (t ++ [105]) = true
 ·obtain ⟨_, ⟨P, c, h1, _, h2⟩, _⟩ := zf7 ok
  exact absurd (List.cons.inj (List.append_inj' h1 rfl).2).1.symm h2
 ·simpa using ok
theorem zmo (t : List UInt8) (h : t.length ≤ 2000) : zdq.f (bx (t ++ [105])) (⟨#[105]⟩ : ByteArray) = some (bx t, true) := by
 have hz := zO (t ++ [105])
 rw [List.length_append, List.length_singleton] at hz
 have h1 : (((⟨#[105]⟩ : ByteArray).size : Nat) : Int) = 1 := rfl
 have e1 : wrap64 (((bx (t ++ [105])).size : Int) - 1) = (t.length : Int) := by rw [w64 (by omega) (by omega)]; omega
 have e2 : (t ++ [105]).drop t.length = [105] := by simp
 have e3 : (t ++ [105]).take t.length = t := by simp
 have hs : zdi.f (bx (t ++ [105])) (⟨#[105]⟩ : ByteArray) = some true := by
  unfold zdi.f
  rw [h1, e1, if_pos (by omega), if_pos (by omega), if_pos (by omega), Int.toNat_natCast, zeP, e2]
  rfl
 unfold zdq.f zen.f
 rw [hs, h1, e1, Option.bind_some, if_neg (by simp), if_pos (by omega), if_pos (by omega), Int.toNat_natCast, zfJ, e3]
 rfl
theorem zmp {t : List UInt8} (h : t.length ≤ 2000) (hl : t.getLast? ≠ some 105) : zdq.f (bx t) (⟨#[105]⟩ : ByteArray) = some (bx t, false) := by
 have hz := zO t
 have h1 : (((⟨#[105]⟩ : ByteArray).size : Nat) : Int) = 1 := rfl
 have hs : zdi.f (bx t) (⟨#[105]⟩ : ByteArray) = some false := by
  unfold zdi.f
  rw [h1]
  rcases List.eq_nil_or_concat t with h0 | ⟨P, c, h0⟩
  ·subst h0
   rfl
  ·rw [List.concat_eq_append] at h0
   subst h0
   rw [List.length_append, List.length_singleton] at hz h
   have e1 : wrap64 (((bx (P ++ [c])).size : Int) - 1) = (P.length : Int) := by rw [w64 (by omega) (by omega)]; omega
   rw [e1, if_pos (by omega), if_pos (by omega), if_pos (by omega), Int.toNat_natCast, zeP]
   congr 1
   refine decide_eq_false (fun hh => hl ?_)
   have := congrArg tl hh
   rw [zy] at this
   have h2 : [c] = [105] := by rw [← show (P ++ [c]).drop P.length = [c] by simp]; exact this
   rw [List.cons.inj h2 |>.1]; simp
 unfold zdq.f zen.f
 rw [hs]
 rfl
theorem zl2 {f m : Int} (h : isF f) (hm : isM m) (s : List UInt8) : Ev (fun k => zaA.f k f m (bx s)) (ctS f m s) := by
 have hz := zO s
 unfold zaA.f ctS
 refine Ev.bind (zgF h hm false) (ze (by simp) ?_)
 by_cases c0 : 1200 < s.length
 ·rw [if_pos c0]
  exact zd (by omega) (Ev.now _)
 rw [if_neg c0]
 refine ze (by omega) ?_
 by_cases cl : s.getLast? = some 105
 ·obtain ⟨t, rfl⟩ := List.getLast?_eq_some_iff.1 cl
  rw [if_pos cl, List.dropLast_concat]
  rw [List.length_append, List.length_singleton] at c0
  have hp := zfz h hm (bx t)
  rw [zy] at hp
  refine zi (zmo t (by omega)) (Ev.bind hp ?_)
  by_cases ok : okT t = true
  ·have e0 := (zeU (m := m) h (by omega) ok).1
   rw [if_pos ok]
   refine zd e0 ?_
   refine zf ?_; simp only [zaA.j2]
   exact zd trivial (Ev.now _)
  ·rw [if_neg ok, zfL (by omega) ok]
   refine ze (by simp) ?_
   refine zf ?_; simp only [zaA.j2]
   exact ze (by simp) (ze (by simp) (ze (by simp) (Ev.bind (zlY h hm (by omega)) (Ev.now _))))
 ·rw [if_neg cl]
  have hp := zfz h hm (bx s)
  rw [zy] at hp
  refine zi (zmp (by omega) cl) (Ev.bind hp ?_)
  by_cases ok : okT s = true
  ·have e0 := (zeU (m := m) h (by omega) ok).1
   rw [if_pos ok]
   refine zd e0 ?_
   refine zf ?_; simp only [zaA.j2]
   exact ze (by simp) (zd e0 (Ev.now _))
  ·rw [if_neg ok, zfL (by omega) ok]
   refine ze (by simp) ?_
   refine zf ?_; simp only [zaA.j2]
   exact ze (by simp) (ze (by simp) (zd rfl (Ev.now _)))
theorem zl1 {f m : Int} (h : fmE f m ≠ 0) (s : ByteArray) : Ev (fun k => zaA.f k f m s) (0, 0, 0, 0, fmE f m) := by
 unfold zaA.f
 exact Ev.bind (zlo h false) (zd h (Ev.now _))
theorem zox {f m : Int} (h : isF f) (hm : isM m) (s : List UInt8) : Ev (fun k => zau.f k f m (bx s)) (ctS f m s) := by
 have hz := zO s
 unfold zau.f ctS
 by_cases c0 : 1200 < s.length
 ·rw [if_pos c0]
  exact zd (by omega) (Ev.now _)
 rw [if_neg c0]
 obtain ⟨r, r1, r2⟩ := zgg (B := s) (by omega)
 refine ze (by omega) (Ev.bind r1 ?_)
 rw [r2]
 by_cases cl : s.getLast? = some 105
 ·obtain ⟨t, rfl⟩ := List.getLast?_eq_some_iff.1 cl
  rw [if_pos cl, List.dropLast_concat]
  rw [List.length_append, List.length_singleton] at c0 hz
  have e1 : wrap64 (((bx (t ++ [105])).size : Int) - 1) = (t.length : Int) := by rw [w64 (by omega) (by omega)]; omega
  have hb : bt (bx (t ++ [105])) (t.length : Int) = 105 := by rw [zaH (A := t) (B := []) (b := 105) (by rw [zy])]; rfl
  have e3 : (t ++ [105]).take t.length = t := by simp
  have hp := zgc h hm (bx t)
  rw [zy] at hp
  rw [znL, e1, hb, Int.toNat_natCast, zfJ, e3]
  obtain ⟨r', r1', r2'⟩ := zgg (B := t) (by omega)
  refine ze (by simp) (ze (by omega) (zd (by omega) (zd (by omega) (ze (by simp) (zd (by omega) (zd (by omega) (Ev.bind r1' ?_)))))))
  rw [r2']
  by_cases ok : okT t = true
  ·rw [if_pos (show okT t = true from ok)]
   rw [ok]
   exact zd rfl (Ev.bind hp (Ev.now _))
  ·have he := zke h hm (t := t) (by omega) (t.length - 1) 1 (by omega) (by omega) (fun j j1 j2 => by omega)
   rw [if_neg (show ¬ okT t = true from ok)]
   exact ze ok he
 ·rw [if_neg cl]
  have hp := zgc h hm (bx s)
  rw [zy] at hp
  by_cases ok : okT s = true
  ·rw [if_pos (show okT s = true from ok)]
   exact zd ok (Ev.bind hp (Ev.now _))
  ·rw [if_neg (show ¬ okT s = true from ok)]
   refine ze ok ?_
   rcases List.eq_nil_or_concat s with h0 | ⟨P, c, h0⟩
   ·exact zd (by rw [h0]; rfl) (Ev.now _)
   ·rw [List.concat_eq_append] at h0
    subst h0
    rw [List.length_append, List.length_singleton] at hz c0
    have e1 : wrap64 (((bx (P ++ [c])).size : Int) - 1) = (P.length : Int) := by rw [w64 (by omega) (by omega)]; omega
    have hb : bt (bx (P ++ [c])) (P.length : Int) = (c.toNat : Int) := zaH (A := P) (B := []) (by rw [zy])
    rw [e1, hb]
    refine ze (by omega) (zd (by omega) (zd (by omega) (zd (fun hh => cl ?_) (Ev.now _))))
    rw [show c = 105 from UInt8.toNat_inj.1 (by show _ = 105; omega)]; simp
theorem zml {f m : Int} (h : fmE f m ≠ 0) (l : List Int) : Ev (fun k => zbC.f k f m l) (fmE f m) := by
 unfold zbC.f
 unfold fmE at *
 refine zi (zjV f) ?_
 by_cases c : isF f
 ·rw [if_pos c] at h ⊢
  have hm : ¬ isM m := fun k => h (by rw [if_pos k])
  rw [if_neg hm, decide_eq_true c]
  refine ze (by simp) (zi (zjU m) ?_)
  rw [decide_eq_false hm]
  exact zd rfl (Ev.now _)
 ·rw [if_neg c, decide_eq_false c]
  exact zd rfl (Ev.now _)
theorem zmm {f m : Int} (h : isF f) (hm : isM m) : Ev (fun k => zbC.f k f m []) 0 := by
 unfold zbC.f
 refine zi (zjV f) ?_
 rw [decide_eq_true h]
 refine ze (by simp) (zi (zjU m) ?_)
 rw [decide_eq_true hm]
 refine ze (by simp) ?_
 refine zf ?_; simp only [zbC.l0]
 exact ze (by simp) (Ev.now _)
theorem zl3 (k : Nat) : zcH.f (k + 140) 1 1069547520 3221225472 = some ((⟨#[49, 46, 53, 45, 50, 105]⟩ : ByteArray), 0) := by kernel_rfl
theorem zl4 (k : Nat) : zaA.f (k + 60) 1 1 (⟨#[49, 101, 43, 50, 105]⟩ : ByteArray) = some (0, 1120403456, 0, 0, 0) := by kernel_rfl
theorem zl5 : Ev (fun k => zc2.f k) true := by
 unfold zc2.f
 refine Ev.bind (ziT zl3) (Ev.bind (ziT zl4) ?_)
 exact zd rfl (zd rfl (zd rfl (zg (Ev.now _) (by simp))))
theorem zix : Ev (fun k => (zc2.f k).bind fun t => some t) true := Ev.bind zl5 (Ev.now _)
theorem zlf (f m : Int) (s : ByteArray) : Ev (fun k => zeR.f k f m s) true := by
 unfold zeR.f
 by_cases hb : fmE f m = 0
 ·obtain ⟨h, hm⟩ := zmS hb
  have h1 := zl2 h hm (tl s)
  have h2 := zox h hm (tl s)
  rw [zl0] at h1 h2
  refine Ev.bind h1 (Ev.bind (zmm h hm) ?_)
  exact ze (by simp) (Ev.bind h2 (zd (by simp) (zd rfl zix)))
 ·refine Ev.bind (zl1 hb s) (Ev.bind (zml hb []) ?_)
  exact zd (by simpa using hb) (zd rfl (zd rfl zix))
end Go.Proofs.YtnkpmjhlkmlmbaaGreatDoor.Eng.K
