import Derived.Test.YtnkpmjhlkmlmbaaGreatDoorQCtextPrintsK1
import Derived.KernelRfl
import Derived.Lib.Atoi
set_option linter.unusedVariables false
set_option linter.unusedSimpArgs false
namespace Go.Proofs.YtnkpmjhlkmlmbaaGreatDoor.Eng.K
open Go.RowKit
theorem zpE (e : Int) : mk 1 e = (false, [1], e) := by
 unfold mk
 have h : lw (1 : Int).natAbs = 0 := zeR rfl
 have hd : D 1 = [1] := by rw [zbi (by omega)]; simp [zy]
 rw [if_neg (by omega), h]
 show (false, D (1 / 1), e + 0) = (false, ([1] : List Int), e)
 rw [Nat.div_one, hd, Int.add_zero]
theorem ziB (e : Int) : zcL.f e = some (mk 1 e) := by
 unfold zcL.f
 rw [zpE]
theorem zlE {z e : Int} (hb : bl z.natAbs ≤ 10000000000) (h1 : -10000000000000 ≤ e) (h2 : e ≤ 10000000000000) : zed.f (mk z e).1 (mk z e).2.1 (mk z e).2.2 = some (mk z (e + -1)) := by
 unfold zed.f
 rw [zfK z hb h1 h2 (by omega) (by omega)]
 rfl
theorem zf1 {E : Int} (h1 : -1000000000 ≤ E) (h2 : E ≤ 1000000000) : wrap64 (-E) = -E := by unfold wrap64; omega
theorem zhW {z e : Int} : bl (zag z e).natAbs ≤ bl z.natAbs + 1 + e.toNat := by
 unfold zag
 by_cases c : 0 ≤ e
 ·rw [if_pos c, Int.natAbs_mul, Int.natAbs_pow]
  have := zcp z.natAbs e.toNat
  exact Nat.le_trans this (by omega)
 ·rw [if_neg c]
  have h1 := zfw (decide (z < 0)) z.natAbs (-e).toNat
  rw [zg4] at h1
  rw [h1, zT]
  have h2 : z.natAbs / 2 ^ (-e).toNat + (if decide (z < 0) = true ∧ z.natAbs % 2 ^ (-e).toNat ≠ 0 then 1 else 0) ≤ z.natAbs / 2 ^ (-e).toNat + 1 := by split <;> omega
  have h3 := zV h2
  have h4 := zgf (z.natAbs / 2 ^ (-e).toNat)
  have h5 := zb6 z.natAbs (-e).toNat
  omega
theorem znh (z e : Int) (k : Nat) : al z (e + k) e = z * 2 ^ k := by
 unfold al; congr 2; omega
theorem zjv (z e : Int) : al z e e = z := by unfold al; rw [Int.sub_self]; simp
theorem zhr (a b e : Int) (k : Nat) : zZ a e b (e + k) = mk (a + b * 2 ^ k) e := by
 rw [← zga (m := e) (by omega) (by omega), zjv, znh]
theorem zqf (m : Int) (s : Bool) (F c : Int) : pick m s F c = if m = 5 then F else if m = 4 then F + 1 else if m = 3 then (if s = true then F + 1 else F) else if c < 0 then F else if c > 0 then F + 1 else if m = 2 then (if s = true then F else F + 1) else if F % 2 = 0 then F else F + 1 := rfl
theorem znv (F : Int) : bl (F / 2).natAbs ≤ bl F.natAbs + 1 := by
 have := zhW (z := F) (e := -1)
 unfold zag at this
 rw [if_neg (by omega)] at this
 exact this
theorem zqM {m : Int} {z e E F B S : Int} {k : Nat} (hb : bl z.natAbs ≤ 9000000) (h1 : -4000000 ≤ e) (h2 : e ≤ 4000000) (h3 : -4000000 ≤ E) (h4 : E ≤ 4000000) (hE : E = e + k) (hF : F = z / 2 ^ k) (s : Bool) (hB : B = if s = true then F else F + 1) (hS : S = if s = true then F + 1 else F) (u : Bool) (v : List Int) (w : Int) :
  Ev (fun q => zbP.j1 q m E (mk z e).1 (mk z e).2.1 (mk z e).2.2 u v w (mk F E).1 (mk F E).2.1 (mk F E).2.2 (mk (F + 1) E).1 (mk (F + 1) E).2.1 (mk (F + 1) E).2.2 (mk B E).1 (mk B E).2.1 (mk B E).2.2 (mk S E).1 (mk S E).2.1 (mk S E).2.2) (mk (pick m s F (2 * (z % 2 ^ k) - 2 ^ k).sign) E) := by
 have hFb : bl F.natAbs ≤ bl z.natAbs + 1 := by
  rcases Nat.eq_zero_or_pos k with h | h
  ·subst h; rw [hF, Int.pow_zero, Int.ediv_one]; omega
  ·have := zhW (z := z) (e := -(k : Int))
   unfold zag at this
   rw [if_neg (by omega), show (-(-(k : Int))).toNat = k by omega, ← hF] at this
   omega
 have hF1 : bl (F + 1).natAbs ≤ bl z.natAbs + 2 := by
  have h5 : (F + 1).natAbs ≤ F.natAbs + 1 := by omega
  have h6 := zV h5
  have h7 := zgf F.natAbs
  omega
 have rz : Rg z e := ⟨by omega, by omega, by omega⟩
 have rF : Rg F E := ⟨by omega, by omega, by omega⟩
 have rF1 : Rg (F + 1) E := ⟨by omega, by omega, by omega⟩
 have hdm := Int.mul_ediv_add_emod z (2 ^ k)
 rw [← hF] at hdm
 have hr0 : 0 ≤ z % 2 ^ k := Int.emod_nonneg _ (by have := zio k; omega)
 have hr1 : z % 2 ^ k < 2 ^ k := Int.emod_lt_of_pos _ (zio k)
 have ez : z + -F * 2 ^ k = z % 2 ^ k := by
  rw [Int.neg_mul, Int.mul_comm]; omega
 have ez2 : -z + (F + 1) * 2 ^ k = 2 ^ k - z % 2 ^ k := by
  rw [Int.add_mul, Int.one_mul, Int.mul_comm F]; omega
 have s1 := ziA rz rF
 have s2 := ziA rF1 rz
 have a1 : zZ z e (-F) E = mk (z % 2 ^ k) e := by rw [hE, zhr, ez]
 have a2 : zZ (F + 1) E (-z) e = mk (2 ^ k - z % 2 ^ k) e := by rw [zgb, hE, zhr, ez2]
 rw [a1] at s1
 rw [a2] at s2
 clear ez ez2 a1 a2
 have kb : k ≤ 8000000 := by omega
 refine zf ?_
 simp only [zbP.j1]
 rw [zqf]
 by_cases c5 : m = 5
 ·rw [if_pos c5]; exact zd c5 (Ev.now _)
 rw [if_neg c5]
 refine ze c5 ?_
 by_cases c4 : m = 4
 ·rw [if_pos c4]; exact zd c4 (Ev.now _)
 rw [if_neg c4]
 refine ze c4 ?_
 by_cases c3 : m = 3
 ·rw [if_pos c3, ← hS]; exact zd c3 (Ev.now _)
 rw [if_neg c3]
 refine ze c3 ?_
 refine Ev.bind (s1) ?_; try dsimp only
 refine Ev.bind (s2) ?_; try dsimp only
 have rr : ∀ x : Int, 0 ≤ x → x ≤ 2 ^ k → bl x.natAbs ≤ k + 1 := by
  intro x hx hx2
  have h5 : x.natAbs ≤ 2 ^ k := by
   have h6 : ((2 ^ k : Nat) : Int) = 2 ^ k := by rw [Int.natCast_pow]; rfl
   omega
  refine zI (Nat.lt_of_le_of_lt h5 ?_)
  rw [Nat.pow_succ]
  have := zj k
  omega
 have x1 := rr (z % 2 ^ k) hr0 (by omega)
 have x2 := rr (2 ^ k - z % 2 ^ k) (by omega) (by omega)
 have cc := zep (za := z % 2 ^ k) (ea := e) (zb := 2 ^ k - z % 2 ^ k) (eb := e) ⟨by omega, by omega, by omega⟩ ⟨by omega, by omega, by omega⟩
 have ec : zaw (z % 2 ^ k) e (2 ^ k - z % 2 ^ k) e = (2 * (z % 2 ^ k) - 2 ^ k).sign := by
  rw [znQ]; congr 1; omega
 rw [ec] at cc
 refine Ev.bind (cc) ?_; try dsimp only
 by_cases c0 : (2 * (z % 2 ^ k) - 2 ^ k).sign < 0
 ·rw [if_pos c0]; exact zd c0 (Ev.now _)
 rw [if_neg c0]
 refine ze c0 ?_
 by_cases c1 : (2 * (z % 2 ^ k) - 2 ^ k).sign > 0
 ·rw [if_pos c1]; exact zd c1 (Ev.now _)
 rw [if_neg c1]
 refine ze c1 ?_
 by_cases c2 : m = 2
 ·rw [if_pos c2, ← hB]; exact zd c2 (Ev.now _)
 rw [if_neg c2]
 refine ze c2 ?_
 rw [zf1 (by omega) (by omega)]
 refine zi (zfK F (by omega) (by omega) (by omega) (by omega) (by omega)) ?_; try dsimp only
 rw [show E + -E = 0 by omega]
 refine zi (zlE (by omega) (by omega) (by omega)) ?_; try dsimp only
 refine Ev.bind (zln (by omega) (by omega) (by omega)) ?_; try dsimp only
 refine zi (zlE (by omega) (by omega) (by omega)) ?_; try dsimp only
 have hf : zag F (0 + -1) = F / 2 := rfl
 rw [hf]
 have hbh := znv F
 refine Ev.bind (zix _ _ _ _ (by omega)) ?_; try dsimp only
 have hs : (mk (F / 2) 0 = mk F (0 + -1)) ↔ F % 2 = 0 := by
  rw [zpC (m := -1) (by omega) (by omega)]
  have e1 : al (F / 2) 0 (-1) = F / 2 * 2 := by unfold al; rfl
  have e2 : al F (0 + -1) (-1) = F := by rw [Int.zero_add, zjv]
  rw [e1, e2]; omega
 by_cases c6 : F % 2 = 0
 ·rw [if_pos c6]; exact zd (decide_eq_true (hs.2 c6)) (Ev.now _)
 ·rw [if_neg c6]; exact ze (by rw [decide_eq_false (fun h => c6 (hs.1 h))]; simp) (Ev.now _)
theorem zls {m : Int} (hm : isM m) {z e E : Int} (hz : z ≠ 0) (hb : bl z.natAbs ≤ 9000000) (h1 : -4000000 ≤ e) (h2 : e ≤ 4000000) (h3 : -4000000 ≤ E) (h4 : E ≤ 4000000) :
  Ev (fun q => zbP.f q m (mk z e).1 (mk z e).2.1 (mk z e).2.2 E) (mk (TK m z e E) E) := by
 have hFb := zhW (z := z) (e := e - E)
 unfold zbP.f
 rw [zf1 (by omega) (by omega)]
 refine zi (zfK z (by omega) (by omega) (by omega) (by omega) (by omega)) ?_; try dsimp only
 rw [show e + -E = e - E by omega]
 refine Ev.bind (zln (by omega) (by omega) (by omega)) ?_; try dsimp only
 generalize hF : zag z (e - E) = F at *
 refine zi (zfK F (by omega) (by omega) (by omega) (by omega) (by omega)) ?_; try dsimp only
 rw [Int.zero_add]
 refine Ev.bind (zix F E z e (by omega)) ?_; try dsimp only
 have hx := zoB (z := z) (e := e) (E := E)
 rw [hF] at hx
 cases c : exR z.natAbs e E
 ·obtain ⟨hlt, hp⟩ := zqe (m := m) hm c
  rw [hF] at hp
  have hn : ¬ (mk F E = mk z e) := fun h => by have := hx.2 h; rw [c] at this; cases this
  refine ze (by rw [decide_eq_false hn]; simp) ?_
  refine zi (ziB E) ?_; try dsimp only
  have hk : E = e + ((E - e).toNat : Nat) := by omega
  have rF : Rg F E := ⟨by omega, by omega, by omega⟩
  have r1 : Rg 1 E := ⟨by decide, by omega, by omega⟩
  have ha := zlm rF r1
  rw [znd] at ha
  refine Ev.bind (ha) ?_; try dsimp only
  have hF2 : F = z / 2 ^ (E - e).toNat := by
   rw [← hF]; unfold zag
   rw [if_neg (by omega), show (-(e - E)).toNat = (E - e).toNat by omega]
  have hs : (mk z e).1 = decide (z < 0) := by unfold mk; rw [if_neg hz]
  have j1 := fun s B S hB hS => zqM (m := m) (B := B) (S := S) hb h1 h2 h3 h4 hk hF2 s hB hS false [] 0
  rw [hs]
  by_cases hz2 : z < 0
  ·rw [decide_eq_true hz2] at hp ⊢
   refine zd rfl ?_
   have := j1 true F (F + 1) rfl rfl
   rw [hp, hs, decide_eq_true hz2] at this
   exact this
  ·rw [decide_eq_false hz2] at hp ⊢
   refine ze (by simp) ?_
   have := j1 false (F + 1) F rfl rfl
   rw [hp, hs, decide_eq_false hz2] at this
   exact this
 ·have hn := hx.1 c
  refine zd (decide_eq_true hn) (zh (Ev.now _) ?_)
  rw [zho c]
def inw (m : Int) (s : Bool) : Bool := decide (m = 3) || (decide (m = 4) && s) || (decide (m = 5) && !s)
def zcR (f m : Int) (s : Bool) : Nat := (if inw m s = true then mo f * 2 ^ fb f - 1 else mo f * 2 ^ fb f) + sgn f s
theorem zqH {f : Int} (h : isF f) (s b : Bool) : Ev (fun k => za8.j0 k f s b) (((if b = true then mo f * 2 ^ fb f - 1 else mo f * 2 ^ fb f) + sgn f s : Nat) : Int) := by
 have hp := zj (fb f)
 have hm := zel h
 have hq : 1 ≤ mo f * 2 ^ fb f := Nat.mul_pos (by omega) hp
 have hil := zei h
 have hsp := zbh h
 have hsg : sgn f s ≤ sg f := by unfold sgn; split <;> omega
 refine zf ?_
 simp only [za8.j0]
 cases b
 ·refine ze (by simp) ?_
  refine zi (zlp h s) ?_; try dsimp only
  exact Ev.now _
 ·refine zd rfl ?_
  refine zi (zlp h s) ?_; try dsimp only
  refine zh (Ev.now _) ?_
  rw [u64 (by omega) (by omega), if_pos rfl]
  omega
theorem zqG {f : Int} (h : isF f) (m : Int) (s : Bool) : Ev (fun k => za8.f k f m s) (zcR f m s : Int) := by
 have j := fun b => zqH h s b
 unfold za8.f zcR
 by_cases c3 : m = 3
 ·refine zd c3 ?_
  have e : inw m s = true := by unfold inw; simp [c3]
  rw [e]; exact j true
 refine ze c3 ?_
 by_cases c4 : m = 4
 ·refine zd c4 ?_
  have e : inw m s = s := by unfold inw; simp [c4]
  rw [e]
  cases s
  ·exact ze (by simp) (ze (by omega) (j false))
  ·exact zd rfl (j true)
 refine ze c4 ?_
 by_cases c5 : m = 5
 ·refine zd c5 ?_
  have e : inw m s = !s := by unfold inw; simp [c5]
  rw [e]; exact j (!s)
 ·refine ze c5 ?_
  have e : inw m s = false := by unfold inw; simp [c3, c4, c5]
  rw [e]; exact j false
theorem zr1 {X : Nat} (h0 : X ≠ 0) (h : X < 18446744073709551616) : 0 < (D X).length ∧ (D X).length ≤ 2 ∧ rd (D X) 0 = ((X % 4294967296 : Nat) : Int) ∧ ((D X).length > 1 → rd (D X) 1 = ((X / 4294967296 : Nat) : Int)) ∧ ((D X).length ≤ 1 → X < 4294967296) := by
 have h1 : D X = ((X % 4294967296 : Nat) : Int) :: D (X / 4294967296) := zbi h0
 have h2 : (D (X / 4294967296)).length ≤ 1 := zan (by omega)
 refine ⟨by rw [h1]; simp, by rw [h1]; simp; omega, by rw [h1]; rfl, ?_, ?_⟩
 ·intro h3
  have h4 : X / 4294967296 ≠ 0 := by
   intro h4
   rw [h1, h4, zy] at h3
   simp at h3
  rw [h1, zbi h4]
  show (((X / 4294967296 % 4294967296 : Nat)) : Int) = _
  omega
 ·intro h3
  rcases Nat.lt_or_ge X 4294967296 with h4 | h4
  ·exact h4
  ·exfalso
   have h5 : X / 4294967296 ≠ 0 := by omega
   rw [h1, zbi h5] at h3
   simp at h3
theorem zqF {f : Int} (h : isF f) {X : Nat} {U : Int} (hX : X < 2 ^ pr f) (hU : lo f ≤ U) (hU2 : (U - lo f).toNat ≤ mo f - 2) (hn : X < 2 ^ fb f → U = lo f) (l : List Int) (e : Int) (s : Bool) :
  Ev (fun k => zaz.j4 k f s l e U (X : Int)) (((((U - lo f).toNat * 2 ^ fb f + X) + sgn f s : Nat) : Int), true) := by
 have hb := zab h
 have hp := zj (fb f)
 have hpr := zL h
 have h2 := zfX h
 have hl := zaY h
 have hm := zel h
 have hil := zei h
 have hsp := zbh h
 have hpw := pfb h
 have hm2 := zdg h
 rw [hpr, Nat.pow_succ] at hX
 have hmm : (mo f - 2) * 2 ^ fb f + 2 ^ fb f * 2 = mo f * 2 ^ fb f := by
  rw [Nat.mul_comm (2 ^ fb f) 2, ← Nat.add_mul]; congr 1; omega
 have hle := Nat.mul_le_mul_right (2 ^ fb f) hU2
 refine zf ?_
 simp only [zaz.j4]
 refine zi (zdQ h) ?_; try dsimp only
 rw [zcV X (fb f) (by show fb f ≤ 64; omega)]
 refine zd (by omega) ?_
 by_cases c : X < 2 ^ fb f
 ·have hU3 := hn c
  have e0 : (U - lo f).toNat = 0 := by omega
  refine ze (by rw [Nat.div_eq_of_lt c]; omega) ?_
  have := ziv h s (q := 0) (r := X) (by omega)
  rw [show ((0 : Nat) : Int) = 0 from rfl] at this
  refine zi (this) ?_; try dsimp only
  refine zh (Ev.now _) ?_
  rw [e0]
 ·have hd : 0 < X / 2 ^ fb f := Nat.div_pos (by omega) hp
  refine zd (by omega) ?_
  refine zi (zdQ h) ?_; try dsimp only
  refine zd (by omega) ?_
  refine zi (zdk h) ?_; try dsimp only
  rw [zeT h]
  have e1 : wrap64 (wrap64 (U - lo f) + 1) = (((U - lo f).toNat + 1 : Nat) : Int) := by unfold wrap64; omega
  have e2 : IntKind.u64.wrap ((X : Int) - ((2 ^ fb f : Nat) : Int)) = ((X - 2 ^ fb f : Nat) : Int) := by
   have : (X : Int) - ((2 ^ fb f : Nat) : Int) = ((X - 2 ^ fb f : Nat) : Int) := by omega
   rw [this]; exact u64 (by omega) (by omega)
  rw [e1, e2]
  have hs : ((U - lo f).toNat + 1) * 2 ^ fb f + (X - 2 ^ fb f) = (U - lo f).toNat * 2 ^ fb f + X := by
   rw [Nat.add_mul, Nat.one_mul]; omega
  have := ziv h s (q := (U - lo f).toNat + 1) (r := X - 2 ^ fb f) (by omega)
  rw [hs] at this
  refine zi (this) ?_; try dsimp only
  exact Ev.now _
theorem zsH {a b : Int} (h1 : -1000000000 ≤ a) (h2 : a ≤ 1000000000) (h3 : -1000000000 ≤ b) (h4 : b ≤ 1000000000) : wrap64 (wrap64 (a - b) - 1) = a - b - 1 := by unfold wrap64; omega
theorem zqE {f : Int} (h : isF f) {s : Bool} {l : List Int} {e : Int} (hd : Dy s l e) (h0 : l ≠ []) (hn : bl (V l) ≤ pr f) (he : lo f ≤ e) (hw : e + (bl (V l) : Nat) ≤ wd f) :
  Ev (fun k => zaz.f k f s l e) (((enc f (V l) e + sgn f s : Nat) : Int), true) := by
 have hV : V l ≠ 0 := fun c => h0 ((zdv hd.nm).1 c)
 have hl := zaY h
 have hwb := zdp h
 have hpr := zL h
 have hfb := zab h
 have hll : l.length ≤ 2 := by
  have h1 : (D (V l)).length ≤ 2 := zaq (by omega)
  rwa [hd.nm] at h1
 obtain ⟨e1, e2⟩ := zhQ h hn he hw
 have hplt := zij hn he
 have hu := zmE hn he
 have hul := zmD f (V l) e
 have hsg : (sv s (V l)).sign ≠ 0 := by rw [zeu hV]; split <;> omega
 have htop : top (sv s (V l)) e = e + (bl (V l) : Nat) := by unfold top; rw [if_neg (fun h => hV (za3.1 h)), zT]
 have ht := zfO hd (by omega) (by omega) (by omega)
 rw [htop] at ht
 have hlen := zcz hd.nm (by omega)
 have h2 := zfX h
 have hun : zo f (V l) e = max (e + (bl (V l) : Nat) - (pr f : Nat)) (lo f) := rfl
 have hj := zqF h (X := V l * 2 ^ (e - zo f (V l) e).toNat) (U := zo f (V l) e) hplt hul e2 (by
  intro hx
  have h3 : bl (V l * 2 ^ (e - zo f (V l) e).toNat) ≤ fb f := zI hx
  rw [zaj hV] at h3
  omega) l e s
 have hup := zcT hd.nm.dg (by omega) (e - zo f (V l) e).toNat (by omega)
 have hX0 : V l * 2 ^ (e - zo f (V l) e).toNat ≠ 0 := by
  have := Nat.mul_pos (Nat.pos_of_ne_zero hV) (zj (e - zo f (V l) e).toNat)
  omega
 have hpf := zj (fb f)
 obtain ⟨d1, d2, d3, d4, d5⟩ := zr1 hX0 (by omega)
 have hf : enc f (V l) e = (zo f (V l) e - lo f).toNat * 2 ^ fb f + V l * 2 ^ (e - zo f (V l) e).toNat := rfl
 rw [← hf] at hj
 have last : Ev (fun k => zaz.j3 k f s l e (zo f (V l) e)) (((enc f (V l) e + sgn f s : Nat) : Int), true) := by
  refine zf ?_
  simp only [zaz.j3]
  have ew : wrap64 (e - zo f (V l) e) = ((e - zo f (V l) e).toNat : Int) := by unfold wrap64; omega
  rw [ew]
  clear ew
  refine Ev.bind (hup) ?_; try dsimp only
  clear hf e1
  generalize hX : V l * 2 ^ (e - zo f (V l) e).toNat = X at *
  have hXl : X < 18446744073709551616 := by omega
  refine zd (by omega) ?_
  by_cases c : (D X).length > 1
  ·have x1 := d4 c
   have y0 : IntKind.u64.wrap ((X % 4294967296 : Nat) : Int) = ((X % 4294967296 : Nat) : Int) := u64 (by omega) (by omega)
   have y1 : IntKind.u64.wrap ((X / 4294967296 : Nat) : Int) = ((X / 4294967296 : Nat) : Int) := u64 (by omega) (by omega)
   have y2 : IntKind.u64.wrap (((X / 4294967296 : Nat) : Int) * 4294967296) = ((X / 4294967296 * 4294967296 : Nat) : Int) := by
    rw [show ((X / 4294967296 : Nat) : Int) * 4294967296 = ((X / 4294967296 * 4294967296 : Nat) : Int) by omega]
    exact u64 (by omega) (by omega)
   have y3 : IntKind.u64.wrap (((X % 4294967296 : Nat) : Int) + ((X / 4294967296 * 4294967296 : Nat) : Int)) = (X : Int) := by
    rw [show ((X % 4294967296 : Nat) : Int) + ((X / 4294967296 * 4294967296 : Nat) : Int) = (X : Int) by omega]
    exact u64 (by omega) (by omega)
   refine zd (by omega) (zd (by omega) ?_)
   rw [d3, x1, y0, y1, y2, y3]
   exact hj
  ·have x1 := d5 (by omega)
   have y0 : IntKind.u64.wrap ((X % 4294967296 : Nat) : Int) = (X : Int) := by
    rw [show ((X % 4294967296 : Nat) : Int) = (X : Int) by omega]
    exact u64 (by omega) (by omega)
   refine ze (by omega) ?_
   rw [d3, y0]
   exact hj
 have w1 : wrap64 ((fb f : Int) + 1) = (fb f : Int) + 1 := by unfold wrap64; omega
 have w2 : wrap64 (wrap64 (e + (bl (V l) : Nat) - (fb f : Int)) - 1) = e + (bl (V l) : Nat) - (fb f : Int) - 1 := by
  clear w1; exact zsH (by omega) (by omega) (by omega) (by omega)
 unfold zaz.f
 refine zi (zfN hd) ?_; try dsimp only
 refine ze hsg ?_
 refine Ev.bind (ht) ?_; try dsimp only
 refine zi (zlt h) ?_; try dsimp only
 refine ze (by clear w1 w2; omega) ?_
 refine zi (zdk h) ?_; try dsimp only
 refine ze (by clear w1 w2; omega) ?_
 refine Ev.bind (hlen) ?_; try dsimp only
 refine zi (zdQ h) ?_; try dsimp only
 rw [w1]
 refine ze (by clear w1 w2; omega) ?_
 refine zi (zdQ h) ?_; try dsimp only
 refine zi (zdk h) ?_; try dsimp only
 rw [w2]
 clear w1 w2
 by_cases c : e + (bl (V l) : Nat) - (fb f : Int) - 1 < lo f
 ·refine zd c ?_
  refine zi (zdk h) ?_; try dsimp only
  have : lo f = zo f (V l) e := by omega
  rw [this]
  exact last
 ·refine ze c ?_
  have : e + (bl (V l) : Nat) - (fb f : Int) - 1 = zo f (V l) e := by omega
  rw [this]
  exact last
def zaB (f : Int) (n : Nat) (e : Int) : Nat := enc f (n / 2 ^ lw n) (e + (lw n : Nat))
def zg (f : Int) (n : Nat) (e : Int) : Int := max (e + (bl n : Nat) - (pr f : Nat)) (lo f)
def zu (f m : Int) (s : Bool) (n : Nat) (e : Int) : Int × Int :=
 let q := R m s n e (zg f n e)
 if (bl q : Int) + zg f n e > wd f then ((zcR f m s : Int), 20)
 else ((((if q = 0 then 0 else zaB f q (zg f n e)) + sgn f s : Nat) : Int),
  if exR n e (zg f n e) = true then 0
  else if (bl (R m s n e (e + (bl n : Nat) - (pr f : Nat))) : Int) + (e + (bl n : Nat) - (pr f : Nat)) < lo f + (pr f : Nat) then 24 else 16)
theorem zf7 {m : Int} {s : Bool} {n : Nat} {e E : Int} {p : Nat} (h : e + (bl n : Nat) - (p : Nat) ≤ E) : R m s n e E ≤ 2 ^ p := by
 have h1 := zP n
 unfold R
 by_cases c : E ≤ e
 ·have e1 : (E - e).toNat = 0 := by omega
  rw [e1, zeq]
  have h2 : n * 2 ^ (e - E).toNat < 2 ^ bl n * 2 ^ (e - E).toNat := Nat.mul_lt_mul_of_pos_right h1 (zj _)
  rw [← Nat.pow_add] at h2
  exact Nat.le_trans (Nat.le_of_lt h2) (Nat.pow_le_pow_right (by omega) (by omega))
 ·have e1 : (e - E).toNat = 0 := by omega
  rw [e1, Nat.pow_zero, Nat.mul_one]
  have h3 : n / 2 ^ (E - e).toNat < 2 ^ p := by
   rw [Nat.div_lt_iff_lt_mul (zj _), ← Nat.pow_add]
   exact Nat.lt_of_lt_of_le h1 (Nat.pow_le_pow_right (by omega) (by omega))
  unfold rnd
  split <;> omega
theorem zkY {q p : Nat} (h0 : q ≠ 0) (h : q ≤ 2 ^ p) : bl (q / 2 ^ lw q) ≤ p ∨ p = 0 := by
 rcases Nat.eq_zero_or_pos p with hp | hp
 ·exact .inr hp
 left
 rcases Nat.lt_or_ge q (2 ^ p) with c | c
 ·exact zI (Nat.lt_of_le_of_lt (Nat.div_le_self _ _) c)
 ·have e : q = 2 ^ p := by omega
  have hw : lw q = p := zfz ⟨0, by rw [e]; omega⟩
  rw [hw, e, Nat.div_self (zj p)]
  have : bl 1 = 1 := by decide
  omega
theorem zm4 {f m : Int} {s : Bool} {n : Nat} {e : Int} (h : isF f) (hn : n ≠ 0) (hq : R m s n e (zg f n e) = 0) : zg f n e = lo f := by
 have hpr := zL h
 unfold zg at *
 rcases Int.le_total (e + (bl n : Nat) - (pr f : Nat)) (lo f) with c | c
 ·omega
 ·exfalso
  have h1 := (zfd (m := m) (s := s) (n := n) (e := e) (E := max (e + (bl n : Nat) - (pr f : Nat)) (lo f)) hn (by omega)).1
  rw [hq] at h1
  have b0 : bl 0 = 0 := zaG
  rw [b0] at h1
  omega
theorem zfV {n : Nat} (h : n ≠ 0) : bl (n / 2 ^ lw n) + lw n = bl n := by
 have := zek h
 rw [zb6]; omega
theorem zoy {f m : Int} {s : Bool} {n : Nat} {e : Int} (h : isF f) (hq : R m s n e (zg f n e) ≠ 0) (hw : ¬ ((bl (R m s n e (zg f n e)) : Int) + zg f n e > wd f)) :
  bl (R m s n e (zg f n e) / 2 ^ lw (R m s n e (zg f n e))) ≤ pr f ∧ lo f ≤ zg f n e + (lw (R m s n e (zg f n e)) : Nat) ∧ zg f n e + (lw (R m s n e (zg f n e)) : Nat) + (bl (R m s n e (zg f n e) / 2 ^ lw (R m s n e (zg f n e))) : Nat) ≤ wd f := by
 have hpr := zL h
 have h1 : R m s n e (zg f n e) ≤ 2 ^ pr f := zf7 (by unfold zg; omega)
 have h2 := (zkY hq h1).resolve_right (by omega)
 have h3 := zfV hq
 refine ⟨h2, by unfold zg; omega, by omega⟩
theorem zf8 (m z e E : Int) : (TK m z e E).natAbs = R m (decide (z < 0)) z.natAbs e E := by unfold TK; exact zT _ _
theorem zf9 (m z e E : Int) : TK m z e E = 0 ↔ R m (decide (z < 0)) z.natAbs e E = 0 := by unfold TK; exact za3
theorem zrX (m z e E : Int) : top (TK m z e E) E = if R m (decide (z < 0)) z.natAbs e E = 0 then 0 else E + (bl (R m (decide (z < 0)) z.natAbs e E) : Nat) := by
 unfold top
 by_cases c : R m (decide (z < 0)) z.natAbs e E = 0
 ·rw [if_pos c, if_pos ((zf9 m z e E).2 c)]
 ·rw [if_neg c, if_neg (fun h => c ((zf9 m z e E).1 h)), zf8]
theorem zjj {m z e E : Int} : (mk z e = mk (TK m z e E) E) ↔ exR z.natAbs e E = true := by
 constructor
 ·intro h
  unfold exR
  apply decide_eq_true
  by_cases c : E ≤ e
  ·have e1 : (E - e).toNat = 0 := by omega
   rw [e1, Nat.pow_zero, Nat.mod_one]
  ·have hE : E = e + ((E - e).toNat : Nat) := by omega
   rw [hE, ← zbX, ← hE] at h
   have h1 := zh2 h
   have h2 : (2 ^ (E - e).toNat : Int) ∣ z := ⟨TK m z e E, by rw [Int.mul_comm]; exact h1⟩
   have h3 : ((2 ^ (E - e).toNat : Nat) : Int) ∣ z := by rw [Int.natCast_pow]; exact h2
   exact Nat.mod_eq_zero_of_dvd (Int.ofNat_dvd_left.1 h3)
 ·intro h; exact (zho h).symm
theorem zqK {f m : Int} (h : isF f) (hm : isM m) {z e : Int} (hz : z ≠ 0) (hb : bl z.natAbs ≤ 3000000) (h1 : -900000 ≤ e) (h2 : e ≤ 900000) :
  Ev (fun k => zbz.j1 k f m (mk z e).1 (mk z e).2.1 (mk z e).2.2 (pr f : Nat) (e + (bl z.natAbs : Nat) - (pr f : Nat)) (zg f z.natAbs e)) (zu f m (decide (z < 0)) z.natAbs e) := by
 have hl := zaY h
 have hwb := zdp h
 have hpr := zL h
 have hfb := zab h
 have hu : zg f z.natAbs e = max (e + (bl z.natAbs : Nat) - (pr f : Nat)) (lo f) := rfl
 have t1 := zls hm hz (e := e) (E := zg f z.natAbs e) (by omega) (by omega) (by omega) (by omega) (by omega)
 have t2 := zls hm hz (e := e) (E := e + (bl z.natAbs : Nat) - (pr f : Nat)) (by omega) (by omega) (by omega) (by omega) (by omega)
 have hq : R m (decide (z < 0)) z.natAbs e (zg f z.natAbs e) ≤ 2 ^ pr f := zf7 (by omega)
 have hqb : bl (R m (decide (z < 0)) z.natAbs e (zg f z.natAbs e)) ≤ pr f + 1 := zI (Nat.lt_of_le_of_lt hq (by rw [Nat.pow_succ]; have := zj (pr f); omega))
 have hq2 : R m (decide (z < 0)) z.natAbs e (e + (bl z.natAbs : Nat) - (pr f : Nat)) ≤ 2 ^ pr f := zf7 (by omega)
 have hqb2 : bl (R m (decide (z < 0)) z.natAbs e (e + (bl z.natAbs : Nat) - (pr f : Nat))) ≤ pr f + 1 := zI (Nat.lt_of_le_of_lt hq2 (by rw [Nat.pow_succ]; have := zj (pr f); omega))
 have hza : z.natAbs ≠ 0 := by omega
 have hfine := (zfd (m := m) (s := decide (z < 0)) (n := z.natAbs) (e := e) (E := e + (bl z.natAbs : Nat) - (pr f : Nat)) hza (by omega)).1
 have tp1 := zgR (z := TK m z e (zg f z.natAbs e)) (e := zg f z.natAbs e) ⟨by rw [zf8]; omega, by omega, by omega⟩
 have tp2 := zgR (z := TK m z e (e + (bl z.natAbs : Nat) - (pr f : Nat))) (e := e + (bl z.natAbs : Nat) - (pr f : Nat)) ⟨by rw [zf8]; omega, by omega, by omega⟩
 rw [zrX] at tp1 tp2
 have hs : (mk z e).1 = decide (z < 0) := by unfold mk; rw [if_neg hz]
 have hsm := zix z e (TK m z e (zg f z.natAbs e)) (zg f z.natAbs e) (by omega)
 have hok := fun hq hw => zoy (f := f) (m := m) (s := decide (z < 0)) (n := z.natAbs) (e := e) h hq hw
 have hz0 := fun hq => zm4 (f := f) (m := m) (s := decide (z < 0)) (n := z.natAbs) (e := e) h hza hq
 have eRS : zu f m (decide (z < 0)) z.natAbs e = if (bl (R m (decide (z < 0)) z.natAbs e (zg f z.natAbs e)) : Int) + zg f z.natAbs e > wd f then ((zcR f m (decide (z < 0)) : Int), 20)
  else ((((if R m (decide (z < 0)) z.natAbs e (zg f z.natAbs e) = 0 then 0 else zaB f (R m (decide (z < 0)) z.natAbs e (zg f z.natAbs e)) (zg f z.natAbs e)) + sgn f (decide (z < 0)) : Nat) : Int),
  if exR z.natAbs e (zg f z.natAbs e) = true then 0
  else if (bl (R m (decide (z < 0)) z.natAbs e (e + (bl z.natAbs : Nat) - (pr f : Nat))) : Int) + (e + (bl z.natAbs : Nat) - (pr f : Nat)) < lo f + (pr f : Nat) then 24 else 16) := rfl
 rw [eRS]
 clear eRS
 refine zf ?_
 simp only [zbz.j1]
 refine Ev.bind (t1) ?_; try dsimp only
 refine Ev.bind (tp1) ?_; try dsimp only
 refine zi (zlt h) ?_; try dsimp only
 have cT : ((if R m (decide (z < 0)) z.natAbs e (zg f z.natAbs e) = 0 then 0 else zg f z.natAbs e + (bl (R m (decide (z < 0)) z.natAbs e (zg f z.natAbs e)) : Nat)) > wd f) ↔ ((bl (R m (decide (z < 0)) z.natAbs e (zg f z.natAbs e)) : Int) + zg f z.natAbs e > wd f) := by
  by_cases c : R m (decide (z < 0)) z.natAbs e (zg f z.natAbs e) = 0
  ·have := hz0 c
   have b0 : bl 0 = 0 := zaG
   rw [if_pos c, c, b0]; omega
  ·rw [if_neg c]; omega
 by_cases c : ((bl (R m (decide (z < 0)) z.natAbs e (zg f z.natAbs e)) : Int) + zg f z.natAbs e > wd f)
 ·rw [if_pos c]
  refine zd (cT.2 c) ?_
  rw [hs]
  refine Ev.bind (zqG h m (decide (z < 0))) ?_; try dsimp only
  exact Ev.now _
 rw [if_neg c]
 refine ze (fun h => c (cT.1 h)) ?_
 clear cT
 have hword : Ev (fun k => zaz.f k f false (mk (TK m z e (zg f z.natAbs e)) (zg f z.natAbs e)).2.1 (mk (TK m z e (zg f z.natAbs e)) (zg f z.natAbs e)).2.2) ((((if R m (decide (z < 0)) z.natAbs e (zg f z.natAbs e) = 0 then 0 else zaB f (R m (decide (z < 0)) z.natAbs e (zg f z.natAbs e)) (zg f z.natAbs e)) : Nat) : Int), true) ∧ (if R m (decide (z < 0)) z.natAbs e (zg f z.natAbs e) = 0 then 0 else zaB f (R m (decide (z < 0)) z.natAbs e (zg f z.natAbs e)) (zg f z.natAbs e)) < sg f := by
  have hab := zf8 m z e (zg f z.natAbs e)
  have hil := zei h
  have hp := zj (fb f)
  by_cases cq : R m (decide (z < 0)) z.natAbs e (zg f z.natAbs e) = 0
  ·rw [if_pos cq]
   refine ⟨?_, (zbh h).1⟩
   have : TK m z e (zg f z.natAbs e) = 0 := (zf9 m z e _).2 cq
   rw [this, zh3]
   unfold zaz.f
   exact zi (a := 0) rfl (zd rfl (Ev.now _))
  ·rw [if_neg cq]
   obtain ⟨o1, o2, o3⟩ := hok cq c
   have hT : TK m z e (zg f z.natAbs e) ≠ 0 := fun h => cq ((zf9 m z e _).1 h)
   have hmk : mk (TK m z e (zg f z.natAbs e)) (zg f z.natAbs e) = (decide (TK m z e (zg f z.natAbs e) < 0), D (R m (decide (z < 0)) z.natAbs e (zg f z.natAbs e) / 2 ^ lw (R m (decide (z < 0)) z.natAbs e (zg f z.natAbs e))), zg f z.natAbs e + (lw (R m (decide (z < 0)) z.natAbs e (zg f z.natAbs e)) : Nat)) := by
    unfold mk; rw [if_neg hT, hab]
   have hdy := zY (TK m z e (zg f z.natAbs e)) (zg f z.natAbs e)
   rw [hmk] at hdy ⊢
   have hne : D (R m (decide (z < 0)) z.natAbs e (zg f z.natAbs e) / 2 ^ lw (R m (decide (z < 0)) z.natAbs e (zg f z.natAbs e))) ≠ [] := by
    intro h0
    have h1 : V (D (R m (decide (z < 0)) z.natAbs e (zg f z.natAbs e) / 2 ^ lw (R m (decide (z < 0)) z.natAbs e (zg f z.natAbs e)))) = 0 := by rw [h0]; rfl
    rw [V_D] at h1
    have h2 := zfV cq
    rw [h1, zaG] at h2
    have := zek cq
    omega
   have hd0 : Dy false (D (R m (decide (z < 0)) z.natAbs e (zg f z.natAbs e) / 2 ^ lw (R m (decide (z < 0)) z.natAbs e (zg f z.natAbs e)))) (zg f z.natAbs e + (lw (R m (decide (z < 0)) z.natAbs e (zg f z.natAbs e)) : Nat)) := ⟨hdy.nm, fun h => absurd h hne, hdy.odd⟩
   have := zqE h hd0 hne (by rw [V_D]; exact o1) o2 (by rw [V_D]; exact o3)
   rw [V_D] at this
   have hlt := (zhQ h (n := R m (decide (z < 0)) z.natAbs e (zg f z.natAbs e) / 2 ^ lw (R m (decide (z < 0)) z.natAbs e (zg f z.natAbs e))) o1 o2 o3).1
   refine ⟨zh this ?_, ?_⟩
   ·show ((((enc f _ _ + 0 : Nat)) : Int), true) = _
    rw [Nat.add_zero]; rfl
   ·unfold zaB; omega
 have hab2 : zd7.f (mk (TK m z e (zg f z.natAbs e)) (zg f z.natAbs e)).1 (mk (TK m z e (zg f z.natAbs e)) (zg f z.natAbs e)).2.1 (mk (TK m z e (zg f z.natAbs e)) (zg f z.natAbs e)).2.2 = some (false, (mk (TK m z e (zg f z.natAbs e)) (zg f z.natAbs e)).2.1, (mk (TK m z e (zg f z.natAbs e)) (zg f z.natAbs e)).2.2) := rfl
 refine zi (hab2) ?_; try dsimp only
 refine Ev.bind (hword.1) ?_; try dsimp only
 rw [hs]
 refine zi (ziz h _ _) ?_; try dsimp only
 rw [Nat.mod_eq_of_lt hword.2]
 rw [hs] at hsm t2
 refine Ev.bind (hsm) ?_; try dsimp only
 cases cx : exR z.natAbs e (zg f z.natAbs e)
 ·refine ze (by rw [decide_eq_false (fun h => by have := zjj.1 h; rw [cx] at this; cases this)]; simp) ?_
  rw [if_neg Bool.false_ne_true]
  refine Ev.bind (t2) ?_; try dsimp only
  refine Ev.bind (tp2) ?_; try dsimp only
  refine zi (zdk h) ?_; try dsimp only
  have w1 : wrap64 (lo f + ((pr f : Nat) : Int)) = lo f + ((pr f : Nat) : Int) := by unfold wrap64; omega
  rw [w1]
  clear w1
  have hne : R m (decide (z < 0)) z.natAbs e (e + (bl z.natAbs : Nat) - (pr f : Nat)) ≠ 0 := by
   intro h0
   rw [h0, zaG] at hfine
   omega
  rw [if_neg hne]
  by_cases cu : (bl (R m (decide (z < 0)) z.natAbs e (e + (bl z.natAbs : Nat) - (pr f : Nat))) : Int) + (e + (bl z.natAbs : Nat) - (pr f : Nat)) < lo f + (pr f : Nat)
  ·rw [if_pos cu]
   refine zd (by omega) ?_
   exact Ev.now _
  ·rw [if_neg cu]
   refine ze (by omega) ?_
   exact Ev.now _
 ·refine zd (decide_eq_true (zjj.2 cx)) ?_
  rw [if_pos rfl]
  exact Ev.now _
theorem ziw {f m : Int} (h : isF f) (hm : isM m) {z e : Int} (hz : z ≠ 0) (hb : bl z.natAbs ≤ 3000000) (h1 : -900000 ≤ e) (h2 : e ≤ 900000) :
  Ev (fun k => zbz.f k f m (mk z e).1 (mk z e).2.1 (mk z e).2.2) (zu f m (decide (z < 0)) z.natAbs e) := by
 have hl := zaY h
 have hpr := zL h
 have hfb := zab h
 have j := zqK h hm hz hb h1 h2
 have tp := zgR (z := z) (e := e) ⟨by omega, by omega, by omega⟩
 have et : top z e = e + (bl z.natAbs : Nat) := by unfold top; rw [if_neg hz]
 rw [et] at tp
 have hu : zg f z.natAbs e = max (e + (bl z.natAbs : Nat) - (pr f : Nat)) (lo f) := rfl
 unfold zbz.f
 refine zi (zqL z e) ?_; try dsimp only
 refine ze (fun h => hz (by rcases zcA z with ⟨_, c⟩ | ⟨c, _⟩ | ⟨_, c⟩ <;> omega)) ?_
 refine zi (zdQ h) ?_; try dsimp only
 refine Ev.bind (tp) ?_; try dsimp only
 refine zi (zdk h) ?_; try dsimp only
 have w1 : wrap64 ((fb f : Int) + 1) = ((pr f : Nat) : Int) := by unfold wrap64; omega
 rw [w1]
 clear w1
 have w2 : wrap64 (e + ((bl z.natAbs : Nat) : Int) - ((pr f : Nat) : Int)) = e + ((bl z.natAbs : Nat) : Int) - ((pr f : Nat) : Int) := by unfold wrap64; omega
 rw [w2]
 clear w2
 by_cases c : e + ((bl z.natAbs : Nat) : Int) - ((pr f : Nat) : Int) < lo f
 ·refine zd c ?_
  refine zi (zdk h) ?_; try dsimp only
  have : lo f = zg f z.natAbs e := by omega
  rw [this]
  exact j
 ·refine ze c ?_
  have : zg f z.natAbs e = e + ((bl z.natAbs : Nat) : Int) - ((pr f : Nat) : Int) := by omega
  rw [this] at j
  exact j
def bN (b : Bool) : Nat := if b = true then 1 else 0
theorem zq8 {m : Int} {s : Bool} {n k n' k' : Nat} (h1 : n / 2 ^ k = n' / 2 ^ k') (h2 : 2 ^ k ≤ 2 * (n % 2 ^ k) ↔ 2 ^ k' ≤ 2 * (n' % 2 ^ k')) (h3 : 2 * (n % 2 ^ k) % 2 ^ k = 0 ↔ 2 * (n' % 2 ^ k') % 2 ^ k' = 0) : rnd m s n k = rnd m s n' k' := by
 unfold rnd
 rw [h1, decide_eq_decide.2 h2, decide_eq_decide.2 (show 2 * (n % 2 ^ k) % 2 ^ k ≠ 0 ↔ 2 * (n' % 2 ^ k') % 2 ^ k' ≠ 0 from not_congr h3)]
theorem zhF {x M : Nat} (h : x < M) : 2 * x % M = 0 ↔ x = 0 ∨ 2 * x = M := by
 by_cases c : 2 * x < M
 ·rw [Nat.mod_eq_of_lt c]; omega
 ·have : 2 * x % M = 2 * x - M := by rw [Nat.mod_eq_sub_mod (by omega), Nat.mod_eq_of_lt (by omega)]
  rw [this]; omega
theorem ze1 {H j r d : Nat} (hr : r < 2 ^ j) : (H * 2 ^ j + r) / 2 ^ (d + j) = H / 2 ^ d ∧ (H * 2 ^ j + r) % 2 ^ (d + j) = H % 2 ^ d * 2 ^ j + r := by
 have := zet (X := H) (P := 2 ^ j) (Q := 2 ^ d) (c := r) (zj j) hr
 rw [Nat.pow_add, Nat.mul_comm (2 ^ d)]
 exact ⟨this.1, by rw [this.2, Nat.mul_comm]⟩
theorem zlI (m : Int) (s : Bool) {H j r d : Nat} (hr : r < 2 ^ j) (hd : 1 ≤ d) : rnd m s (H * 2 ^ j + r) (d + j) = rnd m s (2 * H + bN (decide (r ≠ 0))) (d + 1) := by
 have hb : bN (decide (r ≠ 0)) < 2 ^ 1 := by unfold bN; split <;> omega
 have hb0 : bN (decide (r ≠ 0)) = 0 ↔ r = 0 := by
  unfold bN
  by_cases c : r = 0
  ·simp [c]
  ·simp [c]
 have e0 : 2 * H + bN (decide (r ≠ 0)) = H * 2 ^ 1 + bN (decide (r ≠ 0)) := by omega
 rw [e0]
 generalize bN (decide (r ≠ 0)) = b at *
 obtain ⟨a1, a2⟩ := ze1 (H := H) (d := d) hr
 obtain ⟨b1, b2⟩ := ze1 (H := H) (d := d) hb
 have hh := Nat.mod_lt H (zj d)
 have hj := zj j
 obtain ⟨d', rfl⟩ : ∃ d', d = d' + 1 := ⟨d - 1, by omega⟩
 have he : 2 ^ (d' + 1) = 2 * 2 ^ d' := by rw [Nat.pow_succ, Nat.mul_comm]
 refine zq8 (by rw [a1, b1]) ?_ ?_
 ·rw [a2, b2, Nat.pow_add 2 (d' + 1) j, Nat.pow_add 2 (d' + 1) 1, he]
  rw [he] at hh
  generalize H % (2 * 2 ^ d') = h at *
  generalize 2 ^ d' = p at *
  generalize 2 ^ j = q at *
  constructor
  ·intro h1
   rcases Nat.lt_or_ge h p with c | c
   ·exfalso
    have h2 : (h + 1) * q ≤ p * q := Nat.mul_le_mul_right _ c
    rw [Nat.add_mul, Nat.one_mul] at h2
    rw [Nat.mul_assoc] at h1
    omega
   ·omega
  ·intro h1
   have h2 : p * q ≤ h * q := Nat.mul_le_mul_right _ (by omega)
   rw [Nat.mul_assoc]; omega
 ·have l1 : H % 2 ^ (d' + 1) * 2 ^ j + r < 2 ^ (d' + 1 + j) := by
   rw [Nat.pow_add 2 (d' + 1) j]
   have h2 : (H % 2 ^ (d' + 1) + 1) * 2 ^ j ≤ 2 ^ (d' + 1) * 2 ^ j := Nat.mul_le_mul_right _ hh
   rw [Nat.add_mul, Nat.one_mul] at h2
   omega
  have l2 : H % 2 ^ (d' + 1) * 2 ^ 1 + b < 2 ^ (d' + 1 + 1) := by rw [Nat.pow_add 2 (d' + 1) 1]; omega
  rw [a2, b2, zhF l1, zhF l2, Nat.pow_add 2 (d' + 1) j, Nat.pow_add 2 (d' + 1) 1, he]
  rw [he] at hh
  generalize H % (2 * 2 ^ d') = h at *
  generalize 2 ^ d' = p at *
  generalize 2 ^ j = q at *
  constructor
  ·rintro (h1 | h1)
   ·have h2 : h * q = 0 := by omega
    rcases Nat.mul_eq_zero.1 h2 with h3 | h3
    ·left; have := hb0.2 (by omega); omega
    ·omega
   ·right
    rw [Nat.mul_assoc] at h1
    rcases Nat.lt_trichotomy h p with c | c | c
    ·have h2 : (h + 1) * q ≤ p * q := Nat.mul_le_mul_right _ c
     rw [Nat.add_mul, Nat.one_mul] at h2
     omega
    ·subst c
     have := hb0.2 (by omega)
     omega
    ·have h2 : (p + 1) * q ≤ h * q := Nat.mul_le_mul_right _ c
     rw [Nat.add_mul, Nat.one_mul] at h2
     omega
  ·rintro (h1 | h1)
   ·left
    have h2 : h = 0 := by omega
    have h3 := hb0.1 (by omega)
    rw [h2, h3]; omega
   ·right
    have h2 : h = p := by omega
    have h3 := hb0.1 (by omega)
    rw [h2, h3, Nat.mul_assoc]; omega
theorem zkg {H j r d : Nat} (hr : r < 2 ^ j) : (H * 2 ^ j + r) % 2 ^ (d + j) = 0 ↔ (2 * H + bN (decide (r ≠ 0))) % 2 ^ (d + 1) = 0 := by
 have hb : bN (decide (r ≠ 0)) < 2 ^ 1 := by unfold bN; split <;> omega
 have hb0 : bN (decide (r ≠ 0)) = 0 ↔ r = 0 := by
  unfold bN
  by_cases c : r = 0
  ·simp [c]
  ·simp [c]
 have e0 : 2 * H + bN (decide (r ≠ 0)) = H * 2 ^ 1 + bN (decide (r ≠ 0)) := by omega
 rw [e0]
 generalize bN (decide (r ≠ 0)) = b at *
 rw [(ze1 (H := H) (d := d) hr).2, (ze1 (H := H) (d := d) hb).2]
 have hj := zj j
 constructor
 ·intro h
  have h2 : H % 2 ^ d * 2 ^ j = 0 := by omega
  rcases Nat.mul_eq_zero.1 h2 with h3 | h3
  ·have := hb0.2 (by omega); omega
  ·omega
 ·intro h
  have h2 : H % 2 ^ d = 0 := by omega
  have h3 := hb0.1 (by omega)
  rw [h2, h3]; omega
def UP (m : Int) (s : Bool) (H : Nat) (T : Int) (b : Bool) (E : Int) : Nat := rnd m s (2 * H + bN b) ((E - T + 64).toNat + 1)
def XP (H : Nat) (T : Int) (b : Bool) (E : Int) : Bool := decide ((2 * H + bN b) % 2 ^ ((E - T + 64).toNat + 1) = 0)
def z7 (n : Nat) : Nat := n * 2 ^ (64 - bl n) / 2 ^ (bl n - 64)
def zbD (n : Nat) : Bool := decide (n % 2 ^ (bl n - 64) ≠ 0)
theorem zki {n : Nat} (h : n ≠ 0) : 2 ^ 63 ≤ z7 n ∧ z7 n < 2 ^ 64 := by
 have h1 := zP n
 have h2 := zc3 h
 have hp := zbx h
 unfold z7
 by_cases c : bl n ≤ 64
 ·have e1 : bl n - 64 = 0 := by omega
  rw [e1, Nat.pow_zero, Nat.div_one]
  have h3 : 2 ^ (bl n - 1) * 2 ^ (64 - bl n) ≤ n * 2 ^ (64 - bl n) := Nat.mul_le_mul_right _ h2
  have h4 : n * 2 ^ (64 - bl n) < 2 ^ bl n * 2 ^ (64 - bl n) := Nat.mul_lt_mul_of_pos_right h1 (zj _)
  rw [← Nat.pow_add] at h3 h4
  rw [show bl n - 1 + (64 - bl n) = 63 by omega] at h3
  rw [show bl n + (64 - bl n) = 64 by omega] at h4
  exact ⟨h3, h4⟩
 ·have e1 : 64 - bl n = 0 := by omega
  rw [e1, Nat.pow_zero, Nat.mul_one]
  constructor
  ·rw [Nat.le_div_iff_mul_le (zj _), ← Nat.pow_add, show 63 + (bl n - 64) = bl n - 1 by omega]; exact h2
  ·rw [Nat.div_lt_iff_lt_mul (zj _), ← Nat.pow_add, show 64 + (bl n - 64) = bl n by omega]; exact h1
theorem zm8 (m : Int) (s : Bool) {n : Nat} (hn : n ≠ 0) {e E : Int} (h : 1 ≤ E - (e + (bl n : Nat)) + 64) : UP m s (z7 n) (e + (bl n : Nat)) (zbD n) E = R m s n e E ∧ XP (z7 n) (e + (bl n : Nat)) (zbD n) E = exR n e E := by
 have hp := zbx hn
 generalize hd : (E - (e + (bl n : Nat)) + 64).toNat = d
 by_cases c : 64 ≤ bl n
 ·have e1 : 64 - bl n = 0 := by omega
  have hH : z7 n = n / 2 ^ (bl n - 64) := by unfold z7; rw [e1, Nat.pow_zero, Nat.mul_one]
  have hsp : n = z7 n * 2 ^ (bl n - 64) + n % 2 ^ (bl n - 64) := by
   rw [hH]
   have := Nat.div_add_mod n (2 ^ (bl n - 64))
   rw [Nat.mul_comm] at this
   exact this.symm
  have hr := Nat.mod_lt n (zj (bl n - 64))
  have hk : (E - e).toNat = d + (bl n - 64) := by omega
  have hz : (e - E).toNat = 0 := by omega
  have st := zlI m s (H := z7 n) (d := d) hr (by omega)
  have ex := zkg (H := z7 n) (d := d) hr
  rw [← hsp] at st ex
  unfold UP XP R exR zbD
  rw [hd, hk, hz, Nat.pow_zero, Nat.mul_one]
  exact ⟨st.symm, decide_eq_decide.2 ex.symm⟩
 ·have e1 : bl n - 64 = 0 := by omega
  have hH : z7 n = n * 2 ^ (64 - bl n) := by unfold z7; rw [e1, Nat.pow_zero, Nat.div_one]
  have hm : zbD n = false := by unfold zbD; rw [e1, Nat.pow_zero, Nat.mod_one]; rfl
  have hR := zjh m s n (e - (64 - bl n : Nat)) E (64 - bl n)
  have hX := zkf n (e - (64 - bl n : Nat)) E (64 - bl n)
  rw [show e - ((64 - bl n : Nat) : Int) + ((64 - bl n : Nat) : Int) = e by omega, ← hH] at hR hX
  rw [← hR, ← hX, hm]
  unfold UP XP R exR bN
  rw [if_neg (by simp), Nat.add_zero, hd, show (e - ((64 - bl n : Nat) : Int) - E).toNat = 0 by omega, show (E - (e - ((64 - bl n : Nat) : Int))).toNat = d by omega, Nat.pow_zero, Nat.mul_one]
  have := ziK m s (z7 n) d 1
  rw [Nat.pow_one, Nat.mul_comm] at this
  refine ⟨this, ?_⟩
  apply decide_eq_decide.2
  rw [Nat.pow_succ, Nat.mul_comm 2, Nat.mul_mod_mul_right]
  omega
theorem zmJ (m : Int) (s odd zam more : Bool) : zes.f m s odd zam more = some (upB m s odd zam more) := by
 unfold zes.f upB
 by_cases c1 : m = 1
 ·rw [if_pos c1, if_pos c1]; cases more <;> cases odd <;> cases zam <;> rfl
 rw [if_neg c1, if_neg c1]
 by_cases c2 : m = 2
 ·rw [if_pos c2, if_pos c2]
 rw [if_neg c2, if_neg c2]
 by_cases c4 : m = 4
 ·rw [if_pos c4, if_pos c4]; cases s <;> cases zam <;> cases more <;> rfl
 rw [if_neg c4, if_neg c4]
 by_cases c5 : m = 5
 ·rw [if_pos c5, if_pos c5]; cases s <;> cases zam <;> cases more <;> rfl
 ·rw [if_neg c5, if_neg c5]
theorem zjI (b : Bool) : zeZ.f b = some (bN b : Int) := by cases b <;> rfl
theorem zjy (a : Nat) (ha : a < 18446744073709551616) : Go.bits .and .u64 (a : Int) 1 = ((a % 2 : Nat) : Int) := zhv a 1 ha (by omega)
theorem zmG (m : Int) (s : Bool) {W : Nat} (hW : W < 9223372036854775808) (zam more : Bool) : Ev (fun k => zaE.j2 k m s (W : Int) zam more) (((W + bN (upB m s (decide (W % 2 = 1)) zam more) : Nat) : Int), !zam && !more) := by
 have hb : bN (upB m s (decide (W % 2 = 1)) zam more) ≤ 1 := by unfold bN; split <;> omega
 refine zf ?_
 simp only [zaE.j2]
 rw [zjy W (by omega)]
 have e1 : decide (((W % 2 : Nat) : Int) = 1) = decide (W % 2 = 1) := decide_eq_decide.2 (by omega)
 rw [e1]
 refine zi (zmJ _ _ _ _ _) ?_; try dsimp only
 refine zi (zjI _) ?_; try dsimp only
 rw [← Int.natCast_add, za5 (by omega)]
 cases zam
 ·exact zd rfl (Ev.now _)
 ·exact ze (by simp) (Ev.now _)
theorem znt {H d : Nat} (b : Bool) (hd : 1 ≤ d) : (2 * H + bN b) / 2 ^ (d + 1) = H / 2 ^ d ∧
  decide (2 ^ (d + 1) ≤ 2 * ((2 * H + bN b) % 2 ^ (d + 1))) = decide (H / 2 ^ (d - 1) % 2 = 1) ∧
  decide (2 * ((2 * H + bN b) % 2 ^ (d + 1)) % 2 ^ (d + 1) ≠ 0) = (b || decide (H % 2 ^ (d - 1) ≠ 0)) ∧
  decide ((2 * H + bN b) % 2 ^ (d + 1) = 0) = (!decide (H / 2 ^ (d - 1) % 2 = 1) && !(b || decide (H % 2 ^ (d - 1) ≠ 0))) := by
 have hb : bN b < 2 ^ 1 := by unfold bN; split <;> omega
 have hb0 : bN b = 0 ↔ b = false := by unfold bN; cases b <;> simp
 have hb1 : bN b ≤ 1 := by unfold bN; split <;> omega
 obtain ⟨d', rfl⟩ : ∃ d', d = d' + 1 := ⟨d - 1, by omega⟩
 have hs := ze1 (H := H) (d := d' + 1) hb
 have e0 : H * 2 ^ 1 + bN b = 2 * H + bN b := by omega
 rw [e0] at hs
 have hm : H % 2 ^ (d' + 1) = H % 2 ^ d' + 2 ^ d' * (H / 2 ^ d' % 2) := by rw [Nat.pow_succ, Nat.mod_mul]
 have hl := Nat.mod_lt H (zj d')
 have h2 : H / 2 ^ d' % 2 = 0 ∨ H / 2 ^ d' % 2 = 1 := by omega
 have hp : 2 ^ (d' + 1 + 1) = 4 * 2 ^ d' := by rw [Nat.pow_succ, Nat.pow_succ]; omega
 have hx : H % 2 ^ (d' + 1) * 2 ^ 1 + bN b < 4 * 2 ^ d' := by
  rw [hm]; rcases h2 with h | h <;> rw [h] <;> omega
 rw [hs.1, hs.2, hp]
 rw [show d' + 1 - 1 = d' from rfl]
 refine ⟨rfl, ?_, ?_, ?_⟩
 ·apply decide_eq_decide.2
  rw [hm]; rcases h2 with h | h <;> rw [h] <;> constructor <;> intro h3 <;> omega
 ·have e3 : (b || decide (H % 2 ^ d' ≠ 0)) = decide (¬ (bN b = 0 ∧ H % 2 ^ d' = 0)) := by
   by_cases c : H % 2 ^ d' = 0
   ·cases b <;> simp [c, bN]
   ·cases b <;> simp [c, bN]
  rw [e3]
  apply decide_eq_decide.2
  apply not_congr
  rw [zhF hx, hm]
  rcases h2 with h | h <;> rw [h] <;> constructor
  ·rintro (h3 | h3) <;> omega
  ·rintro ⟨h3, h4⟩; left; omega
  ·rintro (h3 | h3) <;> omega
  ·rintro ⟨h3, h4⟩; right; omega
 ·have e3 : (!decide (H / 2 ^ d' % 2 = 1) && !(b || decide (H % 2 ^ d' ≠ 0))) = decide (¬ (H / 2 ^ d' % 2 = 1) ∧ (bN b = 0 ∧ H % 2 ^ d' = 0)) := by
   by_cases c : H % 2 ^ d' = 0
   ·rcases h2 with h | h <;> cases b <;> simp [c, h, bN]
   ·rcases h2 with h | h <;> cases b <;> simp [c, h, bN]
  rw [e3]
  apply decide_eq_decide.2
  rw [hm]
  rcases h2 with h | h <;> rw [h] <;> constructor <;> intro h3 <;> omega
theorem zmF (m : Int) (s : Bool) {H : Nat} (hH : 2 ^ 63 ≤ H ∧ H < 2 ^ 64) {T E : Int} (b : Bool) (hd : 1 ≤ E - T + 64) (h1 : -1000000000 ≤ T) (h2 : T ≤ 1000000000) (h3 : -1000000000 ≤ E) (h4 : E ≤ 1000000000) :
  Ev (fun k => zaE.f k (H : Int) T b m s E) ((UP m s H T b E : Int), XP H T b E) := by
 have ew : wrap64 (wrap64 (E - T) + 64) = E - T + 64 := by unfold wrap64; omega
 unfold zaE.f
 rw [ew]
 clear ew
 obtain ⟨d, hdd⟩ := Int.eq_ofNat_of_zero_le (show 0 ≤ E - T + 64 by omega)
 have hdn : (E - T + 64).toNat = d := by omega
 unfold UP XP
 rw [hdn, hdd]
 rw [hdd] at hd
 clear hdn hdd
 have hd1 : 1 ≤ d := by omega
 have hbb : bN b ≤ 1 := by unfold bN; split <;> omega
 by_cases c : d > 64
 ·have hp : 2 ^ 66 ≤ 2 ^ (d + 1) := Nat.pow_le_pow_right (by omega) (by omega)
  have e1 : rnd m s (2 * H + bN b) (d + 1) = bN (upB m s false false true) := by
   unfold rnd
   rw [Nat.div_eq_of_lt (by omega), Nat.mod_eq_of_lt (a := 2 * H + bN b) (by omega), Nat.mod_eq_of_lt (a := 2 * (2 * H + bN b)) (by omega)]
   rw [decide_eq_false (by omega : ¬ (0 % 2 = 1)), decide_eq_false (by omega : ¬ (2 ^ (d + 1) ≤ 2 * (2 * H + bN b))), decide_eq_true (by omega : 2 * (2 * H + bN b) ≠ 0), Nat.zero_add]
   rfl
  have e2 : decide ((2 * H + bN b) % 2 ^ (d + 1) = 0) = false := decide_eq_false (by rw [Nat.mod_eq_of_lt (by omega)]; omega)
  rw [e1, e2]
  refine zd (by omega) ?_
  refine zi (zmJ _ _ _ _ _) ?_; try dsimp only
  refine zi (zjI _) ?_; try dsimp only
  exact Ev.now _
 refine ze (by omega) ?_
 obtain ⟨a1, a2, a3, a4⟩ := znt (H := H) b hd1
 have e1 : rnd m s (2 * H + bN b) (d + 1) = H / 2 ^ d + bN (upB m s (decide (H / 2 ^ d % 2 = 1)) (decide (H / 2 ^ (d - 1) % 2 = 1)) (b || decide (H % 2 ^ (d - 1) ≠ 0))) := by
  unfold rnd
  rw [a1, a2, a3]; rfl
 rw [e1, a4]
 clear a1 a2 a3 a4 e1
 have hW : H / 2 ^ d < 9223372036854775808 := by
  rw [Nat.div_lt_iff_lt_mul (zj d)]
  have : 2 ^ 1 ≤ 2 ^ d := Nat.pow_le_pow_right (by omega) hd1
  have := Nat.mul_le_mul_left 9223372036854775808 this
  omega
 have last : Ev (fun k => zaE.j1 k m s (H : Int) T b (d : Int) ((H / 2 ^ d : Nat) : Int) false b) (((H / 2 ^ d + bN (upB m s (decide (H / 2 ^ d % 2 = 1)) (decide (H / 2 ^ (d - 1) % 2 = 1)) (b || decide (H % 2 ^ (d - 1) ≠ 0))) : Nat) : Int), (!decide (H / 2 ^ (d - 1) % 2 = 1) && !(b || decide (H % 2 ^ (d - 1) ≠ 0)))) := by
  have ew : wrap64 ((d : Int) - 1) = ((d - 1 : Nat) : Int) := by unfold wrap64; omega
  have hp64 : 2 ^ (d - 1) ≤ 2 ^ 63 := Nat.pow_le_pow_right (by omega) (by omega)
  have hpp := zj (d - 1)
  have hq : H / 2 ^ (d - 1) ≤ H := Nat.div_le_self _ _
  refine zf ?_
  simp only [zaE.j1]
  rw [ew]
  clear ew
  rw [zcV H (d - 1) (by show d - 1 ≤ 64; omega), zjy _ (by omega)]
  have e2 : decide (((H / 2 ^ (d - 1) % 2 : Nat) : Int) = 1) = decide (H / 2 ^ (d - 1) % 2 = 1) := decide_eq_decide.2 (by omega)
  have e3 : shl .u64 1 ((d - 1 : Nat) : Int) = ((2 ^ (d - 1) : Nat) : Int) := by
   have := zgY (X := 1) (s := d - 1) (by omega) (by omega)
   rw [Nat.one_mul] at this
   exact this
  have e4 : IntKind.u64.wrap (((2 ^ (d - 1) : Nat) : Int) - 1) = ((2 ^ (d - 1) - 1 : Nat) : Int) := by
   rw [show ((2 ^ (d - 1) : Nat) : Int) - 1 = ((2 ^ (d - 1) - 1 : Nat) : Int) by omega]
   exact za5 (by omega)
  have e5 : decide (¬ (((H % 2 ^ (d - 1) : Nat) : Int) = 0)) = decide (H % 2 ^ (d - 1) ≠ 0) := decide_eq_decide.2 (by omega)
  rw [e2, e3, e4, zhv H (d - 1) (by omega) (by omega), e5]
  refine zd (by omega) (zd (by omega) ?_)
  cases b
  ·refine ze (by simp) (zd (by omega) ?_)
   exact zmG m s hW _ _
  ·refine zd rfl ?_
   exact zmG m s hW _ _
 by_cases c2 : d < 64
 ·refine zd (by omega) (zd (by omega) ?_)
  rw [zcV H d (by show d ≤ 64; omega)]
  exact last
 ·have z7 : d = 64 := by omega
  have e0 : H / 2 ^ d = 0 := Nat.div_eq_of_lt (by rw [z7]; exact hH.2)
  refine ze (by omega) ?_
  rw [e0] at last ⊢
  exact last
def zdl (f m : Int) (s : Bool) (T : Int) (U : Int → Nat) (X : Int → Bool) : Int × Int :=
 if (bl (U (max (T - (pr f : Nat)) (lo f))) : Int) + max (T - (pr f : Nat)) (lo f) > wd f then ((zcR f m s : Int), 20)
 else ((((if U (max (T - (pr f : Nat)) (lo f)) = 0 then 0 else zaB f (U (max (T - (pr f : Nat)) (lo f))) (max (T - (pr f : Nat)) (lo f))) + sgn f s : Nat) : Int),
  if X (max (T - (pr f : Nat)) (lo f)) = true then 0
  else if (bl (U (T - (pr f : Nat))) : Int) + (T - (pr f : Nat)) < lo f + (pr f : Nat) then 24 else 16)
theorem zgT (f m : Int) (s : Bool) (n : Nat) (e : Int) : zdl f m s (e + (bl n : Nat)) (R m s n e) (exR n e) = zu f m s n e := rfl
theorem ziL {f m : Int} {s : Bool} {T : Int} {U U' : Int → Nat} {X X' : Int → Bool} (h : ∀ E, T - (pr f : Nat) ≤ E → U E = U' E ∧ X E = X' E) : zdl f m s T U X = zdl f m s T U' X' := by
 unfold zdl
 rw [(h (max (T - (pr f : Nat)) (lo f)) (by omega)).1, (h (max (T - (pr f : Nat)) (lo f)) (by omega)).2, (h (T - (pr f : Nat)) (by omega)).1]
theorem zhX {f : Int} (h : isF f) : zfP.f f = some ((pr f : Int), lo f, wd f, true) := by rcases h with rfl | rfl <;> rfl
theorem zp1 {f m : Int} (h : isF f) (hm : isM m) : Ev (fun k => zae.f k f m []) ((pr f : Int), lo f, wd f, 0) := by
 unfold zae.f
 unfold isM at hm
 refine zi (zhX h) ?_; try dsimp only
 refine ze (by simp) (ze (by omega) (ze (by omega) ?_))
 refine zf ?_
 simp only [zae.l0]
 exact ze (by simp) (Ev.now _)
theorem zp2 {f m : Int} (h : isF f) (hm : isM m) {s : Bool} {l : List Int} {e : Int} (hd : My s l e) : Ev (fun k => zae.f k f m [(s, l, e)]) ((pr f : Int), lo f, wd f, 0) := by
 unfold zae.f
 unfold isM at hm
 refine zi (zhX h) ?_; try dsimp only
 refine ze (by simp) (ze (by omega) (ze (by omega) ?_))
 have e1 : wrap64 (0 + 1) = 1 := by rw [zau (by omega) (by omega)]; rfl
 have el : (([(s, l, e)] : List (Bool × List Int × Int)).length : Int) = 1 := rfl
 have r0 : rdT [.b, .is .u32, .i .i64] [(s, l, e)] 0 = (s, l, e) := rfl
 refine zf ?_
 simp only [zae.l0, el, e1, r0]
 clear e1
 refine zd (by omega) (zd (by omega) (zd (by omega) ?_))
 refine zi (zdJ hd) ?_; try dsimp only
 refine ze (by simp) (zf ?_)
 simp only [zae.l0]
 exact ze (by omega) (Ev.now _)
theorem zm0 {f : Int} (h : isF f) (s b : Bool) : Ev (fun k => zaD.j1 k f s b) ((((if b = true then mo f * 2 ^ fb f - 1 else mo f * 2 ^ fb f) + sgn f s : Nat) : Int), 0) := by
 refine zf ?_
 simp only [zaD.j1]
 cases b
 ·refine ze (by simp) ?_
  refine Ev.bind (zsx h s) ?_; try dsimp only
  exact Ev.now _
 ·refine zd rfl ?_
  refine Ev.bind (zsw h s) ?_; try dsimp only
  exact Ev.now _
theorem zmZ {f m : Int} (h : isF f) (hm : isM m) (s : Bool) : Ev (fun k => zaD.f k f m s) ((zcR f m s : Int), 0) := by
 have j := fun b => zm0 h s b
 unfold zaD.f zcR
 refine Ev.bind (zp1 h hm) ?_; try dsimp only
 refine ze (by simp) ?_
 by_cases c3 : m = 3
 ·refine zd c3 ?_
  have e : inw m s = true := by unfold inw; simp [c3]
  rw [e]; exact j true
 refine ze c3 ?_
 by_cases c4 : m = 4
 ·refine zd c4 ?_
  have e : inw m s = s := by unfold inw; simp [c4]
  rw [e]
  cases s
  ·exact ze (by simp) (ze (by omega) (j false))
  ·exact zd rfl (j true)
 refine ze c4 ?_
 by_cases c5 : m = 5
 ·refine zd c5 ?_
  have e : inw m s = !s := by unfold inw; simp [c5]
  rw [e]; exact j (!s)
 ·refine ze c5 ?_
  have e : inw m s = false := by unfold inw; simp [c3, c4, c5]
  rw [e]; exact j false
theorem zsz {f : Int} (h : isF f) : Ev (fun k => zdr.f k f false [] 0) (0, 0) := by
 have hm : My false [] 0 := ⟨⟨zd5, fun _ => ⟨rfl, rfl⟩, fun h => absurd rfl h⟩, by simp, by omega, by omega⟩
 have hn := zh9 Dg.nil (by simp)
 have e1 : zcj [] = true := zif zd5 (by simp)
 rw [e1, if_pos rfl] at hn
 have hl := zfx (x := 0) (by omega)
 have b0 : bl (Int.toNat 0) = 0 := zaG
 rw [b0] at hl
 have hfb := zab h
 have w1 : wrap64 ((fb f : Int) + 1) = (fb f : Int) + 1 := by unfold wrap64; omega
 unfold zdr.f
 refine Ev.bind (zf5 h) ?_; try dsimp only
 refine ze (fun h => h rfl) ?_
 refine zi (zdJ hm) ?_; try dsimp only
 refine ze (by simp) ?_
 refine Ev.bind (hn) ?_; try dsimp only
 refine Ev.bind (hl) ?_; try dsimp only
 rw [w1]
 clear w1
 refine ze (by simp) (ze (by omega) (ze (by simp) ?_))
 exact zd rfl (Ev.now _)
theorem zjl {m : Int} {s : Bool} {H : Nat} (hH : H < 2 ^ 64) {T E : Int} {b : Bool} {p : Nat} (hp : p ≤ 64) (h : T - (p : Nat) ≤ E) : UP m s H T b E ≤ 2 ^ p := by
 have hb : bN b ≤ 1 := by unfold bN; split <;> omega
 have h1 : (2 * H + bN b) / 2 ^ ((E - T + 64).toNat + 1) < 2 ^ p := by
  rw [Nat.div_lt_iff_lt_mul (zj _), ← Nat.pow_add]
  have : 2 ^ 65 ≤ 2 ^ (p + ((E - T + 64).toNat + 1)) := Nat.pow_le_pow_right (by omega) (by omega)
  omega
 unfold UP rnd
 split <;> omega
theorem zsD {f : Int} (h : isF f) (s : Bool) {q : Nat} {E : Int} (hq : q ≤ 2 ^ pr f) (hE : lo f ≤ E) (hw : (bl q : Int) + E ≤ wd f) (h0 : q ≠ 0) : Ev (fun k => zdr.f k f (mk (sv s q) E).1 (mk (sv s q) E).2.1 (mk (sv s q) E).2.2) (((zaB f q E + sgn f s : Nat) : Int), 0) := by
 have hpr := zL h
 have hfb := zab h
 have hl := zaY h
 have hwb := zdp h
 have h2 := (zkY h0 hq).resolve_right (by omega)
 have h3 := zfV h0
 have hdy := zY (sv s q) E
 rw [zdf s h0] at hdy ⊢
 have hne : D (q / 2 ^ lw q) ≠ [] := by
  intro hc
  have h1 : V (D (q / 2 ^ lw q)) = 0 := by rw [hc]; rfl
  rw [V_D] at h1
  rw [h1, zaG] at h3
  have := zek h0
  omega
 have hmy : My s (D (q / 2 ^ lw q)) (E + (lw q : Nat)) := ⟨hdy, zaq (by omega), by omega, by omega⟩
 have := zsy h hmy hne (by rw [V_D]; exact h2) (by omega) (by rw [V_D]; omega)
 rw [V_D] at this
 exact this
theorem zqc {f m : Int} (h : isF f) (s : Bool) {H : Nat} (hH : 2 ^ 63 ≤ H ∧ H < 2 ^ 64) {T : Int} (b : Bool) (h1 : -100000000 ≤ T) (h2 : T ≤ 100000000) (x : Bool) (w : Int) :
  Ev (fun k => zbI.j1 k m s (H : Int) T b (pr f : Int) (lo f) (wd f) x w) (w, if x = true then 0 else if (bl (UP m s H T b (T - (pr f : Nat))) : Int) + (T - (pr f : Nat)) < lo f + (pr f : Nat) then 24 else 16) := by
 have hpr := zL h
 have hfb := zab h
 have hl := zaY h
 have hu := zmF m s hH (T := T) (E := T - (pr f : Nat)) b (by omega) (by omega) (by omega) (by omega) (by omega)
 have hle := zjl (m := m) (s := s) (H := H) (b := b) hH.2 (T := T) (E := T - (pr f : Nat)) (p := pr f) (by omega) (Int.le_refl _)
 have h2f := zfX h
 have hlen := zfx (x := (UP m s H T b (T - (pr f : Nat)) : Int)) ⟨by omega, by omega⟩
 rw [Int.toNat_natCast] at hlen
 have hb : bl (UP m s H T b (T - (pr f : Nat))) ≤ 64 := zI (by omega)
 refine zf ?_
 simp only [zbI.j1]
 cases x
 ·refine ze (by simp) ?_
  have w0 : wrap64 (T - ((pr f : Nat) : Int)) = T - ((pr f : Nat) : Int) := by unfold wrap64; omega
  rw [w0]
  clear w0
  refine Ev.bind (hu) ?_; try dsimp only
  refine Ev.bind (hlen) ?_; try dsimp only
  have w1 : wrap64 (wrap64 ((bl (UP m s H T b (T - (pr f : Nat))) : Int) + T) - ((pr f : Nat) : Int)) = (bl (UP m s H T b (T - (pr f : Nat))) : Int) + (T - (pr f : Nat)) := by unfold wrap64; omega
  have w2 : wrap64 (lo f + ((pr f : Nat) : Int)) = lo f + ((pr f : Nat) : Int) := by clear w1; unfold wrap64; omega
  rw [w1, w2]
  clear w1 w2
  rw [if_neg Bool.false_ne_true]
  by_cases c : (bl (UP m s H T b (T - (pr f : Nat))) : Int) + (T - (pr f : Nat)) < lo f + (pr f : Nat)
  ·exact zd c (zh (Ev.now _) (by rw [if_pos c]))
  ·exact ze c (zh (Ev.now _) (by rw [if_neg c]))
 ·exact zd rfl (Ev.now _)
theorem zk9 {f m : Int} (h : isF f) (hm : isM m) (s : Bool) {H : Nat} (hH : 2 ^ 63 ≤ H ∧ H < 2 ^ 64) {T : Int} (b : Bool) (h1 : -100000000 ≤ T) (h2 : T ≤ 100000000) :
  Ev (fun k => zbI.f k (H : Int) T b f (pr f : Int) (lo f) (wd f) m s) (zdl f m s T (UP m s H T b) (XP H T b)) := by
 have hpr := zL h
 have hfb := zab h
 have hl := zaY h
 have hwb := zdp h
 have h2f := zfX h
 obtain ⟨E, hE⟩ : ∃ E, E = max (T - (pr f : Nat)) (lo f) := ⟨_, rfl⟩
 have hu := zmF m s hH (T := T) (E := E) b (by omega) (by omega) (by omega) (by omega) (by omega)
 have hle := zjl (m := m) (s := s) (H := H) (b := b) hH.2 (T := T) (E := E) (p := pr f) (by omega) (by omega)
 have hlen := zfx (x := (UP m s H T b E : Int)) ⟨by omega, by omega⟩
 rw [Int.toNat_natCast] at hlen
 have hb : bl (UP m s H T b E) ≤ 64 := zI (by omega)
 have ho := zfF (n := (UP m s H T b E : Int)) (by omega) (by omega)
 rw [Int.toNat_natCast] at ho
 have hj := zqc (m := m) h s hH (T := T) b h1 h2 (XP H T b E)
 have hwos := zsD h s (q := UP m s H T b E) (E := E) hle (by omega)
 have em : mx (wrap64 (T - ((pr f : Nat) : Int))) (lo f) = E := by rw [zgC, zd3 (by omega) (by omega) (by omega) (by omega), hE]
 unfold zbI.f zdl
 rw [em, ← hE]
 clear em
 refine Ev.bind (hu) ?_; try dsimp only
 refine Ev.bind (hlen) ?_; try dsimp only
 have w1 : wrap64 ((bl (UP m s H T b E) : Int) + E) = (bl (UP m s H T b E) : Int) + E := zdY (by omega) (by omega) (by omega) (by omega)
 rw [w1]
 clear w1
 by_cases c : (bl (UP m s H T b E) : Int) + E > wd f
 ·rw [if_pos c]
  refine zd c ?_
  refine Ev.bind (zmZ h hm s) ?_; try dsimp only
  exact Ev.now _
 rw [if_neg c]
 refine ze c ?_
 refine Ev.bind (ho) ?_; try dsimp only
 have m1 := zdI s (zv (UP m s H T b E)) (zaq (by omega)) E
 rw [V_D, zdK (by omega) (by omega)] at m1
 refine Ev.bind (m1) ?_; try dsimp only
 by_cases c0 : UP m s H T b E = 0
 ·have hz := zsz h
  rw [if_pos c0]
  rw [c0, zbK, zh3]
  refine Ev.bind (hz) ?_; try dsimp only
  refine zd rfl ?_
  refine Ev.bind (zsC h s) ?_; try dsimp only
  rw [Nat.zero_add]
  exact hj _
 ·rw [if_neg c0]
  refine Ev.bind (hwos (by omega) c0) ?_; try dsimp only
  refine ze (by omega) ?_
  exact hj _
theorem zk8 {s : Bool} {l : List Int} {e : Int} (hd : My s l e) (h0 : V l ≠ 0) : Ev (fun k => zdT.f k s l e) ((z7 (V l) : Int), e + (bl (V l) : Nat), zbD (V l)) := by
 have hlen := hd.len
 have hb := zaV hd.dy.nm.dg
 have hlo := hd.lo
 have hhi := hd.hi
 have hH := zki h0
 unfold zdT.f
 refine Ev.bind (zeS hd.dy.nm hlen) ?_; try dsimp only
 have w1 : wrap64 (e + ((bl (V l) : Nat) : Int)) = e + ((bl (V l) : Nat) : Int) := zdY (by omega) (by omega) (by omega) (by omega)
 have w2 : wrap64 (64 - ((bl (V l) : Nat) : Int)) = 64 - ((bl (V l) : Nat) : Int) := by clear w1; unfold wrap64; omega
 rw [w1, w2]
 clear w1 w2
 have hs := zfG hd.dy.nm hlen (64 - ((bl (V l) : Nat) : Int))
 have es : zcU (V l) (64 - ((bl (V l) : Nat) : Int)) = (D (z7 (V l)), zbD (V l), 0) := by
  by_cases c : bl (V l) ≤ 64
  ·have e1 : 64 - ((bl (V l) : Nat) : Int) = ((64 - bl (V l) : Nat) : Int) := by omega
   have e2 : bl (V l) - 64 = 0 := by omega
   rw [e1, ziS (by omega)]
   unfold z7 zbD
   rw [e2, Nat.pow_zero, Nat.div_one, Nat.mod_one]; rfl
  ·have e1 : 64 - ((bl (V l) : Nat) : Int) = -((bl (V l) - 64 : Nat) : Int) := by omega
   have e2 : 64 - bl (V l) = 0 := by omega
   rw [e1, ziR (by omega) (by omega)]
   unfold z7 zbD
   rw [e2, Nat.pow_zero, Nat.mul_one]
 rw [es] at hs
 refine Ev.bind (hs) ?_; try dsimp only
 have hl2 : (D (z7 (V l))).length ≤ 2 := zan (by omega)
 have hn := zh9 (zM (z7 (V l))) (by omega)
 rw [zif (zv _) (by rw [V_D]; omega), if_pos rfl, V_D] at hn
 refine Ev.bind (hn) ?_; try dsimp only
 exact Ev.now _
theorem zm5 {f m : Int} (h : isF f) (hm : isM m) {s : Bool} {l : List Int} {e : Int} (hd : My s l e) (h0 : V l ≠ 0) : Ev (fun k => zer.f k f m s l e) ((zu f m s (V l) e).1, (zu f m s (V l) e).2, 0) := by
 have hb := zaV hd.dy.nm.dg
 have hlen := hd.len
 have hlo := hd.lo
 have hhi := hd.hi
 have hpr := zL h
 have hfb := zab h
 have hp := zk9 h hm s (zki h0) (T := e + (bl (V l) : Nat)) (zbD (V l)) (by omega) (by omega)
 have hg : zdl f m s (e + (bl (V l) : Nat)) (UP m s (z7 (V l)) (e + (bl (V l) : Nat)) (zbD (V l))) (XP (z7 (V l)) (e + (bl (V l) : Nat)) (zbD (V l))) = zu f m s (V l) e := by
  rw [← zgT]
  refine ziL ?_
  intro E hE
  exact zm8 m s h0 (by omega)
 rw [hg] at hp
 unfold zer.f
 refine Ev.bind (zp2 h hm hd) ?_; try dsimp only
 refine ze (by simp) ?_
 refine Ev.bind (zhO hd) ?_; try dsimp only
 refine ze (by rw [zeu h0]; split <;> omega) ?_
 refine Ev.bind (zk8 hd h0) ?_; try dsimp only
 refine Ev.bind (hp) ?_; try dsimp only
 exact Ev.now _
theorem zgV (f m : Int) (s : Bool) {n : Nat} (hn : n ≠ 0) (e : Int) (j : Nat) : zu f m s (n * 2 ^ j) e = zu f m s n (e + j) := by
 have hu : zg f (n * 2 ^ j) e = zg f n (e + j) := by unfold zg; rw [zaj hn]; congr 1; omega
 have hb : e + (bl (n * 2 ^ j) : Nat) - (pr f : Nat) = e + j + (bl n : Nat) - (pr f : Nat) := by rw [zaj hn]; omega
 unfold zu
 simp only [hu, hb, zjh, zkf]
theorem zrb (f m : Int) {z : Int} (hz : z ≠ 0) (e : Int) : zu f m (mk z e).1 (V (mk z e).2.1) (mk z e).2.2 = zu f m (decide (z < 0)) z.natAbs e := by
 have hza : z.natAbs ≠ 0 := by omega
 obtain ⟨q, hq⟩ := zcv hza
 have hd : z.natAbs / 2 ^ lw z.natAbs = 2 * q + 1 := by
  have : z.natAbs / 2 ^ lw z.natAbs = 2 ^ lw z.natAbs * (2 * q + 1) / 2 ^ lw z.natAbs := by rw [← hq]
  rw [this, Nat.mul_div_cancel_left _ (zj _)]
 unfold mk
 rw [if_neg hz]
 show zu f m (decide (z < 0)) (V (D (z.natAbs / 2 ^ lw z.natAbs))) (e + (lw z.natAbs : Nat)) = _
 rw [V_D, ← zgV f m _ (by rw [hd]; omega), hd]
 congr 1
 rw [Nat.mul_comm]; exact hq.symm
theorem zeG {f : Int} (h : isF f) {w : Nat} (h1 : cls f w ≠ 1) (h2 : cls f w < 4) : zm f w ≠ 0 := by
 rw [zgj h] at h1 h2
 have hp := zj (fb f)
 unfold zm
 by_cases c : zB f w = 0
 ·rw [if_pos c] at h1 h2 ⊢
  intro h3
  rw [if_pos h3] at h1
  exact h1 rfl
 ·rw [if_neg c]; omega
theorem znM {f : Int} (h : isF f) (w : Nat) : 1 ≤ cls f w ∧ cls f w ≤ 5 := by
 rw [zgj h]; split
 ·split <;> omega
 ·split
  ·omega
  ·split <;> omega
theorem zf0 {f : Int} (h : isF f) (w : Nat) : bl (zm f w) ≤ pr f := by
 have h1 := zev f w
 have h2 := zL h
 refine zI ?_
 rw [h2, Nat.pow_succ]
 unfold zm; split <;> omega
theorem ze4 {s : Bool} {n : Nat} (h : n ≠ 0) : decide (sv s n < 0) = s ∧ (sv s n).natAbs = n ∧ sv s n ≠ 0 := ⟨zcC h, zT s n, fun h2 => h (za3.1 h2)⟩
theorem zbr {z : Int} (h : z ≠ 0) (e : Int) : ∃ j : Nat, z.natAbs = V (mk z e).2.1 * 2 ^ j ∧ (mk z e).2.2 = e + j ∧ (mk z e).1 = decide (z < 0) ∧ V (mk z e).2.1 ≠ 0 := by
 have hza : z.natAbs ≠ 0 := by omega
 obtain ⟨q, hq⟩ := zcv hza
 have hd : z.natAbs / 2 ^ lw z.natAbs = 2 * q + 1 := by
  have : z.natAbs / 2 ^ lw z.natAbs = 2 ^ lw z.natAbs * (2 * q + 1) / 2 ^ lw z.natAbs := by rw [← hq]
  rw [this, Nat.mul_div_cancel_left _ (zj _)]
 have hm : mk z e = (decide (z < 0), D (z.natAbs / 2 ^ lw z.natAbs), e + (lw z.natAbs : Nat)) := by unfold mk; rw [if_neg h]
 refine ⟨lw z.natAbs, ?_, by rw [hm], by rw [hm], ?_⟩
 ·rw [hm]
  show _ = V (D _) * _
  rw [V_D, hd, Nat.mul_comm]; exact hq
 ·rw [hm]
  show V (D _) ≠ 0
  rw [V_D, hd]; omega
theorem zn4 (n j b : Nat) (hn : n ≠ 0) (s : Bool) (e : Int) : mk (sv s (n * 2 ^ j / 2 ^ (bl (n * 2 ^ j) - b))) (e + ((bl (n * 2 ^ j) - b : Nat) : Int)) = mk (sv s (n / 2 ^ (bl n - b))) (e + j + ((bl n - b : Nat) : Int)) ∧ (n * 2 ^ j % 2 ^ (bl (n * 2 ^ j) - b) = 0 ↔ n % 2 ^ (bl n - b) = 0) := by
 rw [zaj hn]
 by_cases c : bl n ≤ b
 ·have e1 : bl n - b = 0 := by omega
  have e2 : bl n + j - b ≤ j := by omega
  generalize bl n + j - b = t at *
  have h1 : n * 2 ^ j = n * 2 ^ (j - t) * 2 ^ t := by rw [Nat.mul_assoc, ← Nat.pow_add]; congr 2; omega
  rw [e1, Nat.pow_zero, Nat.div_one, Nat.mod_one, h1, Nat.mul_div_cancel _ (zj t), Nat.mul_mod_left]
  refine ⟨?_, Iff.rfl⟩
  have h2 : sv s (n * 2 ^ (j - t)) = sv s n * 2 ^ (j - t) := by
   unfold sv; split
   ·rw [Int.neg_mul, Int.natCast_mul, Int.natCast_pow]; rfl
   ·rw [Int.natCast_mul, Int.natCast_pow]; rfl
  rw [h2, zbX]; congr 1; omega
 ·have e1 : bl n + j - b = bl n - b + j := by omega
  rw [e1]
  have h1 := ze1 (H := n) (j := j) (r := 0) (d := bl n - b) (zj j)
  rw [Nat.add_zero] at h1
  rw [h1.1, h1.2]
  refine ⟨by congr 1; omega, ?_⟩
  constructor
  ·intro h
   have h2 : n % 2 ^ (bl n - b) * 2 ^ j = 0 := by omega
   rcases Nat.mul_eq_zero.1 h2 with h3 | h3
   ·exact h3
   ·have := zj j; omega
  ·intro h; rw [h]; omega
theorem zqB {z : Int} (hz : z ≠ 0) {e : Int} (hb : bl z.natAbs ≤ 20000000) (h1 : -90000000000000 ≤ e) (h2 : e ≤ 90000000000000) (b : Nat) (hbb : b ≤ 100000000) : Ev (fun k => zd8.f k (mk z e).1 (mk z e).2.1 (mk z e).2.2 b) ((mk (sv (decide (z < 0)) (z.natAbs / 2 ^ (bl z.natAbs - b))) (e + ((bl z.natAbs - b : Nat) : Int))).1, (mk (sv (decide (z < 0)) (z.natAbs / 2 ^ (bl z.natAbs - b))) (e + ((bl z.natAbs - b : Nat) : Int))).2.1, (mk (sv (decide (z < 0)) (z.natAbs / 2 ^ (bl z.natAbs - b))) (e + ((bl z.natAbs - b : Nat) : Int))).2.2, decide (z.natAbs % 2 ^ (bl z.natAbs - b) ≠ 0)) := by
 have a1 := zcx z e
 have a2 := zbq z e
 have e1 : (mk z e).2.2 = me z e := rfl
 obtain ⟨j, j1, j2, j3, j4⟩ := zbr hz e
 have := zqU (zY z e) (by omega) (by omega) (by omega) b hbb
 refine zh this ?_
 have hc := zn4 (V (mk z e).2.1) j b j4 (decide (z < 0)) e
 rw [← j1] at hc
 rw [j2, j3, ← hc.1]
 have : decide (V (mk z e).2.1 % 2 ^ (bl (V (mk z e).2.1) - b) ≠ 0) = decide (z.natAbs % 2 ^ (bl z.natAbs - b) ≠ 0) := decide_eq_decide.2 (not_congr hc.2.symm)
 rw [this]
def zt (A B b : Nat) : Nat := b + 1 + bl B - bl A
def zad (A B b : Nat) : Nat := bl (A * 2 ^ zt A B b / B) - b
def zbG (A B b : Nat) : Nat := A * 2 ^ zt A B b / (B * 2 ^ zad A B b)
def zdP (A B b : Nat) : Bool := decide (A * 2 ^ zt A B b % (B * 2 ^ zad A B b) ≠ 0)
theorem zsp {ea eb : Int} {n : Nat} (h1 : -1000000000 ≤ ea) (h2 : ea ≤ 1000000000) (h3 : -1000000000 ≤ eb) (h4 : eb ≤ 1000000000) (hn : n ≤ 100000000) : wrap64 (wrap64 (ea - eb) - (n : Int)) = ea - eb - (n : Int) := by unfold wrap64; omega
theorem zsr {b x y : Nat} (h1 : b ≤ 1000000) (h2 : x ≤ 10000000) (h3 : y ≤ 10000000) : wrap64 (wrap64 (wrap64 ((b : Int) + 1) + (x : Int)) - (y : Int)) = (b : Int) + 1 + (x : Int) - (y : Int) := by unfold wrap64; omega
theorem zqJ {sa sb : Bool} {la lb : List Int} {ea eb : Int} (ha : Dy sa la ea) (hb : Dy sb lb eb) (A0 : V la ≠ 0) (B0 : V lb ≠ 0) (l1 : la.length ≤ 100000) (l2 : lb.length ≤ 100000) (h1 : -1000000000 ≤ ea) (h2 : ea ≤ 1000000000) (h3 : -1000000000 ≤ eb) (h4 : eb ≤ 1000000000) (b : Nat) (hbb : b ≤ 1000000) :
  Ev (fun k => zca.f k sa la ea sb lb eb b) ((mk (sv (sa != sb) (zbG (V la) (V lb) b)) (ea - eb - (zt (V la) (V lb) b : Nat) + (zad (V la) (V lb) b : Nat))).1, (mk (sv (sa != sb) (zbG (V la) (V lb) b)) (ea - eb - (zt (V la) (V lb) b : Nat) + (zad (V la) (V lb) b : Nat))).2.1, (mk (sv (sa != sb) (zbG (V la) (V lb) b)) (ea - eb - (zt (V la) (V lb) b : Nat) + (zad (V la) (V lb) b : Nat))).2.2, zdP (V la) (V lb) b) := by
 have b1 := zaV ha.nm.dg
 have b2 := zaV hb.nm.dg
 have lne : lb ≠ [] := fun h => B0 (by rw [h]; rfl)
 have ane : la ≠ [] := fun h => A0 (by rw [h]; rfl)
 have hN : zt (V la) (V lb) b = b + 1 + bl (V lb) - bl (V la) := rfl
 have hC : zad (V la) (V lb) b = bl (V la * 2 ^ zt (V la) (V lb) b / V lb) - b := rfl
 have hup := zcT ha.nm.dg (by omega) (zt (V la) (V lb) b) (by omega)
 have hul := zi6 ha.nm.dg (n := zt (V la) (V lb) b)
 have hq := zlA (zv (V la * 2 ^ zt (V la) (V lb) b)) hb.nm (by omega) (by omega) lne
 rw [V_D] at hq
 have last : ∀ u v w, Ev (fun k => zca.j1 k b sa la ea sb lb eb u v w (zt (V la) (V lb) b : Nat)) ((mk (sv (sa != sb) (zbG (V la) (V lb) b)) (ea - eb - (zt (V la) (V lb) b : Nat) + (zad (V la) (V lb) b : Nat))).1, (mk (sv (sa != sb) (zbG (V la) (V lb) b)) (ea - eb - (zt (V la) (V lb) b : Nat) + (zad (V la) (V lb) b : Nat))).2.1, (mk (sv (sa != sb) (zbG (V la) (V lb) b)) (ea - eb - (zt (V la) (V lb) b : Nat) + (zad (V la) (V lb) b : Nat))).2.2, zdP (V la) (V lb) b) := by
  intro u v w
  refine zf ?_
  simp only [zca.j1]
  refine Ev.bind (hup) ?_; try dsimp only
  refine Ev.bind (hq) ?_; try dsimp only
  rw [zsp h1 h2 h3 h4 (by omega), zkT]
  have eQ : zbG (V la) (V lb) b = V la * 2 ^ zt (V la) (V lb) b / V lb / 2 ^ zad (V la) (V lb) b := by unfold zbG; rw [Nat.div_div_eq_div_mul]
  have eL : zdP (V la) (V lb) b = (decide (V la * 2 ^ zt (V la) (V lb) b / V lb % 2 ^ zad (V la) (V lb) b ≠ 0) || decide (V la * 2 ^ zt (V la) (V lb) b % V lb ≠ 0)) := by
   unfold zdP
   rw [Nat.mod_mul]
   have hB : 0 < V lb := by omega
   generalize V la * 2 ^ zt (V la) (V lb) b / V lb % 2 ^ zad (V la) (V lb) b = x
   generalize V la * 2 ^ zt (V la) (V lb) b % V lb = y
   by_cases c : x = 0
   ·subst c; simp
   ·have : V lb * x ≠ 0 := Nat.mul_ne_zero (by omega) c
    rw [decide_eq_true (show y + V lb * x ≠ 0 by omega), decide_eq_true c, Bool.true_or]
  have hqb : bl (V la * 2 ^ zt (V la) (V lb) b / V lb) ≤ bl (V la) + zt (V la) (V lb) b := Nat.le_trans (zV (Nat.div_le_self _ _)) (zcp _ _)
  have hQ0 : V la * 2 ^ zt (V la) (V lb) b / V lb ≠ 0 := by
   have h5 := zP (V lb)
   have h6 : 2 ^ bl (V lb) ≤ V la * 2 ^ zt (V la) (V lb) b := by
    have h7 := zc3 A0
    have h8 : 2 ^ (bl (V la) - 1) * 2 ^ zt (V la) (V lb) b ≤ V la * 2 ^ zt (V la) (V lb) b := Nat.mul_le_mul_right _ h7
    rw [← Nat.pow_add] at h8
    have h9 := zbx A0
    exact Nat.le_trans (Nat.pow_le_pow_right (by omega) (by omega)) h8
   have := Nat.div_pos (show V lb ≤ V la * 2 ^ zt (V la) (V lb) b by omega) (by omega)
   omega
  rw [eL, eQ]
  generalize hNN : zt (V la) (V lb) b = n at *
  generalize hCC : zad (V la) (V lb) b = c at *
  generalize V la * 2 ^ n % V lb = y
  generalize hx : V la * 2 ^ n / V lb = x at *
  clear hup hq
  have hf := zbH (sa != sb) (zv x) (by have := zaq (x := x) (k := 300000) (by omega); omega) (e := ea - eb - (n : Int)) (by omega) (by omega)
  rw [V_D] at hf
  refine Ev.bind (hf) ?_; try dsimp only
  obtain ⟨a1, a2, a3⟩ := ze4 (s := (sa != sb)) hQ0
  have hc := zqB a3 (e := ea - eb - (n : Int)) (by rw [a2]; omega) (by omega) (by omega) b (by omega)
  rw [a1, a2, ← hC] at hc
  refine Ev.bind (hc) ?_; try dsimp only
  cases hcx : decide (x % 2 ^ c ≠ 0)
  ·refine ze (by simp) (zh (Ev.now _) ?_)
   rw [Bool.false_or]
   have : decide (((D y).length : Int) > 0) = decide (y ≠ 0) := decide_eq_decide.2 (by
    constructor
    ·intro h h2; rw [h2, zy] at h; simp at h
    ·intro h
     have : (D y) ≠ [] := fun h2 => h (by rw [← V_D y, h2]; rfl)
     exact zfy this)
   rw [this]
  ·refine zd rfl (zh (Ev.now _) ?_)
   rw [Bool.true_or]
 unfold zca.f
 refine ze (fun h => ane (zcy.1 h)) ?_
 refine Ev.bind (zcz hb.nm (by omega)) ?_; try dsimp only
 refine Ev.bind (zcz ha.nm (by omega)) ?_; try dsimp only
 rw [zsr hbb (by omega) (by omega)]
 by_cases c : (b : Int) + 1 + (bl (V lb) : Nat) - (bl (V la) : Nat) < 0
 ·refine zd c ?_
  have : ((zt (V la) (V lb) b : Nat) : Int) = 0 := by omega
  rw [← this]
  exact last _ _ _
 ·refine ze c ?_
  have : (b : Int) + 1 + (bl (V lb) : Nat) - (bl (V la) : Nat) = ((zt (V la) (V lb) b : Nat) : Int) := by omega
  rw [this]
  exact last _ _ _
theorem zfJ {A B : Nat} (hA : A ≠ 0) (hB : B ≠ 0) (n : Nat) (h : bl B ≤ bl A + n) : bl A + n - bl B ≤ bl (A * 2 ^ n / B) ∧ bl (A * 2 ^ n / B) ≤ bl A + n - bl B + 1 := by
 have h1 := zc3 hA
 have h2 := zP A
 have h3 := zc3 hB
 have h4 := zP B
 have h5 := zbx hA
 have h6 := zbx hB
 have lo : 2 ^ (bl A - 1 + n) ≤ A * 2 ^ n := by rw [Nat.pow_add]; exact Nat.mul_le_mul_right _ h1
 have hi : A * 2 ^ n < 2 ^ (bl A + n) := by rw [Nat.pow_add]; exact Nat.mul_lt_mul_of_pos_right h2 (zj n)
 constructor
 ·rcases Nat.eq_zero_or_pos (bl A + n - bl B) with c | c
  ·omega
  ·have h7 : 2 ^ (bl A + n - bl B - 1) ≤ A * 2 ^ n / B := by
    rw [Nat.le_div_iff_mul_le (by omega)]
    have h8 : 2 ^ (bl A + n - bl B - 1) * B ≤ 2 ^ (bl A + n - bl B - 1) * 2 ^ bl B := Nat.mul_le_mul_left _ (by omega)
    rw [← Nat.pow_add, show bl A + n - bl B - 1 + bl B = bl A - 1 + n by omega] at h8
    omega
   have h9 := zV h7
   have : bl (2 ^ (bl A + n - bl B - 1)) = bl A + n - bl B := by
    have := zaj (v := 1) (by omega) (bl A + n - bl B - 1)
    rw [Nat.one_mul] at this
    rw [this, show bl 1 = 1 by decide]; omega
   omega
 ·refine zI ?_
  rw [Nat.div_lt_iff_lt_mul (by omega)]
  have h8 : 2 ^ (bl A + n - bl B + 1) * 2 ^ (bl B - 1) ≤ 2 ^ (bl A + n - bl B + 1) * B := Nat.mul_le_mul_left _ h3
  rw [← Nat.pow_add, show bl A + n - bl B + 1 + (bl B - 1) = bl A + n by omega] at h8
  omega
theorem zqy {A B b : Nat} (hA : A ≠ 0) (hB : B ≠ 0) : zt A B b + bl A = b + zad A B b + bl B ∨ zt A B b + bl A + 1 = b + zad A B b + bl B := by
 have h := zfJ hA hB (zt A B b) (by unfold zt; omega)
 have hN : zt A B b = b + 1 + bl B - bl A := rfl
 have hC : zad A B b = bl (A * 2 ^ zt A B b / B) - b := rfl
 omega
theorem zqz {A B b : Nat} (hA : A ≠ 0) (hB : B ≠ 0) : bl (zbG A B b) = b := by
 have h := zfJ hA hB (zt A B b) (by unfold zt; omega)
 have hN : zt A B b = b + 1 + bl B - bl A := rfl
 have hC : zad A B b = bl (A * 2 ^ zt A B b / B) - b := rfl
 unfold zbG
 rw [← Nat.div_div_eq_div_mul, zb6]
 omega
theorem zdx (x y : Nat) : bl (x * y) ≤ bl x + bl y := zI (by rw [Nat.pow_add]; exact Nat.mul_lt_mul'' (zP x) (zP y))
def wv (f : Int) (w : Nat) : Bool × List Int × Int := mk (sv (zk f w) (zm f w)) (wex f w)
structure Wv (f : Int) (w : Nat) : Prop where
 dy : Dy (wv f w).1 (wv f w).2.1 (wv f w).2.2
 ne : V (wv f w).2.1 ≠ 0
 b : bl (V (wv f w).2.1) ≤ pr f
 lo : lo f ≤ (wv f w).2.2
 hi : (wv f w).2.2 + (bl (V (wv f w).2.1) : Nat) = wex f w + (bl (zm f w) : Nat)
 s : (wv f w).1 = zk f w
theorem zhU {f : Int} (h : isF f) {w : Nat} (h2 : cls f w < 4) : wex f w + (bl (zm f w) : Nat) ≤ wd f := by
 rw [zgj h] at h2
 have h3 := zf0 h w
 have h4 := zhV h
 have h5 := zev f w
 have h6 := zL h
 have h7 := zel h
 have hlo := zaY h
 have hwd := zdp h
 by_cases c : zB f w = 0
 ·unfold wex; rw [if_pos c]
  have := zab h
  omega
 ·rw [if_neg c] at h2
  have : zB f w < mo f := by
   rcases Nat.lt_or_ge (zB f w) (mo f) with c2 | c2
   ·exact c2
   ·rw [if_neg (by omega)] at h2; split at h2 <;> omega
  unfold wex; rw [if_neg c]
  omega
theorem zmP {f : Int} (h : isF f) {w : Nat} (h1 : cls f w ≠ 1) (h2 : cls f w < 4) : Wv f w := by
 have hn := zeG h h1 h2
 obtain ⟨a1, a2, a3⟩ := ze4 (s := zk f w) hn
 obtain ⟨j, j1, j2, j3, j4⟩ := zbr a3 (wex f w)
 have hb := zf0 h w
 have hl : lo f ≤ wex f w := by
  unfold wex
  split <;> omega
 rw [a2] at j1
 have hbl : bl (zm f w) = bl (V (wv f w).2.1) + j := by rw [j1]; exact zaj j4 j
 have e2 : (wv f w).2.2 = wex f w + j := j2
 refine ⟨zY _ _, j4, by omega, by omega, by omega, ?_⟩
 show (mk _ _).1 = _
 rw [j3, a1]
theorem zsI {f : Int} (h : isF f) {w : Nat} (hw : Wv f w) (h2 : cls f w < 4) : -5000 ≤ (wv f w).2.2 ∧ (wv f w).2.2 ≤ 5000 ∧ bl (V (wv f w).2.1) ≤ 64 := by
 have := hw.lo
 have := hw.hi
 have := hw.b
 have := zaY h
 have := zdp h
 have := zhU h h2
 have := zL h
 have := zab h
 refine ⟨by omega, by omega, by omega⟩
theorem zmC {n : Int} (h : IntKind.u64.min ≤ n ∧ n ≤ IntKind.u64.max) : ∃ w : Nat, n = (w : Int) ∧ w < 18446744073709551616 := by
 simp [IntKind.min, IntKind.max, IntKind.signed, IntKind.bits] at h
 exact ⟨n.toNat, by omega, by omega⟩
theorem zsc (f : Int) {n : Nat} (h : n ≠ 0) (e : Int) : zo f (n / 2 ^ lw n) (e + (lw n : Nat)) = zo f n e := by
 have := zfV h
 unfold zo
 congr 1; omega
theorem zpu {n : Nat} (h : n ≠ 0) : n / 2 ^ lw n * 2 ^ lw n = n := by
 obtain ⟨q, hq⟩ := zcv h
 refine Nat.div_mul_cancel ⟨2 * q + 1, hq⟩
theorem zhP {f : Int} {n : Nat} (h : n ≠ 0) {e : Int} (hu : zo f n e ≤ e) : zaB f n e = (zo f n e - lo f).toNat * 2 ^ fb f + n * 2 ^ (e - zo f n e).toNat := by
 unfold zaB enc
 rw [zsc f h]
 congr 1
 have e1 : (e + (lw n : Nat) - zo f n e).toNat = lw n + (e - zo f n e).toNat := by omega
 rw [e1, Nat.pow_add, ← Nat.mul_assoc, zpu h]
theorem zss {f : Int} (h : isF f) {w : Nat} (c : zB f w ≠ 0) : bl (zm f w) = pr f := by
 have h1 := zev f w
 have h2 := zL h
 have h3 : zm f w = 2 ^ fb f + zU f w := by unfold zm; rw [if_neg c]
 have hp := zj (fb f)
 have h4 : 2 ^ (fb f + 1) = 2 ^ fb f * 2 := Nat.pow_succ ..
 have h5 : bl (zm f w) ≤ fb f + 1 := zI (by omega)
 have h6 : 2 ^ fb f ≤ zm f w := by omega
 have h7 := zV h6
 have h8 := zaj (v := 1) (by omega) (fb f)
 rw [Nat.one_mul, show bl 1 = 1 by decide] at h8
 omega
theorem zkd {f : Int} (h : isF f) {w : Nat} (c1 : cls f w ≠ 1) (c4 : cls f w < 4) : zaB f (zm f w) (wex f w) = w % sg f := by
 have hn := zeG h c1 c4
 have h2 := zL h
 have hx := zfZ h w
 have hu : zo f (zm f w) (wex f w) = wex f w := by
  unfold zo
  by_cases c : zB f w = 0
  ·have h3 : zm f w = zU f w := by unfold zm; rw [if_pos c]
   have h4 : bl (zm f w) ≤ fb f := zI (by rw [h3]; exact zev f w)
   have h5 : wex f w = lo f := by unfold wex; rw [if_pos c]; omega
   omega
  ·have h4 := zss h c
   have h5 : wex f w = (zB f w : Int) - 1 + lo f := by unfold wex; rw [if_neg c]
   omega
 rw [zhP hn (by omega), hu, Int.sub_self, zmM f w]
 show _ + zm f w * 2 ^ 0 = _
 rw [Nat.pow_zero, Nat.mul_one]
 unfold zm wex
 by_cases c : zB f w = 0
 ·rw [if_pos c, if_pos c, c, Int.zero_add, Int.sub_self]
  simp
 ·rw [if_neg c, if_neg c, show ((zB f w : Int) - 1 + lo f - lo f).toNat = zB f w - 1 by omega]
  obtain ⟨q, hq⟩ : ∃ q, zB f w = q + 1 := ⟨zB f w - 1, by omega⟩
  rw [hq, Nat.add_mul, Nat.one_mul, Nat.add_sub_cancel]; omega
theorem zi9 {f : Int} (h : isF f) {w : Nat} (hw : w < 2 * sg f) : w % sg f + sgn f (zk f w) = w := by
 unfold sgn zk
 by_cases c : sg f ≤ w
 ·rw [if_pos (decide_eq_true c), Nat.mod_eq_sub_mod c, Nat.mod_eq_of_lt (by omega)]; omega
 ·rw [if_neg (by simpa using c), Nat.mod_eq_of_lt (by omega)]; omega
theorem zrZ {s : Bool} {n n' : Nat} {e e' : Int} (hn : n ≠ 0) (hn' : n' ≠ 0) (hv : mk (sv s n) e = mk (sv s n') e') : e + (bl n : Nat) = e' + (bl n' : Nat) := by
 obtain ⟨a1, a2, a3⟩ := ze4 (s := s) hn
 obtain ⟨b1, b2, b3⟩ := ze4 (s := s) hn'
 have h1 := zi0 (sv s n) e
 have h2 := zi0 (sv s n') e'
 have e1 : top (mz (sv s n) e) (me (sv s n) e) = top (mz (sv s n') e') (me (sv s n') e') := by unfold mz me; rw [hv]
 rw [h1, h2] at e1
 unfold top at e1
 rw [if_neg a3, if_neg b3, a2, b2] at e1
 exact e1
theorem zow {f : Int} {s : Bool} {n n' : Nat} {e e' : Int} (hn : n ≠ 0) (hn' : n' ≠ 0) (hv : mk (sv s n) e = mk (sv s n') e') : zaB f n e = zaB f n' e' := by
 rw [zdf s hn, zdf s hn'] at hv
 simp only [Prod.mk.injEq] at hv
 unfold zaB
 rw [zmS hv.2.1, hv.2.2]
theorem zlJ {f m : Int} (h : isF f) (s : Bool) {n : Nat} {e : Int} (hn : n ≠ 0) (hb : bl (n / 2 ^ lw n) ≤ pr f) (hl : lo f ≤ e + (lw n : Nat)) (ht : e + (bl n : Nat) ≤ wd f) : zu f m s n e = (((zaB f n e + sgn f s : Nat) : Int), 0) := by
 have h3 := zfV hn
 have hu : zg f n e ≤ e + (lw n : Nat) := by unfold zg; omega
 have hx : exR n e (zg f n e) = true := by
  unfold exR
  refine decide_eq_true ?_
  have := (zcv hn).mod (k := (zg f n e - e).toNat)
  exact this.2 (by omega)
 obtain ⟨a1, a2, a3⟩ := ze4 (s := s) hn
 have hT := zho (m := m) (z := sv s n) (e := e) (E := zg f n e) (by rw [a2]; exact hx)
 have hTK : TK m (sv s n) e (zg f n e) = sv s (R m s n e (zg f n e)) := by unfold TK; rw [a1, a2]
 rw [hTK] at hT
 have hq0 : R m s n e (zg f n e) ≠ 0 := by
  intro h0
  rw [h0, zbK] at hT
  have h1 := zh7 a3 e
  unfold mz at h1
  rw [← hT, zh3] at h1
  exact h1 rfl
 have htop := zrZ hq0 hn hT
 have henc := zow (f := f) hq0 hn hT
 unfold zu
 simp only [hx]
 rw [if_neg (by omega), if_neg hq0, henc]
 rfl
theorem zmN {f : Int} (h : isF f) {w : Nat} (c1 : cls f w ≠ 1) (c4 : cls f w < 4) : bl (zm f w / 2 ^ lw (zm f w)) ≤ pr f ∧ lo f ≤ wex f w + (lw (zm f w) : Nat) ∧ wex f w + (bl (zm f w) : Nat) ≤ wd f := by
 have h1 := zf0 h w
 have h2 := zhU h c4
 have h3 : bl (zm f w / 2 ^ lw (zm f w)) ≤ bl (zm f w) := zV (Nat.div_le_self _ _)
 have h4 : lo f ≤ wex f w := by unfold wex; split <;> omega
 exact ⟨by omega, by omega, h2⟩
theorem zrc {f m : Int} {s : Bool} {n : Nat} {e : Int} (h : isF f) (hn : n ≠ 0) (ht : e + (bl n : Nat) > wd f) : zu f m s n e = ((zcR f m s : Int), 20) := by
 have hp := zL h
 have hl := zaY h
 have hw : 128 ≤ wd f := by rcases h with rfl | rfl <;> decide
 have hu : zg f n e ≤ e + (bl n : Nat) - 1 := by unfold zg; omega
 have hm := (zfd (m := m) (s := s) hn hu).1
 show (if (bl (R m s n e (zg f n e)) : Int) + zg f n e > wd f then _ else _) = _
 rw [if_pos (by omega)]
def zdW (m : Int) (s : Bool) : Nat := if upB m s false false true = true then 1 else 0
theorem zra (m : Int) (s : Bool) {n k : Nat} (hn : n ≠ 0) (h : 2 * n < 2 ^ k) : rnd m s n k = zdW m s := by
 unfold rnd zdW
 rw [Nat.div_eq_of_lt (by omega), Nat.mod_eq_of_lt (by omega : n < 2 ^ k), Nat.mod_eq_of_lt h, Nat.zero_add]
 have e1 : decide (2 ^ k ≤ 2 * n) = false := decide_eq_false (by omega)
 have e2 : decide (2 * n ≠ 0) = true := decide_eq_true (by omega)
 rw [e1, e2]
 rfl
theorem zlK {f m : Int} {s : Bool} {n : Nat} {e : Int} (h : isF f) (hn : n ≠ 0) (ht : e + (bl n : Nat) < lo f) :
  zu f m s n e = ((((if zdW m s = 0 then 0 else zaB f (zdW m s) (lo f)) + sgn f s : Nat) : Int), 24) := by
 have hp := zL h
 have hl := zaY h
 have hw : 128 ≤ wd f := by rcases h with rfl | rfl <;> decide
 have hu : zg f n e = lo f := by unfold zg; omega
 obtain ⟨k, hk⟩ : ∃ k : Nat, (lo f - e).toNat = k := ⟨_, rfl⟩
 have hk1 : bl n + 1 ≤ k := by omega
 have h2 : 2 * n < 2 ^ k := by
  have h3 := zP n
  have h4 : 2 ^ (bl n + 1) ≤ 2 ^ k := Nat.pow_le_pow_right (by omega) hk1
  rw [Nat.pow_succ] at h4
  omega
 have hR : R m s n e (lo f) = zdW m s := by
  unfold R
  rw [show (e - lo f).toNat = 0 by omega, hk, Nat.pow_zero, Nat.mul_one]
  exact zra m s hn h2
 have hx : exR n e (lo f) = false := by
  unfold exR
  rw [hk, Nat.mod_eq_of_lt (by omega)]
  exact decide_eq_false hn
 have hm := (zfd (m := m) (s := s) hn (show e + (bl n : Nat) - (pr f : Nat) ≤ e + (bl n : Nat) - 1 by omega)).2
 have hb : bl (zdW m s) ≤ 1 := by unfold zdW; split <;> decide
 show (if (bl (R m s n e (zg f n e)) : Int) + zg f n e > wd f then _ else _) = _
 rw [hu, hR, hx, if_neg (show ¬ ((bl (zdW m s) : Int) + lo f > wd f) by omega), if_neg (show ¬ (false = true) by simp), if_pos (show (bl (R m s n e (e + (bl n : Nat) - (pr f : Nat))) : Int) + (e + (bl n : Nat) - (pr f : Nat)) < lo f + (pr f : Nat) by omega)]
open Go.RowKit Go.Proofs Go.Proofs.YtnkpmjhlkmlmbaaGreatDoor.Eng
theorem zqq (s p : ByteArray) : zeP.f s p = some (decide ((tl s).take p.size = tl p)) := by
 unfold zeP.f
 by_cases c : (s.size : Int) ≥ (p.size : Int)
 ·rw [if_pos c, if_pos (by omega), if_pos (by omega)]
  congr 1
  rw [decide_eq_decide, Int.toNat_natCast, ← zcD, zg6, List.drop_zero]
 ·rw [if_neg c]
  symm
  congr 1
  refine decide_eq_false fun h => ?_
  have := congrArg List.length h
  rw [List.length_take, zg7, zg7] at this
  omega
theorem zro (s p : ByteArray) : zdn.f s p = some (decide ((tl s).take p.size = tl p)) := by
 unfold zdn.f
 rw [zqq]
 rfl
theorem zon (a b : List UInt8) (n : Nat) : zl (a ++ b) n = zl b (zl a n) := by unfold zl; rw [List.foldl_append]
theorem zgh {s : ByteArray} {A B : List UInt8} {b : UInt8} (h : tl s = A ++ b :: B) : bt s (A.length : Int) = (b.toNat : Int) := by
 rw [zjG, h, Int.toNat_natCast]
 simp [List.getD]
abbrev RT := Bool × ByteArray × List Int × Int × Bool
def rF : RT := (false, ⟨#[]⟩, [], 0, false)
def zb7 (f : Int) (w : Nat) : Nat := if cls f w = 5 then zgD f else w
theorem zqA {f : Int} (h : isF f) (w : Nat) : zeI.f f (w : Int) = some (zb7 f w : Int) := by
 unfold zeI.f zb7
 rw [zgO h w, Option.bind_some]
 by_cases c : cls f w = 5
 ·rw [if_pos c, if_pos c, zqD h]; rfl
 ·rw [if_neg c, if_neg c]
set_option maxRecDepth 100000
def zfq : Nat → Nat → List UInt8
 | 0, _ => []
 | k + 1, n => (if n < 10 then [] else zfq k (n / 10)) ++ [UInt8.ofNat (48 + n % 10)]
def dtx (n : Nat) : List UInt8 := zfq 6 n
def etx (e : Int) : List UInt8 := (if e < 0 then [45] else []) ++ dtx e.natAbs
def zdc (o : Option ByteArray) (l : List UInt8) : Bool := match o with | some t => tl t == l | none => false
theorem zko {g : Nat → Option ByteArray} {l : List UInt8} {n : Nat} (h : ∀ k, zdc (g (k + n)) l = true) : ∃ t, Ev g t ∧ tl t = l := by
 have h0 := h 0
 unfold zdc at h0
 split at h0
 ·rename_i t ht
  have e0 : tl t = l := by simpa using h0
  refine ⟨t, ⟨n, fun k hk => ?_⟩, e0⟩
  have h1 := h (k - n)
  rw [Nat.sub_add_cancel hk] at h1
  unfold zdc at h1
  split at h1
  ·rename_i u hu
   have e1 : tl u = l := by simpa using h1
   rw [hu, zcD.1 (e1.trans e0.symm)]
  ·cases h1
 ·cases h0
def zde (a : Int) (k : Nat) : Bool := (List.range 275).all (fun i => zdc (zdm.f (k + 40) (a + (i : Int))) (etx (a + (i : Int))))
theorem zo5 (k : Nat) : zde (-1100) k = true := by kernel_rfl
theorem zo6 (k : Nat) : zde (-825) k = true := by kernel_rfl
theorem zo7 (k : Nat) : zde (-550) k = true := by kernel_rfl
theorem zo8 (k : Nat) : zde (-275) k = true := by kernel_rfl
theorem zo9 (k : Nat) : zde (0) k = true := by kernel_rfl
theorem zpa (k : Nat) : zde (275) k = true := by kernel_rfl
theorem zpb (k : Nat) : zde (550) k = true := by kernel_rfl
theorem zpc (k : Nat) : zde (825) k = true := by kernel_rfl
theorem zpd (k : Nat) {e : Int} (h1 : -1100 ≤ e) (h2 : e < 1100) : zdc (zdm.f (k + 40) e) (etx e) = true := by
 have go : ∀ a, zde a k = true → a ≤ e → e < a + 275 → zdc (zdm.f (k + 40) e) (etx e) = true := by
  intro a h h3 h4
  have h := List.all_eq_true.1 h (e - a).toNat (List.mem_range.2 (by omega))
  have he : a + (((e - a).toNat : Nat) : Int) = e := by omega
  rw [he] at h
  exact h
 by_cases c0 : e < -825
 ·exact go _ (zo5 k) (by omega) (by omega)
 by_cases c1 : e < -550
 ·exact go _ (zo6 k) (by omega) (by omega)
 by_cases c2 : e < -275
 ·exact go _ (zo7 k) (by omega) (by omega)
 by_cases c3 : e < 0
 ·exact go _ (zo8 k) (by omega) (by omega)
 by_cases c4 : e < 275
 ·exact go _ (zo9 k) (by omega) (by omega)
 by_cases c5 : e < 550
 ·exact go _ (zpa k) (by omega) (by omega)
 by_cases c6 : e < 825
 ·exact go _ (zpb k) (by omega) (by omega)
 exact go _ (zpc k) (by omega) (by omega)
def ze2 (a : Nat) (k : Nat) : Bool := (List.range 220).all (fun i => zdc (zC.f (k + 60) (if a + i = 0 then [] else [((a + i : Nat) : Int)])) (dtx (a + i)))
theorem zrL (k : Nat) : ze2 0 k = true := by kernel_rfl
theorem zrM (k : Nat) : ze2 220 k = true := by kernel_rfl
theorem zrN (k : Nat) : ze2 440 k = true := by kernel_rfl
theorem zrO (k : Nat) : ze2 660 k = true := by kernel_rfl
theorem zrP (k : Nat) : ze2 880 k = true := by kernel_rfl
theorem zrQ (k : Nat) {n : Nat} (h2 : n < 1100) : zdc (zC.f (k + 60) (if n = 0 then [] else [(n : Int)])) (dtx n) = true := by
 have go : ∀ a, ze2 a k = true → a ≤ n → n < a + 220 → zdc (zC.f (k + 60) (if n = 0 then [] else [(n : Int)])) (dtx n) = true := by
  intro a h h3 h4
  have h := List.all_eq_true.1 h (n - a) (List.mem_range.2 (by omega))
  have he : a + (n - a) = n := by omega
  rw [he] at h
  exact h
 by_cases c0 : n < 220
 ·exact go _ (zrL k) (by omega) (by omega)
 by_cases c1 : n < 440
 ·exact go _ (zrM k) (by omega) (by omega)
 by_cases c2 : n < 660
 ·exact go _ (zrN k) (by omega) (by omega)
 by_cases c3 : n < 880
 ·exact go _ (zrO k) (by omega) (by omega)
 exact go _ (zrP k) (by omega) (by omega)
theorem zmW {e : Int} (h1 : -1100 ≤ e) (h2 : e < 1100) : ∃ t, Ev (fun k => zdm.f k e) t ∧ tl t = etx e := by
 refine zko (n := 40) fun k => ?_
 exact zpd k h1 h2
theorem zqO {n : Nat} (h : n < 1100) : ∃ t, Ev (fun k => zC.f k (D n)) t ∧ tl t = dtx n := by
 refine zko (n := 60) fun k => ?_
 have h := zrQ k h
 have he : (if n = 0 then [] else [(n : Int)]) = D n := by
  by_cases c : n = 0
  ·subst c; rw [if_pos rfl, zy]
  ·rw [if_neg c, zbi c, Nat.mod_eq_of_lt (by omega), Nat.div_eq_of_lt (by omega), zy]
 rw [he] at h
 exact h
theorem zlD (b : UInt8) : ∀ n, Lib.repeatL [b] n = List.replicate n b
 | 0 => rfl
 | n + 1 => by rw [Lib.repeatL, zlD b n]; rfl
def sgT (s : Bool) : List UInt8 := if s = true then [45] else []
theorem zgX (s : Bool) : (sgT s).length ≤ 1 := by unfold sgT; split <;> simp
structure Pr (f : Int) (w : Nat) : Prop where
 my : My (wv f w).1 (wv f w).2.1 (wv f w).2.2
 ne : V (wv f w).2.1 ≠ 0
 b : bl (V (wv f w).2.1) ≤ 53
 lo : -1074 ≤ (wv f w).2.2
 hi : (wv f w).2.2 + (bl (V (wv f w).2.1) : Nat) ≤ 1024
 s : (wv f w).1 = zk f w
theorem zqp {f : Int} (h : isF f) {w : Nat} (c1 : cls f w ≠ 1) (c4 : cls f w < 4) : Pr f w := by
 have W := zmP h c1 c4
 have hb := zsI h W c4
 have hpr : pr f ≤ 53 := by rcases h with rfl | rfl <;> decide
 have hWb := W.b
 have hft := zhU h c4
 have hwd : wd f ≤ 1024 := by rcases h with rfl | rfl <;> decide
 have hlo := zaY h
 have hWlo := W.lo
 have hWhi := W.hi
 refine ⟨⟨W.dy, ?_, by omega, by omega⟩, W.ne, by omega, by omega, by omega, W.s⟩
 have hl := W.dy.nm.len
 have h2 : V (wv f w).2.1 < 4294967296 ^ 2 := Nat.lt_of_lt_of_le (zP _) (Nat.le_trans (Nat.pow_le_pow_right (by omega) (by omega : bl (V (wv f w).2.1) ≤ 64)) (by decide))
 have h3 := zan h2
 omega
theorem zke {α : Type} {g : Nat → Option α} {r : α} {n : Nat} (h : ∀ k, g (k + n) = some r) : Ev g r := ⟨n, fun k hk => by have := h (k - n); rwa [Nat.sub_add_cancel hk] at this⟩
theorem zgq (e : Int) : (etx e).length ≤ 7 := by
 have : ∀ k n, (zfq k n).length ≤ k := by
  intro k
  induction k with
  | zero => intro n; simp [zfq]
  | succ k ih => intro n; unfold zfq; have := ih (n / 10); split <;> simp; omega
 unfold etx dtx
 have := this 6 e.natAbs
 split <;> simp <;> omega
theorem zlL {f m : Int} (h : isF f) {w : Nat} (hw : w < 2 * sg f) (c1 : cls f w ≠ 1) (c4 : cls f w < 4) : zu f m (wv f w).1 (V (wv f w).2.1) (wv f w).2.2 = ((w : Int), 0) := by
 have hn := zeG h c1 c4
 obtain ⟨a1, a2, a3⟩ := ze4 (s := zk f w) hn
 obtain ⟨b1, b2, b3⟩ := zmN h c1 c4
 have e := zrb f m a3 (wex f w)
 have hwv : mk (sv (zk f w) (zm f w)) (wex f w) = wv f w := rfl
 rw [hwv, a1, a2, zlJ h (zk f w) hn b1 b2 b3, zkd h c1 c4, zi9 h hw] at e
 exact e
theorem zj8 (l : List UInt8) (n : Nat) : zl l n = n * 10 ^ l.length + zl l 0 := by
 induction l generalizing n with
 | nil => simp [zl]
 | cons a l ih =>
  have h : ∀ m, zl (a :: l) m = zl l (10 * m + (a.toNat - 48)) := fun m => rfl
  rw [h, h, ih, ih (10 * 0 + _), List.length_cons, Nat.pow_succ]
  grind
open Go.RowKit Go.Proofs.YtnkpmjhlkmlmbaaGreatDoor.Eng
theorem zjE (a b : ByteArray) : qcB (a ++ b) = qcB a ++ qcB b := by unfold qcB; simp
theorem znz {a b : ByteArray} (h : qcB a = qcB b) : a = b := by
 unfold qcB at h
 have := List.map_inj_right (f := fun b : UInt8 => (b.toNat : Int)) (by intro x y h; exact UInt8.toNat_inj.1 (by omega)) |>.1 h
 cases a; cases b; simp_all
theorem zjF (xs : List Int) (h : ∀ x ∈ xs, 0 ≤ x ∧ x < 256) : qcB (qfU xs) = xs := by
 show (xs.map fun n : Int => UInt8.ofNat n.toNat).map (fun b : UInt8 => (b.toNat : Int)) = xs
 rw [List.map_map]
 have e : xs.map ((fun b : UInt8 => (b.toNat : Int)) ∘ fun n : Int => UInt8.ofNat n.toNat) = xs.map id := by
  apply List.map_congr_left
  intro x hx
  have := h x hx
  simp
  omega
 rw [e, List.map_id]
theorem zog {d : Nat} (h : d < 10) : qcB ((⟨#[48, 49, 50, 51, 52, 53, 54, 55, 56, 57]⟩ : ByteArray).extract d (d + 1)) = [48 + (d : Int)] := by
 have : ∀ d < 10, qcB ((⟨#[48, 49, 50, 51, 52, 53, 54, 55, 56, 57]⟩ : ByteArray).extract d (d + 1)) = [48 + (d : Int)] := by decide +kernel
 exact this d h
def dcl (n : Nat) : List Int := if h : n = 0 then [] else (48 + (n % 10 : Nat) : Int) :: dcl (n / 10)
termination_by n
decreasing_by omega
theorem zbo : dcl 0 = [] := by unfold dcl; simp
theorem zdD {n : Nat} (h : n ≠ 0) : dcl n = (48 + (n % 10 : Nat) : Int) :: dcl (n / 10) := by
 conv => lhs; unfold dcl
 simp [h]
def pd : Nat → Nat → List Int
 | 0, _ => []
 | j + 1, n => (48 + (n % 10 : Nat) : Int) :: pd j (n / 10)
theorem zla : ∀ (j n : Nat), n < 10 ^ j → ∃ m, pd j n = dcl n ++ List.replicate m 48
  | 0, n, h => ⟨0, by have : n = 0 := by simpa using h
                      subst this; simp [pd, zbo]⟩
  | j + 1, n, h => by
    obtain ⟨m, hm⟩ := zla j (n / 10) (by rw [Nat.pow_succ] at h; omega)
    by_cases h0 : n = 0
    · subst h0
      refine ⟨m + 1, ?_⟩
      have h1 : dcl (0 / 10) = [] := zbo
      rw [h1] at hm
      rw [pd, hm, zbo]; simp [List.replicate_succ]
    · exact ⟨m, by rw [pd, hm, zdD h0]; simp⟩
theorem zik : ∀ (j n : Nat), n / 10 ^ j ≠ 0 → pd j (n % 10 ^ j) ++ dcl (n / 10 ^ j) = dcl n
 | 0, n, h => by simp [pd]
 | j + 1, n, h => by
  have e1 : n / 10 ^ (j + 1) = n / 10 / 10 ^ j := by rw [Nat.pow_succ, Nat.mul_comm, Nat.div_div_eq_div_mul]
  have e2 : n % 10 ^ (j + 1) % 10 = n % 10 := Nat.mod_mod_of_dvd _ ⟨10 ^ j, by rw [Nat.pow_succ, Nat.mul_comm]⟩
  have e3 : n % 10 ^ (j + 1) / 10 = n / 10 % 10 ^ j := by
   rw [Nat.pow_succ, Nat.mul_comm, Nat.mod_mul_right_div_self]
  have h0 : n ≠ 0 := by rintro rfl; simp at h
  rw [pd, e2, e3, e1, zdD h0, List.cons_append, zik j (n / 10) (by rw [← e1]; exact h)]
theorem zn8 : ∀ (n : Nat), ∀ x ∈ dcl n, 48 ≤ x ∧ x ≤ 57 := by
 intro n
 induction n using Nat.strongRecOn with
 | _ n ih =>
  intro x hx
  by_cases h : n = 0
  ·subst h; rw [zbo] at hx; simp at hx
  ·rw [zdD h] at hx
   rcases List.mem_cons.1 hx with rfl | hx
   ·omega
   ·exact ih _ (by omega) x hx
theorem zn7 : ∀ (n : Nat), n ≠ 0 → ∃ l d, dcl n = l ++ [d] ∧ 48 < d ∧ d ≤ 57 := by
 intro n
 induction n using Nat.strongRecOn with
 | _ n ih =>
  intro h
  rw [zdD h]
  by_cases h1 : n / 10 = 0
  ·exact ⟨[], 48 + (n % 10 : Nat), by rw [h1, zbo]; simp, by omega, by omega⟩
  ·obtain ⟨l, d, e, hd⟩ := ih (n / 10) (by omega) h1
   exact ⟨_ :: l, d, by rw [e]; rfl, hd⟩
theorem zjV : ∀ (j n : Nat), n < 10 ^ j → (dcl n).length ≤ j
  | 0, n, h => by have : n = 0 := by simpa using h
                  subst this; simp [zbo]
  | j + 1, n, h => by
    by_cases h0 : n = 0
    · subst h0; simp [zbo]
    · rw [zdD h0]
      have := zjV j (n / 10) (by rw [Nat.pow_succ] at h; omega)
      simp; omega
def txt (n : Nat) : List Int := if n = 0 then [48] else (dcl n).reverse
theorem zi1 (n : Nat) : ∀ x ∈ txt n, 48 ≤ x ∧ x ≤ 57 := by
 intro x hx
 unfold txt at hx
 split at hx
 ·simp at hx; omega
 ·exact zn8 n x (by simpa using hx)
theorem zil : ∀ (j n : Nat), (pd j n).length = j
 | 0, _ => rfl
 | j + 1, n => by simp [pd, zil j]
theorem zmo {n : Int} (h : 0 ≤ n ∧ n < 4294967296) : (Int.tdiv n 10) % 4294967296 = n / 10 := by
 rw [Int.tdiv_eq_ediv_of_nonneg h.1]; omega
theorem ziX {n : Int} (h : 0 ≤ n) : Int.tmod n 10 = n % 10 := Int.tmod_eq_emod_of_nonneg h
theorem zhx {n : Nat} (h : n ≠ 0) : bl (n / 1000000000) + 1 ≤ bl n := by
 rw [zjD h]
 have : n / 1000000000 ≤ n / 2 := by omega
 have := zV this
 omega
def zcH (n : Nat) : List Int := if h : n = 0 then [] else pd 9 (n % 1000000000) ++ zcH (n / 1000000000)
termination_by n
decreasing_by omega
theorem zgi : zcH 0 = [] := by unfold zcH; simp
theorem zhC {n : Nat} (h : n ≠ 0) : zcH n = pd 9 (n % 1000000000) ++ zcH (n / 1000000000) := by
 conv => lhs; unfold zcH
 simp [h]
theorem znI : ∀ (n : Nat), ∃ m, zcH n = dcl n ++ List.replicate m 48 := by
 intro n
 induction n using Nat.strongRecOn with
 | _ n ih =>
  by_cases h : n = 0
  ·exact ⟨0, by subst h; rw [zgi, zbo]; rfl⟩
  ·rw [zhC h]
   by_cases h1 : n / 1000000000 = 0
   ·rw [h1, zgi, List.append_nil, Nat.mod_eq_of_lt (by omega)]
    exact zla 9 n (by omega)
   ·obtain ⟨m, hm⟩ := ih (n / 1000000000) (by omega)
    refine ⟨m, ?_⟩
    have := zik 9 n h1
    rw [hm, ← List.append_assoc]
    exact congrArg (· ++ List.replicate m 48) this
theorem zmq (q : List Int) {res : ByteArray × Int} : ∀ (j : Nat) (low : List Int) (r : Int), j ≤ 9 → 0 ≤ r ∧ r < 4294967296 → low.length + j < 1000000000000 → Ev (fun k => zG.l0 k q (low ++ pd j r.toNat)) res → Ev (fun k => zG.l1 k q low r ((9 - j : Nat) : Int)) res
 | 0, low, r, hj, hr, hl, H => by
  refine zf ?_
  simp only [zG.l1]
  refine ze (by omega) ?_
  simpa [pd] using H
 | j + 1, low, r, hj, hr, hl, H => by
  have e : wrap64 (((9 - (j + 1) : Nat) : Int) + 1) = ((9 - j : Nat) : Int) := by unfold wrap64; omega
  have e2 : (48 + Int.tmod r 10) % 4294967296 % 256 = 48 + ((r.toNat % 10 : Nat) : Int) := by rw [ziX hr.1]; omega
  refine zf ?_
  simp only [zG.l1, e, e2, zmo hr]
  clear e e2
  refine zd (by omega) (zd (by simp; omega) ?_)
  have hr10 : 0 ≤ r / 10 ∧ r / 10 < 4294967296 := by omega
  refine zmq q j _ _ (by omega) hr10 (by simp; omega) ?_
  have e3 : (r / 10).toNat = r.toNat / 10 := by omega
  rw [e3]
  simpa [pd] using H
theorem zrR {res : ByteArray × Int} : ∀ (n : Nat) (low : List Int), low.length + 9 * bl n < 100000000000 → (D n).length < 1000000000 → Ev (fun k => zG.l2 k (low ++ zcH n)) res → Ev (fun k => zG.l0 k (D n) low) res := by
 intro n
 induction n using Nat.strongRecOn with
 | _ n ih =>
  intro low hl hd H
  refine zf ?_
  simp only [zG.l0]
  by_cases h : n = 0
  ·subst h
   rw [zgi, List.append_nil] at H
   refine ze ?_ H
   rw [zy]; simp
  ·refine zd ?_ ?_
   ·rw [zbi h]; simp
   ·refine Ev.bind (zkS (zM n) hd (by omega)) ?_
    rw [V_D]
    have hb := zhx h
    have hle : n / 1000000000 ≤ n := Nat.div_le_self _ _
    have hdl := zds hle
    have hm9 : 0 ≤ ((n % (1000000000 : Int).toNat : Nat) : Int) ∧ ((n % (1000000000 : Int).toNat : Nat) : Int) < 4294967296 := by
     rw [show (1000000000 : Int).toNat = 1000000000 from rfl]; omega
    refine zmq _ 9 low _ (by omega) hm9 (by omega) ?_
    refine ih (n / 1000000000) (by omega) _ ?_ (by omega) ?_
    ·rw [List.length_append, zil]; omega
    ·rw [zhC h, ← List.append_assoc] at H
     exact H
theorem zrS : ∀ (m : Nat) (p s q : List Int), s.length = m → (p ++ s ++ q).length < 1000000000000 → Ev (fun k => zG.l3 k (p ++ s ++ q) p.length (((p.length + s.length : Nat) : Int) - 1)) (qfU (p ++ s.reverse ++ q), 0) := by
 intro m
 induction m using Nat.strongRecOn with
 | _ m ih =>
  intro p s q hs hl
  have hl2 : p.length + s.length + q.length < 1000000000000 := by simpa [Nat.add_assoc] using hl
  refine zf ?_
  simp only [zG.l3]
  match s, hs with
  | [], hs => exact ze (by simp; omega) (Ev.now _)
  | [x], hs => exact ze (by simp) (Ev.now _)
  | x :: y :: t, hs =>
   obtain ⟨u, z, hu⟩ : ∃ u z, y :: t = u ++ [z] := by
    rcases List.eq_nil_or_concat (y :: t) with h | ⟨u, z, h⟩
    ·simp at h
    ·exact ⟨u, z, by rw [h, List.concat_eq_append]⟩
   rw [hu] at hs hl2 ⊢
   have hul : u.length + 2 = m := by simpa using hs
   have hlen : (x :: (u ++ [z])).length = u.length + 2 := by simp
   rw [hlen] at hl2 ⊢
   have e0 : ((p.length + (u.length + 2) : Nat) : Int) - 1 = ((p.length + 1 + u.length : Nat) : Int) := by omega
   rw [e0]
   have hL : (p ++ x :: (u ++ [z]) ++ q).length = p.length + u.length + 2 + q.length := by simp; omega
   rw [hL]
   have r1 : rd (p ++ x :: (u ++ [z]) ++ q) ((p.length : Nat) : Int) = x := by
    rw [List.append_assoc, List.cons_append]; exact z8 rfl
   have r2 : rd (p ++ x :: (u ++ [z]) ++ q) ((p.length + 1 + u.length : Nat) : Int) = z := by
    have : p ++ x :: (u ++ [z]) ++ q = (p ++ x :: u) ++ z :: q := by simp
    rw [this]; exact z8 (by simp; omega)
   have s1 : (p ++ x :: (u ++ [z]) ++ q).set ((p.length : Nat) : Int).toNat z = p ++ z :: (u ++ [z]) ++ q := by
    rw [List.append_assoc, List.cons_append, zbJ rfl]; simp
   have s2 : (p ++ z :: (u ++ [z]) ++ q).set ((p.length + 1 + u.length : Nat) : Int).toNat x = (p ++ [z]) ++ u ++ (x :: q) := by
    have : p ++ z :: (u ++ [z]) ++ q = (p ++ z :: u) ++ z :: q := by simp
    rw [this, zbJ (by simp; omega)]; simp
   rw [r1, r2, s1, s2, zaf (n := p.length) (by omega), zbL (by omega)]
   refine zd (by omega) (zd (by omega) (zd (by omega) (zd (by omega) (zd (by omega) (zd (by omega) (zd (by omega) (zd (by omega) (zd (by simp; omega) ?_))))))))
   have := ih u.length (by omega) (p ++ [z]) u (x :: q) rfl (by simp; omega)
   rw [List.length_append, List.length_singleton] at this
   have e1 : ((p.length + 1 + u.length : Nat) : Int) - 1 = ((p.length + 1 + u.length : Nat) : Int) - 1 := rfl
   refine zh this ?_
   simp
theorem zmr {l : List Int} {d : Int} (hd : 48 < d) : ∀ (m : Nat), (l ++ [d]).length + m < 1000000000000 → Ev (fun k => zG.l2 k (l ++ [d] ++ List.replicate m 48)) (qfU (l ++ [d]).reverse, 0)
 | 0, hl => by
  simp only [List.replicate_zero, List.append_nil]
  have e : wrap64 (((l ++ [d]).length : Int) - 1) = (((l ++ [d]).length : Nat) : Int) - 1 := zbL (by omega)
  refine zf ?_
  simp only [zG.l2, e]
  clear e
  have hl1 : (l ++ [d]).length = l.length + 1 := by simp
  have hr : rd (l ++ [d]) (((l ++ [d]).length : Int) - 1) = d := z8 (by omega)
  refine zd (by omega) (zd (by omega) (ze (by rw [hr]; omega) ?_))
  have := zrS _ [] (l ++ [d]) [] rfl (by simp; omega)
  simpa using this
 | m + 1, hl => by
  rw [List.replicate_succ', ← List.append_assoc]
  have hX : ((l ++ [d]) ++ List.replicate m 48).length = (l ++ [d]).length + m := by rw [List.length_append, List.length_replicate]
  generalize hx : (l ++ [d]) ++ List.replicate m 48 = X at hX
  have hXl : (X ++ [48]).length = X.length + 1 := by simp
  have e : wrap64 (((X ++ [48]).length : Int) - 1) = (X.length : Int) := by rw [hXl]; exact zi8 (by omega)
  refine zf ?_
  simp only [zG.l2, e]
  clear e
  refine zd (by omega) (zd (by omega) (zd (z8 rfl) (zd (by omega) (zd (by omega) ?_))))
  have ht : (X ++ [(48 : Int)]).take ((X.length : Int)).toNat = X := by simp
  rw [ht, ← hx]
  exact zmr hd m (by omega)
theorem zkQ {a : List Int} (h : Nm a) (hl : a.length ≤ 4096) : Ev (fun k => zG.f k a) (qfU (txt (V a)), 0) := by
 unfold zG.f
 refine zi (zdi h.dg (by omega)) (ze (by rw [zcw.2 ⟨hl, h⟩]; simp) ?_)
 by_cases c : a.length = 0
 ·have : a = [] := List.eq_nil_of_length_eq_zero c
  subst this
  exact zd (by simp) (Ev.now _)
 ·refine ze (by omega) ?_
  have hne : a ≠ [] := fun e => c (by rw [e]; rfl)
  have h0 := zff h hne
  have hb := zaV h.dg
  obtain ⟨l, d, e, hd⟩ := zn7 (V a) h0
  obtain ⟨m, hm⟩ := znI (V a)
  have hml : (zcH (V a)).length < 100000000000 := by
   have : ∀ n, (zcH n).length ≤ 9 * bl n := by
    intro n
    induction n using Nat.strongRecOn with
    | _ n ih =>
     by_cases h : n = 0
     ·subst h; rw [zgi]; simp
     ·rw [zhC h, List.length_append, zil]
      have := ih (n / 1000000000) (by omega)
      have := zhx h
      omega
   have := this (V a)
   omega
  have key := zrR (res := (qfU (txt (V a)), 0)) (V a) [] (by simp; omega) (by rw [h]; omega) ?_
  ·rwa [h] at key
  ·rw [List.nil_append, hm, e]
   have ht : txt (V a) = (l ++ [d]).reverse := by unfold txt; rw [if_neg h0, e]
   rw [ht]
   refine zmr hd.1 m ?_
   rw [hm, e, List.length_append, List.length_replicate] at hml
   omega
theorem zoG {r : Int} (h : 0 ≤ r ∧ r < 4294967296) : qcB ((⟨#[48, 49, 50, 51, 52, 53, 54, 55, 56, 57]⟩ : ByteArray).extract ((Int.tmod r 10) : Int).toNat ((((Int.tmod r 10) + 1) % 4294967296) : Int).toNat) = [48 + ((r.toNat % 10 : Nat) : Int)] := by
 rw [ziX h.1]
 have e1 : (r % 10).toNat = r.toNat % 10 := by omega
 have e2 : (((r % 10) + 1) % 4294967296).toNat = r.toNat % 10 + 1 := by omega
 rw [e1, e2]
 exact zog (by omega)
theorem znA (s : ByteArray) : s.size = (qcB s).length := by unfold qcB; rw [List.length_map, Array.length_toList]; rfl
theorem zlT {n : Nat} :
  ∀ (j : Nat) (s : ByteArray) (r : Nat), j ≤ 9 → r < 10 ^ j → r < 4294967296 → s.size + j < 1000000000000 →
  ∃ u, qcB u = (if n = 0 then dcl r else pd j r).reverse ++ qcB s ∧ u.size ≤ s.size + j ∧ ∀ res, Ev (fun k => zC.l0 k (D n) u) res → Ev (fun k => zC.l1 k (D n) s (r : Int) ((9 - j : Nat) : Int)) res
 | 0, s, r, hj, hr, hr2, hs => by
  have : r = 0 := by simpa using hr
  subst this
  refine ⟨s, by rw [zbo]; simp [pd], by omega, fun res h => ?_⟩
  refine zf ?_
  simp only [zC.l1]
  exact ze (by omega) h
 | j + 1, s, r, hj, hr, hr2, hs => by
  have e : wrap64 (((9 - (j + 1) : Nat) : Int) + 1) = ((9 - j : Nat) : Int) := by unfold wrap64; omega
  have hx := zoG (r := (r : Int)) (by omega)
  have hd : Int.tdiv (r : Int) 10 % 4294967296 = ((r / 10 : Nat) : Int) := by rw [zmo (by omega)]; omega
  generalize hE : (⟨#[48, 49, 50, 51, 52, 53, 54, 55, 56, 57]⟩ : ByteArray).extract ((Int.tmod (r : Int) 10) : Int).toNat ((((Int.tmod (r : Int) 10) + 1) % 4294967296) : Int).toNat = E at hx
  have hEs : E.size = 1 := by rw [znA, hx]; rfl
  have hm := ziX (n := (r : Int)) (by omega)
  obtain ⟨u, h1, h2, h3⟩ := zlT j (E ++ s) (r / 10) (by omega) (by rw [Nat.pow_succ] at hr; omega) (by omega) (by rw [ByteArray.size_append]; omega)
  have hsz : E.size + s.size < 9223372036854775808 := by omega
  by_cases c : n = 0
  ·by_cases c2 : r = 0
   ·subst c2
    refine ⟨s, by rw [if_pos c, zbo]; simp, by omega, fun res h => ?_⟩
    refine zf ?_
    simp only [zC.l1]
    refine zd (by omega) (ze (by rw [c, zy]; simp) (ze (by omega) h))
   ·refine ⟨u, ?_, by rw [ByteArray.size_append] at h2; omega, fun res h => ?_⟩
    ·rw [h1, if_pos c, if_pos c, zjE, hx, zdD c2]; simp
    ·refine zf ?_
     simp only [zC.l1, hE, e, hd]
     clear e
     refine zd (by omega) (ze (by rw [c, zy]; simp) (zd (by omega) (zd (by omega) (zd (by omega) (zd (show _ ≤ ((10 : Nat) : Int) by omega) (zd hsz ?_))))))
     exact h3 res h
  ·refine ⟨u, ?_, by rw [ByteArray.size_append] at h2; omega, fun res h => ?_⟩
   ·rw [h1, if_neg c, if_neg c, zjE, hx, pd]; simp
   ·refine zf ?_
    simp only [zC.l1, hE, e, hd]
    clear e
    refine zd (by omega) (zd (by rw [zbi c]; simp) (zd (by omega) (zd (by omega) (zd (show _ ≤ ((10 : Nat) : Int) by omega) (zd hsz ?_)))))
    exact h3 res h
theorem zrk : ∀ (n : Nat) (s : ByteArray), s.size + 9 * bl n < 100000000000 → (D n).length < 1000000000 → ∃ u, qcB u = (dcl n).reverse ++ qcB s ∧ Ev (fun k => zC.l0 k (D n) s) u := by
 intro n
 induction n using Nat.strongRecOn with
 | _ n ih =>
  intro s hl hd
  by_cases h : n = 0
  ·subst h
   refine ⟨s, by rw [zbo]; simp, zf ?_⟩
   simp only [zC.l0]
   exact ze (by rw [zy]; simp) (Ev.now _)
  ·have hb := zhx h
   have hdl := zds (Nat.div_le_self n 1000000000)
   obtain ⟨u, h1, h2, h3⟩ := zlT (n := n / 1000000000) 9 s (n % 1000000000) (by omega) (by omega) (by omega) (by omega)
   obtain ⟨v, h4, h5⟩ := ih (n / 1000000000) (by omega) u (by omega) (by omega)
   refine ⟨v, ?_, zf ?_⟩
   ·rw [h4, h1]
    by_cases c : n / 1000000000 = 0
    ·rw [if_pos c, c, zbo, Nat.mod_eq_of_lt (by omega)]; simp
    ·rw [if_neg c]
     have := zik 9 n c
     rw [← List.append_assoc, ← List.reverse_append]
     exact congrArg (fun l => l.reverse ++ qcB s) this
   ·simp only [zC.l0]
    refine zd (by rw [zbi h]; simp) ?_
    refine Ev.bind (zlC (zM n) hd (by omega)) ?_
    rw [V_D, show (1000000000 : Int).toNat = 1000000000 from rfl]
    have go : Ev (fun k => zC.j2 k (D (n / 1000000000)) s ((n % 1000000000 : Nat) : Int)) v := by
     refine zf ?_
     simp only [zC.j2]
     exact h3 v h5
    by_cases c : n % 1000000000 = 0
    ·refine ze (by rw [c, zy]; simp) ?_
     rw [c] at go; exact go
    ·have e : D (n % 1000000000) = [((n % 1000000000 : Nat) : Int)] := by
      rw [zbi c, Nat.div_eq_of_lt (by omega), zy, Nat.mod_eq_of_lt (by omega)]
     refine zd (by rw [e]; simp) (zd (by rw [e]; simp) ?_)
     have hr : rd (D (n % 1000000000)) 0 = ((n % 1000000000 : Nat) : Int) := by rw [e]; rfl
     rw [hr]; exact go
theorem zq3 {a : List Int} (h : Nm a) (hl : a.length ≤ 4096) : Ev (fun k => zC.f k a) (qfU (txt (V a))) := by
 unfold zC.f
 by_cases c : a.length = 0
 ·have : a = [] := List.eq_nil_of_length_eq_zero c
  subst this
  exact zd (by simp) (Ev.now _)
 ·refine ze (by omega) ?_
  have hne : a ≠ [] := fun e => c (by rw [e]; rfl)
  have h0 := zff h hne
  have hb := zaV h.dg
  obtain ⟨u, h1, h2⟩ := zrk (V a) ⟨#[]⟩ (by show 0 + _ < _; omega) (by rw [h]; omega)
  rw [h] at h2
  refine zh h2 (znz ?_)
  rw [h1, zjF _ (fun x hx => by have := zi1 _ x hx; omega)]
  have e : qcB (⟨#[]⟩ : ByteArray) = [] := rfl
  unfold txt
  rw [e, if_neg h0, List.append_nil]
def pvA : Nat → List Int → Nat
 | a, [] => a
 | a, c :: l => pvA (10 * a + (c - 48).toNat) l
theorem ziq : ∀ (l : List Int) (a : Nat), pvA a l = a * 10 ^ l.length + pvA 0 l
 | [], a => by simp [pvA]
 | c :: l, a => by
  rw [pvA, pvA, ziq l (10 * a + (c - 48).toNat), ziq l (10 * 0 + (c - 48).toNat), List.length_cons, Nat.pow_succ]
  grind
theorem zqs (l m : List Int) (a : Nat) : pvA a (l ++ m) = pvA (pvA a l) m := by
 induction l generalizing a with
 | nil => rfl
 | cons c l ih => simp [pvA, ih]
def pv (l : List Int) : Nat := pvA 0 l
theorem zeV (l m : List Int) : pv (l ++ m) = pv l * 10 ^ m.length + pv m := by
 unfold pv; rw [zqs, ziq]
theorem zlk (l : List Int) (c : Int) : pv (l ++ [c]) = 10 * pv l + (c - 48).toNat := by
 rw [zeV]; simp [pv, pvA]; omega
def zbU (l : List Int) : Prop := ∀ x ∈ l, 48 ≤ x ∧ x ≤ 57
instance (l : List Int) : Decidable (zbU l) := inferInstanceAs (Decidable (∀ x ∈ l, 48 ≤ x ∧ x ≤ 57))
theorem zlj {l : List Int} (h : zbU l) : pv l < 10 ^ l.length := by
 induction l with
 | nil => simp [pv, pvA]
 | cons c l ih =>
  have h1 := h c (by simp)
  have h2 := ih (fun x hx => h x (by simp [hx]))
  have e : pv (c :: l) = (c - 48).toNat * 10 ^ l.length + pv l := by
   have := zeV [c] l
   simpa [pv, pvA] using this
  rw [e, List.length_cons, Nat.pow_succ]
  have h3 : (c - 48).toNat * 10 ^ l.length ≤ 9 * 10 ^ l.length := Nat.mul_le_mul_right _ (by omega)
  omega
theorem zqv (l : List Int) (n : Nat) : pv (l.take n) ≤ pv l := by
 have h := zeV (l.take n) (l.drop n)
 rw [List.take_append_drop] at h
 have : pv (l.take n) * 1 ≤ pv (l.take n) * 10 ^ (l.drop n).length := Nat.mul_le_mul_left _ (Nat.one_le_pow _ _ (by omega))
 omega
def isT (l : List Int) : Bool := decide (zbU l) && (decide (l.length = 1) || decide (1 < l.length) && decide (l.getD 0 0 ≠ 48))
theorem zmY {l : List Int} (h : Dg l) (k : l = [] ∨ 4294967296 ^ (l.length - 1) ≤ V l) : Nm l := by
 rw [zhm h]
 rcases k with k | k
 ·exact .inl k
 ·by_cases e : l = []
  ·exact .inl e
  ·right
   intro h0
   have hl : l.length ≠ 0 := fun e' => e (List.eq_nil_of_length_eq_zero e')
   have h1 := zfh (l := l) (n := l.length - 1) (by omega)
   rw [Nat.sub_add_cancel (by omega), List.take_length, h0] at h1
   have h2 := zfg h (n := l.length - 1) (by omega)
   simp at h1
   omega
def zaQ : List Int → Nat → Nat → List Int
 | [], _, c => if c = 0 then [] else [((c : Nat) : Int)]
 | x :: l, t, c => (((x.toNat * t + c) % 4294967296 : Nat) : Int) :: zaQ l t ((x.toNat * t + c) / 4294967296)
theorem zkE {x t c : Nat} (hx : x < 4294967296) (hc : c < t) : (x * t + c) / 4294967296 < t := by
 apply (Nat.div_lt_iff_lt_mul (by omega)).2
 have h1 : x * t ≤ 4294967295 * t := Nat.mul_le_mul_right _ (by omega)
 omega
theorem zpx {l : List Int} (h : Dg l) {t c : Nat} (hc : c < t) (ht : t < 4294967296) : V (zaQ l t c) = V l * t + c ∧ Dg (zaQ l t c) := by
 induction l generalizing c with
 | nil =>
  unfold zaQ
  split
  ·subst c; exact ⟨by simp, Dg.nil⟩
  ·exact ⟨by simp, Dg.cons (by omega) (by omega) Dg.nil⟩
 | cons x l ih =>
  have hx := h.head
  have hb := zkE (x := x.toNat) (by omega) hc
  have := ih h.tail hb
  refine ⟨?_, Dg.cons (by omega) (by omega) this.2⟩
  rw [zaQ, zz, this.1, zz, Nat.add_mul, Nat.mul_add, Nat.mul_assoc]
  generalize x.toNat * t = p
  generalize V l * t = q
  rw [Int.toNat_natCast]
  omega
theorem zpw {n t c : Nat} (hc : c < t) (ht : t < 4294967296) : zaQ (D n) t c = D (n * t + c) := by
 have h := zpx (zM n) hc ht
 rw [V_D] at h
 have hlen : ∀ (l : List Int) (c : Nat), zaQ l t c = [] ∨ (zaQ l t c).length = l.length ∨ ∃ m d, zaQ l t c = m ++ [d] ∧ d ≠ 0 := by
  intro l
  induction l with
  | nil =>
   intro c
   unfold zaQ
   split
   ·exact .inl rfl
   ·exact .inr (.inr ⟨[], _, rfl, by omega⟩)
  | cons x l ih =>
   intro c
   rw [zaQ]
   rcases ih ((x.toNat * t + c) / 4294967296) with h | h | ⟨m, d, h, hd⟩
   ·rw [h]
    cases l with
    | nil => exact .inr (.inl rfl)
    | cons y l => simp [zaQ] at h
   ·exact .inr (.inl (by simp [h]))
   ·exact .inr (.inr ⟨_ :: m, d, by rw [h]; rfl, hd⟩)
 have key : Nm (zaQ (D n) t c) := by
  rcases hlen (D n) c with e | e | ⟨m, d, e, hd⟩
  ·rw [e]; exact zd5
  ·by_cases hn : n = 0
   ·subst hn
    rw [zy] at e
    have e2 : zaQ (D 0) t c = [] := by rw [zy]; exact List.eq_nil_of_length_eq_zero e
    rw [e2]; exact zd5
   ·apply zmY h.2
    right
    rw [e, h.1]
    have := zhj hn
    have h2 : n * 1 ≤ n * t := Nat.mul_le_mul_left _ (by omega)
    omega
  ·have hg := h.2
   rw [e] at hg ⊢
   have := hg d (by simp)
   exact zfc hg.left (by omega) this.2
 rw [← key, h.1]
theorem uu {x t c : Int} (hx : 0 ≤ x ∧ x < 4294967296) (ht : 0 ≤ t ∧ t < 4294967296) (hc : 0 ≤ c ∧ c < 4294967296) : IntKind.u64.wrap (c + IntKind.u64.wrap (IntKind.u64.wrap x * t)) = x * t + c := by
 have hp := zfD hx ht
 rw [u64 hx.1 (by omega), u64 hp.1 (by omega), u64 (by omega) (by omega)]; omega
theorem zpT (x : Int) (t c : Nat) (hx : 0 ≤ x) : x * (t : Int) + (c : Int) = ((x.toNat * t + c : Nat) : Int) := by
 obtain ⟨X, rfl⟩ := Int.eq_ofNat_of_zero_le hx
 simp
theorem nd (a : Nat) : ((a : Nat) : Int) % 4294967296 = ((a % 4294967296 : Nat) : Int) ∧ ((a : Nat) : Int) / 4294967296 = ((a / 4294967296 : Nat) : Int) := by omega
section
variable (s : ByteArray)
theorem zk7 (at' t : Nat) (ht : t < 4294967296) {res : List Int × Int} (full : List Int) (hf : full.length < 1000000000) : ∀ (l done : List Int) (c : Nat), c < t → Dg l → done.length + l.length < 1000000000 → full = done ++ zaQ l t c →
  (Ev (fun k => if (full.length : Int) > 4096 then some ([], 3) else zr.l1 k s full (at' : Int)) res) →
  Ev (fun k => zr.l3 k s (done ++ l) at' t c ((done.length + l.length : Nat) : Int) done.length) res
 | [], done, c, hc, hg, hl, hfull, H => by
  have hj : Ev (fun k => zr.j10 k s full (at' : Int)) res := by
   refine zf ?_
   simp only [zr.j10]
   exact H
  refine zf ?_
  simp only [zr.l3]
  refine ze (by simp) ?_
  rw [List.append_nil]
  by_cases h0 : c = 0
  ·have e : full = done := by rw [hfull]; simp [zaQ, h0]
   rw [e] at hj
   exact ze (by omega) hj
  ·have e : full = done ++ [((c : Nat) : Int) % 4294967296] := by
    rw [hfull]; simp [zaQ, h0]; omega
   rw [e] at hj
   exact zd (by omega) (zd (by simp at hl ⊢; omega) hj)
 | x :: l, done, c, hc, hg, hl, hfull, H => by
  have hx := hg.head
  have hb := zkE (x := x.toNat) (by omega) hc
  have hu := uu hx (t := (t : Int)) (by omega) (c := (c : Int)) (by omega)
  rw [zpT x t c hx.1] at hu
  have hn := nd (x.toNat * t + c)
  have hr : rd (done ++ x :: l) (done.length : Int) = x := z8 rfl
  refine zf ?_
  simp only [zr.l3, hr, hu, hn.1, hn.2, zbJ rfl, zaf (n := done.length) (by omega)]
  clear hu hn
  refine zd (by simp; omega) (zd (by omega) (zd (by simp; omega) (zd (by omega) (zd (by simp; omega) ?_))))
  have := zk7 at' t ht full hf l (done ++ [((((x.toNat * t + c) % 4294967296 : Nat)) : Int)]) _ hb hg.tail (by simp at hl ⊢; omega) (by rw [hfull, zaQ]; simp) H
  rw [List.length_append, List.length_singleton] at this
  have e : done.length + (x :: l).length = done.length + 1 + l.length := by simp; omega
  rw [e]; exact this
omit s in
theorem zfl (s : ByteArray) : (qcB s).length = s.size := by unfold qcB; rw [List.length_map, Array.length_toList]; rfl
theorem zhz (i : Nat) : bt s (i : Int) = (qcB s).getD i 0 := by
 rw [zjG, Int.toNat_natCast]
 have e : qcB s = (tl s).map fun b => (b.toNat : Int) := rfl
 rw [e, List.getD_eq_getElem?_getD, List.getD_eq_getElem?_getD, List.getElem?_map]
 cases (tl s)[i]? <;> rfl
theorem zk6 (hd : zbU (qcB s)) (n next : Nat) (hn : next ≤ s.size) (hs : s.size < 1000000000000) {res : List Int × Int} (hln : (D n).length < 100000000)
  (H : ∀ t c, t < 4294967296 → c < t → t = t → Ev (fun k => zr.l3 k s (D n) next t c ((D n).length : Int) 0) res → True) :
  ∀ (d i t c : Nat), i + d = next → t * 10 ^ d ≤ 1000000000 → c < t →
  Ev (fun k => zr.l3 k s (D n) next ((t * 10 ^ d : Nat) : Int) ((c * 10 ^ d + pv (((qcB s).drop i).take d) : Nat) : Int) ((D n).length : Int) 0) res →
  Ev (fun k => zr.l2 k s (D n) i next t c) res
 | 0, i, t, c, hi, ht, hc, h => by
  refine zf ?_
  simp only [zr.l2]
  refine ze (by omega) ?_
  rw [show next = i by omega] at h
  simpa [pv, pvA] using h
 | d + 1, i, t, c, hi, ht, hc, h => by
  have hlen : (qcB s).length = s.size := zfl s
  have hget : (qcB s).drop i = (qcB s).getD i 0 :: (qcB s).drop (i + 1) := by
   rw [List.drop_eq_getElem_cons (by omega)]; simp [show i < (qcB s).length by omega]
  have hdi := hd ((qcB s).getD i 0) (by
   have : i < (qcB s).length := by omega
   rw [List.getD_eq_getElem?_getD, List.getElem?_eq_getElem this]; exact List.getElem_mem this)
  generalize hx : (qcB s).getD i 0 = x at hget hdi
  have hp : 1 ≤ 10 ^ d := Nat.one_le_pow _ _ (by omega)
  have ht10 : t * 10 * 10 ^ d = t * 10 ^ (d + 1) := by rw [Nat.pow_succ, Nat.mul_assoc, Nat.mul_comm 10]
  have ht9 : t * 10 ≤ 1000000000 := by
   have : t * 10 * 1 ≤ t * 10 * 10 ^ d := Nat.mul_le_mul_left _ hp
   omega
  refine zf ?_
  simp only [zr.l2, zaf (n := i) (by omega), zhz, hx]
  refine zd (by omega) (zd (by omega) (zd (by omega) ?_))
  have e1 : IntKind.u64.wrap ((t : Int) * 10) = ((t * 10 : Nat) : Int) := by rw [u64 (by omega) (by omega)]; omega
  have e2 : IntKind.u64.wrap (IntKind.u64.wrap (10 * (c : Int)) + IntKind.u64.wrap ((x - 48) % 256)) = ((10 * c + (x - 48).toNat : Nat) : Int) := by
   rw [u64 (n := 10 * (c : Int)) (by omega) (by omega), u64 (n := (x - 48) % 256) (by omega) (by omega), u64 (by omega) (by omega)]; omega
  rw [e1, e2]
  clear e1 e2
  refine zk6 hd n next hn hs hln H d (i + 1) (t * 10) (10 * c + (x - 48).toNat) (by omega) (by omega) (by omega) ?_
  rw [hget, List.take_succ_cons] at h
  have e3 : c * 10 ^ (d + 1) + pv (x :: ((qcB s).drop (i + 1)).take d) = (10 * c + (x - 48).toNat) * 10 ^ d + pv (((qcB s).drop (i + 1)).take d) := by
   have hq := zeV [x] (((qcB s).drop (i + 1)).take d)
   have hl : (((qcB s).drop (i + 1)).take d).length = d := by rw [List.length_take, List.length_drop]; omega
   rw [hl] at hq
   have hq1 : pv [x] = (x - 48).toNat := by simp [pv, pvA]
   rw [hq1] at hq
   rw [List.singleton_append] at hq
   rw [hq, Nat.pow_succ, Nat.add_mul, Nat.mul_comm 10 c, Nat.mul_assoc, Nat.mul_comm (10 ^ d) 10, Nat.add_assoc]
  rw [e3, ← ht10] at h
  exact h
theorem zrH (l : List Int) (i d : Nat) : l.take (i + d) = l.take i ++ (l.drop i).take d := by
 rw [List.take_add]
theorem zp9 (hd : zbU (qcB s)) (hs : s.size < 100000000) : ∀ (r i : Nat), i + r = s.size → (D (pv ((qcB s).take i))).length ≤ 4096 → Ev (fun k => zr.l1 k s (D (pv ((qcB s).take i))) i) (z6 (pv (qcB s))) := by
 intro r
 induction r using Nat.strongRecOn with
 | _ r ih =>
  intro i hi hl
  have hlen : (qcB s).length = s.size := zfl s
  refine zf ?_
  simp only [zr.l1]
  by_cases c : r = 0
  ·refine ze (by omega) (zh (Ev.now _) ?_)
   have e : (qcB s).take i = qcB s := List.take_of_length_le (by omega)
   rw [e] at hl ⊢
   unfold z6; rw [if_neg (by omega)]
  ·refine zd (by omega) ?_
   have chunk : ∀ d, 0 < d → d ≤ 9 → d ≤ r → Ev (fun k => zr.j7 k s (D (pv ((qcB s).take i))) i ((i + d : Nat) : Int)) (z6 (pv (qcB s))) := by
    intro d h0 h9 hr
    refine zf ?_
    simp only [zr.j7]
    have hp9 : 1 * 10 ^ d ≤ 1000000000 := by
     have : 10 ^ d ≤ 10 ^ 9 := Nat.pow_le_pow_right (by omega) h9
     omega
    have hlc : (((qcB s).drop i).take d).length = d := by rw [List.length_take, List.length_drop]; omega
    have hpl : pv (((qcB s).drop i).take d) < 10 ^ d := by
     have := zlj (l := ((qcB s).drop i).take d) (fun x hx => hd x (List.mem_of_mem_drop (List.mem_of_mem_take hx)))
     rwa [hlc] at this
    refine zk6 s hd _ (i + d) (by omega) (by omega) (by omega) (fun _ _ _ _ _ _ => trivial) d i 1 0 rfl hp9 (by omega) ?_
    rw [Nat.one_mul, Nat.zero_mul, Nat.zero_add]
    have e : pv ((qcB s).take (i + d)) = pv ((qcB s).take i) * 10 ^ d + pv (((qcB s).drop i).take d) := by
     rw [zrH, zeV, hlc]
    have hD := zpw (n := pv ((qcB s).take i)) hpl (by omega)
    rw [← e] at hD
    have hDl : (D (pv ((qcB s).take (i + d)))).length < 1000000000 := by
     have h1 := zbW (pv ((qcB s).take i))
     have h2 : pv ((qcB s).take (i + d)) < 4294967296 ^ ((D (pv ((qcB s).take i))).length + 1) := by
      rw [e, Nat.pow_succ]
      have h3 : (pv ((qcB s).take i) + 1) * 10 ^ d ≤ 4294967296 ^ (D (pv ((qcB s).take i))).length * 4294967296 := Nat.mul_le_mul h1 (by omega)
      rw [Nat.add_mul] at h3
      omega
     have := zd4 h2
     omega
    have := zk7 s (i + d) (10 ^ d) (by omega) (res := z6 (pv (qcB s))) (D (pv ((qcB s).take (i + d)))) hDl (D (pv ((qcB s).take i))) [] (pv (((qcB s).drop i).take d)) hpl (zM _) (by simp; omega) (by rw [hD]; rfl) ?_
    ·simpa using this
    ·by_cases c2 : (D (pv ((qcB s).take (i + d)))).length > 4096
     ·refine zd (by omega) (zh (Ev.now _) ?_)
      have := zds (zqv (qcB s) (i + d))
      unfold z6; rw [if_pos (by omega)]
     ·exact ze (by omega) (ih (r - d) (by omega) (i + d) (by omega) (by omega))
   have e9 : mn (s.size : Int) (wrap64 ((i : Int) + 9)) = ((i + min r 9 : Nat) : Int) := by
    have : wrap64 ((i : Int) + 9) = (i : Int) + 9 := by unfold wrap64; omega
    rw [this]; unfold mn; split <;> omega
   have j3 := chunk (min r 9) (by omega) (by omega) (by omega)
   rw [e9]
   clear e9
   have em : Int.tmod (s.size : Int) 9 = ((s.size % 9 : Nat) : Int) := zfU s.size 9
   by_cases c1 : i = 0
   ·refine zd (by omega) ?_
    rw [em]
    by_cases c2 : s.size % 9 = 0
    ·exact ze (by omega) j3
    ·refine zd (by omega) ?_
     have := chunk (s.size % 9) (by omega) (by omega) (by omega)
     have e : ((i + s.size % 9 : Nat) : Int) = ((s.size % 9 : Nat) : Int) := by omega
     rw [e] at this; exact this
   ·exact ze (by omega) j3
theorem zoO {l : List Int} {i : Nat} (h : i < l.length) : l.getD i 0 ∈ l := by
 rw [List.getD_eq_getElem?_getD, List.getElem?_eq_getElem h]; exact List.getElem_mem h
theorem zk5 (hs : s.size < 100000000) : ∀ (r i : Nat), i + r = s.size → (∀ j, j < i → 48 ≤ (qcB s).getD j 0 ∧ (qcB s).getD j 0 ≤ 57) → Ev (fun k => zr.l0 k s s.size i) (if zbU (qcB s) then z6 (pv (qcB s)) else ([], 12))
 | 0, i, hi, hj => by
  have hlen : (qcB s).length = s.size := zfl s
  have hd : zbU (qcB s) := by
   intro x hx
   obtain ⟨j, hj', rfl⟩ := List.getElem_of_mem hx
   have := hj j (by omega)
   simpa [hj'] using this
  refine zf ?_
  simp only [zr.l0]
  refine ze (by omega) ?_
  rw [if_pos hd]
  have := zp9 s hd hs s.size 0 (by omega) (by simp [pv, pvA, zy])
  simpa [pv, pvA, zy] using this
 | r + 1, i, hi, hj => by
  have hlen : (qcB s).length = s.size := zfl s
  have hm := zoO (l := qcB s) (i := i) (by omega)
  refine zf ?_
  simp only [zr.l0, zhz, zaf (n := i) (by omega)]
  refine zd (by omega) (zd (by omega) (zd (by omega) ?_))
  by_cases c1 : (qcB s).getD i 0 < 48
  ·refine zd c1 (zh (Ev.now _) ?_)
   rw [if_neg]; intro hd; have := hd _ hm; omega
  ·refine ze c1 (zd (by omega) (zd (by omega) ?_))
   by_cases c2 : (qcB s).getD i 0 > 57
   ·refine zd c2 (zh (Ev.now _) ?_)
    rw [if_neg]; intro hd; have := hd _ hm; omega
   ·refine ze c2 (zk5 hs r (i + 1) (by omega) ?_)
    intro j hj'
    by_cases e : j = i
    ·subst e; omega
    ·exact hj j (by omega)
def zem (l : List Int) : List Int × Int := if isT l then z6 (pv l) else ([], 12)
theorem zpN (hs : s.size < 100000000) : Ev (fun k => zr.f k s) (zem (qcB s)) := by
 have hlen : (qcB s).length = s.size := zfl s
 have yes : (isT (qcB s) = decide (zbU (qcB s))) → Ev (fun k => zr.l0 k s (s.size : Int) 0) (zem (qcB s)) := by
  intro h
  have := zk5 s hs s.size 0 (by omega) (fun j hj => by omega)
  refine zh this ?_
  unfold zem; rw [h]
  simp only [decide_eq_true_eq]
 unfold zr.f
 by_cases c0 : s.size = 0
 ·have hn : s = (⟨#[]⟩ : ByteArray) := zms.1 (List.eq_nil_of_length_eq_zero (by rw [zg7]; exact c0))
  refine zd hn ?_
  have : isT (qcB s) = false := by unfold isT; simp [hlen, c0]
  unfold zem; rw [this]; exact Ev.now _
 ·refine ze (fun h => c0 (by rw [h]; rfl)) ?_
  by_cases c1 : s.size > 1
  ·refine zd (by omega) (zd (by omega) ?_)
   have e : bt s 0 = (qcB s).getD 0 0 := zhz s 0
   rw [e]
   by_cases c2 : (qcB s).getD 0 0 = 48
   ·refine zd c2 ?_
    have : isT (qcB s) = false := by unfold isT; rw [hlen, c2]; simp; omega
    unfold zem; rw [this]; exact Ev.now _
   ·refine ze c2 (yes ?_)
    unfold isT; rw [hlen, decide_eq_true c1, decide_eq_true c2]; simp
  ·refine ze (by omega) (yes ?_)
   unfold isT; rw [hlen]; simp [show s.size = 1 by omega]
end
section
variable (s : ByteArray)
end
theorem zqu {c : Int} {l : List Int} : pv (c :: l) = (c - 48).toNat * 10 ^ l.length + pv l := by
 have := zeV [c] l
 simpa [pv, pvA] using this
theorem zir {l : List Int} (hd : zbU l) (h0 : l.getD 0 0 ≠ 48) (hl : l ≠ []) : 10 ^ (l.length - 1) ≤ pv l := by
 cases l with
 | nil => exact absurd rfl hl
 | cons c l =>
  have hc := hd c (by simp)
  have h1 : c ≠ 48 := by simpa using h0
  rw [zqu]
  have : 1 * 10 ^ l.length ≤ (c - 48).toNat * 10 ^ l.length := Nat.mul_le_mul_right _ (by omega)
  simp; omega
theorem zqt : ∀ (n : Nat), pv (dcl n).reverse = n := by
 intro n
 induction n using Nat.strongRecOn with
 | _ n ih =>
  by_cases h : n = 0
  ·subst h; rw [zbo]; rfl
  ·rw [zdD h, List.reverse_cons, zlk, ih _ (by omega)]; omega
theorem zqw (n : Nat) : pv (txt n) = n := by
 unfold txt
 split
 ·subst n; rfl
 ·exact zqt n
theorem zjX {n : Nat} {c : Int} (hc : 48 ≤ c ∧ c ≤ 57) (h : n ≠ 0 ∨ c ≠ 48) : dcl (10 * n + (c - 48).toNat) = c :: dcl n := by
 rw [zdD (by omega)]
 congr 1
 ·omega
 ·congr 1; omega
theorem zjW : ∀ (m : Nat) (l : List Int), l.length = m → zbU l → l.getD 0 0 ≠ 48 → dcl (pv l) = l.reverse
 | 0, l, hm, _, _ => by
  have : l = [] := List.eq_nil_of_length_eq_zero hm
  subst this; simp [pv, pvA, zbo]
 | m + 1, l, hm, hd, h0 => by
  rcases List.eq_nil_or_concat l with rfl | ⟨a, c, rfl⟩
  ·simp at hm
  rw [List.concat_eq_append] at hm hd h0 ⊢
  have hc := hd c (by simp)
  have hda : zbU a := fun x hx => hd x (by simp [hx])
  rw [zlk, List.reverse_append, List.reverse_singleton, List.singleton_append]
  by_cases ha : a = []
  ·subst ha
   have : c ≠ 48 := by simpa using h0
   rw [zjX hc (.inr this)]; simp [pv, pvA, zbo]
  ·have h1 : a.getD 0 0 ≠ 48 := by
    cases a with
    | nil => exact absurd rfl ha
    | cons x a => simpa using h0
   have h2 := zir hda h1 ha
   have : 1 ≤ 10 ^ (a.length - 1) := Nat.one_le_pow _ _ (by omega)
   rw [zjX hc (.inl (by omega)), zjW m a (by simpa using hm) hda h1]
theorem zr5 {l : List Int} (h : isT l = true) : txt (pv l) = l := by
 unfold isT at h
 simp only [Bool.and_eq_true, Bool.or_eq_true, decide_eq_true_eq] at h
 obtain ⟨hd, h⟩ := h
 by_cases h0 : l.getD 0 0 = 48
 ·have h1 : l.length = 1 := by
   rcases h with h | h
   ·exact h
   ·exact absurd h0 h.2
  match l, h1 with
  | [c], _ =>
   have : c = 48 := by simpa using h0
   subst this; rfl
 ·have hl : l ≠ [] := by rintro rfl; simp at h
  have h2 := zir hd h0 hl
  have h3 : 1 ≤ 10 ^ (l.length - 1) := Nat.one_le_pow _ _ (by omega)
  unfold txt
  rw [if_neg (by omega), zjW _ l rfl hd h0, List.reverse_reverse]
theorem znB (n : Nat) : qcB (qfU (txt n)) = txt n := zjF _ (fun x hx => by have := zi1 n x hx; omega)
theorem zr4 {n k : Nat} (h : n < 10 ^ k) (hk : 1 ≤ k) : (txt n).length ≤ k := by
 unfold txt
 split
 ·simpa using hk
 ·have := zjV k n h; simpa using this
theorem zkK (A Bl : List Int) (i : Nat) (x : Int) (hx : 0 ≤ x ∧ x < 4294967296) (hB : Dg Bl) (hl : A.length < 1000000000) (hlb : Bl.length < 1000000000) (hi : i < A.length) (res : List Int) : ∀ (b done r pb : List Int) (c : Int), Bl = pb ++ b → done.length = i + pb.length → b.length < r.length → Dg r → 0 ≤ c ∧ c < 4294967296 →
  Ev (fun k => zX.l0 k Bl (done ++ zat x b r c) A A.length ((i + 1 : Nat) : Int)) res →
  Ev (fun k => zX.l1 k Bl (done ++ r) i x c A A.length i Bl Bl.length pb.length) res
 | [], done, r, pb, c, he, hd, hr, hg, hc, H => by
  obtain ⟨y, r, rfl⟩ : ∃ y r', r = y :: r' := by
   cases r with
   | nil => simp at hr
   | cons y r' => exact ⟨y, r', rfl⟩
  have hlen : Bl.length = pb.length := by rw [he]; simp
  refine zf ?_
  have e : wrap64 ((i : Int) + (Bl.length : Int)) = ((i + Bl.length : Nat) : Int) := by unfold wrap64; omega
  simp only [zX.l1, e, zaf (n := i) (by omega)]
  clear e
  refine ze (by omega) (zd (by omega) (zd (by simp; omega) ?_))
  have hs : (done ++ y :: r).set (((i + Bl.length : Nat) : Int)).toNat (c % 4294967296) = done ++ zat x [] (y :: r) c := by
   rw [zbJ (by omega)]; simp [zat]; omega
  rw [hs]; exact H
 | y :: b, done, r, pb, c, he, hd, hr, hg, hc, H => by
  obtain ⟨o, r, rfl⟩ : ∃ y r', r = y :: r' := by
   cases r with
   | nil => simp at hr
   | cons y r' => exact ⟨y, r', rfl⟩
  have hlen : Bl.length = pb.length + 1 + b.length := by rw [he]; simp; omega
  have hy : 0 ≤ y ∧ y < 4294967296 := by rw [he] at hB; exact hB.right.head
  have ho := hg.head
  have hp := zfD hx hy
  refine zf ?_
  have e : wrap64 ((i : Int) + (pb.length : Int)) = ((done.length : Nat) : Int) := by unfold wrap64; omega
  simp only [zX.l1, e, zaf (n := pb.length) (by omega)]
  clear e
  refine zd (by omega) (zd (by omega) (zd (by omega) (zd (by omega) (zd (by simp; omega) (zd (by omega) (zd (by simp; omega) ?_))))))
  have h1 : rd Bl (pb.length : Int) = y := by rw [he]; exact z8 rfl
  have h2 : rd (done ++ o :: r) (done.length : Int) = o := z8 rfl
  rw [h1, h2, zbJ rfl, u64 hx.1 (by omega), u64 hy.1 (by omega), u64 ho.1 (by omega), u64 (n := x * y) hp.1 (by omega), u64 (n := x * y + o) (by omega) (by omega), u64 (n := x * y + o + c) (by omega) (by omega)]
  have := zkK A Bl i x hx hB hl hlb hi res b (done ++ [(x * y + o + c) % 4294967296]) r (pb ++ [y]) ((x * y + o + c) / 4294967296) (by rw [he]; simp) (by simp [hd]; omega) (by simpa using hr) hg.tail (by omega) (by simpa [zat] using H)
  simpa using this
theorem zkJ (A Bl : List Int) (hA : Dg A) (hB : Dg Bl) (hl : A.length < 1000000000) (hlb : Bl.length < 1000000000) : ∀ (a done r pa : List Int), A = pa ++ a → done.length = pa.length → Dg done → Dg r → r.length = Bl.length + a.length → r.drop Bl.length = List.replicate a.length 0 →
  Ev (fun k => zX.l0 k Bl (done ++ r) A A.length done.length) (D (V (done ++ zcQ a Bl r)))
 | [], done, r, pa, he, hd, hg, hr, hrl, hz => by
  have hlen : A.length = done.length := by rw [he, hd]; simp
  refine zf ?_
  simp only [zX.l0]
  refine ze (by omega) ?_
  refine Ev.bind (zdj (hg.app hr) (by simp; simp at hrl; omega)) ?_
  exact Ev.now _
 | x :: a, done, r, pa, he, hd, hg, hr, hrl, hz => by
  have hlen : A.length = done.length + 1 + a.length := by rw [he, hd]; simp; omega
  have hx : 0 ≤ x ∧ x < 4294967296 := by rw [he] at hA; exact hA.right.head
  have hrr := ziM hx Bl r 0 a.length hB hr (by omega) (by simpa using hz)
  refine zf ?_
  simp only [zX.l0]
  refine zd (by omega) (zd (by omega) (zd (by omega) ?_))
  have h1 : rd A (done.length : Int) = x := by rw [he]; exact z8 (by omega)
  rw [h1]
  refine zkK A Bl done.length x hx hB hl hlb (by omega) _ Bl done r [] 0 rfl rfl (by simp at hrl; omega) hr (by omega) ?_
  obtain ⟨r0, r', e⟩ : ∃ r0 r', zat x Bl r 0 = r0 :: r' := by
   cases h : zat x Bl r 0 with
   | nil =>
    have hl := hrr.2.2.2
    rw [h] at hl
    simp at hrl hl; omega
   | cons r0 r' => exact ⟨r0, r', rfl⟩
  rw [e] at hrr
  have := zkJ A Bl hA hB hl hlb a (done ++ [r0]) r' (pa ++ [x]) (by rw [he]; simp) (by simp [hd]) (hg.app (Dg.cons hrr.2.1.head.1 hrr.2.1.head.2 Dg.nil)) hrr.2.1.tail (by have := hrr.2.2.2; simp at this hrl; omega) (by simpa using hrr.2.2.1)
  rw [List.length_append, List.length_singleton, List.append_assoc] at this
  have e2 : done ++ zcQ (x :: a) Bl r = done ++ [r0] ++ zcQ a Bl r' := by simp [zcQ, e]
  rw [e, e2]; simpa using this
theorem zib {a b : List Int} (ha : Dg a) (hb : Dg b) (la : a.length < 1000000000) (lb : b.length < 1000000000) : Ev (fun k => zX.f k a b) (D (V a * V b)) := by
 unfold zX.f
 have e : wrap64 ((a.length : Int) + (b.length : Int)) = ((a.length + b.length : Nat) : Int) := by unfold wrap64; omega
 simp only [e]
 clear e
 refine zd (by omega) (zd (by omega) ?_)
 have := zkJ a b ha hb la lb a [] (List.replicate (a.length + b.length) 0) [] rfl rfl Dg.nil (Dg.zeros _) (by simp; omega) (by simp)
 refine zh this ?_
 have h2 := zkI a b (List.replicate (a.length + b.length) 0) ha hb (Dg.zeros _) (by simp)
 simp [h2.1, zfi]
theorem zkP {a b : List Int} (ha : Nm a) (hb : Nm b) (la : a.length ≤ 4096) (lb : b.length ≤ 4096) : Ev (fun k => zdL.f k a b) (z6 (V a * V b)) := by
 have h1 : may a = true := zcw.2 ⟨la, ha⟩
 have h2 : may b = true := zcw.2 ⟨lb, hb⟩
 have tail : Ev (fun k => (zX.f k a b).bind fun t => (zbt.f t).bind fun bt => some (bt.1, bt.2)) (z6 (V a * V b)) := by
  refine Ev.bind (zib ha.dg hb.dg (by omega) (by omega)) ?_
  exact zi (zpP _) (Ev.now _)
 unfold zdL.f
 refine Ev.bind (zjw ha.dg hb.dg (by omega) (by omega)) ?_
 refine ze (by simp [h1, h2]) ?_
 by_cases c1 : a.length > 0
 ·refine zd (by omega) ?_
  by_cases c2 : b.length > 0
  ·refine zd (by omega) ?_
   have e : wrap64 (wrap64 ((a.length : Int) + (b.length : Int)) - 1) = ((a.length + b.length - 1 : Nat) : Int) := by unfold wrap64; omega
   rw [e]
   clear e
   by_cases c3 : a.length + b.length - 1 > 4096
   ·refine zd (by omega) (zh (Ev.now _) ?_)
    have p1 := zhk ha (fun e => by subst e; simp at c1)
    have p2 := zhk hb (fun e => by subst e; simp at c2)
    have p3 := Nat.mul_le_mul p1 p2
    rw [← Nat.pow_add] at p3
    have p4 : (D (V a * V b)).length > 4096 := by
     apply Nat.lt_of_not_le
     intro k
     have p5 := zbW (V a * V b)
     have p6 := Nat.pow_lt_pow_iff_right (a := 4294967296) (by omega) |>.1 (Nat.lt_of_le_of_lt p3 p5)
     omega
    unfold z6; rw [if_pos p4]
   ·exact ze (by omega) tail
  ·exact ze (by omega) tail
 ·exact ze (by omega) tail
theorem zfk {n : Nat} (h : (D n).length ≤ 4096) : z6 n = (D n, 0) := by
 unfold z6; rw [if_neg (by omega)]
theorem zdt : D 1 = [1] := by
 have h2 : Nm [1] := by have := zfc Dg.nil (d := 1) (by omega) (by omega); simpa using this
 exact h2
theorem zkZ (n : Nat) (h : n < 9223372036854775808) : (BitVec.ofInt 64 (n : Int)).toNat = n := by
 rw [BitVec.ofInt_natCast, BitVec.toNat_ofNat]; exact Nat.mod_eq_of_lt (by omega)
theorem znm (n : Nat) (h : n < 9223372036854775808) : Go.bits .and .i64 (n : Int) 1 = ((n % 2 : Nat) : Int) := by
 show IntKind.i64.wrap ((BitVec.ofInt 64 (n : Int) &&& BitVec.ofInt 64 ((1 : Nat) : Int)).toNat : Int) = _
 rw [BitVec.toNat_and, zkZ n h, zkZ 1 (by omega), Nat.and_one_is_mod, IntKind.wrap_i64]
 omega
theorem zrt (n i : Nat) (h : i ≤ 64) : shr .i64 (n : Int) (i : Int) = ((n / 2 ^ i : Nat) : Int) := by
 unfold shr
 have e : min (i : Int).toNat IntKind.i64.bits = i := by rw [Int.toNat_natCast]; exact Nat.min_eq_left h
 rw [e]; simp
theorem zih {b n : Nat} (h : 1 ≤ b) : 1 ≤ b ^ n := Nat.one_le_pow _ _ h
theorem zgM {b m n : Nat} (h : 1 ≤ b) (k : m ≤ n) : b ^ m ≤ b ^ n := Nat.pow_le_pow_right h k
theorem zoU (n i : Nat) : n / 2 ^ i = 2 * (n / 2 ^ (i + 1)) + n / 2 ^ i % 2 := by
 have : n / 2 ^ (i + 1) = n / 2 ^ i / 2 := by rw [Nat.pow_succ, Nat.div_div_eq_div_mul]
 rw [this]; omega
theorem zrx {m : Nat} (h : m ≠ 0) : 2 * (D m).length - 1 ≤ (D (m * m)).length := by
 have h1 := zhj h
 have h2 := Nat.mul_le_mul h1 h1
 rw [← Nat.pow_add] at h2
 apply Nat.le_of_not_lt
 intro k
 have h3 := zbW (m * m)
 have h4 : (4294967296 : Nat) ^ (D (m * m)).length ≤ 4294967296 ^ ((D m).length - 1 + ((D m).length - 1)) := Nat.pow_le_pow_right (by omega) (by omega)
 omega
theorem zsl {L : Nat} (h : L ≤ 4096) : wrap64 (wrap64 (2 * (L : Int)) - 1) = 2 * (L : Int) - 1 := by unfold wrap64; omega
theorem zry {p : Nat} (h : (D p).length ≤ 4096) : (D (p * p)).length ≤ 8192 := by
 have h1 := zbW p
 have h2 := Nat.mul_lt_mul'' h1 h1
 rw [← Nat.pow_add] at h2
 have := zd4 h2
 omega
theorem zns {x : Int} (h : 0 ≤ x ∧ x < 18446744073709551616) : Ev (fun k => zeD.f k x) ((bl x.toNat : Nat) : Int) := by
 unfold zeD.f
 exact Ev.bind (zfx h) (Ev.now _)
theorem zqo {b n i p q T t : Nat} (hbl : Dg [((b : Nat) : Int)]) (hi : i < 64) (hs : Go.bits .and .i64 (shr .i64 (n : Int) (i : Int)) 1 = ((t % 2 : Nat) : Int)) (hp : p ≠ 0) (hl : (D p).length ≤ 4096) (hpT : p * p ≤ T) (hqT : q ≤ T)
  (h1 : t % 2 = 1 → p * p * b = q) (h0 : t % 2 ≠ 1 → p * p = q) (ih : (D q).length ≤ 4096 → Ev (fun k => zQ.l0 k (b : Int) (n : Int) (D q) ((i : Int) - 1)) (z6 T)) :
  Ev (fun k => zQ.l0 k (b : Int) (n : Int) (D p) (i : Int)) (z6 T) := by
 have hsl := zrx hp
 have hss := zry hl
 refine zf ?_
 simp only [zQ.l0, zsl hl, hs]
 clear hs
 refine zd (by omega) ?_
 by_cases c1 : 2 * (D p).length > 4097
 ·refine zd (by omega) (zh (Ev.now _) ?_)
  exact (zhy (m := p * p) (by omega) hpT).symm
 ·refine ze (by omega) (Ev.bind (zib (zM _) (zM _) (by omega) (by omega)) ?_)
  rw [V_D]
  refine zd (by omega) ?_
  have next : Ev (fun k => zQ.j4 k (b : Int) (n : Int) (D q) (i : Int)) (z6 T) := by
   refine zf ?_
   simp only [zQ.j4, zbL (n := i) (by omega)]
   by_cases c2 : (D q).length > 4096
   ·refine zd (by omega) (zh (Ev.now _) ?_)
    exact (zhy c2 hqT).symm
   ·exact ze (by omega) (ih (by omega))
  by_cases c3 : t % 2 = 1
  ·refine zd (by omega) (Ev.bind (zib (zM _) hbl (by omega) (by simp)) ?_)
   have hv : V (D (p * p)) * V [((b : Nat) : Int)] = q := by
    rw [V_D, ← h1 c3]
    simp only [zz, zai, Int.toNat_natCast, Nat.mul_zero, Nat.add_zero]
   rw [hv]; exact next
  ·refine ze (by omega) ?_
   rw [h0 c3]; exact next
theorem zli {b : Nat} (hb : 1 ≤ b ∧ b < 4294967296) (hbl : Dg [((b : Nat) : Int)]) {n : Nat} (hn : n < 9223372036854775808) : ∀ (i : Nat), i ≤ 64 → (D (b ^ (n / 2 ^ i))).length ≤ 4096 → Ev (fun k => zQ.l0 k (b : Int) (n : Int) (D (b ^ (n / 2 ^ i))) ((i : Int) - 1)) (z6 (b ^ n))
 | 0, hi, hl => by
  refine zf ?_
  simp only [zQ.l0]
  refine ze (by decide) (zh (Ev.now _) ?_)
  rw [Nat.pow_zero, Nat.div_one] at hl ⊢
  exact (zfk hl).symm
 | i + 1, hi, hl => by
  have e0 : ((i + 1 : Nat) : Int) - 1 = (i : Int) := by rw [Int.natCast_add]; exact Int.add_sub_cancel _ _
  have hh := zoU n i
  have hle : n / 2 ^ i ≤ n := Nat.div_le_self _ _
  have hm : b ^ (n / 2 ^ (i + 1)) ≠ 0 := Nat.ne_of_gt (zih hb.1)
  have hsq : b ^ (n / 2 ^ (i + 1)) * b ^ (n / 2 ^ (i + 1)) = b ^ (2 * (n / 2 ^ (i + 1))) := by rw [← Nat.pow_add, Nat.two_mul]
  have hle2 : 2 * (n / 2 ^ (i + 1)) ≤ n / 2 ^ i := by rw [hh]; exact Nat.le_add_right _ _
  have hbit : Go.bits .and .i64 (shr .i64 (n : Int) (i : Int)) 1 = ((n / 2 ^ i % 2 : Nat) : Int) := by
   rw [zrt n i (Nat.le_of_lt hi), znm _ (Nat.lt_of_le_of_lt hle hn)]
  rw [e0]
  refine zqo (q := b ^ (n / 2 ^ i)) hbl hi hbit hm hl ?_ (zgM hb.1 hle) ?_ ?_ (fun h => zli hb hbl hn i (Nat.le_of_lt hi) h)
  ·rw [hsq]; exact zgM hb.1 (Nat.le_trans hle2 hle)
  ·intro c; rw [hsq, ← Nat.pow_succ]; congr 1; rw [c] at hh; exact hh.symm
  ·intro c
   have c' : n / 2 ^ i % 2 = 0 := (Nat.mod_two_eq_zero_or_one _).resolve_right c
   rw [hsq]; congr 1; rw [c'] at hh; exact hh.symm
theorem zia {b n : Nat} (hb : b < 4294967296) (hn : n < 9223372036854775808) : Ev (fun k => zQ.f k (b : Int) (n : Int)) (z6 (b ^ n)) := by
 have h1 : Nm [1] := by rw [← zdt]; exact zv 1
 have one : ∀ z, z = true → b ^ n = 1 → Ev (fun k => zQ.j0 k (b : Int) (n : Int) z) (z6 (b ^ n)) := by
  rintro z rfl e
  refine zf ?_
  simp only [zQ.j0]
  refine zd trivial (Ev.bind (zfF (by omega) (by omega)) (zh (Ev.now _) ?_))
  rw [e]
  exact (zfk (n := 1) (by rw [zdt]; simp)).symm
 unfold zQ.f
 refine ze (by omega) ?_
 by_cases c0 : n = 0
 ·refine zd (by omega) (one true rfl (by subst c0; simp))
 ·refine ze (by omega) ?_
  by_cases c1 : b = 1
  ·refine one _ (by subst c1; rfl) (by subst c1; simp)
  ·have e : decide ((b : Int) = 1) = false := decide_eq_false (by omega)
   rw [e]
   refine zf ?_
   simp only [zQ.j0]
   refine ze (by simp) ?_
   by_cases c2 : b = 0
   ·refine zd (by omega) (zh (Ev.now _) ?_)
    subst c2
    rw [Nat.zero_pow (by omega), zfk (by rw [zy]; simp), zy]
   ·refine ze (by omega) ?_
    by_cases c3 : n > 131072
    ·refine zd (by omega) (zh (Ev.now _) ?_)
     have p1 : 2 ^ n ≤ b ^ n := Nat.pow_le_pow_left (by omega) n
     exact (zr2 (by omega) p1).symm
    ·refine ze (by omega) (Ev.bind (zfF (by omega) (by omega)) ?_)
     rw [u64 (by omega) (by omega)]
     refine Ev.bind (zns (by omega)) ?_
     have hbl : bl n ≤ 63 := zI (by omega)
     rw [Int.toNat_natCast, zbL (by omega)]
     have := zli (b := b) (by omega) (Dg.cons (by omega) (by omega) Dg.nil) hn (bl n) (by omega)
     rw [Nat.div_eq_of_lt (zP n), Nat.pow_zero] at this
     exact this (by rw [zdt]; simp)
theorem zmp (n : Nat) (h : n < 9223372036854775808) : wrap64 (Int.tdiv (n : Int) 2) = ((n / 2 : Nat) : Int) := by
 rw [Int.tdiv_eq_ediv_of_nonneg (by omega), zau (by omega) (by omega)]; omega
theorem zrW (n : Nat) : Int.tmod (n : Int) 2 = ((n % 2 : Nat) : Int) := by
 rw [Int.tmod_eq_emod_of_nonneg (by omega)]; omega
theorem zrf {M K : Nat} (hK : K < 100000000) (hM : M < 4294967296 ^ K) : ∀ (n : Nat), n < 9223372036854775808 → ∀ (out sq : Nat) (o s : Nat), out ≤ o → sq ≤ s → 1 ≤ o → 1 ≤ s → (0 < n → s ≤ M) → o * s ^ n ≤ M → s < 4294967296 ^ K →
  Ev (fun k => zaI.l0 k (n : Int) (D out) (D sq)) (D (out * sq ^ n)) := by
 intro n
 induction n using Nat.strongRecOn with
 | _ n ih =>
  intro hn out sq o s ho hs h1 h2 hsM hT hs9
  have lenM : ∀ {x : Nat}, x ≤ M → (D x).length < 100000000 := by
   intro x hx
   have := zd4 (Nat.lt_of_le_of_lt hx hM)
   omega
  have hoM : out ≤ M := by
   have : o * 1 ≤ o * s ^ n := Nat.mul_le_mul_left _ (zih h2)
   omega
  have hls : (D sq).length < 100000000 := by have := zd4 (Nat.lt_of_le_of_lt hs hs9); omega
  refine zf ?_
  simp only [zaI.l0, zmp n hn, zrW]
  by_cases c : n = 0
  ·subst c
   refine ze (by omega) (zh (Ev.now _) ?_)
   simp
  ·refine zd (by omega) ?_
   have hsM' := hsM (by omega)
   have hsq : sq ^ n = (sq * sq) ^ (n / 2) * sq ^ (n % 2) := by
    rw [← Nat.pow_two, ← Nat.pow_mul, ← Nat.pow_add]; congr 1; omega
   have hsp : s ^ n = (s * s) ^ (n / 2) * s ^ (n % 2) := by
    rw [← Nat.pow_two, ← Nat.pow_mul, ← Nat.pow_add]; congr 1; omega
   have hss : 0 < n / 2 → s * s ≤ M := by
    intro h
    have h3 : s ^ 2 ≤ s ^ n := zgM h2 (by omega)
    have h4 : 1 * s ^ n ≤ o * s ^ n := Nat.mul_le_mul_right _ h1
    rw [Nat.pow_two] at h3
    omega
   have go : ∀ (out' o' : Nat), out' ≤ o' → 1 ≤ o' → o' * (s * s) ^ (n / 2) ≤ M → out' * (sq * sq) ^ (n / 2) = out * sq ^ n → (D out').length < 100000000 →
     Ev (fun k => zaI.j1 k (n : Int) (D out') (D sq)) (D (out * sq ^ n)) := by
    intro out' o' k1 k2 k3 k4 k5
    refine zf ?_
    simp only [zaI.j1, zmp n hn]
    by_cases c2 : 0 < n / 2
    ·refine zd (by omega) (Ev.bind (ziF (zM _) (zM _) hls hls) ?_)
     rw [V_D]
     have := ih (n / 2) (by omega) (by omega) out' (sq * sq) o' (s * s) k1 (Nat.mul_le_mul hs hs) k2 (Nat.mul_le_mul h2 h2) (fun _ => hss c2) k3 (Nat.lt_of_le_of_lt (hss c2) hM)
     rwa [k4] at this
    ·refine ze (by omega) ?_
     have e : n / 2 = 0 := by omega
     rw [e] at k3 k4 ⊢
     have := ih 0 (by omega) (by omega) out' sq o' s k1 hs k2 h2 (fun h => absurd h (by omega)) (by simpa using k3) hs9
     rwa [Nat.pow_zero, ← Nat.pow_zero (sq * sq), k4] at this
   by_cases c1 : n % 2 = 1
   ·refine zd (by omega) (Ev.bind (ziF (zM _) (zM _) (lenM hoM) hls) ?_)
    rw [V_D, V_D]
    have k3 : o * s * (s * s) ^ (n / 2) ≤ M := by
     rw [hsp, c1, Nat.pow_one] at hT
     have : o * s * (s * s) ^ (n / 2) = o * ((s * s) ^ (n / 2) * s) := by rw [Nat.mul_assoc, Nat.mul_comm s]
     omega
    refine go (out * sq) (o * s) (Nat.mul_le_mul ho hs) (Nat.mul_le_mul h1 h2) k3 ?_ ?_
    ·rw [hsq, c1, Nat.pow_one, Nat.mul_assoc, Nat.mul_comm sq]
    ·apply lenM
     have : o * s * 1 ≤ o * s * (s * s) ^ (n / 2) := Nat.mul_le_mul_left _ (zih (Nat.mul_le_mul h2 h2))
     have := Nat.mul_le_mul ho hs
     omega
   ·refine ze (by omega) ?_
    have c1' : n % 2 = 0 := by omega
    refine go out o ho h1 ?_ ?_ (lenM hoM)
    ·rw [hsp, c1', Nat.pow_zero, Nat.mul_one] at hT; exact hT
    ·rw [hsq, c1', Nat.pow_zero, Nat.mul_one]
theorem zqZ {b n : Nat} (hb : b < 4294967296) (hn : n < 9223372036854775808) {K : Nat} (hK : K < 100000000) (hK1 : 1 ≤ K) (h : (max 1 b) ^ n < 4294967296 ^ K) : Ev (fun k => zaI.f k (b : Int) (n : Int)) (D (b ^ n)) := by
 unfold zaI.f
 rw [u64 (by omega) (by omega)]
 refine Ev.bind (zeX (by omega) (by omega)) ?_
 rw [Int.toNat_natCast]
 have hs : max 1 b < 4294967296 ^ K := Nat.lt_of_lt_of_le (show max 1 b < 4294967296 ^ 1 by omega) (Nat.pow_le_pow_right (by omega) hK1)
 have := zrf (M := max 1 b ^ n) hK h n hn 1 b 1 (max 1 b) (by omega) (by omega) (by omega) (by omega) ?_ (by omega) hs
 ·rw [zdt, Nat.one_mul] at this; exact this
 ·intro h0
  have h1 : max 1 b ^ 1 ≤ max 1 b ^ n := zgM (by omega) h0
  rwa [Nat.pow_one] at h1
theorem zeA (b : Bool) : bN b < 2 := by cases b <;> decide
theorem zgd (b : Bool) : bN b = 0 ↔ b = false := by cases b <;> decide
def stk (Q : Nat) (b : Bool) : Nat := 2 * Q + bN b
theorem zge {Q : Nat} (h : Q ≠ 0) (b : Bool) : bl (stk Q b) = bl Q + 1 := by
 have hb := zeA b
 have : stk Q b / 2 ^ 1 = Q := by unfold stk; omega
 have h2 := zb6 (stk Q b) 1
 rw [this] at h2
 have h3 := zbx h
 have h4 : bl (stk Q b) ≠ 0 := fun e => by rw [e] at h2; omega
 omega
theorem znw {H r j : Nat} (h : H ≠ 0) (hr : r < 2 ^ j) : bl (H * 2 ^ j + r) = bl H + j := by
 have h1 : (H * 2 ^ j + r) / 2 ^ j = H := by
  rw [Nat.mul_comm, Nat.mul_add_div (zj j), Nat.div_eq_of_lt hr, Nat.add_zero]
 have h2 := zb6 (H * 2 ^ j + r) j
 rw [h1] at h2
 have := zbx h
 omega
theorem zgU {f m : Int} (h : isF f) (s : Bool) {H r j : Nat} (hH : pr f + 1 ≤ bl H) (hr : r < 2 ^ j) (e : Int) : zu f m s (H * 2 ^ j + r) e = zu f m s (stk H (decide (r ≠ 0))) (e + j - 1) := by
 have hpr := zL h
 have h0 : H ≠ 0 := fun c => by rw [c, zaG] at hH; omega
 have hb1 := znw h0 hr
 have hb2 := zge h0 (decide (r ≠ 0))
 rw [← zgT, ← zgT]
 have hT : e + j - 1 + (bl (stk H (decide (r ≠ 0))) : Nat) = e + (bl (H * 2 ^ j + r) : Nat) := by omega
 rw [hT]
 refine ziL fun E hE => ?_
 obtain ⟨d, hd⟩ : ∃ d : Nat, (E - e).toNat = d + j ∧ 1 ≤ d := ⟨(E - e).toNat - j, by omega, by omega⟩
 have e1 : (e - E).toNat = 0 := by omega
 have e2 : (e + j - 1 - E).toNat = 0 := by omega
 have e3 : (E - (e + j - 1)).toNat = d + 1 := by omega
 unfold R exR stk
 rw [e1, e2, e3, hd.1, Nat.pow_zero, Nat.mul_one, Nat.mul_one]
 exact ⟨zlI m s hr hd.2, decide_eq_decide.2 (zkg hr)⟩
theorem zoM (X Y j : Nat) (hY : 0 < Y) : ∃ r, r < 2 ^ j ∧ X * 2 ^ j / Y = X / Y * 2 ^ j + r ∧ (X % Y = 0 ↔ r = 0 ∧ X * 2 ^ j % Y = 0) := by
 have h1 := Nat.div_add_mod X Y
 have h2 := Nat.mod_lt X hY
 have e : X * 2 ^ j = Y * (X / Y * 2 ^ j) + X % Y * 2 ^ j := by
  conv => lhs; rw [← h1, Nat.add_mul, Nat.mul_assoc]
 refine ⟨X % Y * 2 ^ j / Y, ?_, ?_, ?_⟩
 ·rw [Nat.div_lt_iff_lt_mul hY, Nat.mul_comm]
  exact Nat.mul_lt_mul_of_pos_left h2 (zj j)
 ·rw [e, Nat.mul_add_div hY]
 ·rw [e, Nat.mul_add_mod]
  constructor
  ·intro c; rw [c]; simp
  ·intro ⟨c1, c2⟩
   have h3 := Nat.div_add_mod (X % Y * 2 ^ j) Y
   rw [c1, c2] at h3
   have h4 : X % Y * 2 ^ j = 0 := by rw [← h3]; simp
   rcases Nat.mul_eq_zero.1 h4 with h5 | h5
   ·exact h5
   ·have := zj j; omega
theorem zlO {f m : Int} (h : isF f) (s : Bool) {A B N : Nat} (hB : 0 < B) (hn : pr f + 1 ≤ bl (A * 2 ^ N / B)) (e : Int) (j : Nat) :
  zu f m s (stk (A * 2 ^ (N + j) / B) (decide (A * 2 ^ (N + j) % B ≠ 0))) (e - (N + j : Nat) - 1) = zu f m s (stk (A * 2 ^ N / B) (decide (A * 2 ^ N % B ≠ 0))) (e - N - 1) := by
 obtain ⟨r, hr, hq, hz⟩ := zoM (A * 2 ^ N) B j hB
 rw [Nat.pow_add, ← Nat.mul_assoc]
 rw [hq]
 have hb := zeA (decide (A * 2 ^ N * 2 ^ j % B ≠ 0))
 have hs : stk (A * 2 ^ N / B * 2 ^ j + r) (decide (A * 2 ^ N * 2 ^ j % B ≠ 0)) = A * 2 ^ N / B * 2 ^ (j + 1) + (2 * r + bN (decide (A * 2 ^ N * 2 ^ j % B ≠ 0))) := by
  unfold stk
  rw [Nat.pow_succ, ← Nat.mul_assoc]; omega
 rw [hs, zgU h s hn (by rw [Nat.pow_succ]; omega)]
 have hd : decide (2 * r + bN (decide (A * 2 ^ N * 2 ^ j % B ≠ 0)) ≠ 0) = decide (A * 2 ^ N % B ≠ 0) := by
  apply decide_eq_decide.2
  have := zgd (decide (A * 2 ^ N * 2 ^ j % B ≠ 0))
  have h3 : bN (decide (A * 2 ^ N * 2 ^ j % B ≠ 0)) = 0 ↔ A * 2 ^ N * 2 ^ j % B = 0 := by rw [this]; simp
  constructor
  ·intro c c2
   have := hz.1 c2
   exact c (by rw [h3.2 this.2, this.1])
  ·intro c c2
   exact c (hz.2 ⟨by omega, h3.1 (by omega)⟩)
 rw [hd]
 congr 1
 omega
def rq (f m : Int) (s : Bool) (A B : Nat) (e : Int) : Int × Int :=
 zu f m s (stk (A * 2 ^ (bl B + 64) / B) (decide (A * 2 ^ (bl B + 64) % B ≠ 0))) (e - (bl B + 64 : Nat) - 1)
theorem zfQ {A B : Nat} (hA : A ≠ 0) (hB : 0 < B) : 64 + 1 ≤ bl (A * 2 ^ (bl B + 64) / B) := by
 have := (zfJ hA (Nat.ne_of_gt hB) (bl B + 64) (by omega)).1
 have := zbx hA
 omega
theorem ze0 {f m : Int} (h : isF f) (s : Bool) {A B : Nat} (hA : A ≠ 0) (hB : 0 < B) (e : Int) (N : Nat) (hn : pr f + 1 ≤ bl (A * 2 ^ N / B)) :
  zu f m s (stk (A * 2 ^ N / B) (decide (A * 2 ^ N % B ≠ 0))) (e - N - 1) = rq f m s A B e := by
 have hpr := zL h
 have hfb := zab h
 have hb := zfQ hA hB
 unfold rq
 have h1 := zlO (m := m) h s hB hn e (bl B + 64)
 have h2 := zlO (m := m) h s (A := A) (N := bl B + 64) hB (by omega) e N
 rw [← h1, ← h2, Nat.add_comm N]
theorem zfR {f m : Int} (h : isF f) (s : Bool) {A B c : Nat} (hA : A ≠ 0) (hB : 0 < B) (hc : 0 < c) (e : Int) : rq f m s (A * c) (B * c) e = rq f m s A B e := by
 have hAc : A * c ≠ 0 := Nat.mul_ne_zero hA (by omega)
 have hBc : 0 < B * c := Nat.mul_pos hB hc
 have hpr := zL h
 have hfb := zab h
 have hb := zfQ hAc hBc
 have e1 : A * c * 2 ^ (bl (B * c) + 64) = A * 2 ^ (bl (B * c) + 64) * c := Nat.mul_right_comm _ _ _
 have e2 : A * c * 2 ^ (bl (B * c) + 64) / (B * c) = A * 2 ^ (bl (B * c) + 64) / B := by rw [e1, Nat.mul_div_mul_right _ _ hc]
 have e3 : A * c * 2 ^ (bl (B * c) + 64) % (B * c) = A * 2 ^ (bl (B * c) + 64) % B * c := by rw [e1, Nat.mul_mod_mul_right]
 rw [e2] at hb
 rw [← ze0 h s hA hB e (bl (B * c) + 64) (by omega)]
 unfold rq
 rw [e2, e3]
 have hd : decide (A * 2 ^ (bl (B * c) + 64) % B * c ≠ 0) = decide (A * 2 ^ (bl (B * c) + 64) % B ≠ 0) := by
  apply decide_eq_decide.2
  rw [Ne, Nat.mul_eq_zero]
  omega
 rw [hd]
theorem zfS {f m : Int} (h : isF f) (s : Bool) {A B : Nat} (hA : A ≠ 0) (hB : 0 < B) (e : Int) (j : Nat) : rq f m s (A * 2 ^ j) B e = rq f m s A B (e + j) := by
 have hAj : A * 2 ^ j ≠ 0 := Nat.mul_ne_zero hA (Nat.ne_of_gt (zj j))
 have hpr := zL h
 have hfb := zab h
 have hb := zfQ hAj hB
 have e1 : A * 2 ^ j * 2 ^ (bl B + 64) = A * 2 ^ (bl B + 64 + j) := by rw [Nat.mul_assoc, ← Nat.pow_add, Nat.add_comm j]
 rw [e1] at hb
 rw [← ze0 h s hA hB (e + j) (bl B + 64 + j) (by omega)]
 have e2 : e + (j : Int) - ((bl B + 64 + j : Nat) : Int) - 1 = e - ((bl B + 64 : Nat) : Int) - 1 := by omega
 rw [e2]
 unfold rq
 rw [e1]
theorem zrA {f m : Int} (s : Bool) {A : Nat} (hA : A ≠ 0) (e : Int) (N : Nat) : zu f m s (stk (A * 2 ^ N / 1) (decide (A * 2 ^ N % 1 ≠ 0))) (e - N - 1) = zu f m s A e := by
 have e2 : stk (A * 2 ^ N / 1) (decide (A * 2 ^ N % 1 ≠ 0)) = A * 2 ^ (N + 1) := by
  have e3 : bN (decide (A * 2 ^ N % 1 ≠ 0)) = 0 := by rw [zgd, decide_eq_false_iff_not]; simp [Nat.mod_one]
  unfold stk
  rw [e3, Nat.div_one, Nat.pow_succ, Nat.add_zero, ← Nat.mul_assoc A, Nat.mul_comm 2]
 rw [e2, zgV f m s hA]
 congr 1
 omega
theorem zgW {f m : Int} (h : isF f) (s : Bool) {A : Nat} (hA : A ≠ 0) (e : Int) : rq f m s A 1 e = zu f m s A e := zrA s hA e (bl 1 + 64)
theorem zrh {f m : Int} (h : isF f) (s : Bool) {A B A' B' : Nat} (hA : A ≠ 0) (hA' : A' ≠ 0) (hB : 0 < B) (hB' : 0 < B') (hx : A * B' = A' * B) (e : Int) : rq f m s A B e = rq f m s A' B' e := by
 rw [← zfR h s hA hB hB' e, ← zfR h s hA' hB' hB e, hx, Nat.mul_comm B B']
theorem zrg {f m : Int} (h : isF f) (s : Bool) {A B : Nat} (hB : 0 < B) {e : Int} {k : Nat} (hk : B * 2 ^ k ≤ A) (he : wd f ≤ e + k) : rq f m s A B e = ((zcR f m s : Int), 20) := by
 have hA : A ≠ 0 := fun c => by have := Nat.mul_pos hB (zj k); omega
 have hQ : 2 ^ (k + (bl B + 64)) ≤ A * 2 ^ (bl B + 64) / B := by
  rw [Nat.le_div_iff_mul_le hB, Nat.pow_add, Nat.mul_right_comm, Nat.mul_comm (2 ^ k)]
  exact Nat.mul_le_mul_right _ hk
 have hQ0 : A * 2 ^ (bl B + 64) / B ≠ 0 := Nat.ne_of_gt (Nat.lt_of_lt_of_le (zj _) hQ)
 have hbl := zV hQ
 have h2 := zaj (v := 1) (by omega) (k + (bl B + 64))
 rw [Nat.one_mul, show bl 1 = 1 by decide] at h2
 have hst := zge hQ0 (decide (A * 2 ^ (bl B + 64) % B ≠ 0))
 unfold rq
 refine zrc h (fun c => ?_) ?_
 ·rw [c, zaG] at hst; omega
 ·omega
theorem zrj {f m : Int} (h : isF f) (s : Bool) {A B : Nat} (hA : A ≠ 0) (hB : 0 < B) {e : Int} {k : Nat} (hk : A * 2 ^ k < B) (he : e - k < lo f) :
  rq f m s A B e = zu f m s 1 (lo f - 2) := by
 have hQ : A * 2 ^ (bl B + 64) / B < 2 ^ (bl B + 64 - k) := by
  have hkB : k < bl B := by
   have h1 := zP B
   have h2 : 1 * 2 ^ k ≤ A * 2 ^ k := Nat.mul_le_mul_right _ (by omega)
   exact (Nat.pow_lt_pow_iff_right (by omega)).1 (show 2 ^ k < 2 ^ bl B by omega)
  rw [Nat.div_lt_iff_lt_mul hB]
  have e1 : A * 2 ^ (bl B + 64) = 2 ^ (bl B + 64 - k) * (A * 2 ^ k) := by
   rw [Nat.mul_left_comm, ← Nat.pow_add, show bl B + 64 - k + k = bl B + 64 by omega]
  rw [e1]
  exact Nat.mul_lt_mul_of_pos_left hk (zj _)
 have hb := zfQ hA hB
 have hQ0 : A * 2 ^ (bl B + 64) / B ≠ 0 := fun c => by rw [c, zaG] at hb; omega
 have h2 := zI hQ
 have hst := zge hQ0 (decide (A * 2 ^ (bl B + 64) % B ≠ 0))
 have hs0 : stk (A * 2 ^ (bl B + 64) / B) (decide (A * 2 ^ (bl B + 64) % B ≠ 0)) ≠ 0 := fun c => by rw [c, zaG] at hst; omega
 unfold rq
 rw [zlK h hs0 (by omega), zlK h (by omega) (by rw [show bl 1 = 1 by decide]; omega)]
theorem zp3 {f m : Int} (h : isF f) (hm : isM m) {s s' : Bool} {l l' : List Int} {e e' : Int} (hd : My s l e) (hd' : My s' l' e') : Ev (fun k => zae.f k f m [(s, l, e), (s', l', e')]) ((pr f : Int), lo f, wd f, 0) := by
 unfold zae.f
 unfold isM at hm
 refine zi (zhX h) ?_; try dsimp only
 refine ze (by simp) (ze (by omega) (ze (by omega) ?_))
 have e1 : wrap64 (0 + 1) = 1 := by rw [zau (by omega) (by omega)]; rfl
 have e2 : wrap64 (1 + 1) = 2 := by rw [zau (by omega) (by omega)]; rfl
 have el : (([(s, l, e), (s', l', e')] : List (Bool × List Int × Int)).length : Int) = 2 := rfl
 have r0 : rdT [.b, .is .u32, .i .i64] [(s, l, e), (s', l', e')] 0 = (s, l, e) := rfl
 have r1 : rdT [.b, .is .u32, .i .i64] [(s, l, e), (s', l', e')] 1 = (s', l', e') := rfl
 refine zf ?_
 simp only [zae.l0, el, e1, r0]
 refine zd (by decide) (zd (by decide) (zd (by decide) ?_))
 refine zi (zdJ hd) ?_; try dsimp only
 refine ze (by simp) (zf ?_)
 simp only [zae.l0, el, e2, r1]
 refine zd (by decide) (zd (by decide) (zd (by decide) ?_))
 refine zi (zdJ hd') ?_; try dsimp only
 refine ze (by simp) (zf ?_)
 simp only [zae.l0]
 exact ze (by decide) (Ev.now _)
theorem zoV {n j : Nat} (h : bl n + j = 64) : z7 n = n * 2 ^ j ∧ zbD n = false := by
 unfold z7 zbD
 have e1 : 64 - bl n = j := by omega
 have e2 : bl n - 64 = 0 := by omega
 rw [e1, e2, Nat.pow_zero, Nat.div_one, Nat.mod_one]
 exact ⟨rfl, rfl⟩
def qN (A B : Nat) : Nat := 65 + bl B - bl A
def qC (A B : Nat) : Nat := bl (A * 2 ^ qN A B / B) - 64
def qH (A B : Nat) : Nat := A * 2 ^ qN A B / B / 2 ^ qC A B
def qL (A B : Nat) : Bool := decide (A * 2 ^ qN A B / B % 2 ^ qC A B ≠ 0) || decide (A * 2 ^ qN A B % B ≠ 0)
theorem zis {A B : Nat} (hA : A ≠ 0) (hB : B ≠ 0) : 65 ≤ bl (A * 2 ^ qN A B / B) ∧ bl (A * 2 ^ qN A B / B) ≤ bl A + 66 ∧ bl (qH A B) = 64 := by
 have h1 : qN A B = 65 + bl B - bl A := rfl
 have h2 : qC A B = bl (A * 2 ^ qN A B / B) - 64 := rfl
 have := zfJ hA hB (qN A B) (by omega)
 have hp := zbx hA
 have hd : bl (qH A B) = bl (A * 2 ^ qN A B / B) - qC A B := zb6 _ _
 refine ⟨by omega, by omega, by omega⟩
theorem zpy {x c n : Nat} (l : Bool) (hx : bl x ≤ 33000) (hc : c = bl x - 64) (h64 : 64 ≤ bl x) (hn : n ≤ 1000000) : Ev (fun k => zdb.f k false (D x) (0 - (n : Int)) l 64) ((mk ((x / 2 ^ c : Nat) : Int) (0 - (n : Int) + (c : Int))).1, (mk ((x / 2 ^ c : Nat) : Int) (0 - (n : Int) + (c : Int))).2.1, (mk ((x / 2 ^ c : Nat) : Int) (0 - (n : Int) + (c : Int))).2.2, (decide (x % 2 ^ c ≠ 0) || l), 0) := by
 have lx := zaq (x := x) (k := 2100) (by omega)
 have hl := zeS (zv x) (by omega)
 have hs2 := zfG (zv x) (by omega) (-(c : Int))
 rw [V_D] at hl hs2
 rw [ziR (by omega) (by omega)] at hs2
 have hm := zdI false (zv (x / 2 ^ c)) (by
  have h1 := zb6 x c
  have := zaq (x := x / 2 ^ c) (k := 2100) (by omega)
  omega) (0 - (n : Int) + (c : Int))
 rw [V_D, zdK (by omega) (by have := zb6 x c; omega)] at hm
 rw [show sv false (x / 2 ^ c) = ((x / 2 ^ c : Nat) : Int) from rfl] at hm
 have w4 : mx 0 (wrap64 (((bl x : Nat) : Int) - 64)) = (c : Int) := by
  rw [zgC, zd3 (by omega) (by omega) (by omega) (by omega)]; omega
 have w5 : wrap64 (-(c : Int)) = -(c : Int) := zf1 (by omega) (by omega)
 have w6 : wrap64 (0 - (n : Int) + (c : Int)) = 0 - (n : Int) + (c : Int) := zdY (by omega) (by omega) (by omega) (by omega)
 unfold zdb.f
 refine Ev.bind (hl) ?_; try dsimp only
 rw [w4, w5, w6]
 clear w4 w5 w6
 refine Ev.bind (hs2) ?_; try dsimp only
 refine Ev.bind (hm) ?_; try dsimp only
 refine ze (by unfold ok3; simp) ?_
 by_cases c1 : x % 2 ^ c ≠ 0
 ·refine zd (decide_eq_true c1) (zh (Ev.now _) ?_)
  rw [decide_eq_true c1, Bool.true_or]; rfl
 ·refine ze (by simpa using c1) (zh (Ev.now _) ?_)
  rw [decide_eq_false c1, Bool.false_or]; rfl
theorem zsG {n x y : Nat} (hn : n = 65 + x - y) (h1 : x ≤ 1000000) (h2 : y ≤ 1000000) : mx 0 (wrap64 (wrap64 (wrap64 (64 + 1) + (x : Int)) - (y : Int))) = (n : Int) := by
 have e : wrap64 (wrap64 (wrap64 (64 + 1) + (x : Int)) - (y : Int)) = 65 + (x : Int) - (y : Int) := by unfold wrap64; omega
 rw [zgC, e]
 clear e
 omega
theorem zsJ {n : Nat} (h : n ≤ 1000000) : wrap64 (wrap64 (0 - 0) - (n : Int)) = 0 - (n : Int) := by unfold wrap64; omega
theorem zot {la lb : List Int} (ha : Nm la) (hb : Nm lb) (ma : My false la 0) (mb : My false lb 0) (A0 : V la ≠ 0) (B0 : V lb ≠ 0) (l1 : bl (V la) ≤ 32000) (l2 : bl (V lb) ≤ 32000) :
  Ev (fun k => zct.f k false la 0 false lb 0 64) ((mk (qH (V la) (V lb)) (0 - (qN (V la) (V lb) : Nat) + (qC (V la) (V lb) : Nat))).1, (mk (qH (V la) (V lb)) (0 - (qN (V la) (V lb) : Nat) + (qC (V la) (V lb) : Nat))).2.1, (mk (qH (V la) (V lb)) (0 - (qN (V la) (V lb) : Nat) + (qC (V la) (V lb) : Nat))).2.2, qL (V la) (V lb), 0) := by
 have lla := ma.len
 have llb := mb.len
 have ane : la ≠ [] := fun h => A0 (by rw [h]; rfl)
 have lne : lb ≠ [] := fun h => B0 (by rw [h]; rfl)
 have hN : qN (V la) (V lb) = 65 + bl (V lb) - bl (V la) := rfl
 have hC : qC (V la) (V lb) = bl (V la * 2 ^ qN (V la) (V lb) / V lb) - 64 := rfl
 have hH : qH (V la) (V lb) = V la * 2 ^ qN (V la) (V lb) / V lb / 2 ^ qC (V la) (V lb) := rfl
 have hL : qL (V la) (V lb) = (decide (V la * 2 ^ qN (V la) (V lb) / V lb % 2 ^ qC (V la) (V lb) ≠ 0) || decide (V la * 2 ^ qN (V la) (V lb) % V lb ≠ 0)) := rfl
 obtain ⟨b1, b2, b3⟩ := zis A0 B0
 have hs := zfG ha lla (qN (V la) (V lb) : Nat)
 rw [ziS (by omega)] at hs
 have hup := zcp (V la) (qN (V la) (V lb))
 have hll := zaq (x := V la * 2 ^ qN (V la) (V lb)) (k := 2100) (by omega)
 have hq := zpO (zv (V la * 2 ^ qN (V la) (V lb))) hb (by omega) llb
 rw [V_D] at hq
 unfold zit at hq
 rw [if_neg B0] at hq
 have hn6 : qN (V la) (V lb) ≤ 1000000 := by omega
 have w2 : wrap64 (131072 - ((bl (V la) : Nat) : Int)) = 131072 - ((bl (V la) : Nat) : Int) := zd3 (by omega) (by omega) (by omega) (by omega)
 have w3 := zsJ hn6
 have w1 := zsG hN (Nat.le_trans l2 (by decide)) (Nat.le_trans l1 (by decide))
 unfold zct.f
 refine Ev.bind (zkc ma mb) ?_; try dsimp only
 refine ze (by simp) ?_
 rw [show decide ((64 : Int) < 1) = false from rfl]
 refine zf ?_
 simp only [zct.j0]
 refine ze (by simp) ?_
 have ask : zfu.f 64 = some 0 := rfl
 refine zi (ask) ?_; try dsimp only
 refine ze (by simp) (ze (fun h => lne (zcy.1 h)) (ze (fun h => ane (zcy.1 h)) ?_))
 refine Ev.bind (zeS hb llb) ?_; try dsimp only
 refine Ev.bind (zeS ha lla) ?_; try dsimp only
 refine Ev.bind (zeS ha lla) ?_; try dsimp only
 rw [w1, w2, w3]
 clear w1 w2 w3
 refine ze (by omega) ?_
 refine Ev.bind (hs) ?_; try dsimp only
 refine Ev.bind (hq) ?_; try dsimp only
 rw [hL, hH]
 generalize qN (V la) (V lb) = n at *
 generalize qC (V la) (V lb) = c at *
 have hdz : decide (((D (V la * 2 ^ n % V lb)).length : Int) > 0) = decide (V la * 2 ^ n % V lb ≠ 0) := by
  generalize V la * 2 ^ n % V lb = y
  exact decide_eq_decide.2 (by
   constructor
   ·intro h h2; rw [h2, zy] at h; simp at h
   ·intro h
    have : (D y) ≠ [] := fun h2 => h (by rw [← V_D y, h2]; rfl)
    exact zfy this)
 rw [hdz]
 clear hdz
 have hlen := zV (Nat.div_le_self (V la * 2 ^ n) (V lb))
 generalize V la * 2 ^ n % V lb = y at *
 generalize V la * 2 ^ n / V lb = x at *
 have hmd := zpy (x := x) (c := c) (n := n) (decide (y ≠ 0)) (by omega) hC (by omega) (by omega)
 refine Ev.bind (hmd) ?_; try dsimp only
 exact Ev.now _
theorem zkA (x y : Nat) : (decide (x ≠ 0) || decide (y ≠ 0)) = decide (2 * x + bN (decide (y ≠ 0)) ≠ 0) := by
 by_cases c1 : x = 0
 ·subst c1
  by_cases c2 : y = 0
  ·subst c2; rfl
  ·have e : decide (y ≠ 0) = true := decide_eq_true c2
   rw [e]; rfl
 ·have e : decide (x ≠ 0) = true := decide_eq_true c1
  rw [e, Bool.true_or]
  exact (decide_eq_true (by omega)).symm
theorem zqx {f m : Int} (h : isF f) (s : Bool) {A B : Nat} (hA : A ≠ 0) (hB : B ≠ 0) (e : Int) :
  zu f m s (stk (qH A B) (qL A B)) (e - (qN A B : Nat) + (qC A B : Nat) - 1) = rq f m s A B e := by
 have hpr := zL h
 have hfb := zab h
 obtain ⟨b1, b2, b3⟩ := zis hA hB
 have hn := ze0 (m := m) h s hA (Nat.pos_of_ne_zero hB) e (qN A B) (by omega)
 rw [← hn]
 have hH : qH A B = A * 2 ^ qN A B / B / 2 ^ qC A B := rfl
 have hL : qL A B = (decide (A * 2 ^ qN A B / B % 2 ^ qC A B ≠ 0) || decide (A * 2 ^ qN A B % B ≠ 0)) := rfl
 rw [hL]
 rw [hH] at b3 ⊢
 generalize qN A B = n at *
 generalize qC A B = c at *
 generalize A * 2 ^ n % B = y at *
 generalize A * 2 ^ n / B = x at *
 have hr := Nat.mod_lt x (zj c)
 have hx := Nat.div_add_mod x (2 ^ c)
 have hb := zeA (decide (y ≠ 0))
 have hs : stk x (decide (y ≠ 0)) = x / 2 ^ c * 2 ^ (c + 1) + (2 * (x % 2 ^ c) + bN (decide (y ≠ 0))) := by
  unfold stk
  conv => lhs; rw [← hx]
  rw [Nat.pow_succ, Nat.mul_comm (2 ^ c), ← Nat.mul_assoc]; omega
 rw [hs, zgU h s (by omega) (by rw [Nat.pow_succ]; omega)]
 have hd := zkA (x % 2 ^ c) y
 rw [hd]
 congr 1
 omega
theorem zm9 {f m : Int} (h : isF f) (s : Bool) {H : Nat} (hH : bl H = 64) (T : Int) (b : Bool) : zdl f m s T (UP m s H T b) (XP H T b) = zu f m s (stk H b) (T - 65) := by
 have hpr := zL h
 have hfb := zab h
 have h0 : H ≠ 0 := fun c => by rw [c, zaG] at hH; omega
 have hb := zge h0 b
 rw [← zgT]
 have hT : T - 65 + (bl (stk H b) : Nat) = T := by omega
 rw [hT]
 refine ziL fun E hE => ?_
 unfold UP XP R exR stk
 have e1 : (T - 65 - E).toNat = 0 := by omega
 have e2 : (E - (T - 65)).toNat = (E - T + 64).toNat + 1 := by omega
 rw [e1, e2, Nat.pow_zero, Nat.mul_one]
 exact ⟨rfl, rfl⟩
theorem zm2 {f m : Int} (h : isF f) (hm : isM m) {sa sb : Bool} {la lb : List Int} {ea eb : Int} (ha : My sa la ea) (hb : My sb lb eb) (A0 : V la ≠ 0) (B0 : V lb ≠ 0) (l1 : bl (V la) ≤ 32000) (l2 : bl (V lb) ≤ 32000) :
    Ev (fun k => zck.f k f m sa la ea sb lb eb) ((rq f m (decide (¬ sa = sb)) (V la) (V lb) (ea - eb)).1, (rq f m (decide (¬ sa = sb)) (V la) (V lb) (ea - eb)).2, 0) := by
  have ma : My false la 0 := ⟨⟨ha.dy.nm, fun h => ⟨rfl, rfl⟩, ha.dy.odd⟩, ha.len, by omega, by omega⟩
  have mb : My false lb 0 := ⟨⟨hb.dy.nm, fun h => ⟨rfl, rfl⟩, hb.dy.odd⟩, hb.len, by omega, by omega⟩
  have h1 := ha.lo
  have h2 := ha.hi
  have h3 := hb.lo
  have h4 := hb.hi
  have hq := zot ha.dy.nm hb.dy.nm ma mb A0 B0 l1 l2
  have hr := zqx (m := m) h (decide (¬ sa = sb)) A0 B0 (ea - eb)
  obtain ⟨b1, b2, b3⟩ := zis A0 B0
  have hN : qN (V la) (V lb) = 65 + bl (V lb) - bl (V la) := rfl
  have hC : qC (V la) (V lb) = bl (V la * 2 ^ qN (V la) (V lb) / V lb) - 64 := rfl
  rw [← hr]
  clear hr
  generalize qN (V la) (V lb) = n at *
  generalize qC (V la) (V lb) = c at *
  generalize qH (V la) (V lb) = H at *
  generalize qL (V la) (V lb) = L at *
  have H0 : (H : Int) ≠ 0 := fun h => by have : H = 0 := by omega
                                         rw [this, zaG] at b3; omega
  obtain ⟨j, j1, j2, j3, j4⟩ := zbr H0 (0 - (n : Int) + (c : Int))
  rw [Int.natAbs_natCast] at j1
  have hj : bl (V (mk (H : Int) (0 - (n : Int) + (c : Int))).2.1) + j = 64 := by
    have := zaj j4 j
    rw [← j1] at this; omega
  have hd := zY (H : Int) (0 - (n : Int) + (c : Int))
  generalize (mk (H : Int) (0 - (n : Int) + (c : Int))) = g at *
  obtain ⟨g1, g2, g3⟩ := g
  dsimp only at *
  have hl := hd.nm.len
  have hlb := zaq (x := V g2) (k := 2) (by omega)
  have hmy : My g1 g2 g3 := ⟨hd, by omega, by omega, by omega⟩
  have hp := zk8 hmy j4
  obtain ⟨k1, k2⟩ := zoV hj
  rw [k1, k2, ← j1] at hp
  have hT : ∀ b, zdl f m (decide (¬ sa = sb)) (g3 + (bl (V g2) : Nat) + (ea - eb)) (UP m (decide (¬ sa = sb)) H (g3 + (bl (V g2) : Nat) + (ea - eb)) b) (XP H (g3 + (bl (V g2) : Nat) + (ea - eb)) b) = zu f m (decide (¬ sa = sb)) (stk H b) (ea - eb - (n : Int) + (c : Int) - 1) := by
    intro b
    rw [zm9 h _ b3]
    congr 1
    omega
  have HH : 2 ^ 63 ≤ H ∧ H < 2 ^ 64 := by
    have hne : H ≠ 0 := fun h => H0 (by omega)
    have u1 := zc3 hne
    have u2 := zP H
    rw [b3] at u1 u2
    exact ⟨u1, u2⟩
  have w1 : wrap64 (ea - eb) = ea - eb := zd3 (by omega) (by omega) (by omega) (by omega)
  have w2 : wrap64 (g3 + ((bl (V g2) : Nat) : Int) + (ea - eb)) = g3 + ((bl (V g2) : Nat) : Int) + (ea - eb) := zdY (by omega) (by omega) (by omega) (by omega)
  have hw := fun b => zk9 h hm (decide (¬ sa = sb)) HH (T := g3 + (bl (V g2) : Nat) + (ea - eb)) b (by omega) (by omega)
  have last : ∀ b : Bool, Ev (fun k => zck.j1 k f m sa la ea sb lb eb (pr f : Int) (lo f) (wd f) (decide (¬ sa = sb)) (H : Int) (g3 + ((bl (V g2) : Nat) : Int)) b) ((zu f m (decide (¬ sa = sb)) (stk H b) (ea - eb - (n : Int) + (c : Int) - 1)).1, (zu f m (decide (¬ sa = sb)) (stk H b) (ea - eb - (n : Int) + (c : Int) - 1)).2, 0) := by
    intro b
    refine zf ?_
    simp only [zck.j1, w1, w2]
    refine Ev.bind (hw b) ?_
    rw [hT b]
    exact Ev.now _
  clear w1 w2
  unfold zck.f
  refine Ev.bind (zp3 h hm ha hb) ?_; try dsimp only
  refine ze (by simp) ?_
  refine Ev.bind (zhO hb) ?_; try dsimp only
  refine ze (by rw [zeu B0]; split <;> omega) ?_
  refine Ev.bind (zhO ha) ?_; try dsimp only
  refine ze (by rw [zeu A0]; split <;> omega) ?_
  refine Ev.bind (hq) ?_; try dsimp only
  refine Ev.bind (hp) ?_; try dsimp only
  refine ze (by simp) ?_
  exact last L
theorem zqS {f m : Int} (h : isF f) (hm : isM m) {sa sb : Bool} {la lb : List Int} {ea eb : Int} (ha : Dy sa la ea) (hb : Dy sb lb eb) (A0 : V la ≠ 0) (B0 : V lb ≠ 0) (l1 : bl (V la) ≤ 300000) (l2 : bl (V lb) ≤ 300000) (h1 : -100000 ≤ ea) (h2 : ea ≤ 100000) (h3 : -100000 ≤ eb) (h4 : eb ≤ 100000) :
  Ev (fun k => zeJ.f k f m sa la ea sb lb eb) (rq f m (decide (¬ sa = sb)) (V la) (V lb) (ea - eb)) := by
 have hpr := zL h
 have hfb := zab h
 have ll1 := zaq (k := 10000) (x := V la) (by omega)
 have ll2 := zaq (k := 10000) (x := V lb) (by omega)
 rw [ha.nm.len] at ll1
 rw [hb.nm.len] at ll2
 have hq := zqJ ha hb A0 B0 (by omega) (by omega) (by omega) (by omega) (by omega) (by omega) 60 (by omega)
 have hQb := zqz (b := 60) A0 B0
 have hCb := zqy (b := 60) A0 B0
 have hN : zt (V la) (V lb) 60 = 60 + 1 + bl (V lb) - bl (V la) := rfl
 have hC : zad (V la) (V lb) 60 = bl (V la * 2 ^ zt (V la) (V lb) 60 / V lb) - 60 := rfl
 have hqt := zfJ A0 B0 (zt (V la) (V lb) 60) (by omega)
 have hrq := ze0 (m := m) h (sa != sb) A0 (Nat.pos_of_ne_zero B0) (ea - eb) (zt (V la) (V lb) 60) (by omega)
 have hne : (decide (¬ sa = sb)) = (sa != sb) := by cases sa <;> cases sb <;> rfl
 rw [hne]
 have hres : zu f m (sa != sb) (stk (zbG (V la) (V lb) 60) (zdP (V la) (V lb) 60)) (ea - eb - (zt (V la) (V lb) 60 : Nat) + (zad (V la) (V lb) 60 : Nat) - 1) = rq f m (sa != sb) (V la) (V lb) (ea - eb) := by
  rw [← hrq]
  have eQ : zbG (V la) (V lb) 60 = V la * 2 ^ zt (V la) (V lb) 60 / V lb / 2 ^ zad (V la) (V lb) 60 := by unfold zbG; rw [Nat.div_div_eq_div_mul]
  have eL : zdP (V la) (V lb) 60 = (decide (V la * 2 ^ zt (V la) (V lb) 60 / V lb % 2 ^ zad (V la) (V lb) 60 ≠ 0) || decide (V la * 2 ^ zt (V la) (V lb) 60 % V lb ≠ 0)) := by
   unfold zdP
   rw [Nat.mod_mul]
   generalize V la * 2 ^ zt (V la) (V lb) 60 / V lb % 2 ^ zad (V la) (V lb) 60 = x
   generalize V la * 2 ^ zt (V la) (V lb) 60 % V lb = y
   by_cases c : x = 0
   ·subst c; simp
   ·have : V lb * x ≠ 0 := Nat.mul_ne_zero (by omega) c
    rw [decide_eq_true (show y + V lb * x ≠ 0 by omega), decide_eq_true c, Bool.true_or]
  rw [eL]
  rw [eQ] at hQb ⊢
  generalize zt (V la) (V lb) 60 = n at *
  generalize zad (V la) (V lb) 60 = c at *
  generalize V la * 2 ^ n % V lb = y at *
  generalize V la * 2 ^ n / V lb = x at *
  have hr := Nat.mod_lt x (zj c)
  have hx := Nat.div_add_mod x (2 ^ c)
  have hb := zeA (decide (y ≠ 0))
  have hs : stk x (decide (y ≠ 0)) = x / 2 ^ c * 2 ^ (c + 1) + (2 * (x % 2 ^ c) + bN (decide (y ≠ 0))) := by
   unfold stk
   conv => lhs; rw [← hx]
   rw [Nat.pow_succ, Nat.mul_comm (2 ^ c), ← Nat.mul_assoc]; omega
  rw [hs, zgU h _ (by omega) (by rw [Nat.pow_succ]; omega)]
  have hd := zkA (x % 2 ^ c) y
  rw [hd]
  congr 1
  omega
 clear hrq hqt
 rw [← hres]
 clear hres
 generalize zt (V la) (V lb) 60 = n at *
 generalize zad (V la) (V lb) 60 = c at *
 generalize zbG (V la) (V lb) 60 = Q at *
 generalize zdP (V la) (V lb) 60 = L at *
 generalize he : ea - eb - (n : Int) + (c : Int) = e at *
 have Q0 : Q ≠ 0 := fun h => by rw [h, zaG] at hQb; omega
 have z0 : sv (sa != sb) Q ≠ 0 := fun h => Q0 (za3.1 h)
 have zb : bl (sv (sa != sb) Q).natAbs = 60 := by rw [zT, hQb]
 have zs : decide (sv (sa != sb) Q < 0) = (sa != sb) := zcC Q0
 unfold zeJ.f
 refine Ev.bind (hq) ?_; try dsimp only
 cases L
 ·have hr := ziw h hm z0 (e := e) (by omega) (by omega) (by omega)
  rw [zs, zT] at hr
  have hst : zu f m (sa != sb) (stk Q false) (e - 1) = zu f m (sa != sb) Q e := by
   have : stk Q false = Q * 2 ^ 1 := by unfold stk bN; rw [if_neg (by decide), Nat.pow_one]; omega
   rw [this, zgV f m _ Q0]
   congr 1
   omega
  rw [hst]
  have hb : Ev (fun k => zdC.f k (mk (sv (sa != sb) Q) e).1 (mk (sv (sa != sb) Q) e).2.1 (mk (sv (sa != sb) Q) e).2.2 false) (mk (sv (sa != sb) Q) e) := by
   unfold zdC.f
   exact zd rfl (Ev.now _)
  refine Ev.bind (hb) ?_; try dsimp only
  refine Ev.bind (hr) ?_; try dsimp only
  exact Ev.now _
 ·have g1 : Rg (sv (sa != sb) Q) e := ⟨by omega, by omega, by omega⟩
  have ht := zgR g1
  have htop : top (sv (sa != sb) Q) e = e + 60 := by
   unfold top
   rw [if_neg z0, zb]; rfl
  rw [htop] at ht
  have g2 : Rg 1 (e - 2) := ⟨by decide, by omega, by omega⟩
  have w1 : wrap64 (wrap64 (e + 60 - 60) - 2) = e - 2 := by
   rw [zd3 (a := e + 60) (by omega) (by omega) (by omega) (by omega), zd3 (by omega) (by omega) (by omega) (by omega)]; omega
  have hst : zu f m (sa != sb) (stk Q true) (e - 1) = zu f m (sa != sb) (4 * Q + 1) (e - 2) := by
   have h1 := zgU (m := m) h (sa != sb) (H := Q) (r := 1) (j := 2) (by omega) (by decide) (e - 2)
   rw [show Q * 2 ^ 2 + 1 = 4 * Q + 1 by omega, show decide (1 ≠ 0) = true from rfl] at h1
   rw [h1]
   congr 1
   omega
  rw [hst]
  have hsum : zZ (sv (sa != sb) Q) e (if (sa != sb) = true then -1 else 1) (e - 2) = mk (sv (sa != sb) (4 * Q + 1)) (e - 2) := by
   have h1 := zhr (if (sa != sb) = true then -1 else 1) (sv (sa != sb) Q) (e - 2) 2
   rw [show e - 2 + ((2 : Nat) : Int) = e by omega, zgb] at h1
   rw [h1]
   congr 1
   cases (sa != sb)
   ·simp [sv]; omega
   ·simp [sv]; omega
  have z1 : sv (sa != sb) (4 * Q + 1) ≠ 0 := fun h => by have := za3.1 h; omega
  have zb1 : bl (sv (sa != sb) (4 * Q + 1)).natAbs ≤ 62 := by
   rw [zT]
   have := zP Q
   rw [hQb] at this
   exact zI (by omega)
  have zs1 : decide (sv (sa != sb) (4 * Q + 1) < 0) = (sa != sb) := zcC (by omega)
  have hr := ziw h hm z1 (e := e - 2) (by omega) (by omega) (by omega)
  rw [zs1, zT] at hr
  have hb : Ev (fun k => zdC.f k (mk (sv (sa != sb) Q) e).1 (mk (sv (sa != sb) Q) e).2.1 (mk (sv (sa != sb) Q) e).2.2 true) (mk (sv (sa != sb) (4 * Q + 1)) (e - 2)) := by
   unfold zdC.f
   refine ze (by simp) ?_
   refine Ev.bind (ht) ?_; try dsimp only
   rw [w1]
   clear w1
   refine zi (ziB (e - 2)) ?_; try dsimp only
   have hsg : (mk (sv (sa != sb) Q) e).1 = (sa != sb) := by
    obtain ⟨j, _, _, j3, _⟩ := zbr z0 e
    rw [j3, zs]
   rw [hsg]
   cases hs : (sa != sb)
   ·rw [hs] at g1 hsum hsg
    refine ze (by simp) ?_
    have := zlm g1 g2
    rw [hsg] at this
    simp only [Bool.false_eq_true, if_false] at hsum
    rw [hsum] at this
    refine Ev.bind (this) ?_; try dsimp only
    exact Ev.now _
   ·rw [hs] at g1 hsum hsg
    refine zd rfl ?_
    have := ziA g1 g2
    rw [hsg] at this
    simp only [if_true] at hsum
    rw [hsum] at this
    refine Ev.bind (this) ?_; try dsimp only
    exact Ev.now _
  refine Ev.bind (hb) ?_; try dsimp only
  refine Ev.bind (hr) ?_; try dsimp only
  exact Ev.now _
theorem zos {sa sb : Bool} {la lb : List Int} {ea eb : Int} (ha : My sa la ea) (hb : My sb lb eb) (hl : bl (V la) + bl (V lb) ≤ 131000) (h1 : -16000000 ≤ ea + eb) (h2 : ea + eb ≤ 16000000) : Ev (fun k => zeg.f k sa la ea sb lb eb) (ok3 (mk (sv sa (V la) * sv sb (V lb)) (ea + eb))) := by
 have a1 := ha.lo
 have a2 := ha.hi
 have b1 := hb.lo
 have b2 := hb.hi
 have hbl := zdx (V la) (V lb)
 have hlen := zaq (x := V la * V lb) (k := 4096) (by omega)
 have e : wrap64 (ea + eb) = ea + eb := zdY (by omega) (by omega) (by omega) (by omega)
 have m1 := zkP ha.dy.nm hb.dy.nm ha.len hb.len
 rw [zgg (by omega)] at m1
 have k1 := zdI (sa != sb) (zv (V la * V lb)) (by omega) (ea + eb)
 rw [V_D, zdK (by omega) (by omega), ← zg3] at k1
 have hne : (decide (¬ sa = sb)) = (sa != sb) := by cases sa <;> cases sb <;> rfl
 unfold zeg.f
 refine Ev.bind (zkc ha hb) ?_; try dsimp only
 refine ze (by simp) ?_
 refine Ev.bind (m1) ?_; try dsimp only
 refine ze (by simp) ?_
 rw [e, hne]
 clear e
 refine Ev.bind (k1) ?_; try dsimp only
 exact Ev.now _
theorem zfE {z e : Int} (hb : bl z.natAbs ≤ 131072) (h1 : -16777216 ≤ e) (h2 : e + (bl z.natAbs : Nat) ≤ 16777216) : My (mk z e).1 (mk z e).2.1 (mk z e).2.2 := by
 have a1 := zcx z e
 have a2 := zbq z e
 have e1 : (mk z e).2.2 = me z e := rfl
 exact ⟨zY z e, by omega, by omega, by omega⟩
theorem zpD (za ea zb eb : Int) : mk (mz za ea * mz zb eb) (me za ea + me zb eb) = mk (za * zb) (ea + eb) := by
 by_cases c : za = 0
 ·subst c; rw [zdh, Int.zero_mul, Int.zero_mul]; rfl
 by_cases c2 : zb = 0
 ·subst c2; rw [zdh, Int.mul_zero, Int.mul_zero]; rfl
 obtain ⟨j, p1, p2, _, _⟩ := zbY c ea
 obtain ⟨i, q1, q2, _, _⟩ := zbY c2 eb
 have e3 : za * zb = mz za ea * mz zb eb * 2 ^ (j + i) := by
  conv => lhs; rw [p1, q1]
  rw [Int.pow_add, Int.mul_assoc, Int.mul_assoc]
  congr 1
  rw [Int.mul_left_comm]
 rw [e3, zbX, p2, q2]
 congr 1
 omega
theorem zey (z e : Int) : bl (V (mk z e).2.1) ≤ bl z.natAbs := by
 by_cases c : z = 0
 ·subst c; exact Nat.zero_le _
 ·obtain ⟨j, j1, _⟩ := zbr c e
  rw [j1]
  have h := zcp (V (mk z e).2.1) j
  have hp : V (mk z e).2.1 ≤ V (mk z e).2.1 * 2 ^ j := Nat.le_mul_of_pos_right _ (zj j)
  exact zV hp
theorem zp8 {za ea zb eb : Int} (hb : bl za.natAbs + bl zb.natAbs ≤ 131000) (h1 : -8000000 ≤ ea) (h2 : ea ≤ 7000000) (h3 : -8000000 ≤ eb) (h4 : eb ≤ 7000000) : Ev (fun k => zeg.f k (mk za ea).1 (mk za ea).2.1 (mk za ea).2.2 (mk zb eb).1 (mk zb eb).2.1 (mk zb eb).2.2) (ok3 (mk (za * zb) (ea + eb))) := by
 have a2 := zbq za ea
 have b2 := zbq zb eb
 have a3 := zey za ea
 have b3 := zey zb eb
 have e1 : (mk za ea).2.2 = me za ea := rfl
 have e2 : (mk zb eb).2.2 = me zb eb := rfl
 refine zh (zos (zfE (z := za) (e := ea) (by omega) (by omega) (by omega)) (zfE (z := zb) (e := eb) (by omega) (by omega) (by omega)) (by omega) (by omega) (by omega)) ?_
 show ok3 (mk (mz za ea * mz zb eb) (me za ea + me zb eb)) = _
 rw [zpD]
theorem ziN {f m : Int} (h : isF f) (s : Bool) {A B : Nat} (hA : A ≠ 0) (hB : 0 < B) (e : Int) (j : Nat) : rq f m s A (B * 2 ^ j) e = rq f m s A B (e - j) := by
 have h1 := zfS (m := m) h s hA (Nat.mul_pos hB (zj j)) (e - j) j
 rw [show e - (j : Int) + j = e by omega] at h1
 rw [← h1, zfR h s hA hB (zj j)]
def zq (f m : Int) (s : Bool) (n : Nat) (x : Int) : Int × Int := rq f m s (n * 10 ^ x.toNat) (10 ^ (-x).toNat) 0
theorem zbv (n : Nat) : 0 < 10 ^ n := Nat.pow_pos (by omega)
theorem zj0 {f m : Int} (h : isF f) (s : Bool) {n : Nat} (hn : n ≠ 0) {x : Int} (hx : 400 ≤ x) : zq f m s n x = ((zcR f m s : Int), 20) := by
 have hw := zdp h
 unfold zq
 obtain ⟨K, hK⟩ : ∃ K : Nat, K = 1024 := ⟨_, rfl⟩
 refine zrg h s (zbv _) (k := K) ?_ (by omega)
 have e1 : (-x).toNat = 0 := by omega
 rw [e1, Nat.pow_zero, Nat.one_mul]
 have h1 : 8 ^ x.toNat ≤ 10 ^ x.toNat := Nat.pow_le_pow_left (by omega) _
 have h2 : (2 : Nat) ^ K ≤ 2 ^ (3 * x.toNat) := Nat.pow_le_pow_right (by omega) (by omega)
 rw [Nat.pow_mul, show (2 : Nat) ^ 3 = 8 from rfl] at h2
 have h3 : 1 * 10 ^ x.toNat ≤ n * 10 ^ x.toNat := Nat.mul_le_mul_right _ (by omega)
 generalize (2 : Nat) ^ K = a at *
 generalize 8 ^ x.toNat = b at *
 omega
theorem zj1 {f m : Int} (h : isF f) (s : Bool) {n p : Nat} (hn : n ≠ 0) (hb : n < 10 ^ p) {x : Int} (hx : x + p ≤ -500) : zq f m s n x = zu f m s 1 (lo f - 2) := by
 have hw := zaY h
 have e1 : x.toNat = 0 := by omega
 unfold zq
 rw [e1, Nat.pow_zero, Nat.mul_one]
 obtain ⟨K, hK⟩ : ∃ K : Nat, K = 1080 := ⟨_, rfl⟩
 refine zrj h s hn (zbv _) (k := K) ?_ (by omega)
 obtain ⟨c, hc⟩ : ∃ c : Nat, (-x).toNat = p + c ∧ 500 ≤ c := ⟨(-x).toNat - p, by omega, by omega⟩
 rw [hc.1, Nat.pow_add]
 have h2 : (2 : Nat) ^ K ≤ 10 ^ c := by
  have h3 : (2 : Nat) ^ K ≤ 2 ^ (3 * c) := Nat.pow_le_pow_right (by omega) (by omega)
  rw [Nat.pow_mul] at h3
  exact Nat.le_trans h3 (Nat.pow_le_pow_left (by omega) _)
 exact Nat.mul_lt_mul_of_lt_of_le hb h2 (zbv c)
theorem zj2 {f m : Int} (h : isF f) (s : Bool) {n p : Nat} (hn : n ≠ 0) (hb : n < 10 ^ p) {a b : Int} (ha : 400 ≤ a) (hB : b + p ≤ -500) (x : Int) : zq f m s n (if x > a then a else if x < b then b else x) = zq f m s n x := by
 by_cases c1 : x > a
 ·rw [if_pos c1, zj0 h s hn ha, zj0 h s hn (by omega)]
 ·rw [if_neg c1]
  by_cases c2 : x < b
  ·rw [if_pos c2, zj1 h s hn hb hB, zj1 h s hn hb (by omega)]
  ·rw [if_neg c2]
theorem zob {f m : Int} (h : isF f) (s : Bool) {n : Nat} (hn : n ≠ 0) (X : Nat) : zu f m s (n * 5 ^ X) X = zq f m s n X := by
 have h5 : n * 5 ^ X ≠ 0 := Nat.mul_ne_zero hn (Nat.ne_of_gt (Nat.pow_pos (by omega)))
 have h1 := zfS (m := m) h s h5 (B := 1) (by omega) 0 X
 rw [Int.zero_add] at h1
 unfold zq
 rw [← zgW h s h5, ← h1, Nat.mul_assoc, ← Nat.mul_pow]
 have e1 : (X : Int).toNat = X := Int.toNat_natCast X
 have e2 : (-(X : Int)).toNat = 0 := by omega
 rw [e1, e2]
theorem zjY {f m : Int} (h : isF f) (s : Bool) {n : Nat} (hn : n ≠ 0) (Y : Nat) : rq f m s n (5 ^ Y) (-(Y : Int)) = zq f m s n (-(Y : Int)) := by
 have h1 := ziN (m := m) h s hn (B := 5 ^ Y) (Nat.pow_pos (by omega)) 0 Y
 rw [← Nat.mul_pow, Int.zero_sub] at h1
 unfold zq
 rw [← h1]
 have e1 : (-(Y : Int)).toNat = 0 := by omega
 have e2 : (-(-(Y : Int))).toNat = Y := by omega
 rw [e1, e2, Nat.pow_zero, Nat.mul_one]
theorem zm6 {f m : Int} (h : isF f) (hm : isM m) (s : Bool) {n : Nat} (hn : n ≠ 0) {e : Int} (hb : bl n ≤ 100000) (h1 : -1000000 ≤ e) (h2 : e ≤ 1000000) : Ev (fun k => zer.f k f m (mk (sv s n) e).1 (mk (sv s n) e).2.1 (mk (sv s n) e).2.2) ((zu f m s n e).1, (zu f m s n e).2, 0) := by
 have z0 : sv s n ≠ 0 := fun h => hn (za3.1 h)
 obtain ⟨j, j1, j2, j3, j4⟩ := zbr z0 e
 have hm1 := zfE (z := sv s n) (e := e) (by rw [zT]; omega) (by omega) (by rw [zT]; omega)
 have hr := zm5 h hm hm1 j4
 rw [zcC hn] at j3
 rw [zT] at j1
 have e1 := zgV f m s j4 e j
 rw [← j1, ← j2] at e1
 have e2 : zu f m (mk (sv s n) e).1 (V (mk (sv s n) e).2.1) (mk (sv s n) e).2.2 = zu f m s n e := by rw [j3, ← e1]
 rwa [e2] at hr
theorem zgK (n : Nat) : bl (5 ^ n) ≤ 3 * n + 1 := by
 refine zI ?_
 have h1 : 5 ^ n ≤ 8 ^ n := Nat.pow_le_pow_left (by omega) n
 rw [Nat.pow_succ, Nat.pow_mul]
 have : (2 : Nat) ^ 3 = 8 := rfl
 rw [this]
 have := Nat.pow_pos (n := n) (show 0 < 8 by omega)
 omega
theorem zbF (n : Nat) : bl (10 ^ n) ≤ 4 * n + 1 := by
 refine zI ?_
 have h1 : 10 ^ n ≤ 16 ^ n := Nat.pow_le_pow_left (by omega) n
 rw [Nat.pow_succ, Nat.pow_mul]
 have : (2 : Nat) ^ 4 = 16 := rfl
 rw [this]
 have := Nat.pow_pos (n := n) (show 0 < 16 by omega)
 omega
theorem zkU (s : Bool) : decide (¬ s = false) = s := by cases s <;> rfl
theorem zll {f m : Int} (h : isF f) (s : Bool) {n N : Nat} {e e' : Int} (hn : n ≠ 0) (hN : N ≠ 0) : rq f m s (V (mk (sv s n) e).2.1) (V (mk (N : Int) e').2.1) ((mk (sv s n) e).2.2 - (mk (N : Int) e').2.2) = rq f m s n N (e - e') := by
 have z0 : sv s n ≠ 0 := fun h => hn (za3.1 h)
 have z1 : (N : Int) ≠ 0 := by omega
 obtain ⟨j, j1, j2, j3, j4⟩ := zbr z0 e
 obtain ⟨i, i1, i2, i3, i4⟩ := zbr z1 e'
 rw [zT] at j1
 rw [Int.natAbs_natCast] at i1
 rw [i2, j2]
 have h1 := zfS (m := m) h s j4 (Nat.pos_of_ne_zero i4) (e - (e' + (i : Int))) j
 have h2 := ziN (m := m) h s hn (Nat.pos_of_ne_zero i4) (e - e') i
 rw [← j1] at h1
 rw [← i1] at h2
 rw [h2, show e - e' - (i : Int) = e - (e' + (i : Int)) by omega, h1]
 congr 1
 omega
theorem zof {f m : Int} (h : isF f) (hm : isM m) (s : Bool) {n : Nat} (hn : n ≠ 0) {p : Nat} (hp : p ≤ 1200) (hb : n < 10 ^ p) (x : Int) : Ev (fun k => zdG.f k f m s (D n) x) ((zq f m s n x).1, (zq f m s n x).2, 0) := by
 have hx := zj2 (m := m) h s hn hb (a := 3000) (b := -3000) (by omega) (by omega) x
 have ex : mn 3000 (mx (-3000) x) = (if x > 3000 then 3000 else if x < -3000 then -3000 else x) := by unfold mn mx; split <;> split <;> split <;> (try split) <;> omega
 rw [← hx]
 unfold zdG.f
 rw [ex]
 have hr : -3000 ≤ (if x > 3000 then 3000 else if x < -3000 then -3000 else x) ∧ (if x > 3000 then 3000 else if x < -3000 then -3000 else x) ≤ 3000 := by split <;> (try split) <;> omega
 clear ex hx
 generalize (if x > 3000 then 3000 else if x < -3000 then -3000 else x) = y at *
 have hbn : bl n ≤ 4801 := by
  have h1 := zV (Nat.le_of_lt hb)
  have h2 := zbF p
  omega
 have lenn := zaq (x := n) (k := 200) (by omega)
 have hmk := zdI s (zv n) (by omega) y
 rw [V_D, zdK (by omega) (by omega)] at hmk
 refine Ev.bind (hmk) ?_; try dsimp only
 by_cases c : y ≥ 0
 ·refine zd c ?_
  obtain ⟨Y, rfl⟩ := Int.eq_ofNat_of_zero_le c
  have b5 := zgK Y
  have l5 := zaq (x := 5 ^ Y) (k := 400) (by omega)
  have hpw := zia (b := 5) (n := Y) (by omega) (by omega)
  rw [zgg (by omega)] at hpw
  have hm5 := zdI false (zv (5 ^ Y)) (by omega) 0
  rw [V_D, zdK (by omega) (by omega)] at hm5
  refine Ev.bind (hpw) ?_; try dsimp only
  refine Ev.bind (hm5) ?_; try dsimp only
  have hmul := zp8 (za := sv s n) (ea := (Y : Int)) (zb := sv false (5 ^ Y)) (eb := 0) (by rw [zT, zT]; omega) (by omega) (by omega) (by omega) (by omega)
  rw [zg3, Bool.bne_false, Int.add_zero] at hmul
  have h50 : n * 5 ^ Y ≠ 0 := Nat.mul_ne_zero hn (Nat.ne_of_gt (Nat.pow_pos (by omega)))
  have hro := zm6 h hm s h50 (e := (Y : Int)) (by have := zdx n (5 ^ Y); omega) (by omega) (by omega)
  rw [zob h s hn Y] at hro
  refine Ev.bind (hmul) ?_; try dsimp only
  refine Ev.bind (hro) ?_; try dsimp only
  exact Ev.now _
 ·refine ze c ?_
  obtain ⟨Y, hY⟩ : ∃ Y : Nat, y = -(Y : Int) := ⟨(-y).toNat, by omega⟩
  subst hY
  have b5 := zgK Y
  have l5 := zaq (x := 5 ^ Y) (k := 400) (by omega)
  have hpw := zia (b := 5) (n := Y) (by omega) (by omega)
  rw [zgg (by omega)] at hpw
  have hm5 := zdI false (zv (5 ^ Y)) (by omega) 0
  rw [V_D, zdK (by omega) (by omega)] at hm5
  rw [show wrap64 (-(-(Y : Int))) = (Y : Int) by rw [zf1 (by omega) (by omega)]; omega]
  refine Ev.bind (hpw) ?_; try dsimp only
  refine Ev.bind (hm5) ?_; try dsimp only
  have z0 : sv s n ≠ 0 := fun h => hn (za3.1 h)
  have h50 : 5 ^ Y ≠ 0 := Nat.ne_of_gt (Nat.pow_pos (by omega))
  have z1 : sv false (5 ^ Y) ≠ 0 := fun h => h50 (za3.1 h)
  have m1 := zfE (z := sv s n) (e := -(Y : Int)) (by rw [zT]; omega) (by omega) (by rw [zT]; omega)
  have m2 := zfE (z := sv false (5 ^ Y)) (e := 0) (by rw [zT]; omega) (by omega) (by rw [zT]; omega)
  obtain ⟨j, j1, j2, j3, j4⟩ := zbr z0 (-(Y : Int))
  obtain ⟨i, i1, i2, i3, i4⟩ := zbr z1 0
  have v1 := zey (sv s n) (-(Y : Int))
  have v2 := zey (sv false (5 ^ Y)) 0
  rw [zT] at v1 v2
  have hq := zm2 h hm m1 m2 j4 i4 (by omega) (by omega)
  have hsg : decide (¬ (mk (sv s n) (-(Y : Int))).1 = (mk (sv false (5 ^ Y)) 0).1) = s := by
   rw [j3, i3, zcC hn, zcC h50]; exact zkU s
  rw [hsg] at hq
  have hpt := zll (m := m) h s (e := -(Y : Int)) (e' := 0) hn h50
  rw [Int.sub_zero, zjY h s hn Y] at hpt
  rw [show sv false (5 ^ Y) = ((5 ^ Y : Nat) : Int) from rfl] at *
  rw [hpt] at hq
  refine Ev.bind (hq) ?_; try dsimp only
  exact Ev.now _
theorem zdS {Y : Nat} (hY : Y ≤ 1000000) : Ev (fun k => za9.f k (Y : Int)) (mk ((10 ^ Y : Nat) : Int) 0) := by
 have b10 := zbF Y
 have l10 := zaq (x := 10 ^ Y) (k := 130000) (by omega)
 have hpw := zqZ (b := 10) (n := Y) (by omega) (by omega) (K := Y + 1) (by omega) (by omega) (by
  rw [show max 1 10 = 10 from rfl]
  exact Nat.lt_of_lt_of_le (Nat.pow_lt_pow_right (by omega) (Nat.lt_succ_self Y)) (Nat.pow_le_pow_left (by omega) _))
 have hf := zbH false (zv (10 ^ Y)) (by omega) (e := 0) (by omega) (by omega)
 rw [V_D] at hf
 unfold za9.f
 refine Ev.bind (hpw) ?_; try dsimp only
 refine Ev.bind (hf) ?_; try dsimp only
 exact Ev.now _
theorem zjc {f m : Int} (h : isF f) (hm : isM m) (s : Bool) {n : Nat} (hn : n ≠ 0) {p : Nat} (hp : p ≤ 1200) (hb : n < 10 ^ p) (x : Int) : Ev (fun k => zaK.f k f m s (D n) x) (zq f m s n x) := by
 have hx := zj2 (m := m) h s hn hb (a := 400) (b := -1700) (by omega) (by omega) x
 rw [← hx]
 have hr : -1700 ≤ (if x > 400 then 400 else if x < -1700 then -1700 else x) ∧ (if x > 400 then 400 else if x < -1700 then -1700 else x) ≤ 400 := by split <;> (try split) <;> omega
 have hbn : bl n ≤ 4801 := by
  have h1 := zV (Nat.le_of_lt hb)
  have h2 := zbF p
  omega
 have lenn := zaq (x := n) (k := 200) (by omega)
 have j1 : ∀ y : Int, -1700 ≤ y → y ≤ 400 → Ev (fun k => zaK.j1 k f m s (D n) y) (zq f m s n y) := by
  intro y h1 h2
  have hf := zbH s (zv n) (by omega) (e := 0) (by omega) (by omega)
  rw [V_D] at hf
  have z0 : sv s n ≠ 0 := fun h => hn (za3.1 h)
  refine zf ?_
  simp only [zaK.j1]
  refine Ev.bind (hf) ?_; try dsimp only
  by_cases c : y ≥ 0
  ·refine zd c ?_
   obtain ⟨Y, rfl⟩ := Int.eq_ofNat_of_zero_le c
   have b10 := zbF Y
   refine Ev.bind (zdS (Y := Y) (by omega)) ?_; try dsimp only
   have hmul := zgP (za := sv s n) (ea := 0) (zb := sv false (10 ^ Y)) (eb := 0) ⟨by rw [zT]; omega, by omega, by omega⟩ ⟨by rw [zT]; omega, by omega, by omega⟩
   rw [zg3, Bool.bne_false, Int.add_zero] at hmul
   rw [show sv false (10 ^ Y) = ((10 ^ Y : Nat) : Int) from rfl] at hmul
   refine Ev.bind (hmul) ?_; try dsimp only
   have hne : n * 10 ^ Y ≠ 0 := Nat.mul_ne_zero hn (Nat.ne_of_gt (zbv Y))
   have z2 : sv s (n * 10 ^ Y) ≠ 0 := fun h => hne (za3.1 h)
   have hro := ziw h hm z2 (e := 0) (by rw [zT]; have := zdx n (10 ^ Y); omega) (by omega) (by omega)
   rw [zcC hne, zT] at hro
   have e3 : zu f m s (n * 10 ^ Y) 0 = zq f m s n (Y : Int) := by
    rw [← zgW h s hne]
    unfold zq
    have e1 : (Y : Int).toNat = Y := Int.toNat_natCast Y
    have e2 : (-(Y : Int)).toNat = 0 := by omega
    rw [e1, e2]
   rw [e3] at hro
   refine Ev.bind (hro) ?_; try dsimp only
   exact Ev.now _
  ·refine ze c ?_
   obtain ⟨Y, hY⟩ : ∃ Y : Nat, y = -(Y : Int) := ⟨(-y).toNat, by omega⟩
   subst hY
   have b10 := zbF Y
   rw [show wrap64 (-(-(Y : Int))) = (Y : Int) by rw [zf1 (by omega) (by omega)]; omega]
   refine Ev.bind (zdS (Y := Y) (by omega)) ?_; try dsimp only
   have hNe : 10 ^ Y ≠ 0 := Nat.ne_of_gt (zbv Y)
   have z1 : sv false (10 ^ Y) ≠ 0 := fun h => hNe (za3.1 h)
   obtain ⟨j, k1, k2, k3, k4⟩ := zbr z0 0
   obtain ⟨i, i1, i2, i3, i4⟩ := zbr z1 0
   have v1 := zey (sv s n) 0
   have v2 := zey (sv false (10 ^ Y)) 0
   have u1 := zbq (sv s n) 0
   have u2 := zbq (sv false (10 ^ Y)) 0
   have t1 : (mk (sv s n) 0).2.2 = me (sv s n) 0 := rfl
   have t2 : (mk (sv false (10 ^ Y)) 0).2.2 = me (sv false (10 ^ Y)) 0 := rfl
   rw [zT] at v1 v2 u1 u2
   have hq := zqS h hm (zY (sv s n) 0) (zY (sv false (10 ^ Y)) 0) k4 i4 (by omega) (by omega) (by omega) (by omega) (by omega) (by omega)
   have hsg : decide (¬ (mk (sv s n) 0).1 = (mk (sv false (10 ^ Y)) 0).1) = s := by
    rw [k3, i3, zcC hn, zcC hNe]; exact zkU s
   rw [hsg] at hq
   have hpt := zll (m := m) h s (e := 0) (e' := 0) hn hNe
   have e4 : rq f m s n (10 ^ Y) (0 - 0) = zq f m s n (-(Y : Int)) := by
    unfold zq
    have e1 : (-(Y : Int)).toNat = 0 := by omega
    have e2 : (-(-(Y : Int))).toNat = Y := by omega
    rw [e1, e2, Nat.pow_zero, Nat.mul_one]; rfl
   rw [e4] at hpt
   rw [show sv false (10 ^ Y) = ((10 ^ Y : Nat) : Int) from rfl] at *
   rw [hpt] at hq
   refine Ev.bind (hq) ?_; try dsimp only
   exact Ev.now _
 unfold zaK.f
 have j0 : ∀ y : Int, y ≤ 400 → Ev (fun k => zaK.j0 k f m s (D n) y) (zq f m s n (if y < -1700 then -1700 else y)) := by
  intro y hy
  refine zf ?_
  simp only [zaK.j0]
  by_cases c2 : y < -1700
  ·rw [if_pos c2]
   exact zd c2 (j1 _ (by omega) (by omega))
  ·rw [if_neg c2]
   exact ze c2 (j1 _ (by omega) (by omega))
 by_cases c : x > 400
 ·rw [if_pos c]
  refine zd c ?_
  have := j0 400 (by omega)
  rwa [if_neg (by omega)] at this
 ·rw [if_neg c]
  exact ze c (j0 x (by omega))
def bx (l : List UInt8) : ByteArray := ⟨l.toArray⟩
theorem zcm (l : List UInt8) : tl (bx l) = l := rfl
theorem znE (s : ByteArray) : bx (tl s) = s := zcD.1 rfl
theorem zA (l : List UInt8) : (bx l).size = l.length := by rw [zrU, zcm]
theorem znD {l : List UInt8} : bx l = (⟨#[]⟩ : ByteArray) ↔ l = [] := by rw [← zms, zcm]
theorem zh0 {b : UInt8} : isD b = true ↔ 48 ≤ (b.toNat : Int) ∧ (b.toNat : Int) ≤ 57 := by unfold isD; rw [decide_eq_true_iff]; omega
section
variable {s : ByteArray} (hs : s.size ≤ 1000000)
include hs
end
theorem zd6 (l : List UInt8) : qcB (bx l) = l.map fun b => (b.toNat : Int) := rfl
theorem zip : ∀ (l : List UInt8) (a : Nat), pvA a (l.map fun b => (b.toNat : Int)) = zl l a
 | [], a => rfl
 | b :: l, a => by
  have e : ((b.toNat : Int) - 48).toNat = b.toNat - 48 := by omega
  rw [List.map_cons, pvA, e, zip l]
  rfl
theorem zgN (l : List UInt8) : pv (qcB (bx l)) = zl l 0 := zip l 0
theorem zhG {l : List UInt8} (h : l.all isD = true) : zbU (qcB (bx l)) := by
 intro x hx
 rw [zd6, List.mem_map] at hx
 obtain ⟨b, hb, rfl⟩ := hx
 exact zh0.1 (List.all_eq_true.1 h b hb)
theorem zfr {l : List UInt8} (h : l.all isD = true) : zl l 0 < 10 ^ l.length := by
 have := zlj (zhG h)
 rw [zgN, zd6, List.length_map] at this
 exact this
def tz0 (l : List UInt8) : List UInt8 := l.dropWhile (· == 48)
theorem zhL (l : List UInt8) : zl (tz0 l) 0 = zl l 0 := by
 induction l with
 | nil => rfl
 | cons b l ih =>
  unfold tz0 at *
  by_cases c : b = 48
  ·subst c; rw [List.dropWhile_cons]; simp only [beq_self_eq_true, if_true]; rw [ih]; rfl
  ·rw [List.dropWhile_cons, if_neg (by simpa using c)]
theorem zi2 {l : List UInt8} (h : l.all isD = true) : (tz0 l).all isD = true := by
 induction l with
 | nil => rfl
 | cons b l ih =>
  have h' := h
  simp only [List.all_cons, Bool.and_eq_true] at h
  unfold tz0 at *
  by_cases c : b = 48
  ·subst c; rw [List.dropWhile_cons]; simpa using ih h.2
  ·rw [List.dropWhile_cons, if_neg (by simpa using c)]; exact h'
theorem zi3 {l : List UInt8} {b : UInt8} {r : List UInt8} (h : tz0 l = b :: r) : b ≠ 48 := by
 have := zj9 _ l h
 simpa using this
theorem zkn {l : List UInt8} {b : UInt8} {r : List UInt8} (h : l.all isD = true) (e : tz0 l = b :: r) : isT (qcB (bx (b :: r))) = true := by
 have h1 := zi2 h
 rw [e] at h1
 have h2 := zi3 e
 have hd : decide (zbU (qcB (bx (b :: r)))) = true := decide_eq_true (zhG h1)
 unfold isT
 rw [hd, zd6]
 have h3 : (b.toNat : Int) ≠ 48 := fun c => h2 (UInt8.toNat_inj.1 (by show _ = 48; omega))
 cases r with
 | nil => rfl
 | cons c t => simp [h3]
theorem zr6 {l : List UInt8} (h : l.all isD = true) : tz0 l = [] ↔ zl l 0 = 0 := by
 constructor
 ·intro e; rw [← zhL, e]; rfl
 ·intro e
  cases ht : tz0 l with
  | nil => rfl
  | cons b r =>
   have h1 := zi2 h
   have h2 := zi3 ht
   have h3 := zhL l
   rw [ht] at h1 h3
   have h4 := zir (l := qcB (bx (b :: r))) (zhG h1) (by
    rw [zd6]; show ((b.toNat : Int)) ≠ 48
    exact fun c => h2 (UInt8.toNat_inj.1 (by show _ = 48; omega))) (by rw [zd6]; simp)
   rw [zgN] at h4
   have := zbv ((qcB (bx (b :: r))).length - 1)
   omega
theorem zqa {l : List UInt8} (h : isT (qcB (bx l)) = true) (hd : l.all isD = true) (hl : l.length ≤ 20000) : zem (qcB (bx l)) = (D (zl l 0), 0) := by
 unfold zem
 rw [if_pos h, zgN, zgg]
 have h5 := zV (Nat.le_of_lt (zfr hd))
 have h6 := zbF l.length
 omega
section
variable {s : ByteArray} (hs : s.size ≤ 1000000000000000) (a : Bool) (b : ByteArray) (c : List Int) (d : Int)
include hs
end
def dx (n : Nat) : List UInt8 := tl (qfU (txt n))
theorem ziV (n : Nat) : qfU (txt n) = bx (dx n) := (znE _).symm
theorem zgo (n : Nat) : (dx n).map (fun b => (b.toNat : Int)) = txt n := znB n
theorem zcg (n : Nat) : (dx n).all isD = true := by
 rw [List.all_eq_true]
 intro b hb
 have : ((b.toNat : Int)) ∈ txt n := by rw [← zgo]; exact List.mem_map.2 ⟨b, hb, rfl⟩
 exact zh0.2 (zi1 n _ this)
theorem zda (n : Nat) : zl (dx n) 0 = n := by rw [← zip, zgo]; exact zqw n
theorem zmt {a b : UInt8} (h : (a.toNat : Int) = (b.toNat : Int)) : a = b := UInt8.toNat_inj.1 (by omega)
theorem zft {l r : List UInt8} {b : UInt8} (h : l.all isD = true) (e : l = b :: r) (hb : b ≠ 48) : dx (zl l 0) = l := by
 have e1 : tz0 l = b :: r := by
  subst e
  unfold tz0
  rw [List.dropWhile_cons, if_neg (by simpa using hb)]
 have h1 := zr5 (zkn h e1)
 rw [← e, zgN] at h1
 have h2 := (zgo (zl l 0)).trans h1
 rw [zd6] at h2
 exact (List.map_inj_right (fun x y hxy => zmt hxy)).1 h2
theorem zaM {n : Nat} (h : n ≠ 0) : ∃ b r, dx n = b :: r ∧ b ≠ 48 := by
 cases e : tz0 (dx n) with
 | nil => exact absurd ((zr6 (zcg n)).1 e) (by rw [zda]; exact h)
 | cons b r =>
  have hb := zi3 e
  have h1 := zi2 (zcg n)
  have h2 := zhL (dx n)
  rw [e] at h1 h2
  rw [zda] at h2
  have h3 := zft h1 rfl hb
  rw [h2] at h3
  exact ⟨b, r, h3, hb⟩
theorem zdH {n : Nat} (h : n ≠ 0) : 0 < (dx n).length := by
 obtain ⟨b, r, e, _⟩ := zaM h
 rw [e]; simp
theorem zka {n k : Nat} (h : n < 10 ^ k) (hk : 1 ≤ k) : (dx n).length ≤ k := by
 have := zr4 h hk
 rw [← zgo, List.length_map] at this
 exact this
theorem zef (n : Nat) : n < 10 ^ (dx n).length := by
 have := zfr (zcg n)
 rwa [zda] at this
theorem zej {b : UInt8} (h : isD b = true) : 48 ≤ b.toNat ∧ b.toNat ≤ 57 := by
 have := zh0.1 h
 omega
theorem zc9 (b : UInt8) (r : List UInt8) : zl (b :: r) 0 = (b.toNat - 48) * 10 ^ r.length + zl r 0 := by
 have e : zl (b :: r) 0 = zl r (10 * 0 + (b.toNat - 48)) := rfl
 rw [e, zj8]; simp
theorem zez {b : UInt8} {r : List UInt8} (h : (b :: r).all isD = true) : isD b = true ∧ r.all isD = true := by
 simpa only [List.all_cons, Bool.and_eq_true] using h
theorem zc1 {a b : List UInt8} (h : (a ++ b).all isD = true) : a.all isD = true ∧ b.all isD = true := by
 simpa only [List.all_append, Bool.and_eq_true] using h
theorem zie {b : UInt8} (h : isD b = true) (hb : b ≠ 48) : 49 ≤ b.toNat := by
 have h1 := zej h
 have h2 : b.toNat ≠ 48 := fun c => hb (UInt8.toNat_inj.1 (by rw [c]; rfl))
 omega
theorem zhM {n : Nat} (h : n ≠ 0) : 10 ^ ((dx n).length - 1) ≤ n := by
 obtain ⟨b, r, e, hb⟩ := zaM h
 have h1 := zcg n
 have h2 := zda n
 rw [e] at h1 h2 ⊢
 rw [zc9] at h2
 have h3 := zie (zez h1).1 hb
 have h4 : 1 * 10 ^ r.length ≤ (b.toNat - 48) * 10 ^ r.length := Nat.mul_le_mul_right _ (by omega)
 have h5 : (b :: r).length - 1 = r.length := by simp
 rw [h5]
 omega
theorem zc8 (a b : List UInt8) : zl (a ++ b) 0 = zl a 0 * 10 ^ b.length + zl b 0 := by rw [zon, zj8]
theorem zfs : ∀ j : Nat, zl (List.replicate j 48) 0 = 0
 | 0 => rfl
 | j + 1 => by rw [List.replicate_succ, zc9, zfs j, show (48 : UInt8).toNat - 48 = 0 from rfl, Nat.zero_mul]
theorem zgp {n : Nat} (h : n ≠ 0) {A B : List UInt8} (e : dx n = A ++ B) (hA : A ≠ []) : dx (n / 10 ^ B.length) = A ∧ n % 10 ^ B.length = zl B 0 := by
 have h1 := zcg n
 have h2 := zda n
 obtain ⟨b, r, e2, hb⟩ := zaM h
 rw [e] at h1 h2 e2
 rw [zc8] at h2
 have h3 := zfr (zc1 h1).2
 have hd : n / 10 ^ B.length = zl A 0 := by
  rw [← h2, Nat.mul_comm, Nat.mul_add_div (Nat.pow_pos (by omega)), Nat.div_eq_of_lt h3]; omega
 have hm : n % 10 ^ B.length = zl B 0 := by
  rw [← h2, Nat.mul_comm, Nat.mul_add_mod, Nat.mod_eq_of_lt h3]
 refine ⟨?_, hm⟩
 cases A with
 | nil => exact absurd rfl hA
 | cons a A =>
  rw [hd]
  have : a = b := (List.cons.inj e2).1
  exact zft (zc1 h1).1 rfl (this ▸ hb)
theorem zni (j : Nat) : (List.replicate j (48 : UInt8)).all isD = true := by
 rw [List.all_eq_true]
 intro x hx
 rw [(List.mem_replicate.1 hx).2]; decide
theorem zkb {n : Nat} (h : n ≠ 0) (j : Nat) : dx (n * 10 ^ j) = dx n ++ List.replicate j 48 := by
 obtain ⟨b, r, e, hb⟩ := zaM h
 have h1 : (dx n ++ List.replicate j 48).all isD = true := by rw [List.all_append, zcg, zni]; rfl
 have h2 := zft (b := b) (r := r ++ List.replicate j 48) h1 (by rw [e]; rfl) hb
 rw [zc8, zda, zfs, List.length_replicate] at h2
 exact h2
def tr (l : List UInt8) : List UInt8 := (l.reverse.dropWhile (· == 48)).reverse
theorem zg8 (l : List UInt8) : tr (l ++ [48]) = tr l := by unfold tr; rw [List.reverse_append]; rfl
theorem ze3 (l : List UInt8) {d : UInt8} (h : d ≠ 48) : tr (l ++ [d]) = l ++ [d] := by
 unfold tr
 rw [List.reverse_append]
 show ((d :: l.reverse).dropWhile (· == 48)).reverse = _
 rw [List.dropWhile_cons, if_neg (by simpa using h)]
 simp
theorem zg9 (l : List UInt8) : ∀ j : Nat, tr (l ++ List.replicate j 48) = tr l
 | 0 => by simp
 | j + 1 => by rw [List.replicate_succ', ← List.append_assoc, zg8, zg9 l j]
theorem zdX (l : List UInt8) : ∃ j, l = tr l ++ List.replicate j 48 := by
 rcases List.eq_nil_or_concat l with rfl | ⟨a, d, rfl⟩
 ·exact ⟨0, rfl⟩
 ·rw [List.concat_eq_append]
  by_cases c : d = 48
  ·subst c
   rw [zg8]
   obtain ⟨j, hj⟩ := zdX a
   refine ⟨j + 1, ?_⟩
   rw [List.replicate_succ', ← List.append_assoc, ← hj]
  ·exact ⟨0, by rw [ze3 _ c]; simp⟩
termination_by l.length
decreasing_by subst_vars; simp
theorem zmy {l A : List UInt8} {d : UInt8} (h : tr l = A ++ [d]) : d ≠ 48 := by
 have h1 : l.reverse.dropWhile (· == 48) = d :: A.reverse := by
  have := congrArg List.reverse h
  unfold tr at this
  rw [List.reverse_reverse, List.reverse_append] at this
  exact this
 have := zj9 _ _ h1
 simpa using this
theorem zb2 {l r : List UInt8} {b : UInt8} (e : l = b :: r) (hb : b ≠ 48) : ∃ r', tr l = b :: r' := by
 obtain ⟨j, hj⟩ := zdX l
 cases h : tr l with
 | nil =>
  rw [h, e] at hj
  cases j with
  | zero => cases hj
  | succ j => rw [List.replicate_succ] at hj; exact absurd (List.cons.inj hj).1 hb
 | cons c r' =>
  rw [h, e] at hj
  exact ⟨r', by rw [(List.cons.inj hj).1]⟩
theorem zcE (l : List UInt8) : (tr l).length ≤ l.length := by
 obtain ⟨j, hj⟩ := zdX l
 have := congrArg List.length hj
 rw [List.length_append] at this
 omega
theorem zfW {l : List UInt8} (h : l.all isD = true) : (tr l).all isD = true := by
 obtain ⟨j, hj⟩ := zdX l
 rw [hj] at h
 exact (zc1 h).1
theorem zr0 (l : List UInt8) : tr (tr l) = tr l := by
 rcases List.eq_nil_or_concat (tr l) with h | ⟨a, d, h⟩
 ·rw [h]; rfl
 ·rw [List.concat_eq_append] at h
  rw [h, ze3 _ (zmy h)]
theorem zop (l : List UInt8) : zl l 0 = zl (tr l) 0 * 10 ^ (l.length - (tr l).length) := by
 obtain ⟨j, hj⟩ := zdX l
 have h1 := congrArg List.length hj
 rw [List.length_append, List.length_replicate] at h1
 have h2 := congrArg (fun x => zl x 0) hj
 simp only [zc8, zfs, List.length_replicate] at h2
 rw [show l.length - (tr l).length = j by omega, h2]; rfl
theorem zhJ {l : List UInt8} (h : l.all isD = true) {A B : List UInt8} (e : l = A ++ B) : zl B 0 ≠ 0 ↔ A.length < (tr l).length := by
 obtain ⟨j, hj⟩ := zdX l
 constructor
 ·intro hB
  apply Nat.lt_of_not_le
  intro hle
  apply hB
  have e1 : A ++ B = tr l ++ List.replicate j 48 := e ▸ hj
  obtain ⟨C, hC⟩ : ∃ C, A = tr l ++ C := by
   refine ⟨A.drop (tr l).length, ?_⟩
   have h2 := congrArg (List.take (tr l).length) e1
   rw [List.take_append_of_le_length hle, List.take_append_of_le_length (Nat.le_refl _), List.take_length] at h2
   rw [← h2]
   exact (by
    have := List.take_append_drop (tr l).length A
    rw [h2] at this ⊢
    exact this.symm)
  rw [hC, List.append_assoc] at e1
  have e2 := List.append_cancel_left e1
  have h3 : ∀ x ∈ B, x = 48 := fun x hx => (List.mem_replicate.1 (e2 ▸ List.mem_append_right C hx)).2
  rw [List.eq_replicate_of_mem h3, zfs]
 ·intro hlt hB
  rcases List.eq_nil_or_concat (tr l) with h0 | ⟨a, d, h0⟩
  ·rw [h0] at hlt; simp at hlt
  ·rw [List.concat_eq_append] at h0
   have hd := zmy h0
   rw [h0] at hlt hj
   have e1 : A ++ B = a ++ ([d] ++ List.replicate j 48) := by rw [← e, hj, List.append_assoc]
   have hla : A.length ≤ a.length := by simp at hlt; omega
   obtain ⟨C, hC⟩ : ∃ C, a = A ++ C := by
    refine ⟨a.drop A.length, ?_⟩
    have h2 := congrArg (List.take A.length) e1
    rw [List.take_append_of_le_length (Nat.le_refl _), List.take_length, List.take_append_of_le_length hla] at h2
    have := List.take_append_drop A.length a
    rw [← h2] at this
    exact this.symm
   rw [hC, List.append_assoc] at e1
   have e2 := List.append_cancel_left e1
   have hdd : isD d = true := by
    have := zfW h
    rw [h0] at this
    simpa using (zc1 this).2
   have hd1 := zie hdd hd
   rw [e2, ← List.append_assoc, zc8, zfs, zc8, zc9] at hB
   have hp : 0 < 10 ^ (List.replicate j (48 : UInt8)).length := Nat.pow_pos (by omega)
   have : 0 < (zl C 0 * 10 ^ [d].length + ((d.toNat - 48) * 10 ^ ([] : List UInt8).length + zl [] 0)) * 10 ^ (List.replicate j (48 : UInt8)).length := by
    apply Nat.mul_pos _ hp
    have : zl ([] : List UInt8) 0 = 0 := rfl
    simp only [List.length_nil, Nat.pow_zero, Nat.mul_one]
    omega
   omega
theorem zhK : ∀ j : Nat, zl (List.replicate j 57) 0 + 1 = 10 ^ j
 | 0 => rfl
 | j + 1 => by
  have := zhK j
  rw [List.replicate_succ, zc9, List.length_replicate, Nat.pow_succ, show (57 : UInt8).toNat - 48 = 9 from rfl]
  omega
theorem zkl {d : UInt8} (h : isD d = true) (hd : d ≠ 57) : isD (d + 1) = true ∧ (d + 1).toNat = d.toNat + 1 ∧ d + 1 ≠ 48 := by
 have h1 := zej h
 have h2 : d.toNat ≠ 57 := fun c => hd (UInt8.toNat_inj.1 (by rw [c]; rfl))
 have e : (d + 1).toNat = d.toNat + 1 := by rw [UInt8.toNat_add]; show (d.toNat + 1) % 256 = _; omega
 refine ⟨decide_eq_true (by omega), e, fun c => ?_⟩
 rw [c] at e
 have : (48 : UInt8).toNat = 48 := rfl
 omega
theorem zoq {A : List UInt8} {d : UInt8} {j : Nat} (hA : (A ++ [d]).all isD = true) (hd : d ≠ 57) (h0 : ∀ b r, A ++ [d] = b :: r → b ≠ 48) :
  dx (zl (A ++ [d] ++ List.replicate j 57) 0 + 1) = A ++ [d + 1] ++ List.replicate j 48 ∧ tr (dx (zl (A ++ [d] ++ List.replicate j 57) 0 + 1)) = A ++ [d + 1] := by
 obtain ⟨a1, a2⟩ := zc1 hA
 have hdd : isD d = true := by simpa using a2
 obtain ⟨u1, u2, u3⟩ := zkl hdd hd
 have l1 := zej hdd
 have e1 : zl (A ++ [d + 1]) 0 = zl (A ++ [d]) 0 + 1 := by
  rw [zc8, zc8, zc9, zc9, u2]
  show _ * 10 ^ 1 + ((d.toNat + 1 - 48) * 10 ^ 0 + 0) = _ * 10 ^ 1 + ((d.toNat - 48) * 10 ^ 0 + 0) + 1
  omega
 have e2 : zl (A ++ [d] ++ List.replicate j 57) 0 + 1 = zl (A ++ [d + 1]) 0 * 10 ^ j := by
  rw [zc8, List.length_replicate, Nat.add_assoc, zhK, e1, Nat.add_mul]; omega
 have h2 : (A ++ [d + 1]).all isD = true := by rw [List.all_append, a1]; simpa using u1
 obtain ⟨b, r, hb, hb0⟩ : ∃ b r, A ++ [d + 1] = b :: r ∧ b ≠ 48 := by
  cases A with
  | nil => exact ⟨d + 1, [], rfl, u3⟩
  | cons b r => exact ⟨b, r ++ [d + 1], rfl, h0 b (r ++ [d]) rfl⟩
 have h3 : dx (zl (A ++ [d + 1]) 0) = A ++ [d + 1] := zft h2 hb hb0
 have h4 : zl (A ++ [d + 1]) 0 ≠ 0 := by rw [e1]; omega
 have h5 : dx (zl (A ++ [d] ++ List.replicate j 57) 0 + 1) = A ++ [d + 1] ++ List.replicate j 48 := by rw [e2, zkb h4, h3]
 exact ⟨h5, by rw [h5, zg9, ze3 _ u3]⟩
theorem zor {j : Nat} (hj : 0 < j) : dx (zl (List.replicate j 57) 0 + 1) = 49 :: List.replicate j 48 ∧ tr (dx (zl (List.replicate j 57) 0 + 1)) = [49] := by
 have h1 : dx 1 = [49] := zft (l := [49]) (r := []) (b := 49) (by decide) rfl (by decide)
 have h5 : dx (zl (List.replicate j 57) 0 + 1) = [49] ++ List.replicate j 48 := by
  rw [zhK, ← Nat.one_mul (10 ^ j), zkb (by omega), h1]
 exact ⟨h5, by rw [h5, zg9]; rfl⟩
def hlf (r p : Nat) : Int := if 2 * r < p then -1 else if p < 2 * r then 1 else 0
theorem zoW {d : UInt8} {Rr : List UInt8} (h : (d :: Rr).all isD = true) : hlf (zl (d :: Rr) 0) (10 ^ (d :: Rr).length) =
  if d.toNat < 53 then -1 else if 53 < d.toNat then 1 else if zl Rr 0 ≠ 0 then 1 else 0 := by
 obtain ⟨h1, h2⟩ := zez h
 have l1 := zej h1
 have l2 := zfr h2
 have e : 10 ^ (d :: Rr).length = 10 * 10 ^ Rr.length := by rw [List.length_cons, Nat.pow_succ]; omega
 rw [zc9, e]
 obtain ⟨p, hp⟩ : ∃ p, p = 10 ^ Rr.length := ⟨_, rfl⟩
 obtain ⟨v, hv⟩ : ∃ v, v = zl Rr 0 := ⟨_, rfl⟩
 rw [← hp, ← hv] at l2 ⊢
 unfold hlf
 by_cases c1 : d.toNat < 53
 ·have : (d.toNat - 48) * p ≤ 4 * p := Nat.mul_le_mul_right _ (by omega)
  rw [if_pos c1, if_pos (by omega)]
 ·rw [if_neg c1]
  by_cases c2 : 53 < d.toNat
  ·have : 6 * p ≤ (d.toNat - 48) * p := Nat.mul_le_mul_right _ (by omega)
   rw [if_pos c2, if_neg (by omega), if_pos (by omega)]
  ·have e5 : d.toNat - 48 = 5 := by omega
   rw [if_neg c2, e5, if_neg (by omega)]
   by_cases c3 : v ≠ 0
   ·rw [if_pos c3, if_pos (by omega)]
   ·rw [if_neg c3, if_neg (by omega)]
def zbE (s : Bool) (d : List UInt8) (x : Int) : List UInt8 := sgT s ++
  (if x < -5 ∨ x > 20 then d.take 1 ++ (if 1 < d.length then 46 :: d.drop 1 else []) ++ 101 :: etx x
   else if x < 0 then 48 :: 46 :: (List.replicate (-x - 1).toNat 48 ++ d)
   else if x + 1 < (d.length : Int) then d.take (x + 1).toNat ++ 46 :: d.drop (x + 1).toNat
   else d ++ List.replicate (x + 1 - (d.length : Int)).toNat 48)
def zaF (s : Bool) (q : Nat) (x : Int) : List UInt8 := zbE s (tr (dx q)) (x + ((dx q).length : Nat) - 1)
theorem znj {l : List UInt8} (h : l.all isD = true) (n : Nat) : (l.take n).all isD = true := by
 rw [List.all_eq_true] at *
 exact fun x hx => h x (List.mem_of_mem_take hx)
theorem zj3 {f m : Int} (h : isF f) (s : Bool) {n : Nat} (hn : n ≠ 0) (i : Nat) (x : Int) : zq f m s (n * 10 ^ i) x = zq f m s n (x + i) := by
 unfold zq
 have hp : ∀ j : Nat, 0 < 10 ^ j := fun j => Nat.pow_pos (by omega)
 refine zrh h s (Nat.mul_ne_zero (Nat.mul_ne_zero hn (Nat.ne_of_gt (hp _))) (Nat.ne_of_gt (hp _))) (Nat.mul_ne_zero hn (Nat.ne_of_gt (hp _))) (hp _) (hp _) ?_ 0
 rw [Nat.mul_assoc n, Nat.mul_assoc n, Nat.mul_assoc n, ← Nat.pow_add, ← Nat.pow_add, ← Nat.pow_add]
 congr 2; omega
theorem zin (s : Bool) (d : List UInt8) (x : Int) : zbE s d x = sgT s ++ zbE false d x := rfl
theorem zld {d r : List UInt8} {b : UInt8} (hd : d.all isD = true) (e : d = b :: r) (x : Int) : ∃ c t, zbE false d x = c :: t ∧ isD c = true := by
 have hb : isD b = true := by rw [e] at hd; exact (zez hd).1
 subst e
 unfold zbE
 rw [show sgT false = [] from rfl, List.nil_append]
 by_cases c1 : x < -5 ∨ x > 20
 ·rw [if_pos c1]; exact ⟨b, _, rfl, hb⟩
 rw [if_neg c1]
 by_cases c2 : x < 0
 ·rw [if_pos c2]; exact ⟨48, _, rfl, by decide⟩
 rw [if_neg c2]
 by_cases c3 : x + 1 < ((b :: r).length : Int)
 ·rw [if_pos c3, show (x + 1).toNat = x.toNat + 1 by omega]; exact ⟨b, _, rfl, hb⟩
 ·rw [if_neg c3]; exact ⟨b, _, rfl, hb⟩
theorem zlf (d : List UInt8) (x : Int) : (zbE false d x).length ≤ d.length + 30 := by
 unfold zbE
 rw [show sgT false = [] from rfl, List.nil_append]
 have := zgq x
 by_cases c1 : x < -5 ∨ x > 20
 ·rw [if_pos c1]; split <;> simp <;> omega
 rw [if_neg c1]
 by_cases c2 : x < 0
 ·rw [if_pos c2]; simp; omega
 rw [if_neg c2]
 by_cases c3 : x + 1 < (d.length : Int)
 ·rw [if_pos c3]; simp; omega
 ·rw [if_neg c3]; simp; omega
theorem zox (f : Int) {n : Nat} (h : n ≠ 0) (e : Int) (j : Nat) : zaB f (n * 2 ^ j) e = zaB f n (e + j) := by
 unfold zaB
 rw [zkD h, Nat.pow_add, Nat.mul_div_mul_right _ _ (zj j)]
 congr 1; omega
theorem zov {f : Int} (h : isF f) {q : Nat} {u : Int} (hu : lo f ≤ u) (hq : q ≤ 2 ^ pr f) (hn : u = lo f ∨ 2 ^ fb f ≤ q) (h0 : q ≠ 0) : zaB f q u = (u - lo f).toNat * 2 ^ fb f + q := by
 have hpr := zL h
 have hp := zj (fb f)
 have hs : 2 ^ pr f = 2 ^ fb f * 2 := by rw [hpr, Nat.pow_succ]
 by_cases c : q = 2 ^ pr f
 ·have hb : bl (2 ^ fb f) = fb f + 1 := by
   have := zaj (v := 1) (by omega) (fb f)
   rw [Nat.one_mul, show bl 1 = 1 by decide] at this
   omega
  have e1 : zo f (2 ^ fb f) (u + 1) = u + 1 := by unfold zo; rw [hb, hpr]; omega
  rw [c, hs, ← Nat.pow_one 2, Nat.pow_one, show 2 ^ fb f * 2 = 2 ^ fb f * 2 ^ 1 from rfl, zox f (by omega), zhP (by omega) (by rw [show u + ((1 : Nat) : Int) = u + 1 from rfl, e1]; omega), show u + ((1 : Nat) : Int) = u + 1 from rfl, e1, show (u + 1 - (u + 1)).toNat = 0 by omega, Nat.pow_zero, Nat.mul_one,
   show (u + 1 - lo f).toNat = (u - lo f).toNat + 1 by omega, Nat.add_mul, show 2 ^ fb f * 2 ^ 1 = 2 ^ fb f * 2 from rfl]
  omega
 ·have hlt : q < 2 ^ pr f := by omega
  have hb : bl q ≤ pr f := zI hlt
  have e1 : zo f q u = u := by
   unfold zo
   rcases hn with hn | hn
   ·omega
   ·have := zV hn
    have h2 := zaj (v := 1) (by omega) (fb f)
    rw [Nat.one_mul, show bl 1 = 1 by decide] at h2
    omega
  rw [zhP h0 (by omega), e1, show (u - u).toNat = 0 by omega, Nat.pow_zero, Nat.mul_one]
theorem zse (m : Int) (s o : Bool) {x y p : Nat} (h : x ≤ y) (hy : y < p) (kx : 2 * x % p ≠ 0 ↔ x ≠ 0 ∧ 2 * x ≠ p) (ky : 2 * y % p ≠ 0 ↔ y ≠ 0 ∧ 2 * y ≠ p) :
  upB m s o (decide (p ≤ 2 * x)) (decide (2 * x % p ≠ 0)) = true → upB m s o (decide (p ≤ 2 * y)) (decide (2 * y % p ≠ 0)) = true := by
 unfold upB
 by_cases c1 : m = 1
 ·rw [if_pos c1, if_pos c1]
  simp only [Bool.and_eq_true, Bool.or_eq_true, decide_eq_true_eq, kx, ky]
  rintro ⟨g1, g2⟩
  refine ⟨by omega, ?_⟩
  by_cases c2 : 2 * y = p
  ·exact .inr (g2.resolve_left (by omega))
  ·exact .inl (by omega)
 rw [if_neg c1, if_neg c1]
 by_cases c2 : m = 2
 ·rw [if_pos c2, if_pos c2]
  simp only [decide_eq_true_eq]
  omega
 rw [if_neg c2, if_neg c2]
 by_cases c4 : m = 4
 ·rw [if_pos c4, if_pos c4]
  simp only [Bool.and_eq_true, Bool.or_eq_true, decide_eq_true_eq, kx, ky]
  rintro ⟨g1, g2⟩
  exact ⟨g1, by omega⟩
 rw [if_neg c4, if_neg c4]
 by_cases c5 : m = 5
 ·rw [if_pos c5, if_pos c5]
  simp only [Bool.and_eq_true, Bool.or_eq_true, decide_eq_true_eq, kx, ky]
  rintro ⟨g1, g2⟩
  exact ⟨g1, by omega⟩
 rw [if_neg c5, if_neg c5]
 exact id
theorem zq9 (m : Int) (s : Bool) {a b k : Nat} (h : a ≤ b) : rnd m s a k ≤ rnd m s b k := by
 have hp := zj k
 have h1 : a / 2 ^ k ≤ b / 2 ^ k := Nat.div_le_div_right h
 unfold rnd
 by_cases c : a / 2 ^ k = b / 2 ^ k
 ·have h2 : a % 2 ^ k ≤ b % 2 ^ k := by
   have ea := Nat.div_add_mod a (2 ^ k)
   have eb := Nat.div_add_mod b (2 ^ k)
   rw [c] at ea
   omega
  have h3 := Nat.mod_lt b hp
  rw [c]
  suffices hh : upB m s (decide (b / 2 ^ k % 2 = 1)) (decide (2 ^ k ≤ 2 * (a % 2 ^ k))) (decide (2 * (a % 2 ^ k) % 2 ^ k ≠ 0)) = true → upB m s (decide (b / 2 ^ k % 2 = 1)) (decide (2 ^ k ≤ 2 * (b % 2 ^ k))) (decide (2 * (b % 2 ^ k) % 2 ^ k ≠ 0)) = true by
   split
   ·rename_i hu; rw [if_pos (hh hu)]; omega
   ·split <;> omega
  have key : ∀ r, r < 2 ^ k → (2 * r % 2 ^ k ≠ 0 ↔ r ≠ 0 ∧ 2 * r ≠ 2 ^ k) := by
   intro r hr
   by_cases c1 : 2 * r < 2 ^ k
   ·rw [Nat.mod_eq_of_lt c1]; omega
   ·rw [Nat.mod_eq_sub_mod (by omega), Nat.mod_eq_of_lt (by omega)]; omega
  have ka := key (a % 2 ^ k) (by omega)
  have kb := key (b % 2 ^ k) h3
  exact zse m s _ h2 h3 ka kb
 ·have h2 : a / 2 ^ k < b / 2 ^ k := by omega
  split <;> split <;> omega
def zdN (f m : Int) (s : Bool) : Nat := if inw m s = true then mo f * 2 ^ fb f - 1 else mo f * 2 ^ fb f
def zb8 (f m : Int) (s : Bool) (n : Nat) (e : Int) : Nat :=
 if (bl (R m s n e (zg f n e)) : Int) + zg f n e > wd f then zdN f m s
 else if R m s n e (zg f n e) = 0 then 0 else zaB f (R m s n e (zg f n e)) (zg f n e)
theorem zeY (f m : Int) (s : Bool) (n : Nat) (e : Int) : (zu f m s n e).1 = ((zb8 f m s n e + sgn f s : Nat) : Int) := by
 unfold zu zb8
 dsimp only
 by_cases c : (bl (R m s n e (zg f n e)) : Int) + zg f n e > wd f
 ·rw [if_pos c, if_pos c]; rfl
 ·rw [if_neg c, if_neg c]
def zby (f m : Int) (s : Bool) (n : Nat) (e : Int) : Nat := (zg f n e - lo f).toNat * 2 ^ fb f + R m s n e (zg f n e)
theorem zi4 {f m : Int} (h : isF f) (s : Bool) {n : Nat} (hn : n ≠ 0) (e : Int) : lo f ≤ zg f n e ∧ R m s n e (zg f n e) ≤ 2 ^ pr f ∧ (zg f n e = lo f ∨ 2 ^ fb f ≤ R m s n e (zg f n e)) := by
 have hpr := zL h
 refine ⟨by unfold zg; omega, zf7 (p := pr f) (by unfold zg; omega), ?_⟩
 by_cases c : zg f n e = lo f
 ·exact .inl c
 ·right
  have hu : zg f n e = e + (bl n : Nat) - (pr f : Nat) := by unfold zg at c ⊢; omega
  obtain ⟨h1, _⟩ := zfd (m := m) (s := s) (e := e) hn (E := zg f n e) (by omega)
  have h2 : R m s n e (zg f n e) ≠ 0 := by
   intro hz
   rw [hz, zaG] at h1
   omega
  have h3 := zc3 h2
  exact Nat.le_trans (Nat.pow_le_pow_right (by omega) (by omega)) h3
theorem zgl {f m : Int} (h : isF f) (s : Bool) {n : Nat} (hn : n ≠ 0) (e : Int) : zb8 f m s n e = if mo f * 2 ^ fb f ≤ zby f m s n e then zdN f m s else zby f m s n e := by
 obtain ⟨h1, h2, h3⟩ := zi4 (m := m) h s hn e
 have hpr := zL h
 have hro := zhV h
 have hmo := zel h
 have hp := zj (fb f)
 have hs : 2 ^ pr f = 2 * 2 ^ fb f := by rw [hpr, Nat.pow_succ]; omega
 have hiff : (bl (R m s n e (zg f n e)) : Int) + zg f n e > wd f ↔ mo f * 2 ^ fb f ≤ zby f m s n e := by
  unfold zby
  obtain ⟨u, hu⟩ : ∃ u, u = zg f n e := ⟨_, rfl⟩
  obtain ⟨q, hq⟩ : ∃ q, q = R m s n e u := ⟨_, rfl⟩
  rw [← hu] at h1 h2 h3 ⊢
  rw [← hq] at h2 h3 ⊢
  obtain ⟨d, hd⟩ : ∃ d, d = (u - lo f).toNat := ⟨_, rfl⟩
  rw [← hd]
  have hud : u = lo f + (d : Int) := by omega
  by_cases c : q = 2 ^ pr f
  ·have hb : bl q = pr f + 1 := by
    have := zaj (v := 1) (by omega) (pr f)
    rw [Nat.one_mul, show bl 1 = 1 by decide] at this
    rw [c]; omega
   rw [hb, c, hs]
   have : d * 2 ^ fb f + 2 * 2 ^ fb f = (d + 2) * 2 ^ fb f := by rw [Nat.add_mul]
   rw [this, Nat.mul_le_mul_right_iff hp]
   omega
  ·have hlt : q < 2 * 2 ^ fb f := by omega
   have hb : bl q ≤ pr f := zI (by omega)
   rcases h3 with h3 | h3
   ·have : d = 0 := by omega
    subst this
    have h5 : 2 * 2 ^ fb f ≤ mo f * 2 ^ fb f := Nat.mul_le_mul_right _ (by omega)
    constructor
    ·intro; omega
    ·intro; omega
   ·have h4 := zV h3
    have h5 := zaj (v := 1) (by omega) (fb f)
    rw [Nat.one_mul, show bl 1 = 1 by decide] at h5
    have hb2 : bl q = pr f := by omega
    rw [hb2]
    constructor
    ·intro hh
     have h6 : (mo f - 1) * 2 ^ fb f ≤ d * 2 ^ fb f := Nat.mul_le_mul_right _ (by omega)
     have h7 : mo f * 2 ^ fb f = (mo f - 1) * 2 ^ fb f + 2 ^ fb f := by
      rw [← Nat.succ_mul]; congr 1; omega
     omega
    ·intro hh
     apply Int.lt_of_not_ge
     intro hc
     have h6 : d * 2 ^ fb f ≤ (mo f - 2) * 2 ^ fb f := Nat.mul_le_mul_right _ (by omega)
     have h7 : mo f * 2 ^ fb f = (mo f - 2) * 2 ^ fb f + 2 * 2 ^ fb f := by
      rw [← Nat.add_mul]; congr 1; omega
     omega
 unfold zb8
 by_cases c : (bl (R m s n e (zg f n e)) : Int) + zg f n e > wd f
 ·rw [if_pos c, if_pos (hiff.1 c)]
 ·rw [if_neg c, if_neg (fun hh => c (hiff.2 hh))]
  by_cases c0 : R m s n e (zg f n e) = 0
  ·rw [if_pos c0]
   have : zg f n e = lo f := h3.resolve_right (by omega)
   unfold zby
   rw [c0, this, show (lo f - lo f).toNat = 0 by omega, Nat.zero_mul]
  ·rw [if_neg c0, zov h h1 h2 h3 c0]; rfl
theorem znT {f m : Int} (h : isF f) (s : Bool) {n n' : Nat} (hn : n ≠ 0) (hle : n ≤ n') (e : Int) : zby f m s n e ≤ zby f m s n' e := by
 obtain ⟨h1, h2, h3⟩ := zi4 (m := m) h s hn e
 obtain ⟨k1, k2, k3⟩ := zi4 (m := m) h s (n := n') (by omega) e
 have hpr := zL h
 have hs : 2 ^ pr f = 2 * 2 ^ fb f := by rw [hpr, Nat.pow_succ]; omega
 have hb := zV hle
 have hu : zg f n e ≤ zg f n' e := by unfold zg; omega
 unfold zby
 by_cases c : zg f n e = zg f n' e
 ·rw [← c]
  have : R m s n e (zg f n e) ≤ R m s n' e (zg f n e) := by
   unfold R
   exact zq9 m s (Nat.mul_le_mul_right _ hle)
  omega
 ·have k4 := k3.resolve_left (by omega)
  have e1 : ((zg f n e - lo f).toNat + 1) * 2 ^ fb f ≤ (zg f n' e - lo f).toNat * 2 ^ fb f := Nat.mul_le_mul_right _ (by omega)
  rw [Nat.add_mul] at e1
  omega
theorem znW {f m : Int} (h : isF f) (s : Bool) {n n' : Nat} (hn : n ≠ 0) (hle : n ≤ n') (e : Int) : zb8 f m s n e ≤ zb8 f m s n' e ∧ zb8 f m s n' e ≤ mo f * 2 ^ fb f := by
 have h1 := znT (m := m) h s hn hle e
 rw [zgl h s hn, zgl h s (n := n') (by omega)]
 have hm : zdN f m s ≤ mo f * 2 ^ fb f ∧ mo f * 2 ^ fb f - 1 ≤ zdN f m s := by unfold zdN; split <;> omega
 constructor
 ·split <;> split <;> omega
 ·split <;> omega
theorem zrz {A B A' B' : Nat} (hB : 0 < B) (hB' : 0 < B') (hx : A * B' ≤ A' * B) : stk (A / B) (decide (A % B ≠ 0)) ≤ stk (A' / B') (decide (A' % B' ≠ 0)) := by
 have ea := Nat.div_add_mod A B
 have ea' := Nat.div_add_mod A' B'
 have hl' := Nat.mod_lt A' hB'
 have hq : A / B ≤ A' / B' := by
  rw [Nat.le_div_iff_mul_le hB']
  have h1 : A / B * B * B' ≤ A * B' := Nat.mul_le_mul_right _ (Nat.div_mul_le_self A B)
  have h2 : A / B * B' * B ≤ A' * B := by
   rw [Nat.mul_assoc, Nat.mul_comm B' B, ← Nat.mul_assoc]; omega
  exact Nat.le_of_mul_le_mul_right h2 hB
 unfold stk
 have hb1 := zeA (decide (A % B ≠ 0))
 have hb2 := zeA (decide (A' % B' ≠ 0))
 by_cases c : A / B = A' / B'
 ·by_cases c0 : A % B = 0
  ·have : bN (decide (A % B ≠ 0)) = 0 := by rw [zgd]; exact decide_eq_false (by simpa using c0)
   omega
  ·have c1 : A' % B' ≠ 0 := by
    intro hz
    rw [hz, Nat.add_zero] at ea'
    rw [← ea, ← ea', ← c, Nat.add_mul] at hx
    have h3 : B * (A / B) * B' = B' * (A / B) * B := by
     rw [Nat.mul_comm B, Nat.mul_assoc, Nat.mul_comm B B', ← Nat.mul_assoc, Nat.mul_comm (A / B) B']
    rw [h3] at hx
    have h4 : 0 < A % B * B' := Nat.mul_pos (by omega) hB'
    omega
   have : bN (decide (A' % B' ≠ 0)) = 1 := by
    have : bN (decide (A' % B' ≠ 0)) ≠ 0 := fun hz => by
     rw [zgd] at hz
     exact absurd (of_decide_eq_false hz) (by simpa using c1)
    omega
   omega
 ·omega
theorem zlN {f m : Int} (h : isF f) (s : Bool) {A B A' B' : Nat} (hA : A ≠ 0) (hA' : A' ≠ 0) (hB : 0 < B) (hB' : 0 < B') (hx : A * B' ≤ A' * B) (e : Int) :
  ∃ c c' : Nat, (rq f m s A B e).1 = ((c + sgn f s : Nat) : Int) ∧ (rq f m s A' B' e).1 = ((c' + sgn f s : Nat) : Int) ∧ c ≤ c' ∧ c' ≤ mo f * 2 ^ fb f := by
 obtain ⟨N, hN⟩ : ∃ N, N = max (bl B + 64) (bl B' + 64) := ⟨_, rfl⟩
 have bits : ∀ {A B : Nat}, A ≠ 0 → 0 < B → bl B + 64 ≤ N → pr f + 1 ≤ bl (A * 2 ^ N / B) ∧ A * 2 ^ N / B ≠ 0 := by
  intro A B hA hB hle
  have h1 := zfQ hA hB
  have h2 : A * 2 ^ (bl B + 64) / B ≤ A * 2 ^ N / B := Nat.div_le_div_right (Nat.mul_le_mul_left _ (Nat.pow_le_pow_right (by omega) hle))
  have h3 := zV h2
  have h4 : pr f ≤ 53 := by rcases h with rfl | rfl <;> decide
  refine ⟨by omega, fun hz => ?_⟩
  rw [hz, zaG] at h3
  omega
 have b1 := bits hA hB (by omega)
 have b2 := bits hA' hB' (by omega)
 have hm := zrz (A := A * 2 ^ N) (A' := A' * 2 ^ N) hB hB' (by
  rw [Nat.mul_right_comm, Nat.mul_right_comm A']
  exact Nat.mul_le_mul_right _ hx)
 have hne : stk (A * 2 ^ N / B) (decide (A * 2 ^ N % B ≠ 0)) ≠ 0 := by unfold stk; omega
 obtain ⟨g1, g2⟩ := znW (m := m) h s hne hm (e - N - 1)
 exact ⟨_, _, by rw [← ze0 h s hA hB e N b1.1, zeY], by rw [← ze0 h s hA' hB' e N b2.1, zeY], g1, g2⟩
theorem zjT (f : Int) (s : Bool) (n : Nat) (e : Int) : zb8 f 1 s n e = zb8 f 1 false n e := by
 have h1 : ∀ E, R 1 s n e E = R 1 false n e E := fun E => rfl
 have h2 : zdN f 1 s = zdN f 1 false := by unfold zdN inw; rfl
 unfold zb8
 rw [h1, h2]
theorem zri {f : Int} (h : isF f) (s : Bool) {A B : Nat} (e : Int) : (rq f 1 s A B e).1 = (rq f 1 false A B e).1 + (sgn f s : Nat) := by
 have e1 : ∀ s, (rq f 1 s A B e).1 = (zu f 1 s (stk (A * 2 ^ (bl B + 64) / B) (decide (A * 2 ^ (bl B + 64) % B ≠ 0))) (e - (bl B + 64 : Nat) - 1)).1 := fun s => rfl
 rw [e1, e1, zeY, zeY, zjT f s]
 have : sgn f false = 0 := rfl
 rw [this]
 omega
def exN (z : Nat) (e : Int) : Nat := z * 2 ^ e.toNat * 5 ^ (-e).toNat
def exG (e : Int) : Nat := (-e).toNat
theorem zcu {z : Nat} (h : z ≠ 0) (e : Int) : exN z e ≠ 0 := Nat.mul_ne_zero (Nat.mul_ne_zero h (Nat.ne_of_gt (zj _))) (Nat.ne_of_gt (Nat.pow_pos (by omega)))
theorem zjZ {f m : Int} (h : isF f) (s : Bool) {z : Nat} (hz : z ≠ 0) (e : Int) : zq f m s (exN z e) (-(exG e : Int)) = zu f m s z e := by
 have h5 := zcu hz e
 rw [← zjY h s h5]
 unfold exN exG
 have e1 := zfR (m := m) h s (A := z * 2 ^ e.toNat) (B := 1) (c := 5 ^ (-e).toNat) (Nat.mul_ne_zero hz (Nat.ne_of_gt (zj _))) (by omega) (Nat.pow_pos (by omega)) (-(((-e).toNat : Nat) : Int))
 rw [Nat.one_mul] at e1
 rw [e1, zfS h s hz (by omega), zgW h s hz]
 congr 1
 omega
def zcS (g : Nat) (t : List UInt8) : List UInt8 := List.replicate (g + 1 - t.length) 48 ++ t
theorem zgH (g : Nat) (t : List UInt8) : g + 1 ≤ (zcS g t).length ∧ (zcS g t).length = max (g + 1) t.length := by
 unfold zcS
 rw [List.length_append, List.length_replicate]; omega
def exW (z : Nat) (e : Int) : List UInt8 := if 0 ≤ e then dx (exN z e) else (zcS (exG e) (dx (exN z e))).take ((zcS (exG e) (dx (exN z e))).length - exG e)
def exP (z : Nat) (e : Int) : List UInt8 := if 0 ≤ e then [] else (zcS (exG e) (dx (exN z e))).drop ((zcS (exG e) (dx (exN z e))).length - exG e)
theorem zoA (z : Nat) (e : Int) : (exP z e).length = exG e := by
 unfold exP
 by_cases c : 0 ≤ e
 ·rw [if_pos c]; unfold exG; simp; omega
 ·rw [if_neg c, List.length_drop]
  have := (zgH (exG e) (dx (exN z e))).1
  omega
theorem zoD {z : Nat} (hz : z ≠ 0) (e : Int) : 0 < (exW z e).length ∧ (exW z e).length ≤ (dx (exN z e)).length + 1 := by
 unfold exW
 have := zdH (zcu hz e)
 by_cases c : 0 ≤ e
 ·rw [if_pos c]; omega
 ·rw [if_neg c, List.length_take]
  have := (zgH (exG e) (dx (exN z e)))
  omega
theorem zoC (z : Nat) (e : Int) : ∃ j, exW z e ++ exP z e = List.replicate j 48 ++ dx (exN z e) ∧ j = (exW z e).length + exG e - (dx (exN z e)).length := by
 unfold exW exP
 by_cases c : 0 ≤ e
 ·rw [if_pos c, if_pos c]
  exact ⟨0, by simp, by unfold exG; omega⟩
 ·rw [if_neg c, if_neg c, List.take_append_drop]
  refine ⟨_, rfl, ?_⟩
  have := (zgH (exG e) (dx (exN z e)))
  rw [List.length_take]
  omega
theorem zqn (n : Nat) : 5 ^ n ≤ 10 ^ (7 * (n / 10 + 1)) := by
 have h1 : 5 ^ n ≤ 5 ^ (10 * (n / 10 + 1)) := Nat.pow_le_pow_right (by omega) (by omega)
 have h2 : (5 ^ 10) ^ (n / 10 + 1) ≤ (10 ^ 7) ^ (n / 10 + 1) := Nat.pow_le_pow_left (by decide) _
 rw [← Nat.pow_mul, ← Nat.pow_mul] at h2
 omega
theorem zqm (n : Nat) : 2 ^ n ≤ 10 ^ (3 * (n / 8 + 1)) := by
 have h1 : 2 ^ n ≤ 2 ^ (8 * (n / 8 + 1)) := Nat.pow_le_pow_right (by omega) (by omega)
 have h2 : (2 ^ 8) ^ (n / 8 + 1) ≤ (10 ^ 3) ^ (n / 8 + 1) := Nat.pow_le_pow_left (by decide) _
 rw [← Nat.pow_mul, ← Nat.pow_mul] at h2
 omega
theorem zkx {z y p K : Nat} (hz : z < 10 ^ 16) (hy : y ≤ 10 ^ p) (hp : 16 + p ≤ K) : z * y < 10 ^ K := by
 have h5 : z * y ≤ z * 10 ^ p := Nat.mul_le_mul_left _ hy
 have h6 : z * 10 ^ p < 10 ^ 16 * 10 ^ p := Nat.mul_lt_mul_of_pos_right hz (Nat.pow_pos (by omega))
 rw [← Nat.pow_add] at h6
 exact Nat.lt_of_le_of_lt h5 (Nat.lt_of_lt_of_le h6 (Nat.pow_le_pow_right (by omega) hp))
theorem zhT {z : Nat} {e : Int} (hb : bl z ≤ 53) (h1 : -1074 ≤ e) (h2 : e ≤ 1024) : (dx (exN z e)).length ≤ 800 := by
 obtain ⟨K, hK⟩ : ∃ K : Nat, K = 800 := ⟨_, rfl⟩
 rw [← hK]
 apply zka _ (by omega)
 unfold exN
 have hz : z < 2 ^ bl z := zP z
 have hz2 : 2 ^ bl z ≤ 2 ^ 53 := Nat.pow_le_pow_right (by omega) hb
 have hz3 : z < 10 ^ 16 := Nat.lt_of_lt_of_le (Nat.lt_of_lt_of_le hz hz2) (by decide)
 by_cases c : 0 ≤ e
 ·rw [show (-e).toNat = 0 by omega, Nat.pow_zero, Nat.mul_one]
  exact zkx hz3 (zqm e.toNat) (by omega)
 ·rw [show e.toNat = 0 by omega, Nat.pow_zero, Nat.mul_one]
  exact zkx hz3 (zqn (-e).toNat) (by omega)
theorem zx (a b : List UInt8) : bx a ++ bx b = bx (a ++ b) := zcD.1 (by rw [zrT]; rfl)
theorem zc5 (T : List UInt8) (n : Nat) : (bx T).extract 0 n = bx (T.take n) := zcD.1 (by rw [zg6]; rfl)
theorem zeF (T : List UInt8) (n : Nat) : (bx T).extract n (bx T).size = bx (T.drop n) := zcD.1 (by rw [zg6, zA, zcm, zcm, List.take_length])
theorem znC (T : List UInt8) (i j : Nat) : (bx T).extract i j = bx ((T.take j).drop i) := zcD.1 (by rw [zg6]; rfl)
theorem ziH {n : Int} (h0 : 0 ≤ n) (h1 : n ≤ 1000000) : zaT.f (⟨#[48]⟩ : ByteArray) n = some (bx (List.replicate n.toNat 48)) := by
 unfold zaT.f
 have hs : (⟨#[48]⟩ : ByteArray).size = 1 := rfl
 rw [if_pos ⟨h0, by rw [hs]; omega, by omega⟩]
 have : Lib.repeatL (⟨#[48]⟩ : ByteArray).data.toList n.toNat = List.replicate n.toNat 48 := zlD 48 _
 rw [this]; rfl
def nmT (f : Int) (w : Nat) : List UInt8 := if cls f w = 5 then [110, 97, 110] else if cls f w = 4 then sgT (zk f w) ++ [105, 110, 102] else if cls f w = 1 then sgT (zk f w) ++ [48] else []
def zaN (f : Int) (w : Nat) : Bool := decide (cls f w = 5 ∨ cls f w = 4 ∨ cls f w = 1)
theorem zgt {f : Int} {w : Nat} (h : zaN f w = false) : cls f w ≠ 5 ∧ cls f w ≠ 4 ∧ cls f w ≠ 1 := by
 have := of_decide_eq_false h
 exact ⟨fun c => this (.inl c), fun c => this (.inr (.inl c)), fun c => this (.inr (.inr c))⟩
theorem nm5 {f : Int} {w : Nat} (c : cls f w = 5) : (bx (nmT f w), zaN f w) = (bx [110, 97, 110], true) := by unfold nmT zaN; rw [if_pos c, decide_eq_true (.inl c)]
theorem nm4 {f : Int} {w : Nat} (c : cls f w = 4) : (bx (nmT f w), zaN f w) = (bx (sgT (zk f w) ++ [105, 110, 102]), true) := by unfold nmT zaN; rw [if_neg (by omega), if_pos c, decide_eq_true (.inr (.inl c))]
theorem nm1 {f : Int} {w : Nat} (c : cls f w = 1) : (bx (nmT f w), zaN f w) = (bx (sgT (zk f w) ++ [48]), true) := by unfold nmT zaN; rw [if_neg (by omega), if_neg (by omega), if_pos c, decide_eq_true (.inr (.inr c))]
theorem nm0 {f : Int} {w : Nat} (c5 : ¬ cls f w = 5) (c4 : ¬ cls f w = 4) (c1 : ¬ cls f w = 1) : (bx (nmT f w), zaN f w) = (bx [], false) := by
 unfold nmT zaN; rw [if_neg c5, if_neg c4, if_neg c1, decide_eq_false (by rintro (c | c | c); exact c5 c; exact c4 c; exact c1 c)]
theorem zkM (s : Bool) (a b : Int) {t : List UInt8} (ht : t.length ≤ 10) : Ev (fun k => zce.j1 k s a b (bx t)) (bx (sgT s ++ t), true, 0) := by
 refine zf ?_; simp only [zce.j1]
 have hs := zA t
 cases s with
 | true => exact zd rfl (zd (show 1 + (bx t).size < 9223372036854775808 by omega) (zh (Ev.now _) (by rw [show (⟨#[45]⟩ : ByteArray) = bx [45] from rfl, zx]; rfl)))
 | false => exact ze (by simp) (Ev.now _)
theorem zpM {f : Int} (h : isF f) {w : Nat} (hw : w < 2 * sg f) : Ev (fun k => zce.f k f (w : Int)) (bx (nmT f w), zaN f w, 0) := by
 unfold zce.f
 refine Ev.bind (zsv h hw) (ze (by simp) (Ev.bind (zsA h hw) ?_))
 unfold nmT zaN
 by_cases c5 : cls f w = 5
 ·rw [if_pos c5, decide_eq_true (.inl c5)]
  exact zd c5 (Ev.now _)
 rw [if_neg c5]
 by_cases c4 : cls f w = 4
 ·rw [if_pos c4, decide_eq_true (.inr (.inl c4))]
  exact ze c5 (zd c4 (zkM (t := [105, 110, 102]) _ _ _ (by decide)))
 rw [if_neg c4]
 by_cases c1 : cls f w = 1
 ·rw [if_pos c1, decide_eq_true (.inr (.inr c1))]
  exact ze c5 (ze c4 (zd c1 (zkM (t := [48]) _ _ _ (by decide))))
 ·rw [if_neg c1, decide_eq_false (by rintro (c | c | c); exact c5 c; exact c4 c; exact c1 c)]
  exact ze c5 (ze c4 (ze c1 (Ev.now _)))
theorem zqC {f : Int} (h : isF f) (w : Nat) : Ev (fun k => zbQ.f k f (w : Int)) (bx (nmT f w), zaN f w) := by
 have hgo : ∀ {r}, Ev (fun k => zbQ.j0 k f (w : Int) (bx (sgT (zk f w)))) r → Ev (fun k => zbQ.f k f (w : Int)) r := by
  intro r hr
  unfold zbQ.f
  refine zi (zgQ h w) ?_
  cases hn : zk f w with
  | true => rw [hn] at hr; exact zd rfl hr
  | false => rw [hn] at hr; exact ze (by simp) hr
 have hs := zA (sgT (zk f w))
 have hl := zgX (zk f w)
 refine hgo ?_
 refine zf ?_; simp only [zbQ.j0]
 refine zi (zgO h w) ?_
 by_cases c5 : cls f w = 5
 ·rw [nm5 c5]
  exact zd c5 (Ev.now _)
 by_cases c4 : cls f w = 4
 ·rw [nm4 c4, ← zx]
  exact ze c5 (zd c4 (zd (show (bx (sgT (zk f w))).size + 3 < 9223372036854775808 by omega) (Ev.now _)))
 by_cases c1 : cls f w = 1
 ·rw [nm1 c1, ← zx]
  exact ze c5 (ze c4 (zd c1 (zd (show (bx (sgT (zk f w))).size + 1 < 9223372036854775808 by omega) (Ev.now _))))
 ·rw [nm0 c5 c4 c1]
  exact ze c5 (ze c4 (ze c1 (Ev.now _)))
theorem zhR (z : Nat) {e : Int} (h : 0 ≤ e) : exN z e = z * 2 ^ e.toNat := by unfold exN; rw [show (-e).toNat = 0 by omega, Nat.pow_zero, Nat.mul_one]
theorem zhS (z : Nat) {e : Int} (h : e < 0) : exN z e = z * 5 ^ (-e).toNat := by unfold exN; rw [show e.toNat = 0 by omega, Nat.pow_zero, Nat.mul_one]
theorem zoE {z : Nat} {e : Int} (hb : bl z ≤ 53) (h1 : -1074 ≤ e) (h2 : e ≤ 1024) : bl (exN z e) ≤ 3300 := by
 by_cases c : 0 ≤ e
 ·rw [zhR z c]
  have := zcp z e.toNat
  omega
 ·rw [zhS z (by omega)]
  have := zdx z (5 ^ (-e).toNat)
  have := zgK (-e).toNat
  omega
theorem zpr {n k : Nat} (hb : bl n ≤ 32 * k) : n < 4294967296 ^ k := by
 have h1 := zP n
 have h2 : (4294967296 : Nat) ^ k = 2 ^ (32 * k) := by rw [Nat.pow_mul]
 rw [h2]
 exact Nat.lt_of_lt_of_le h1 (Nat.pow_le_pow_right (by omega) hb)
theorem zc0 {n k : Nat} (hb : bl n ≤ 32 * k) : (D n).length ≤ k := zan (zpr hb)
def dz (f : Int) (w : Nat) : Nat := V (wv f w).2.1
def we (f : Int) (w : Nat) : Int := (wv f w).2.2
structure Wd (f : Int) (w : Nat) : Prop where
 eq : wv f w = (zk f w, D (dz f w), we f w)
 my : My (zk f w) (D (dz f w)) (we f w)
 ne : dz f w ≠ 0
 b : bl (dz f w) ≤ 53
 lo : -1074 ≤ we f w
 hi : we f w + (bl (dz f w) : Nat) ≤ 1024
theorem zdZ {f : Int} (h : isF f) {w : Nat} (c1 : cls f w ≠ 1) (c4 : cls f w < 4) : Wd f w := by
 obtain ⟨my, ne, b, lo, hi, hs⟩ := zqp h c1 c4
 have hb := (zmP h c1 c4).b
 have hpr : pr f ≤ 53 := by rcases h with rfl | rfl <;> decide
 have e : wv f w = (zk f w, D (dz f w), we f w) := by
  have hn : D (V (wv f w).2.1) = (wv f w).2.1 := my.dy.nm
  unfold dz we
  rw [hn, ← hs]
 refine ⟨e, ?_, ne, ?_, lo, hi⟩
 ·rw [e] at my; exact my
 ·exact Nat.le_trans hb hpr
theorem zsF {f : Int} (h : isF f) {w : Nat} (hw : w < 2 * sg f) (c1 : cls f w ≠ 1) (c4 : cls f w < 4) : Ev (fun k => zb3.f k f (w : Int)) (zk f w, D (dz f w), we f w, 0) := by
 have hv := zsB h hw c4
 have hwv : mk (sv (zk f w) (zm f w)) (wex f w) = wv f w := rfl
 rw [hwv, (zdZ h c1 c4).eq] at hv
 exact hv
theorem zrn {f : Int} (h : isF f) {w : Nat} (c1 : cls f w ≠ 1) (c4 : cls f w < 4) : Ev (fun k => zeb.f k f (w : Int)) (zk f w, D (dz f w), we f w) := by
 have hv := zqP h w
 have hwv : mk (sv (zk f w) (zm f w)) (wex f w) = wv f w := rfl
 rw [hwv, (zdZ h c1 c4).eq] at hv
 exact hv
theorem zkh (s : Bool) (l : List Int) {e : Int} {T : List UInt8} (h1 : -1074 ≤ e) (h2 : e < 0) (hT : (-e).toNat ≤ T.length) (hl : T.length ≤ 10000) :
  Ev (fun k => zcd.j1 k s l e (bx T)) (s, bx (T.take (T.length - (-e).toNat)), bx (T.drop (T.length - (-e).toNat))) := by
 have hs := zA T
 have hw : wrap64 (((bx T).size : Int) + e) = ((T.length - (-e).toNat : Nat) : Int) := by rw [w64 (by omega) (by omega)]; omega
 refine zf ?_; simp only [zcd.j1]
 rw [hw, Int.toNat_natCast, zc5, zeF]
 exact zd (by omega) (zd (by omega) (zd (by omega) (zd (by omega) (Ev.now _))))
theorem zoe {f : Int} (h : isF f) {w : Nat} (hw : w < 2 * sg f) (c1 : cls f w ≠ 1) (c4 : cls f w < 4) :
  Ev (fun k => zcd.f k f (w : Int)) (zk f w, bx (exW (dz f w) (we f w)), bx (exP (dz f w) (we f w))) := by
 have W := zdZ h c1 c4
 have hv := zsF h hw c1 c4
 obtain ⟨_, my, ne, b, lo, hi⟩ := W
 have hbp := zbx ne
 revert hv my ne b lo hi hbp
 generalize zk f w = s
 generalize dz f w = z
 generalize we f w = e
 intro hv my ne b lo hi hbp
 have hN : (D (exN z e)).length ≤ 104 := zc0 (by have := zoE b lo (by omega); omega)
 have hx := zhT b lo (by omega)
 unfold zcd.f
 refine Ev.bind hv ?_
 by_cases c : 0 ≤ e
 ·have e1 : zcU (V (D z)) e = (D (exN z e), false, 0) := by
   unfold zcU
   rw [V_D, if_neg ne, if_neg (by omega), if_neg (by omega), if_neg (by omega), zhR z c]
  have hsh := zfG my.dy.nm my.len e
  rw [e1] at hsh
  have ht := zkQ (zv (exN z e)) (by omega)
  rw [V_D, ziV] at ht
  refine zd c (Ev.bind hsh (Ev.bind ht ?_))
  unfold exW exP
  rw [if_pos c, if_pos c]
  exact Ev.now _
 ·have c' : e < 0 := by omega
  have hg : exG e = (-e).toNat := rfl
  have e1 : wrap64 (-e) = (((-e).toNat : Nat) : Int) := by rw [w64 (by omega) (by omega)]; omega
  have h5 : (D (5 ^ (-e).toNat)).length ≤ 104 := zc0 (by have := zgK (-e).toNat; omega)
  have hp := zia (b := 5) (n := (-e).toNat) (by omega) (by omega)
  rw [zfk (by omega)] at hp
  have hm := zkP (zv z) (zv (5 ^ (-e).toNat)) my.len (by omega)
  rw [V_D, V_D, ← zhS z c', zfk (by omega)] at hm
  have ht := zkQ (zv (exN z e)) (by omega)
  rw [V_D, ziV] at ht
  have hsz := zA (dx (exN z e))
  have hpd := zgH (exG e) (dx (exN z e))
  unfold exW exP
  rw [if_neg c, if_neg c]
  refine ze c ?_
  rw [e1]
  refine Ev.bind hp (Ev.bind hm (Ev.bind ht ?_))
  dsimp only
  have e2 : wrap64 ((((-e).toNat : Nat) : Int) - ((bx (dx (exN z e))).size : Int)) = (((-e).toNat : Nat) : Int) - ((dx (exN z e)).length : Int) := by rw [hsz, w64 (by omega) (by omega)]
  rw [e2]
  by_cases ck : (((-e).toNat : Nat) : Int) - ((dx (exN z e)).length : Int) ≥ 0
  ·have e3 : wrap64 ((((-e).toNat : Nat) : Int) - ((dx (exN z e)).length : Int) + 1) = ((exG e + 1 - (dx (exN z e)).length : Nat) : Int) := by rw [w64 (by omega) (by omega), hg]; omega
   rw [e3]
   refine zd ck (zi (ziH (by omega) (by omega)) ?_)
   rw [Int.toNat_natCast, zx]
   have hz : (bx (List.replicate (exG e + 1 - (dx (exN z e)).length) 48)).size = exG e + 1 - (dx (exN z e)).length := by rw [zA, List.length_replicate]
   refine zd (by omega) ?_
   have := zkh s (D z) (T := zcS (exG e) (dx (exN z e))) lo c' (by omega) (by omega)
   exact this
  ·refine ze ck ?_
   have hpt : zcS (exG e) (dx (exN z e)) = dx (exN z e) := by
    unfold zcS
    rw [show exG e + 1 - (dx (exN z e)).length = 0 by omega]; rfl
   rw [hpt, hg]
   exact zkh s (D z) (T := dx (exN z e)) lo c' (by omega) (by omega)
theorem zgs {f : Int} (h : isF f) {w : Nat} (c5 : cls f w ≠ 5) (c4 : cls f w ≠ 4) : cls f w < 4 := by have := znM h w; omega
theorem zjH (a : List UInt8) (d : UInt8) : bt (bx (a ++ [d])) (a.length : Int) = (d.toNat : Int) := zgh (s := bx (a ++ [d])) (A := a) (B := []) (b := d) (by rw [zcm])
theorem zmn (a : List UInt8) (d : UInt8) : (a ++ [d]).take a.length = a := by simp
theorem zic {d e : UInt8} (h : d ≠ e) : (d.toNat : Int) ≠ (e.toNat : Int) := fun c => h (zmt c)
theorem zmA : ∀ (n : Nat) (l : List UInt8), l.length = n → l.length ≤ 1000000 → Ev (fun k => zcl.l0 k (bx l) 48) (bx (tr l))
 | 0, l, hn, _ => by
  have : l = [] := List.length_eq_zero_iff.1 hn
  subst this
  refine zf ?_; simp only [zcl.l0]
  exact ze (by decide) (Ev.now _)
 | n + 1, l, hn, hl => by
  rcases List.eq_nil_or_concat l with rfl | ⟨a, d, rfl⟩
  ·simp at hn
  rw [List.concat_eq_append] at hn hl ⊢
  have hz := zA (a ++ [d])
  rw [List.length_append, List.length_singleton] at hz hn hl
  have e1 : wrap64 (((bx (a ++ [d])).size : Int) - 1) = (a.length : Int) := by rw [w64 (by omega) (by omega)]; omega
  refine zf ?_; simp only [zcl.l0]
  rw [e1, zjH, Int.toNat_natCast, zc5, zmn]
  refine zd (by omega) (zd (by omega) (zd (by omega) ?_))
  by_cases c : d = 48
  ·subst c
   rw [zg8]
   exact zd rfl (zd (by omega) (zd (by omega) (zmA n a (by omega) (by omega))))
  ·rw [ze3 _ c]
   exact ze (zic c) (Ev.now _)
theorem zmz {l : List UInt8} (hl : l.length ≤ 1000000) : Ev (fun k => zb0.f k (bx l) (⟨#[48]⟩ : ByteArray)) (bx (tr l)) := by
 unfold zb0.f
 by_cases c : l = []
 ·subst c
  exact zd rfl (Ev.now _)
 ·refine ze (fun h => c (znD.1 h)) (ze (by decide) (zd (by decide) (zd (by decide) ?_)))
  have e : decide (bt (⟨#[48]⟩ : ByteArray) 0 < 128) = true := by decide
  have e2 : bt (⟨#[48]⟩ : ByteArray) 0 = 48 := by decide
  rw [e]
  refine zf ?_; simp only [zb0.j2]
  rw [e2]
  refine zd trivial (zd (by decide) ?_)
  unfold zcl.f
  exact Ev.bind (zmA _ l rfl hl) (Ev.now _)
theorem zjx (s p : Bool) (q : ByteArray) (o : Int) {L r : List UInt8} {b : UInt8} (e : L = b :: r) (hb : b ≠ 48) (hL : L.length ≤ 2000) : ∀ (j : Nat) (x : Int), j ≤ 2000 → -10000 ≤ x - j → x ≤ 10000 →
  Ev (fun k => zbR.l0 k p q o s x (bx (List.replicate j 48 ++ L))) (s, bx (tr L), x - j)
 | 0, x, _, h1, h2 => by
  subst e
  have hz := zA (b :: r)
  rw [List.length_cons] at hz
  have hb0 := zgh (s := bx (b :: r)) (A := []) (B := r) (b := b) (by rw [zcm]; rfl)
  rw [List.length_nil, show ((0 : Nat) : Int) = 0 from rfl] at hb0
  rw [show List.replicate 0 (48 : UInt8) ++ b :: r = b :: r from rfl]
  refine zf ?_; simp only [zbR.l0]
  rw [hb0]
  refine zd (by omega) (ze (zic hb) (Ev.bind (zmz (by omega)) (zh (Ev.now _) ?_)))
  rw [show x - ((0 : Nat) : Int) = x by omega]
 | j + 1, x, hj, h1, h2 => by
  have hz := zA (List.replicate (j + 1) 48 ++ L)
  rw [List.length_append, List.length_replicate] at hz
  have e0 : List.replicate (j + 1) (48 : UInt8) ++ L = 48 :: (List.replicate j 48 ++ L) := by rw [List.replicate_succ]; rfl
  have hb0 := zgh (s := bx (List.replicate (j + 1) 48 ++ L)) (A := []) (B := List.replicate j 48 ++ L) (b := 48) (by rw [zcm, e0]; rfl)
  rw [List.length_nil, show ((0 : Nat) : Int) = 0 from rfl] at hb0
  have ih := zjx s p q o e hb hL j (x - 1) (by omega) (by omega) (by omega)
  refine zf ?_; simp only [zbR.l0]
  have hz' : 1 ≤ (bx (List.replicate (j + 1) 48 ++ L)).size := by omega
  rw [hb0, show (1 : Int).toNat = 1 from rfl, zeF, w64 (n := x - 1) (by omega) (by omega)]
  refine zd (by omega) (zd rfl (zd (by decide) (zd (by omega) ?_)))
  rw [e0, show (48 :: (List.replicate j 48 ++ L)).drop 1 = List.replicate j 48 ++ L from rfl]
  rw [show x - ((j + 1 : Nat) : Int) = x - 1 - (j : Int) by omega]
  exact ih
def nN (f : Int) (w : Nat) : Nat := exN (dz f w) (we f w)
def nG (f : Int) (w : Nat) : Nat := exG (we f w)
structure Nw (f : Int) (w : Nat) : Prop where
 ne : nN f w ≠ 0
 len : (dx (nN f w)).length ≤ 800
 g : nG f w ≤ 1074
theorem zfI {f : Int} (h : isF f) {w : Nat} (c1 : cls f w ≠ 1) (c4 : cls f w < 4) : Nw f w := by
 have W := zdZ h c1 c4
 have h3 := W.lo
 have h4 := W.hi
 exact ⟨zcu W.ne _, zhT W.b W.lo (by omega), by unfold nG exG; omega⟩
theorem zoc {f : Int} (h : isF f) {w : Nat} (hw : w < 2 * sg f) (c1 : cls f w ≠ 1) (c4 : cls f w < 4) :
  Ev (fun k => zbR.f k f (w : Int)) (zk f w, bx (tr (dx (nN f w))), ((dx (nN f w)).length : Int) - 1 - (nG f w : Nat)) := by
 have W := zdZ h c1 c4
 obtain ⟨ne, hl, hg⟩ := zfI h c1 c4
 have h1 := zoD W.ne (we f w)
 have h2 := zoA (dz f w) (we f w)
 obtain ⟨j, hj, hj2⟩ := zoC (dz f w) (we f w)
 have hj3 := congrArg List.length hj
 rw [List.length_append, List.length_append, List.length_replicate, h2] at hj3
 obtain ⟨b, r, e, hb⟩ := zaM ne
 have s1 := zA (exP (dz f w) (we f w))
 have s2 := zA (exW (dz f w) (we f w))
 unfold nN nG at *
 unfold zbR.f
 refine Ev.bind (zoe h hw c1 c4) (zd (show (bx (exW (dz f w) (we f w))).size + (bx (exP (dz f w) (we f w))).size < 9223372036854775808 by omega) ?_)
 dsimp only
 rw [w64 (n := ((bx (exW (dz f w) (we f w))).size : Int) - 1) (by omega) (by omega), s2, zx, hj]
 have := zjx (zk f w) false (⟨#[]⟩ : ByteArray) 0 e hb (by omega) j (((exW (dz f w) (we f w)).length : Int) - 1) (by omega) (by omega) (by omega)
 rw [show ((exW (dz f w) (we f w)).length : Int) - 1 - (j : Int) = ((dx (exN (dz f w) (we f w))).length : Int) - 1 - (exG (we f w) : Nat) by omega] at this
 exact this
theorem zrB (l : List UInt8) : qfU (l.map fun b => (b.toNat : Int)) = bx l := by
 refine zcD.1 ?_
 rw [zrV, zcm, List.map_map]
 conv => rhs; rw [← List.map_id l]
 congr 1
 funext b
 show UInt8.ofNat ((b.toNat : Int)).toNat = b
 rw [Int.toNat_natCast, UInt8.ofNat_toNat]
theorem zkH (s p : Bool) (q : ByteArray) (o x : Int) (hx : -100000 ≤ x ∧ x ≤ 100000) (q0 : ByteArray) {T : List UInt8} (hT : T.all isD = true) (hT0 : ∀ b r, T = b :: r → b ≠ 48) (hne : T ≠ []) (hl : T.length ≤ 2000) :
  ∀ (n : Nat) (P : List UInt8) (j : Nat), P.length = n → T = P ++ List.replicate j 57 →
  Ev (fun k => zbS.l0 k s q0 x p q o (T.map fun b => (b.toNat : Int)) ((P.length : Int) - 1)) (s, bx (tr (dx (zl T 0 + 1))), x + ((dx (zl T 0 + 1)).length : Int) - (T.length : Int))
 | 0, P, j, hn, hP => by
  have : P = [] := List.length_eq_zero_iff.1 hn
  subst this
  rw [List.nil_append] at hP
  have hj : 0 < j := by
   rcases Nat.eq_zero_or_pos j with h | h
   ·subst h; exact absurd hP hne
   ·exact h
  obtain ⟨m1, m2⟩ := zor hj
  rw [← hP] at m1 m2
  have hlen : T.length = j := by rw [hP, List.length_replicate]
  rw [m2, m1]
  refine zf ?_; simp only [zbS.l0]
  refine ze (by simp) (zh (Ev.now _) ?_)
  rw [w64 (n := x + 1) (by omega) (by omega), hlen, List.length_cons, List.length_replicate, show x + ((j + 1 : Nat) : Int) - (j : Int) = x + 1 by omega]
  rfl
 | n + 1, P, j, hn, hP => by
  rcases List.eq_nil_or_concat P with rfl | ⟨a, d, rfl⟩
  ·simp at hn
  rw [List.concat_eq_append] at hn hP ⊢
  rw [List.length_append, List.length_singleton] at hn ⊢
  have hlen : T.length = a.length + 1 + j := by rw [hP]; simp; omega
  have hml : (T.map fun b => (b.toNat : Int)).length = a.length + 1 + j := by rw [List.length_map, hlen]
  have ei : ((a.length + 1 : Nat) : Int) - 1 = (a.length : Int) := by omega
  have hrd : rd (T.map fun b => (b.toNat : Int)) (a.length : Int) = (d.toNat : Int) := by
   rw [rdn, hP]; simp
  have hd : isD d = true := by
   rw [hP, List.append_assoc] at hT
   exact (zez (zc1 hT).2).1
  have hdl := zej hd
  rw [ei]
  refine zf ?_; simp only [zbS.l0]
  rw [hrd, Int.toNat_natCast]
  refine zd (by omega) (zd (by omega) (zd (by omega) ?_))
  by_cases c : d = 57
  ·subst c
   have ih := zkH s p q o x hx q0 hT hT0 hne hl n a (j + 1) (by omega) (by rw [hP, List.append_assoc, List.replicate_succ]; rfl)
   refine ze (by decide) ?_
   rw [w64 (n := (a.length : Int) - 1) (by omega) (by omega)]
   exact ih
  ·have hdn : d.toNat ≠ 57 := fun hh => c (UInt8.toNat_inj.1 (by rw [hh]; rfl))
   obtain ⟨u1, u2, u3⟩ := zkl hd c
   obtain ⟨m1, m2⟩ := zoq (A := a) (d := d) (j := j) (by rw [hP] at hT; exact (zc1 hT).1) c (fun b r hbr => hT0 b (r ++ List.replicate j 57) (by rw [hP, hbr]; rfl))
   rw [← hP] at m1 m2
   have em : ((d.toNat : Int) + 1) % 256 = ((d + 1).toNat : Int) := by rw [u2]; omega
   have e1 : wrap64 ((a.length : Int) + 1) = ((a.length + 1 : Nat) : Int) := by rw [w64 (by omega) (by omega)]; omega
   have es : ((T.map fun b => (b.toNat : Int)).set a.length ((d + 1).toNat : Int)).take (a.length + 1) = (a ++ [d + 1]).map fun b => (b.toNat : Int) := by
    rw [hP, List.map_append, List.map_append, List.append_assoc]
    have hm : (a.map fun b => (b.toNat : Int)).length = a.length := List.length_map ..
    rw [← hm]
    generalize hA : (a.map fun b => (b.toNat : Int)) = A
    rw [List.set_append_right _ _ (Nat.le_refl _), Nat.sub_self, List.take_append, List.take_of_length_le (by omega), Nat.add_sub_cancel_left, List.map_append]
    simp [hA]
   rw [em, e1, Int.toNat_natCast, es, zrB, m2, m1]
   clear m1 m2 es hrd hT hT0 hP em e1
   refine zd (by omega) (zd (by omega) (zd (by omega) (zd (by omega) (zd (by omega) (zd (by omega) (zd (by rw [List.length_set, hml]; omega) (zh (Ev.now _) ?_)))))))
   rw [hlen, List.length_append, List.length_append, List.length_singleton, List.length_replicate, show x + ((a.length + 1 + j : Nat) : Int) - ((a.length + 1 + j : Nat) : Int) = x by omega]
theorem zmm {d r : List UInt8} {b : UInt8} (e : d = b :: r) {n : Nat} (hn : 1 ≤ n) : ∃ t, d.take n = b :: t := by
 subst e
 obtain ⟨m, rfl⟩ : ∃ m, n = m + 1 := ⟨n - 1, by omega⟩
 exact ⟨r.take m, rfl⟩
theorem zpI (s : Bool) {d r : List UInt8} {b : UInt8} (hd : d.all isD = true) (e : d = b :: r) (hb : b ≠ 48) (hl : d.length ≤ 2000) {x : Int} (hx : -100000 ≤ x ∧ x ≤ 100000) {n : Nat} (h1 : 1 ≤ n) (h2 : n ≤ d.length) :
  Ev (fun k => zbS.f k s (bx d) x (n : Int)) (s, bx (tr (dx (zl (d.take n) 0 + 1))), x + ((dx (zl (d.take n) 0 + 1)).length : Int) - (n : Int)) := by
 have hz := zA d
 obtain ⟨t, ht⟩ := zmm e h1
 have hlen : (d.take n).length = n := by rw [List.length_take]; omega
 have := zkH s false (⟨#[]⟩ : ByteArray) 0 x hx (bx d) (T := d.take n) (znj hd n) (fun b' r' h => by rw [ht] at h; rw [← (List.cons.inj h).1]; exact hb) (by rw [ht]; simp) (by omega) n (d.take n) 0 hlen (by simp)
 rw [hlen] at this
 unfold zbS.f
 rw [Int.toNat_natCast, zc5, zd6, w64 (n := (n : Int) - 1) (by omega) (by omega)]
 exact zd (by omega) (zd (by omega) this)
theorem zph (s : Bool) {d : List UInt8} (hl : d.length ≤ 2000) (x : Int) {n : Nat} (h2 : n ≤ d.length) : Ev (fun k => zeM.f k s (bx d) x (n : Int)) (s, bx (tr (d.take n)), x) := by
 have hz := zA d
 unfold zeM.f
 rw [Int.toNat_natCast, zc5]
 exact zd (by omega) (zd (by omega) (Ev.bind (zmz (by rw [List.length_take]; omega)) (Ev.now _)))
theorem zq4 (s : Bool) {A B : List UInt8} {c : UInt8} (x : Int) (hl : (A ++ c :: B).length ≤ 2000) :
  zeN.f s (bx (A ++ c :: B)) x (A.length : Int) = some (if c.toNat < 53 then -1 else if 53 < c.toNat then 1 else if B ≠ [] then 1 else 0) := by
 have hz := zA (A ++ c :: B)
 rw [List.length_append, List.length_cons] at hz hl
 have e1 : wrap64 ((A.length : Int) + 1) = ((A.length + 1 : Nat) : Int) := by rw [w64 (by omega) (by omega)]; omega
 unfold zeN.f
 rw [e1, if_pos (by omega), if_pos (by omega), if_pos (by omega), Int.toNat_natCast, Int.toNat_natCast, znC]
 have e2 : ((A ++ c :: B).take (A.length + 1)).drop A.length = [c] := by simp [List.take_append, List.drop_append]
 rw [e2]
 unfold zcW.f
 have e3 : Lib.compareBytes (bx [c]).data.toList (⟨#[53]⟩ : ByteArray).data.toList = if c < 53 then -1 else if 53 < c then 1 else 0 := rfl
 have l1 : c < 53 ↔ c.toNat < 53 := UInt8.lt_iff_toNat_lt
 have l2 : 53 < c ↔ 53 < c.toNat := UInt8.lt_iff_toNat_lt
 rw [e3, Option.bind_some]
 by_cases c1 : c.toNat < 53
 ·rw [if_pos (l1.2 c1), if_pos c1, if_pos (by decide)]
 rw [if_neg (fun h => c1 (l1.1 h)), if_neg c1]
 by_cases c2 : 53 < c.toNat
 ·rw [if_pos (l2.2 c2), if_pos c2, if_pos (by decide)]
 rw [if_neg (fun h => c2 (l2.1 h)), if_neg c2, if_neg (by decide)]
 by_cases c3 : B = []
 ·subst c3
  rw [if_neg (by rw [List.length_nil] at hz; omega), if_neg (by simp)]
 ·have : 0 < B.length := List.length_pos_iff.2 c3
  rw [if_pos (by omega), if_pos c3]
theorem znp (n : Nat) (h : n < 256) : Go.bits .and .u8 (n : Int) 1 = ((n % 2 : Nat) : Int) := by
 have : ∀ n : Fin 256, Go.bits .and .u8 (n.1 : Int) 1 = ((n.1 % 2 : Nat) : Int) := by decide +kernel
 exact this ⟨n, h⟩
theorem zpY (s : Bool) {d A B : List UInt8} {c : UInt8} (hd : d.all isD = true) (x : Int) (hl : d.length ≤ 2000) (e : d = A ++ c :: B) :
  zee.f s (bx d) x ((A.length + 1 : Nat) : Int) = some (decide (zl (A ++ [c]) 0 % 2 = 1)) := by
 subst e
 have hz := zA (A ++ c :: B)
 rw [List.length_append, List.length_cons] at hz hl
 have hc := zej (zez (zc1 hd).2).1
 have e1 : wrap64 (((A.length + 1 : Nat) : Int) - 1) = (A.length : Int) := by rw [w64 (by omega) (by omega)]; omega
 have hb := zgh (s := bx (A ++ c :: B)) (A := A) (B := B) (b := c) (by rw [zcm])
 have e2 : ((c.toNat : Int) - 48) % 256 = ((c.toNat - 48 : Nat) : Int) := by omega
 have e3 : zl (A ++ [c]) 0 = 10 * zl A 0 + (c.toNat - 48) := by rw [zc8, zc9]; show _ * 10 ^ 1 + (_ * 10 ^ 0 + 0) = _; omega
 unfold zee.f
 rw [e1, if_pos (by omega), if_pos (by omega), hb, e2, znp _ (by omega), e3]
 congr 1
 apply decide_eq_decide.2
 omega
theorem zqk (s : Bool) : (if s = true then (⟨#[45]⟩ : ByteArray) else (⟨#[]⟩ : ByteArray)) = bx (sgT s) := by cases s <;> rfl
theorem zim (s : Bool) {d r : List UInt8} {b : UInt8} (e : d = b :: r) (hl : d.length ≤ 2000) {x : Int} (h1 : -1100 ≤ x) (h2 : x < 1100) : Ev (fun k => zap.f k s (bx d) x) (bx (zbE s d x)) := by
 have hz := zA d
 have hlen : d.length = r.length + 1 := by rw [e]; simp
 unfold zap.f zbE
 refine zd ⟨by omega, by omega, by omega⟩ ?_
 rw [zqk]
 by_cases c1 : x < -5 ∨ x > 20
 ·obtain ⟨t, ht, ht2⟩ := zmW h1 h2
  have hts : t = bx (etx x) := zcD.1 (by rw [ht2, zcm])
  have hts2 := zgq x
  have hts3 := zA (etx x)
  subst hts
  refine zd c1 (zd (by omega) (Ev.bind ht (zd (by omega) (zh (Ev.now _) ?_))))
  rw [if_pos c1, zc5, zeF, show (⟨#[46]⟩ : ByteArray) = bx [46] from rfl, show (⟨#[101]⟩ : ByteArray) = bx [101] from rfl, show (⟨#[]⟩ : ByteArray) = bx [] from rfl, zx, zx, zx]
  by_cases c2 : 1 < d.length
  ·rw [if_pos (by omega), if_pos c2, zx, zx]; simp
  ·rw [if_neg (by omega), if_neg c2, zx, zx]; simp
 refine ze c1 ?_
 rw [if_neg c1]
 by_cases c2 : x < 0
 ·refine zd c2 (zi (ziH (by omega) (by omega)) (zh (Ev.now _) ?_))
  rw [if_pos c2, show (⟨#[48, 46]⟩ : ByteArray) = bx [48, 46] from rfl, zx, zx, zx]; simp
 refine ze c2 ?_
 rw [if_neg c2]
 by_cases c3 : x + 1 < (d.length : Int)
 ·refine zd (by omega) (zh (Ev.now _) ?_)
  rw [if_pos c3, zc5, zeF, show (⟨#[46]⟩ : ByteArray) = bx [46] from rfl, zx, zx, zx]; simp
 ·refine ze (by omega) ?_
  rw [hz]
  refine zi (ziH (by omega) (by omega)) (zh (Ev.now _) ?_)
  rw [if_neg c3, zx, zx]
end Go.Proofs.YtnkpmjhlkmlmbaaGreatDoor.Eng.K
