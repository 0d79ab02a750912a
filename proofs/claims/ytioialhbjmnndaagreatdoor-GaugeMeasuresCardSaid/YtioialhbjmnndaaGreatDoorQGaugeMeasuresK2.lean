import Derived.Test.YtioialhbjmnndaaGreatDoorQGaugeMeasuresK1
set_option linter.unusedVariables false
set_option linter.unusedSimpArgs false
namespace Go.Proofs.YtioialhbjmnndaaGreatDoor.Eng.K
open Go.RowKit Go.Proofs.YtioialhbjmnndaaGreatDoor.Eng
def mkN (p : Int × Int) : Bool × List Int × Int := mk p.1 p.2
def za4 (p q : Int × Int) : Int × Int := (p.1 * q.1, p.2 + q.2)
def zbi (p q : Int × Int) : Int × Int := (zcZ p.1 p.2 q.1 q.2, min p.2 q.2)
def zbQ (p : Int × Int) : Int × Int := (-p.1, p.2)
def nsh (p : Int × Int) (n : Int) : Int × Int := (p.1, p.2 + n)
def vN (f : Int) (w : Nat) : Int × Int := (zv f w, wex f w)
structure Wx (L H : Int) (p : Int × Int) : Prop where
 lo : L ≤ p.2
 hi : p.2 + (bl p.1.natAbs : Nat) ≤ H
theorem Wx.wg {L H : Int} {p : Int × Int} (h : Wx L H p) : Wg L H p.1 p.2 := ⟨fun _ => h.lo, fun _ => h.hi⟩
theorem Wx.mono {L H L' H' : Int} {p : Int × Int} (h : Wx L H p) (h1 : L' ≤ L) (h2 : H ≤ H') : Wx L' H' p := ⟨Int.le_trans h1 h.lo, Int.le_trans h.hi h2⟩
theorem Wx.mul {L H L' H' : Int} {p q : Int × Int} (h : Wx L H p) (k : Wx L' H' q) : Wx (L + L') (H + H') (za4 p q) := by
 have h1 := h.lo
 have h2 := h.hi
 have h3 := k.lo
 have h4 := k.hi
 have h5 := zfh p.1 q.1
 refine ⟨?_, ?_⟩
 ·show _ ≤ p.2 + q.2; omega
 ·show p.2 + q.2 + (bl (p.1 * q.1).natAbs : Nat) ≤ _; omega
theorem Wx.add {L H : Int} {p q : Int × Int} (h : Wx L H p) (k : Wx L H q) : Wx L (H + 1) (zbi p q) := by
 have h1 := h.lo
 have h2 := h.hi
 have h3 := k.lo
 have h4 := k.hi
 have h5 := zhn p.1 p.2 q.1 q.2 (n := (H - min p.2 q.2).toNat) (by omega) (by omega)
 refine ⟨?_, ?_⟩
 ·show _ ≤ min p.2 q.2; omega
 ·show min p.2 q.2 + (bl (zcZ p.1 p.2 q.1 q.2).natAbs : Nat) ≤ _; omega
theorem Wx.neg {L H : Int} {p : Int × Int} (h : Wx L H p) : Wx L H (zbQ p) := ⟨h.lo, by show p.2 + (bl (-p.1).natAbs : Nat) ≤ H; rw [Int.natAbs_neg]; exact h.hi⟩
theorem Wx.sh {L H : Int} {p : Int × Int} (h : Wx L H p) (n : Int) : Wx (L + n) (H + n) (nsh p n) := by
 have h1 := h.lo
 have h2 := h.hi
 exact ⟨by show _ ≤ p.2 + n; omega, by show p.2 + n + (bl p.1.natAbs : Nat) ≤ _; omega⟩
theorem Wx.rg {L H : Int} {p : Int × Int} (h : Wx L H p) (h1 : -1000000 ≤ L) (h2 : H ≤ 1000000) : Rg p.1 p.2 := by
 have h3 := h.lo
 have h4 := h.hi
 exact ⟨by omega, by omega, by omega⟩
theorem Wx.my {L H : Int} {p : Int × Int} (h : Wx L H p) (h1 : -1000000 ≤ L) (h2 : H ≤ 1000000) (h3 : H - L ≤ 130000) : My (mkN p).1 (mkN p).2.1 (mkN p).2.2 := by
 have h4 := h.lo
 have h5 := h.hi
 exact zek (by omega) (by omega) (by omega)
theorem zdm {f : Int} (h : isF f) (w : Nat) : Wx (-1074) 3064 (vN f w) := by
 have h1 := zkc h w
 obtain ⟨a, b, c⟩ := h1
 exact ⟨b, by show wex f w + (bl (zv f w).natAbs : Nat) ≤ 3064; omega⟩
theorem zc9 {L H L' H' : Int} {p q : Int × Int} (h : Wx L H p) (k : Wx L' H' q) (h1 : -1000000 ≤ L) (h2 : H ≤ 1000000) (h3 : -1000000 ≤ L') (h4 : H' ≤ 1000000) (h5 : H - L + (H' - L') ≤ 131000) :
  Ev (fun k => zaJ.f k (mkN p).1 (mkN p).2.1 (mkN p).2.2 (mkN q).1 (mkN q).2.1 (mkN q).2.2) (mkN (za4 p q)) := by
 have a1 := h.lo
 have a2 := h.hi
 have b1 := k.lo
 have b2 := k.hi
 unfold zaJ.f
 exact Ev.bind (ziQ (by omega) (by omega) (by omega) (by omega) (by omega)) (Ev.now _)
theorem zh1 {L H : Int} (w : Wk L H) {p q : Int × Int} (h : Wx L H p) (k : Wx L H q) :
  Ev (fun k => zcO.f k (mkN p).1 (mkN p).2.1 (mkN p).2.2 (mkN q).1 (mkN q).2.1 (mkN q).2.2) (mkN (zbi p q)) := by
 unfold zcO.f
 exact Ev.bind (zj0 w h.wg k.wg) (Ev.now _)
theorem zh8 {L H : Int} (w : Wk L H) {p q : Int × Int} (h : Wx L H p) (k : Wx L H q) :
  Ev (fun k => zbL.f k (mkN p).1 (mkN p).2.1 (mkN p).2.2 (mkN q).1 (mkN q).2.1 (mkN q).2.2) (mkN (zbi p (zbQ q))) := by
 unfold zbL.f
 exact Ev.bind (zj3 w h.wg k.wg) (Ev.now _)
def sqN (p q : Int × Int) : Int × Int := zbi (za4 p p) (za4 q q)
theorem zfD {L H : Int} (h1 : -100000 ≤ L) (h2 : H ≤ 100000) (h3 : H - L ≤ 65000) {p q : Int × Int} (h : Wx L H p) (k : Wx L H q) :
  Ev (fun k => zce.f k (mkN p).1 (mkN p).2.1 (mkN p).2.2 (mkN q).1 (mkN q).2.1 (mkN q).2.2) (mkN (sqN p q)) := by
 unfold zce.f
 refine Ev.bind (zc9 h h (by omega) (by omega) (by omega) (by omega) (by omega)) (Ev.bind (zc9 k k (by omega) (by omega) (by omega) (by omega) (by omega)) (Ev.bind (zh1 ⟨by omega, by omega, by omega⟩ (h.mul h) (k.mul k)) (Ev.now _)))
theorem zdS {L H : Int} {p q : Int × Int} (h : Wx L H p) (k : Wx L H q) : Wx (L + L) (H + H + 1) (sqN p q) := (h.mul h).add (k.mul k)
theorem ziR {f : Int} (h : isF f) : zc8.f f = some ((fb f + 1 : Nat) : Int) := by rcases h with rfl | rfl <;> rfl
theorem zgs {L H : Int} (h1 : -100000 ≤ L) (h2 : H ≤ 100000) {p q : Int × Int} (h : Wx L H p) (k : Wx L H q) :
  Ev (fun k => zb6.f k (mkN p).1 (mkN p).2.1 (mkN p).2.2 (mkN q).1 (mkN q).2.1 (mkN q).2.2) (mkN (sqN p q)) := by
 have r1 := h.rg (by omega) (by omega)
 have r2 := k.rg (by omega) (by omega)
 have r3 := (h.mul h).rg (by omega) (by omega)
 have r4 := (k.mul k).rg (by omega) (by omega)
 unfold zb6.f
 exact Ev.bind (zer r1 r1) (Ev.bind (zer r2 r2) (Ev.bind (zf7 r3 r4) (Ev.now _)))
def zV (f : Int) (a b : Nat) (re im den : Int × Int) : Int × Int := nsh (sqN (zbi (za4 (vN f a) den) (zbQ re)) (zbi (za4 (vN f b) den) (zbQ im))) (2 * ((fb f + 1 : Nat) : Int))
def Gz (p : Int × Int) : Prop := Wx (-20000) 32800 p
theorem zcN {f : Int} (h : isF f) (a : Nat) {re den : Int × Int} (hr : Gz re) (hd : Gz den) : Wx (-21074) 35865 (zbi (za4 (vN f a) den) (zbQ re)) := by
 have h1 := ((zdm h a).mul hd).mono (L' := -21074) (H' := 35864) (by omega) (by omega)
 exact (h1.add (hr.neg.mono (by omega) (by omega))).mono (by omega) (by omega)
theorem zee {f : Int} (h : isF f) : 23 ≤ fb f ∧ fb f ≤ 52 := by rcases h with rfl | rfl <;> decide
theorem zdC {f : Int} (h : isF f) (a b : Nat) {re im den : Int × Int} (hr : Gz re) (hi : Gz im) (hd : Gz den) : Wx (-42148) 71900 (zV f a b re im den) := by
 have h1 := ((zdS (zcN h a hr hd) (zcN h b hi hd)).sh (2 * ((fb f + 1 : Nat) : Int)))
 have h2 := zee h
 exact h1.mono (by omega) (by omega)
theorem zdD {re im : Int × Int} (hr : Gz re) (hi : Gz im) : Wx (-40000) 65601 (sqN re im) := (zdS hr hi).mono (by omega) (by omega)
theorem zh7 {L H : Int} {p : Int × Int} (h : Wx L H p) (h1 : -1000000 ≤ L) (h2 : H ≤ 1000000) (h3 : H - L ≤ 130000) {n : Int} (h4 : -1000 ≤ n) (h5 : n ≤ 1000) : zbI.f (mkN p).1 (mkN p).2.1 (mkN p).2.2 n = some (ok3 (mkN (nsh p n))) := by
 have a1 := h.lo
 have a2 := h.hi
 have ms := zas p.1 p.2
 have e0 : (mkN p).2.2 = me p.1 p.2 := rfl
 rw [zhI (h.my h1 h2 h3) (by omega) (by omega) (by omega)]
 have e3 : mk (mz p.1 p.2) (me p.1 p.2 + n) = mkN (nsh p n) := ziv (ziu p.1 p.2)
 rw [← e3]; rfl
theorem zfA {f : Int} (h : isF f) (a : Nat) {re den : Int × Int} (hr : Gz re) (hd : Gz den) {β : Type} {F : Nat → Bool × List Int × Int → Option β} {r : β} (k : Ev (fun n => F n (mkN (zbi (za4 (vN f a) den) (zbQ re)))) r) :
  Ev (fun k => (zaJ.f k (mkN (vN f a)).1 (mkN (vN f a)).2.1 (mkN (vN f a)).2.2 (mkN den).1 (mkN den).2.1 (mkN den).2.2).bind fun t => (zbL.f k t.1 t.2.1 t.2.2 (mkN re).1 (mkN re).2.1 (mkN re).2.2).bind fun u => F k u) r := by
 have m1 := ((zdm h a).mul hd).mono (L' := -21074) (H' := 35864) (by omega) (by omega)
 have g1 := zc9 (zdm h a) hd (by omega) (by omega) (by omega) (by omega) (by omega)
 have g2 := zh8 (L := -21074) (H := 35864) ⟨by omega, by omega, by omega⟩ m1 (hr.mono (by omega) (by omega))
 exact Ev.bind g1 (Ev.bind g2 k)
theorem zh2 {f : Int} (h : isF f) {a b : Nat} (ha : a < 2 * sg f) (hb : b < 2 * sg f) (hf : zQ f a b) : Ev (fun k => zcd.f k f (a : Int) (b : Int)) ((mkN (vN f a)).1, (mkN (vN f a)).2.1, (mkN (vN f a)).2.2, (mkN (vN f b)).1, (mkN (vN f b)).2.1, (mkN (vN f b)).2.2) := zh3 h ha hb hf
theorem zfz {f : Int} (h : isF f) {a b : Nat} (ha : a < 2 * sg f) (hb : b < 2 * sg f) (hf : zQ f a b) {re im den : Int × Int} (hr : Gz re) (hi : Gz im) (hd : Gz den) :
  Ev (fun k => zbK.f k f (a : Int) (b : Int) (mkN re).1 (mkN re).2.1 (mkN re).2.2 (mkN im).1 (mkN im).2.1 (mkN im).2.2 (mkN den).1 (mkN den).2.1 (mkN den).2.2) ((mkN (zV f a b re im den)).1, (mkN (zV f a b re im den)).2.1, (mkN (zV f a b re im den)).2.2, (mkN (sqN re im)).1, (mkN (sqN re im)).2.1, (mkN (sqN re im)).2.2) := by
 have p1 := zcN h a hr hd
 have p2 := zcN h b hi hd
 have hF := zee h
 have s0 := zdS p1 p2
 have g1 := zfD (by omega) (by omega) (by omega) p1 p2
 have g2 := zfD (L := -20000) (H := 32800) (by omega) (by omega) (by omega) hr hi
 have g3 : zbI.f _ _ _ _ = some (ok3 (mkN (zV f a b re im den))) := zh7 s0 (by omega) (by omega) (by omega) (n := 2 * ((fb f + 1 : Nat) : Int)) (by omega) (by omega)
 generalize zV f a b re im den = A at g3 ⊢
 have e2 : wrap64 (2 * ((fb f + 1 : Nat) : Int)) = 2 * ((fb f + 1 : Nat) : Int) := by unfold wrap64; omega
 unfold zbK.f
 refine Ev.bind (zh2 h ha hb hf) ?_
 dsimp only
 refine zfA h a hr hd (zfA h b hi hd (Ev.bind g1 (zh (ziR h) ?_)))
 rw [e2]
 refine zh g3 (Ev.bind g2 (zg (Ev.now _) ?_))
 simp only [ok3]
theorem zey {p q : Int × Int} (h : Rg p.1 p.2) (k : Rg q.1 q.2) : Ev (fun k => zap.f k (mkN p).1 (mkN p).2.1 (mkN p).2.2 (mkN q).1 (mkN q).2.1 (mkN q).2.2) (mkN (za4 p q)) := zer h k
theorem zjv {p q : Int × Int} (h : Rg p.1 p.2) (k : Rg q.1 q.2) : Ev (fun k => za0.f k (mkN p).1 (mkN p).2.1 (mkN p).2.2 (mkN q).1 (mkN q).2.1 (mkN q).2.2) (mkN (zbi p (zbQ q))) := zi3 h k
theorem zi7 {p q : Int × Int} (h : Rg p.1 p.2) (k : Rg q.1 q.2) : Ev (fun k => zbD.f k (mkN p).1 (mkN p).2.1 (mkN p).2.2 (mkN q).1 (mkN q).2.1 (mkN q).2.2) (zo p.1 p.2 q.1 q.2) := ziU h k
theorem zjt {p : Int × Int} (h : Rg p.1 p.2) {n : Int} (h3 : -1000 ≤ n) (h4 : n ≤ 1000) : zbo.f (mkN p).1 (mkN p).2.1 (mkN p).2.2 n = some (mkN (nsh p n)) := by
 obtain ⟨s1, s2, s3⟩ := h
 exact zi1 p.1 (by omega) (by omega) (by omega) (by omega) (by omega)
theorem zi4 {f : Int} (h : isF f) (w : Nat) : Ev (fun k => zbp.f k f (w : Int)) (mkN (vN f w)) := zi5 h w
theorem zgo {f : Int} (h : isF f) (a : Nat) {re den : Int × Int} (hr : Gz re) (hd : Gz den) {β : Type} {F : Nat → Bool × List Int × Int → Option β} {r : β} (k : Ev (fun n => F n (mkN (zbi (za4 (vN f a) den) (zbQ re)))) r) :
  Ev (fun k => (zbp.f k f (a : Int)).bind fun v => (zap.f k v.1 v.2.1 v.2.2 (mkN den).1 (mkN den).2.1 (mkN den).2.2).bind fun t => (za0.f k t.1 t.2.1 t.2.2 (mkN re).1 (mkN re).2.1 (mkN re).2.2).bind fun u => F k u) r := by
 have m1 := ((zdm h a).mul hd).rg (by omega) (by omega)
 have va := (zdm h a).rg (by omega) (by omega)
 have rd := hd.rg (by omega) (by omega)
 have rr := hr.rg (by omega) (by omega)
 exact Ev.bind (zi4 h a) (Ev.bind (zey va rd) (Ev.bind (zjv m1 rr) k))
theorem zgn {f : Int} (h : isF f) (a b : Nat) {re im den : Int × Int} (hr : Gz re) (hi : Gz im) (hd : Gz den) :
  Ev (fun k => zbH.f k f (a : Int) (b : Int) (mkN re).1 (mkN re).2.1 (mkN re).2.2 (mkN im).1 (mkN im).2.1 (mkN im).2.2 (mkN den).1 (mkN den).2.1 (mkN den).2.2) ((mkN (zV f a b re im den)).1, (mkN (zV f a b re im den)).2.1, (mkN (zV f a b re im den)).2.2, (mkN (sqN re im)).1, (mkN (sqN re im)).2.1, (mkN (sqN re im)).2.2) := by
 have p1 := zcN h a hr hd
 have p2 := zcN h b hi hd
 have hF := zee h
 have s0 := (zdS p1 p2).rg (by omega) (by omega)
 have g1 := zgs (by omega) (by omega) p1 p2
 have g2 := zgs (L := -20000) (H := 32800) (by omega) (by omega) hr hi
 have g3 : zbo.f _ _ _ _ = some (mkN (zV f a b re im den)) := zjt s0 (n := 2 * ((fb f + 1 : Nat) : Int)) (by omega) (by omega)
 generalize zV f a b re im den = A at g3 ⊢
 have e1 : wrap64 ((fb f : Int) + 1) = ((fb f + 1 : Nat) : Int) := by unfold wrap64; omega
 have e2 : wrap64 (2 * ((fb f + 1 : Nat) : Int)) = 2 * ((fb f + 1 : Nat) : Int) := by unfold wrap64; omega
 unfold zbH.f
 refine zgo h a hr hd (zgo h b hi hd (Ev.bind g1 (zh (zeo h) ?_)))
 rw [e1, e2]
 exact zh g3 (Ev.bind g2 (Ev.now _))
theorem zeh {d : Bool × List Int × Int} (hm : zn d = true) (hs : zA d) : ∃ p, d = mkN p ∧ Gz p ∧ (p.1 = 0 ↔ d.2.1 = []) := by
 have hy := zej hm
 obtain ⟨h1, h2, h3⟩ := hs
 have hb := zaw hy.dy.nm.dg
 refine ⟨(sv d.1 (V d.2.1), d.2.2), (zck hy.dy).symm, ⟨h2, ?_⟩, ?_⟩
 ·show d.2.2 + (bl (sv d.1 (V d.2.1)).natAbs : Nat) ≤ 32800
  rw [zbb]; omega
 ·show sv d.1 (V d.2.1) = 0 ↔ _
  rw [zbv]
  constructor
  ·intro h0
   by_cases c : d.2.1 = []
   ·exact c
   ·have := hy.dy.odd c; omega
  ·intro c; rw [c]; rfl
theorem zhf {f : Int} {a b : Nat} {k : Int} {x y z : Bool × List Int × Int} (h : zX f a b k x y z = 0) :
  (a < 2 * sg f ∧ b < 2 * sg f) ∧ zQ f a b ∧ 0 ≤ k ∧ ∃ p q r, x = mkN p ∧ y = mkN q ∧ z = mkN r ∧ Gz p ∧ Gz q ∧ Gz r ∧ r.1 ≠ 0 := by
 unfold zX at h
 by_cases c1 : a < 2 * sg f ∧ b < 2 * sg f
 rotate_left; · rw [if_pos c1] at h; cases h
 rw [if_neg (fun hh => hh c1)] at h
 by_cases c2 : zn x = true ∧ zn y = true ∧ zn z = true ∧ 0 ≤ k
 rotate_left; · rw [if_pos c2] at h; cases h
 rw [if_neg (fun hh => hh c2)] at h
 by_cases c3 : z.2.1 = []
 ·rw [if_pos c3] at h; cases h
 rw [if_neg c3] at h
 by_cases c4 : zQ f a b
 rotate_left; · rw [if_pos c4] at h; cases h
 rw [if_neg (fun hh => hh c4)] at h
 by_cases c5 : zA x ∧ zA y ∧ zA z
 rotate_left; · rw [if_neg c5] at h; cases h
 obtain ⟨p, p1, p2, _⟩ := zeh c2.1 c5.1
 obtain ⟨q, q1, q2, _⟩ := zeh c2.2.1 c5.2.1
 obtain ⟨r, r1, r2, r3⟩ := zeh c2.2.2.1 c5.2.2
 exact ⟨c1, c4, c2.2.2.2, p, q, r, p1, q1, r1, p2, q2, r2, fun hh => c3 (r3.1 hh)⟩
theorem zil {x y z : Bool × List Int × Int} (hx : x.2.1.length ≤ 140737488355328) (hy : y.2.1.length ≤ 140737488355328) (hz : z.2.1.length ≤ 140737488355328) : zcE.f x.1 x.2.1 x.2.2 y.1 y.2.1 y.2.2 z.1 z.2.1 z.2.2 = some (decide (x.2.1.length + y.2.1.length + z.2.1.length > 1300)) := by
 unfold zcE.f
 have e1 : wrap64 ((x.2.1.length : Int) + (y.2.1.length : Int)) = ((x.2.1.length + y.2.1.length : Nat) : Int) := by unfold wrap64; omega
 have e2 : wrap64 (((x.2.1.length + y.2.1.length : Nat) : Int) + (z.2.1.length : Int)) = ((x.2.1.length + y.2.1.length + z.2.1.length : Nat) : Int) := by unfold wrap64; omega
 rw [e1, e2]
 clear e1 e2
 congr 1
 exact decide_eq_decide.2 (by omega)
theorem zbY {z : Int} (h : 0 ≤ z) (e m : Int) : 0 ≤ al z e m := by
 unfold al
 exact Int.mul_nonneg h (Int.le_of_lt (zen _))
theorem zd0 {z e m : Int} (h : al z e m = 0) : z = 0 := by
 unfold al at h
 have hp := zen (e - m).toNat
 rcases Int.mul_eq_zero.1 h with h | h
 ·exact h
 ·omega
theorem zgC (x : Int) : 0 ≤ x * x := by
 rcases Int.le_total 0 x with h | h
 ·exact Int.mul_nonneg h h
 ·have := Int.mul_nonneg (show 0 ≤ -x by omega) (show 0 ≤ -x by omega)
  rwa [Int.neg_mul_neg] at this
theorem zdl (p q : Int × Int) : 0 ≤ (sqN p q).1 := by
 show 0 ≤ zcZ (p.1 * p.1) (p.2 + p.2) (q.1 * q.1) (q.2 + q.2)
 unfold zcZ
 have h1 := zbY (zgC p.1) (p.2 + p.2) (min (p.2 + p.2) (q.2 + q.2))
 have h2 := zbY (zgC q.1) (q.2 + q.2) (min (p.2 + p.2) (q.2 + q.2))
 omega
def nnB (n : Nat) (B : Int × Int) : Int × Int := za4 (za4 ((n : Int), 0) ((n : Int), 0)) B
def zB (A B : Int × Int) (n : Nat) : Bool := decide (zo A.1 A.2 (nnB n B).1 (nnB n B).2 ≤ 0)
def alA (A B : Int × Int) : Int := al A.1 A.2 (min A.2 B.2)
def alB (A B : Int × Int) : Int := al B.1 B.2 (min A.2 B.2)
theorem zcf (A B : Int × Int) (n : Nat) : zB A B n = true ↔ alA A B ≤ (n : Int) * (n : Int) * alB A B := by
 have e2 : (nnB n B).2 = B.2 := by show (0 : Int) + 0 + B.2 = B.2; omega
 have e1 : al (nnB n B).1 B.2 (min A.2 B.2) = (n : Int) * (n : Int) * alB A B := by
  show al ((n : Int) * (n : Int) * B.1) B.2 _ = _
  unfold alB al
  rw [Int.mul_assoc]
 unfold zB
 rw [decide_eq_true_iff, e2]
 unfold zo
 rw [e1]
 show (alA A B - _).sign ≤ 0 ↔ _
 rcases za5 (alA A B - (n : Int) * (n : Int) * alB A B) with ⟨h1, h2⟩ | ⟨h1, h2⟩ | ⟨h1, h2⟩
 ·rw [h2]; omega
 ·rw [h2]; omega
 ·rw [h2]; omega
theorem zfE {A B : Int × Int} (hB : 0 ≤ B.1) {n m : Nat} (h : n ≤ m) (hn : zB A B n = true) : zB A B m = true := by
 rw [zcf] at hn ⊢
 have hb : 0 ≤ alB A B := zbY hB _ _
 have h1 : (n : Int) * (n : Int) ≤ (m : Int) * (m : Int) := by
  have := Nat.mul_le_mul h h
  rw [← Int.natCast_mul, ← Int.natCast_mul]
  omega
 exact Int.le_trans hn (Int.mul_le_mul_of_nonneg_right h1 hb)
theorem zdN {n : Nat} (h : n < 18446744073709551616) : Wx 0 64 ((n : Int), 0) := by
 have h1 : bl n ≤ 64 := zav (by omega)
 exact ⟨Int.le_refl _, by show (0 : Int) + (bl (n : Int).natAbs : Nat) ≤ 64; rw [Int.natAbs_natCast]; omega⟩
theorem zfZ {n : Nat} (h : n < 18446744073709551616) {B : Int × Int} (hB : Wx (-40000) 65601 B) : Wx (-40000) 65729 (nnB n B) :=
 (((zdN h).mul (zdN h)).mul hB).mono (by omega) (by omega)
theorem zeg {A B : Int × Int} (hA : Wx (-42148) 71900 A) (hB : Wx (-40000) 65601 B) {n : Nat} (h : n < 18446744073709551616) :
  Ev (fun k => zbr.f k (mkN A).1 (mkN A).2.1 (mkN A).2.2 (mkN B).1 (mkN B).2.1 (mkN B).2.2 (n : Int)) (zB A B n) := by
 have o1 := zel (n := (n : Int)) (by omega) (by omega)
 rw [Int.toNat_natCast] at o1
 have h1 : bl n ≤ 64 := zav (by omega)
 have m1 := zb9 false (zi n) (z7 (by omega)) 0
 rw [V_D, zci (by omega) (by omega)] at m1
 have w1 := zdN h
 have g1 := zc9 w1 w1 (by omega) (by omega) (by omega) (by omega) (by omega)
 have g2 := zc9 (w1.mul w1) hB (by omega) (by omega) (by omega) (by omega) (by omega)
 have c1 := zj1 (L := -42148) (H := 71900) ⟨by omega, by omega, by omega⟩ hA.wg ((zfZ h hB).mono (by omega) (by omega)).wg
 unfold zbr.f
 exact Ev.bind o1 (Ev.bind m1 (Ev.bind g1 (Ev.bind g2 (Ev.bind c1 (Ev.now _)))))
def Lst (A B : Int × Int) (r : Nat) : Prop := r ≤ 4294967295 ∧ zB A B r = true ∧ ∀ n, n < r → zB A B n = false
theorem zeI {A B : Int × Int} (hA : Wx (-42148) 71900 A) (hB : Wx (-40000) 65601 B) (h0 : 0 ≤ B.1) : ∀ (d low high : Nat), high - low ≤ d → low ≤ high → high ≤ 4294967295 → zB A B high = true → (∀ n, n < low → zB A B n = false) →
  ∃ r : Nat, Lst A B r ∧ Ev (fun k => zE.l0 k (mkN A).1 (mkN A).2.1 (mkN A).2.2 (mkN B).1 (mkN B).2.1 (mkN B).2.2 (low : Int) (high : Int)) ((r : Int), 0)
 | 0, low, high, hd, hl, hh, hi, hn => by
  have : low = high := by omega
  subst this
  refine ⟨low, ⟨hh, hi, hn⟩, ?_⟩
  refine zf ?_; simp only [zE.l0]
  exact ze (by omega) (Ev.now _)
 | d + 1, low, high, hd, hl, hh, hi, hn => by
  by_cases c : low = high
  ·subst c
   refine ⟨low, ⟨hh, hi, hn⟩, ?_⟩
   refine zf ?_; simp only [zE.l0]
   exact ze (by omega) (Ev.now _)
  have e1 : IntKind.u64.wrap ((low : Int) + (high : Int)) = ((low + high : Nat) : Int) := by rw [zam]; omega
  have e2 : IntKind.u64.wrap (Int.tdiv ((low + high : Nat) : Int) 2) = (((low + high) / 2 : Nat) : Int) := by
   rw [Int.tdiv_eq_ediv_of_nonneg (by omega), zam]; omega
  have e3 : IntKind.u64.wrap ((((low + high) / 2 : Nat) : Int) + 1) = (((low + high) / 2 + 1 : Nat) : Int) := by rw [zam]; omega
  have gi := zeg hA hB (n := (low + high) / 2) (by omega)
  cases hm : zB A B ((low + high) / 2) with
  | true =>
   rw [hm] at gi
   obtain ⟨r, hr, he⟩ := zeI hA hB h0 d low ((low + high) / 2) (by omega) (by omega) (by omega) hm hn
   refine ⟨r, hr, ?_⟩
   refine zf ?_; simp only [zE.l0]
   rw [e1, e2, e3]
   clear e1 e2 e3
   exact zd (by omega) (Ev.bind gi (zd rfl he))
  | false =>
   rw [hm] at gi
   obtain ⟨r, hr, he⟩ := zeI hA hB h0 d ((low + high) / 2 + 1) high (by omega) (by omega) (by omega) hi (fun n hnl => by
    cases hx : zB A B n with
    | false => rfl
    | true =>
     have := zfE h0 (show n ≤ (low + high) / 2 by omega) hx
     rw [hm] at this; cases this)
   refine ⟨r, hr, ?_⟩
   refine zf ?_; simp only [zE.l0]
   rw [e1, e2, e3]
   clear e1 e2 e3
   exact zd (by omega) (Ev.bind gi (ze (by simp) he))
theorem zfb {f : Int} {a b : Nat} {k : Int} (hk : 0 ≤ k) (x y z : Bool × List Int × Int) : zX f a b k x y z = zX f a b 0 x y z := by
 unfold zX
 have e : (zn x = true ∧ zn y = true ∧ zn z = true ∧ 0 ≤ k) ↔ (zn x = true ∧ zn y = true ∧ zn z = true ∧ (0 : Int) ≤ 0) := by
  constructor
  ·rintro ⟨h1, h2, h3, _⟩; exact ⟨h1, h2, h3, by omega⟩
  ·rintro ⟨h1, h2, h3, _⟩; exact ⟨h1, h2, h3, hk⟩
 simp only [e]
theorem zhZ {f : Int} (h : isF f) (a b : Nat) (kk : Int) {x y z : Bool × List Int × Int} (hx : In x) (hy : In y) (hz : In z) (hn : zX f a b kk x y z ≠ 0) :
  Ev (fun k => za1.f k f (a : Int) (b : Int) x.1 x.2.1 x.2.2 y.1 y.2.1 y.2.2 z.1 z.2.1 z.2.2 kk) (false, zX f a b kk x y z) := by
 unfold za1.f
 exact Ev.bind (zdv h a b kk hx hy hz) (zd hn (Ev.now _))
theorem zhY {f : Int} (h : ¬ isF f) (a b : Int) (kk : Int) (x y z : Bool × List Int × Int) : Ev (fun k => za1.f k f a b x.1 x.2.1 x.2.2 y.1 y.2.1 y.2.2 z.1 z.2.1 z.2.2 kk) (false, 4) := by
 unfold za1.f
 exact Ev.bind (zfd h a b kk x y z) (zd (by simp) (Ev.now _))
theorem zhW {f : Int} (h : isF f) (a b : Nat) {x y z : Bool × List Int × Int} (hx : In x) (hy : In y) (hz : In z) (hn : zX f a b 0 x y z ≠ 0) :
  Ev (fun k => zE.f k f (a : Int) (b : Int) x.1 x.2.1 x.2.2 y.1 y.2.1 y.2.2 z.1 z.2.1 z.2.2) (0, zX f a b 0 x y z) := by
 unfold zE.f
 exact Ev.bind (zdv h a b 0 hx hy hz) (zd hn (Ev.now _))
theorem zhU {f : Int} (h : ¬ isF f) (a b : Int) (x y z : Bool × List Int × Int) : Ev (fun k => zE.f k f a b x.1 x.2.1 x.2.2 y.1 y.2.1 y.2.2 z.1 z.2.1 z.2.2) (0, 4) := by
 unfold zE.f
 exact Ev.bind (zfd h a b 0 x y z) (zd (by simp) (Ev.now _))
structure Ok (f : Int) (a b : Nat) (re im den : Int × Int) : Prop where
 hf : isF f
 wa : a < 2 * sg f
 wb : b < 2 * sg f
 fin : zQ f a b
 gr : Gz re
 gi : Gz im
 gd : Gz den
 ne : den.1 ≠ 0
 ix : In (mkN re)
 iy : In (mkN im)
 iz : In (mkN den)
 ask : zX f a b 0 (mkN re) (mkN im) (mkN den) = 0
theorem zfc {f : Int} (h : isF f) {a b : Nat} {k : Int} {x y z : Bool × List Int × Int} (hx : In x) (hy : In y) (hz : In z) (h0 : zX f a b k x y z = 0) : 0 ≤ k ∧ ∃ re im den, x = mkN re ∧ y = mkN im ∧ z = mkN den ∧ Ok f a b re im den := by
 obtain ⟨h1, h2, h3, p, q, r, rfl, rfl, rfl, hp, hq, hr, hn⟩ := zhf h0
 rw [zfb h3] at h0
 exact ⟨h3, p, q, r, rfl, rfl, rfl, ⟨h, h1.1, h1.2, h2, hp, hq, hr, hn, hx, hy, hz, h0⟩⟩
theorem zh0 {f : Int} {a b : Nat} {re im den : Int × Int} (o : Ok f a b re im den) {n : Nat} (hn : n < 9223372036854775808) :
  Ev (fun k => za1.f k f (a : Int) (b : Int) (mkN re).1 (mkN re).2.1 (mkN re).2.2 (mkN im).1 (mkN im).2.1 (mkN im).2.2 (mkN den).1 (mkN den).2.1 (mkN den).2.2 (n : Int)) (zB (zV f a b re im den) (sqN re im) n, 0) := by
 have h1 := zdv o.hf a b (n : Int) o.ix o.iy o.iz
 rw [zfb (by omega), o.ask] at h1
 have e1 : IntKind.u64.wrap (n : Int) = (n : Int) := by rw [zam]; omega
 unfold za1.f
 refine Ev.bind h1 (ze (fun hh => hh rfl) (Ev.bind (zfz o.hf o.wa o.wb o.fin o.gr o.gi o.gd) ?_))
 rw [e1]
 clear e1
 exact Ev.bind (zeg (zdC o.hf a b o.gr o.gi o.gd) (zdD o.gr o.gi) (by omega)) (Ev.now _)
theorem zhX {f : Int} {a b : Nat} {re im den : Int × Int} (o : Ok f a b re im den) :
  (zB (zV f a b re im den) (sqN re im) 4294967295 = false ∧ Ev (fun k => zE.f k f (a : Int) (b : Int) (mkN re).1 (mkN re).2.1 (mkN re).2.2 (mkN im).1 (mkN im).2.1 (mkN im).2.2 (mkN den).1 (mkN den).2.1 (mkN den).2.2) (0, 20)) ∨
  (∃ r : Nat, Lst (zV f a b re im den) (sqN re im) r ∧ Ev (fun k => zE.f k f (a : Int) (b : Int) (mkN re).1 (mkN re).2.1 (mkN re).2.2 (mkN im).1 (mkN im).2.1 (mkN im).2.2 (mkN den).1 (mkN den).2.1 (mkN den).2.2) ((r : Int), 0)) := by
 have h1 := zdv o.hf a b 0 o.ix o.iy o.iz
 rw [o.ask] at h1
 have hA := zdC o.hf a b o.gr o.gi o.gd
 have hB := zdD o.gr o.gi
 have h0 := zdl re im
 have gi := zeg hA hB (n := 4294967295) (by omega)
 have hg := zfz o.hf o.wa o.wb o.fin o.gr o.gi o.gd
 cases hm : zB (zV f a b re im den) (sqN re im) 4294967295 with
 | false =>
  rw [hm] at gi
  refine .inl ⟨rfl, ?_⟩
  unfold zE.f
  exact Ev.bind h1 (ze (fun hh => hh rfl) (Ev.bind hg (Ev.bind gi (zd rfl (Ev.now _)))))
 | true =>
  rw [hm] at gi
  obtain ⟨r, hr, he⟩ := zeI hA hB h0 4294967295 0 4294967295 (by omega) (by omega) (by omega) hm (fun n hn => by omega)
  refine .inr ⟨r, hr, ?_⟩
  unfold zE.f
  exact Ev.bind h1 (ze (fun hh => hh rfl) (Ev.bind hg (Ev.bind gi (ze (by simp) he))))
def rt : Nat → Nat
 | 0 => 0
 | n + 1 => if (rt n + 1) * (rt n + 1) ≤ n + 1 then rt n + 1 else rt n
theorem sq1 (r : Nat) : (r + 1) * (r + 1) = r * r + 2 * r + 1 := by rw [Nat.add_mul, Nat.mul_add]; omega
theorem zdP : ∀ n, rt n * rt n ≤ n ∧ n < (rt n + 1) * (rt n + 1)
 | 0 => by simp [rt]
 | n + 1 => by
  have ih := zdP n
  have h1 := sq1 (rt n)
  have h2 := sq1 (rt n + 1)
  simp only [rt]
  split
  ·refine ⟨by assumption, ?_⟩; omega
  ·exact ⟨by omega, by omega⟩
theorem zjw {n r : Nat} (h1 : r * r ≤ n) (h2 : n < (r + 1) * (r + 1)) : rt n = r := by
 have h := zdP n
 have a : rt n < r + 1 := by
  rcases Nat.lt_or_ge (rt n) (r + 1) with h3 | h3
  ·exact h3
  ·have := Nat.mul_le_mul h3 h3; omega
 have b : r < rt n + 1 := by
  rcases Nat.lt_or_ge r (rt n + 1) with h3 | h3
  ·exact h3
  ·have := Nat.mul_le_mul h3 h3; omega
 omega
def zdj (n : Nat) : List Int × Bool := (D (rt n), decide (rt n * rt n = n))
theorem zjH (R S A b1 b0 : Nat) (h : A = R * R + S) : 4 * A + (2 * b1 + b0) = 2 * R * (2 * R) + (S * 4 + (2 * b1 + b0)) := by
 have : 2 * R * (2 * R) = 4 * (R * R) := by rw [Nat.mul_mul_mul_comm]
 omega
theorem zii {n L : Nat} {M : Nat} (hM : M = 4294967296 ^ L) (h : n < M * 4294967296) : (D n).length ≤ L + 1 := zaX (by rw [Nat.pow_succ, ← hM]; exact h)
theorem zjp {R S A : Nat} (h : A = R * R + S) (h2 : S ≤ 2 * R) : rt A = R ∧ (S = 0 ↔ R * R = A) := by
 have h1 := sq1 R
 exact ⟨zjw (by omega) (by omega), by omega⟩
theorem zhB (n : Nat) : decide (((D n).length : Int) = 0) = decide (n = 0) := by
 by_cases h : n = 0
 ·subst h; simp [zC]
 ·have h2 : D n ≠ [] := by rw [zby h]; simp
  have h3 : (D n).length ≠ 0 := fun e => h2 (List.eq_nil_of_length_eq_zero e)
  rw [decide_eq_false h]
  exact decide_eq_false (by omega)
theorem wj {j : Nat} (h : j < 100000000) : wrap64 (((2 * j : Nat) : Int) - 2) = ((2 * j : Nat) : Int) - 2 ∧ wrap64 (((2 * j : Nat) : Int) + 1) = ((2 * j + 1 : Nat) : Int) := by unfold wrap64; omega
theorem zeC {a : List Int} (ha : Nm a) (la : a.length < 1000000) : ∀ (j R S : Nat), j < 100000000 → V a / 2 ^ (2 * j) = R * R + S → S ≤ 2 * R → R ≤ V a → S ≤ V a →
  Ev (fun k => zZ.l0 k a (D R) (D S) (((2 * j : Nat) : Int) - 2)) (zdj (V a))
 | 0, R, S, hj, h, h2, h3, h4 => by
  refine zf ?_
  simp only [zZ.l0]
  refine ze (by omega) (zg (Ev.now _) ?_)
  rw [Nat.mul_zero, Nat.pow_zero, Nat.div_one] at h
  have e := zjp h h2
  unfold zdj
  rw [e.1, zhB]
  simp only [e.2]
 | j + 1, R, S, hj, h, h2, h3, h4 => by
  have ej : ((2 * (j + 1) : Nat) : Int) - 2 = ((2 * j : Nat) : Int) := by omega
  rw [ej]
  have hw := wj (j := j) (by omega)
  have hb1 := zdg ha.dg (by omega) (2 * j + 1) (by omega)
  have hb0 := zdg ha.dg (by omega) (2 * j) (by omega)
  have hd0 := zea (V a) (2 * j)
  have hd1 := zea (V a) (2 * j + 1)
  have e2 : 2 * j + 1 + 1 = 2 * (j + 1) := by omega
  rw [e2] at hd1
  rw [h] at hd1
  generalize hB1 : V a / 2 ^ (2 * j + 1) % 2 = b1 at hb1 hd1
  generalize hB0 : V a / 2 ^ (2 * j) % 2 = b0 at hb0 hd0
  have h1 : b1 < 2 := by omega
  have h0 : b0 < 2 := by omega
  have hA : V a / 2 ^ (2 * j) = 2 * R * (2 * R) + (S * 4 + (2 * b1 + b0)) := by
   rw [← zjH R S _ b1 b0 rfl, hd0, hd1]; omega
  have hAl : V a / 2 ^ (2 * j) ≤ V a := Nat.div_le_self _ _
  have hle : S * 4 + (2 * b1 + b0) ≤ V a := by omega
  have hRR : 2 * R ≤ V a := by
   rcases Nat.eq_zero_or_pos R with hz | hz
   ·subst hz; omega
   ·have : 2 * R * 1 ≤ 2 * R * (2 * R) := Nat.mul_le_mul_left _ (by omega)
    omega
  have hVl := zaO ha.dg
  generalize hM : 4294967296 ^ a.length = M at hVl
  have hlen : ∀ n, n ≤ 4 * V a + 4 → (D n).length ≤ a.length + 1 := fun n hn => zii hM.symm (by omega)
  have lS := hlen S (by omega)
  have lR := hlen R (by omega)
  have l1 := hlen (S * 4) (by omega)
  have l2 := hlen (S * 4 + (2 * b1 + b0)) (by omega)
  have l3 := hlen (2 * R) (by omega)
  refine zf ?_
  simp only [zZ.l0, hw.2, hw.1]
  refine zd nn ?_
  have u1 := zbT (zau S) (by omega) 2 (by omega)
  rw [V_D] at u1
  refine Ev.bind u1 (zh hb1 (zh hb0 ?_))
  have eo : IntKind.u64.wrap ((2 * (b1 : Int) % 4294967296 + (b0 : Int)) % 4294967296) = ((2 * b1 + b0 : Nat) : Int) := by rw [zam]; omega
  rw [eo]
  have o1 := zdh (n := ((2 * b1 + b0 : Nat) : Int)) (by omega) (by omega)
  rw [Int.toNat_natCast] at o1
  refine Ev.bind o1 ?_
  have lo := hlen (2 * b1 + b0) (by omega)
  have a1 := zcn (zau (S * 2 ^ 2)) (zau (2 * b1 + b0)) (by simpa using by omega) (by omega)
  rw [V_D, V_D] at a1
  refine Ev.bind a1 ?_
  have u2 := zbT (zau R) (by omega) 2 (by omega)
  rw [V_D] at u2
  refine Ev.bind u2 ?_
  have d1 : Dg [1] := Dg.cons (by omega) (by omega) Dg.nil
  have l4 := hlen (R * 2 ^ 2) (by omega)
  have a2 := zcn (zau (R * 2 ^ 2)) d1 (by omega) (by simp)
  rw [V_D] at a2
  refine Ev.bind a2 ?_
  have u3 := zbT (zau R) (by omega) 1 (by omega)
  rw [V_D] at u3
  refine Ev.bind u3 ?_
  have v1 : V [1] = 1 := by simp
  rw [v1]
  have e4 : S * 2 ^ 2 = S * 4 := rfl
  have e5 : R * 2 ^ 2 + 1 = 4 * R + 1 := by omega
  have e6 : R * 2 ^ 1 = 2 * R := by omega
  rw [e4, e5, e6]
  refine Ev.bind (zet (zi _) (zi _) (by omega)) ?_
  rw [V_D, V_D]
  by_cases hc : 4 * R + 1 ≤ S * 4 + (2 * b1 + b0)
  ·refine zd (zb2.2 hc) ?_
   have s1 := zdO (zi (S * 4 + (2 * b1 + b0))) (zi (4 * R + 1)) (by omega) (by rw [V_D, V_D]; exact hc)
   rw [V_D, V_D] at s1
   refine Ev.bind s1 ?_
   have a3 := zcn (zau (2 * R)) d1 (by omega) (by simp)
   rw [V_D, v1] at a3
   refine Ev.bind a3 ?_
   have hq := sq1 (2 * R)
   exact zeC ha la j (2 * R + 1) _ (by omega) (by rw [hA]; omega) (by omega) (by omega) (by omega)
  ·refine ze (fun h => hc (zb2.1 h)) ?_
   exact zeC ha la j (2 * R) _ (by omega) hA (by omega) hRR (by omega)
theorem zjh {a : List Int} (ha : Nm a) (la : a.length < 1000000) : Ev (fun k => zZ.f k a) (zdj (V a)) := by
 unfold zZ.f
 refine Ev.bind (zba ha (by omega)) ?_
 have hb : bl (V a) ≤ 32 * a.length := zaw ha.dg
 have hlt := z3 (V a)
 generalize bl (V a) = n at hb hlt
 have fin : ∀ j, j < 100000000 → n ≤ 2 * j → Ev (fun k => zZ.j0 k a [] [] ((2 * j : Nat) : Int)) (zdj (V a)) := by
  intro j hj hn
  refine zf ?_
  simp only [zZ.j0, (wj hj).1]
  have h0 : V a / 2 ^ (2 * j) = 0 * 0 + 0 := by
   rw [Nat.div_eq_of_lt (Nat.lt_of_lt_of_le hlt (Nat.pow_le_pow_right (by omega) hn))]
  have := zeC ha la j 0 0 hj h0 (by omega) (by omega) (by omega)
  rwa [zC] at this
 have em : Int.tmod (n : Int) 2 = ((n % 2 : Nat) : Int) := rfl
 rw [em]
 have ew : wrap64 ((n : Int) + 1) = ((n + 1 : Nat) : Int) := zJ (by omega)
 rw [ew]
 clear ew
 by_cases c : n % 2 = 1
 ·refine zd (by omega) ?_
  have e : n + 1 = 2 * ((n + 1) / 2) := by omega
  rw [e]
  exact fin _ (by omega) (by omega)
 ·refine ze (by omega) ?_
  have e : n = 2 * (n / 2) := by omega
  rw [e]
  exact fin _ (by omega) (by omega)
theorem zim {A B : Int × Int} {r s : Nat} (h : Lst A B r) (k : Lst A B s) : r = s := by
 rcases Nat.lt_trichotomy r s with c | c | c
 ·have := k.2.2 r c; rw [h.2.1] at this; cases this
 ·exact c
 ·have := h.2.2 s c; rw [k.2.1] at this; cases this
theorem zfM {A B : Int × Int} (hB : 0 ≤ B.1) {r : Nat} (h : Lst A B r) (hn : zB A B 4294967295 = false) : False := by
 have := zfE hB h.1 h.2.1
 rw [hn] at this; cases this
def csr (N : Nat) : Nat := if rt N * rt N = N then rt N else rt N + 1
theorem zfv (N : Nat) : N ≤ csr N * csr N ∧ ∀ n, n < csr N → n * n < N := by
 have h := zdP N
 unfold csr
 by_cases c : rt N * rt N = N
 ·rw [if_pos c]
  refine ⟨by omega, fun n hn => ?_⟩
  have h1 := sq1 n
  have h2 : (n + 1) * (n + 1) ≤ rt N * rt N := Nat.mul_le_mul hn hn
  omega
 ·rw [if_neg c]
  refine ⟨by omega, fun n hn => ?_⟩
  have h2 : n * n ≤ rt N * rt N := Nat.mul_le_mul (by omega) (by omega)
  omega
def zbC (P Q : Nat) : Nat := P / Q + if P % Q ≠ 0 then 1 else 0
theorem zfj {P Q K : Nat} (hQ : 0 < Q) : zbC P Q ≤ K ↔ P ≤ K * Q := by
 have h1 := Nat.div_add_mod P Q
 have h2 := Nat.mod_lt P hQ
 rw [Nat.mul_comm] at h1
 unfold zbC
 by_cases c : P % Q ≠ 0
 ·rw [if_pos c]
  constructor
  ·intro h
   have h3 : (P / Q + 1) * Q ≤ K * Q := Nat.mul_le_mul_right Q h
   rw [Nat.add_mul, Nat.one_mul] at h3
   omega
  ·intro h
   have h3 : P / Q * Q < K * Q := by omega
   have := Nat.lt_of_mul_lt_mul_right h3
   omega
 ·rw [if_neg c]
  constructor
  ·intro h
   have h3 : P / Q * Q ≤ K * Q := Nat.mul_le_mul_right Q (by omega)
   omega
  ·intro h
   have h3 : P / Q * Q ≤ K * Q := by omega
   have := Nat.le_of_mul_le_mul_right h3 hQ
   omega
theorem zjy {a b K u v n w : Nat} (h : v + n = u + w) : a * 2 ^ u ≤ K * (b * 2 ^ v) ↔ a * 2 ^ n ≤ K * (b * 2 ^ w) := by
 have e1 : a * 2 ^ u * 2 ^ n = a * 2 ^ n * 2 ^ u := by rw [Nat.mul_assoc, Nat.mul_assoc, Nat.mul_comm (2 ^ u)]
 have e2 : K * (b * 2 ^ v) * 2 ^ n = K * (b * 2 ^ w) * 2 ^ u := by
  rw [Nat.mul_assoc, Nat.mul_assoc, Nat.mul_assoc, Nat.mul_assoc, ← Nat.pow_add, ← Nat.pow_add, h, Nat.add_comm u w]
 constructor
 ·intro hh
  have h1 : a * 2 ^ u * 2 ^ n ≤ K * (b * 2 ^ v) * 2 ^ n := Nat.mul_le_mul_right _ hh
  rw [e1, e2] at h1
  exact Nat.le_of_mul_le_mul_right h1 (zj u)
 ·intro hh
  have h1 : a * 2 ^ n * 2 ^ u ≤ K * (b * 2 ^ w) * 2 ^ u := Nat.mul_le_mul_right _ hh
  rw [← e1, ← e2] at h1
  exact Nat.le_of_mul_le_mul_right h1 (zj n)
theorem zf6 {A : Int × Int} (h : 0 < A.1) : ∃ (a j : Nat), A.1 = ((a * 2 ^ j : Nat) : Int) ∧ (mkN A).2.2 = A.2 + (j : Int) ∧ (mkN A).1 = false ∧ V (mkN A).2.1 = a ∧ a ≠ 0 := by
 obtain ⟨j, j1, j2, j3, j4⟩ := zdJ (show A.1 ≠ 0 by omega) A.2
 refine ⟨V (mkN A).2.1, j, ?_, j2, ?_, rfl, j4⟩
 ·have : (A.1.natAbs : Int) = A.1 := by omega
  rw [← this]
  exact congrArg _ j1
 ·rw [show (mkN A).1 = decide (A.1 < 0) from j3]
  exact decide_eq_false (by omega)
theorem ze7 {z e m : Int} {a j : Nat} (h : z = ((a * 2 ^ j : Nat) : Int)) (hm : m ≤ e) : al z e m = ((a * 2 ^ (e + (j : Int) - m).toNat : Nat) : Int) := by
 rw [h, zcy, Nat.mul_assoc, ← Nat.pow_add]
 congr 3
 omega
theorem zia {A B : Int × Int} {a b j i : Nat} (hA : A.1 = ((a * 2 ^ j : Nat) : Int)) (hB : B.1 = ((b * 2 ^ i : Nat) : Int)) (hb : b ≠ 0) {n w : Nat} (h : (w : Int) = (n : Int) - (A.2 + (j : Int)) + (B.2 + (i : Int))) (K : Nat) : zB A B K = true ↔ zbC (a * 2 ^ n) (b * 2 ^ w) ≤ K * K := by
 rw [zcf, zfj (Nat.mul_pos (Nat.pos_of_ne_zero hb) (zj w))]
 unfold alA alB
 rw [ze7 hA (by omega), ze7 hB (by omega), ← Int.natCast_mul, ← Int.natCast_mul, Int.ofNat_le]
 exact zjy (by omega)
theorem zfH {m : Nat} (hm : m ≠ 0) : Ev (fun k => zr.j6 k (D m)) (if m ≤ 4294967295 then ((m : Int), true) else (0, false)) := by
 refine zf ?_; simp only [zr.j6]
 by_cases c : m ≤ 4294967295
 ·have e : D m = [(m : Int)] := by
   rw [zby hm, show m / 4294967296 = 0 by omega, zC]
   congr 1; omega
  rw [e, if_pos c]
  have e2 : rd [(m : Int)] 0 = (m : Int) := rfl
  have e3 : IntKind.u64.wrap (m : Int) = (m : Int) := by rw [zam]; omega
  rw [e2, e3]
  exact ze (by simp) (zd (by simp) (Ev.now _))
 ·have h1 : ¬ (D m).length ≤ 1 := by
   intro hl
   have h2 := zbM m
   have h3 : 4294967296 ^ (D m).length ≤ 4294967296 ^ 1 := Nat.pow_le_pow_right (by omega) hl
   omega
  rw [if_neg c]
  exact zd (by omega) (Ev.now _)
theorem zfG {N : Nat} (hN : N ≠ 0) (hb : bl N ≤ 1000) : Ev (fun k => zr.j5 k (mk (N : Int) 0).1 (mk (N : Int) 0).2.1 (mk (N : Int) 0).2.2) (if csr N ≤ 4294967295 then ((csr N : Int), true) else (0, false)) := by
 obtain ⟨j, j1, j2, j3, j4⟩ := zdJ (show (N : Int) ≠ 0 by omega) 0
 rw [Int.natAbs_natCast] at j1
 have h1 := zK (N : Int) 0
 have h2 := za3 (N : Int) 0
 have h3 := zas (N : Int) 0
 rw [Int.natAbs_natCast] at h2 h3
 have e0 : (mk (N : Int) 0).2.2 = me (N : Int) 0 := rfl
 have j2' : (mk (N : Int) 0).2.2 = (j : Int) := by rw [j2]; omega
 have up := zbT h1.nm.dg (by omega) j (by omega)
 rw [← j1] at up
 have ln := z7 (x := N) (k := 40) (by omega)
 have rr := zjh (zi N) (by omega)
 rw [V_D] at rr
 have hs := zdP N
 have hrb : (D (rt N)).length ≤ 40 := by
  have h4 : rt N ≤ N := by
   rcases Nat.eq_zero_or_pos (rt N) with c | c
   ·omega
   ·have := Nat.mul_le_mul_left (rt N) c
    omega
  have h5 := zbB h4
  exact z7 (by omega)
 refine zf ?_; simp only [zr.j5]
 rw [j2']
 refine Ev.bind up (Ev.bind rr ?_)
 unfold zdj
 dsimp only
 have hc := zfv N
 have hne : csr N ≠ 0 := fun h => by rw [h] at hc; omega
 unfold csr at hne ⊢
 by_cases c : rt N * rt N = N
 ·rw [if_pos c] at hne ⊢
  rw [decide_eq_true c]
  exact ze (by simp) (zfH hne)
 ·rw [if_neg c] at hne ⊢
  rw [decide_eq_false c]
  have d1 : Dg [1] := Dg.cons (by omega) (by omega) Dg.nil
  have a1 := zcn (zau (rt N)) d1 (by omega) (by simp)
  rw [V_D, show V [1] = 1 by simp] at a1
  exact zd rfl (Ev.bind a1 (zfH hne))
theorem ziX : Ev (fun k => zz.f k 1) (mk 1 0) := zgk (by omega) (by omega)
theorem zjM {q e : Nat} {lost : Bool} (he : 0 < e) (hq : bl q ≤ 200) (he2 : e ≤ 100000) {N : Nat} (hN : N = q / 2 ^ e + if lost = true ∨ q % 2 ^ e ≠ 0 then 1 else 0) (hN0 : N ≠ 0) :
  Ev (fun k => (zbd.f k (mk (q : Int) (-(e : Int))).1 (mk (q : Int) (-(e : Int))).2.1 (mk (q : Int) (-(e : Int))).2.2).bind fun t811 => (if lost = true then ((zz.f k 1).bind fun t812 => ((zD.f k t811.1 t811.2.1 t811.2.2 t812.1 t812.2.1 t812.2.2).bind fun t813 => (zr.j5 k t813.1 t813.2.1 t813.2.2))) else ((zbe.f k t811.1 t811.2.1 t811.2.2 (mk (q : Int) (-(e : Int))).1 (mk (q : Int) (-(e : Int))).2.1 (mk (q : Int) (-(e : Int))).2.2).bind fun t814 => (if (!t814) = true then ((zz.f k 1).bind fun t815 => ((zD.f k t811.1 t811.2.1 t811.2.2 t815.1 t815.2.1 t815.2.2).bind fun t816 => (zr.j5 k t816.1 t816.2.1 t816.2.2))) else (zr.j5 k t811.1 t811.2.1 t811.2.2)))))
   (if csr N ≤ 4294967295 then ((csr N : Int), true) else (0, false)) := by
 have hf := ziW (z := (q : Int)) (e := -(e : Int)) (by rw [Int.natAbs_natCast]; omega) (by omega) (by omega)
 have eF : zaI (q : Int) (-(e : Int)) = ((q / 2 ^ e : Nat) : Int) := by
  unfold zaI
  rw [if_neg (by omega), show (-(-(e : Int))).toNat = e by omega]
  rw [show (2 : Int) ^ e = ((2 ^ e : Nat) : Int) by rw [Int.natCast_pow]; rfl]
  rfl
 rw [eF] at hf
 have hFb : bl (q / 2 ^ e) ≤ 200 := Nat.le_trans (zbB (Nat.div_le_self _ _)) hq
 have r1 : Rg ((q / 2 ^ e : Nat) : Int) 0 := ⟨by rw [Int.natAbs_natCast]; omega, by omega, by omega⟩
 have r2 : Rg 1 0 := ⟨by decide, by omega, by omega⟩
 have ha := zf7 r1 r2
 rw [zg6] at ha
 have plus : N = q / 2 ^ e + 1 → Ev (fun k => (zz.f k 1).bind fun t812 => ((zD.f k (mk ((q / 2 ^ e : Nat) : Int) 0).1 (mk ((q / 2 ^ e : Nat) : Int) 0).2.1 (mk ((q / 2 ^ e : Nat) : Int) 0).2.2 t812.1 t812.2.1 t812.2.2).bind fun t813 => (zr.j5 k t813.1 t813.2.1 t813.2.2))) (if csr N ≤ 4294967295 then ((csr N : Int), true) else (0, false)) := by
  intro h1
  have e1 : ((q / 2 ^ e : Nat) : Int) + 1 = (N : Int) := by rw [h1]; rfl
  rw [e1] at ha
  have hb := zd2 (q / 2 ^ e) 1
  have b1 : bl 1 = 1 := by decide
  refine Ev.bind ziX (Ev.bind ha (zfG hN0 (by rw [h1]; omega)))
 refine Ev.bind hf ?_
 cases lost with
 | true =>
  rw [if_pos (.inl rfl)] at hN
  exact zd rfl (plus hN)
 | false =>
  refine ze (by simp) ?_
  have hs := zi0 ((q / 2 ^ e : Nat) : Int) 0 (q : Int) (-(e : Int)) (by rw [Int.natAbs_natCast]; omega)
  have hiff : mk ((q / 2 ^ e : Nat) : Int) 0 = mk (q : Int) (-(e : Int)) ↔ q % 2 ^ e = 0 := by
   rw [zir (m := -(e : Int)) (by omega) (by omega), zg9, zcy, show (0 - -(e : Int)).toNat = e by omega]
   have h3 := Nat.div_add_mod q (2 ^ e)
   rw [Nat.mul_comm] at h3
   constructor
   ·intro h4
    have h4 : q / 2 ^ e * 2 ^ e = q := Int.ofNat.inj h4
    omega
   ·intro h4
    exact congrArg Int.ofNat (show q / 2 ^ e * 2 ^ e = q by omega)
  refine Ev.bind hs ?_
  by_cases c : q % 2 ^ e = 0
  ·rw [decide_eq_true (hiff.2 c)]
   rw [if_neg (fun hh => hh.elim (by simp) (fun h5 => h5 c)), Nat.add_zero] at hN
   subst hN
   exact ze (by simp) (zfG hN0 (by omega))
  ·rw [decide_eq_false (fun hh => c (hiff.1 hh))]
   rw [if_pos (.inr c)] at hN
   exact zd rfl (plus hN)
theorem zhp {P Q e : Nat} : zbC P (Q * 2 ^ e) = P / Q / 2 ^ e + if decide (P % Q ≠ 0) = true ∨ P / Q % 2 ^ e ≠ 0 then 1 else 0 := by
 unfold zbC
 rw [Nat.div_div_eq_div_mul]
 congr 1
 rw [Nat.mod_mul]
 by_cases c : P % Q = 0
 ·by_cases d : P / Q % 2 ^ e = 0
  ·rw [if_neg (by rw [c, d]; simp), if_neg (by rw [c, d]; simp)]
  ·by_cases hQ : Q = 0
   ·subst hQ; simp at d
   ·have : Q * (P / Q % 2 ^ e) ≠ 0 := Nat.mul_ne_zero hQ d
    rw [if_pos (by omega), if_pos (.inr d)]
 ·rw [if_pos (by omega), if_pos (.inl (decide_eq_true c))]
theorem ziS {a b n : Nat} (ha : a ≠ 0) (hb : b ≠ 0) (h : bl b ≤ bl a + n) : bl a + n ≤ bl (a * 2 ^ n / b) + bl b ∧ bl (a * 2 ^ n / b) + bl b ≤ bl a + n + 1 := by
 have h1 := zbA ha
 have h2 := z3 b
 have h3 := zcA ha
 have h4 := zbA hb
 have h5 := z3 a
 have h6 := zcA hb
 constructor
 ·rcases Nat.lt_or_ge (bl (a * 2 ^ n / b) + bl b) (bl a + n) with c | c
  rotate_left
  ·exact c
  exfalso
  have h7 : a * 2 ^ n / b < 2 ^ (bl a + n - 1 - bl b) := Nat.lt_of_lt_of_le (z3 _) (Nat.pow_le_pow_right (by omega) (by omega))
  have h8 : 2 ^ (bl a + n - 1 - bl b) ≤ a * 2 ^ n / b := by
   rw [Nat.le_div_iff_mul_le (by omega)]
   have h9 : 2 ^ (bl a + n - 1 - bl b) * b ≤ 2 ^ (bl a + n - 1 - bl b) * 2 ^ bl b := Nat.mul_le_mul_left _ (by omega)
   have h10 : 2 ^ (bl a - 1) * 2 ^ n ≤ a * 2 ^ n := Nat.mul_le_mul_right _ h1
   rw [← Nat.pow_add] at h9 h10
   have e1 : bl a + n - 1 - bl b + bl b = bl a - 1 + n := by omega
   rw [e1] at h9
   omega
  omega
 ·have h7 : a * 2 ^ n / b < 2 ^ (bl a + n + 1 - bl b) := by
   rw [Nat.div_lt_iff_lt_mul (by omega)]
   have h9 : 2 ^ (bl a + n + 1 - bl b) * 2 ^ (bl b - 1) ≤ 2 ^ (bl a + n + 1 - bl b) * b := Nat.mul_le_mul_left _ h4
   have h10 : a * 2 ^ n < 2 ^ bl a * 2 ^ n := Nat.mul_lt_mul_of_pos_right h5 (zj n)
   rw [← Nat.pow_add] at h9 h10
   have e1 : bl a + n + 1 - bl b + (bl b - 1) = bl a + n := by omega
   rw [e1] at h9
   omega
  have := zav h7
  omega
theorem zjW {A B : Int × Int} (hA : Wx (-42148) 71900 A) (hB : Wx (-40000) 65601 B) (a0 : 0 < A.1) (b0 : 0 < B.1) (h1 : top A.1 A.2 - top B.1 B.2 ≤ 66) (h2 : -2 ≤ top A.1 A.2 - top B.1 B.2) :
  ∃ N : Nat, (∀ K, zB A B K = true ↔ N ≤ K * K) ∧ Ev (fun k => (zaE.f k (mkN A).1 (mkN A).2.1 (mkN A).2.2 (mkN B).1 (mkN B).2.1 (mkN B).2.2 80).bind fun t810 => (zbd.f k t810.1 t810.2.1 t810.2.2.1).bind fun t811 => (if t810.2.2.2 = true then ((zz.f k 1).bind fun t812 => ((zD.f k t811.1 t811.2.1 t811.2.2 t812.1 t812.2.1 t812.2.2).bind fun t813 => (zr.j5 k t813.1 t813.2.1 t813.2.2))) else ((zbe.f k t811.1 t811.2.1 t811.2.2 t810.1 t810.2.1 t810.2.2.1).bind fun t814 => (if (!t814) = true then ((zz.f k 1).bind fun t815 => ((zD.f k t811.1 t811.2.1 t811.2.2 t815.1 t815.2.1 t815.2.2).bind fun t816 => (zr.j5 k t816.1 t816.2.1 t816.2.2))) else (zr.j5 k t811.1 t811.2.1 t811.2.2)))))
   (if csr N ≤ 4294967295 then ((csr N : Int), true) else (0, false)) := by
 obtain ⟨a, j, fa1, fa2, fa3, fa4, fa5⟩ := zf6 a0
 obtain ⟨b, i, fb1, fb2, fb3, fb4, fb5⟩ := zf6 b0
 have la := hA.lo
 have ha := hA.hi
 have lb := hB.lo
 have hb := hB.hi
 have ta : top A.1 A.2 = A.2 + (j : Int) + (bl a : Nat) := by
  unfold top
  rw [if_neg (by omega), fa1, Int.natAbs_natCast, zcC fa5 j]
  omega
 have tb : top B.1 B.2 = B.2 + (i : Int) + (bl b : Nat) := by
  unfold top
  rw [if_neg (by omega), fb1, Int.natAbs_natCast, zcC fb5 i]
  omega
 have na : bl A.1.natAbs = bl a + j := by rw [fa1, Int.natAbs_natCast, zcC fa5 j]
 have nb : bl B.1.natAbs = bl b + i := by rw [fb1, Int.natAbs_natCast, zcC fb5 i]
 rw [ta, tb] at h1 h2
 have dA := zK A.1 A.2
 have dB := zK B.1 B.2
 have lla := za3 A.1 A.2
 have llb := za3 B.1 B.2
 have hq := ziZ (sa := (mkN A).1) (la := (mkN A).2.1) (ea := (mkN A).2.2) (sb := (mkN B).1) (lb := (mkN B).2.1) (eb := (mkN B).2.2) dA dB (by rw [fa4]; exact fa5) (by rw [fb4]; exact fb5) (by show (mk A.1 A.2).2.1.length ≤ _; omega) (by show (mk B.1 B.2).2.1.length ≤ _; omega) (by omega) (by omega) (by omega) (by omega) 80 (by omega)
 rw [fa4, fb4, fa2, fb2] at hq
 have esv : sv ((mkN A).1 != (mkN B).1) (zaN a b 80) = ((zaN a b 80 : Nat) : Int) := by rw [fa3, fb3]; rfl
 rw [esv] at hq
 have hn : zp a b 80 = 80 + 1 + bl b - bl a := rfl
 have hc : zal a b 80 = bl (a * 2 ^ zp a b 80 / b) - 80 := rfl
 have hQ : zaN a b 80 = a * 2 ^ zp a b 80 / (b * 2 ^ zal a b 80) := rfl
 have hL : zcS a b 80 = decide (a * 2 ^ zp a b 80 % (b * 2 ^ zal a b 80) ≠ 0) := rfl
 obtain ⟨n, en⟩ : ∃ n, n = zp a b 80 := ⟨_, rfl⟩
 obtain ⟨c, ec⟩ : ∃ c, c = zal a b 80 := ⟨_, rfl⟩
 have qb := ziS fa5 fb5 (n := n) (by omega)
 rw [← en] at hn hc hQ hL hq
 rw [← ec] at hc hQ hL hq
 have bx : bl (a * 2 ^ n / b) = c + 80 := by omega
 have hqb : bl (zaN a b 80) ≤ 200 := by
  rw [hQ, ← Nat.div_div_eq_div_mul]
  have := zd3 (a * 2 ^ n / b) c
  omega
 obtain ⟨e, he⟩ : ∃ e : Nat, A.2 + (j : Int) - (B.2 + (i : Int)) - (n : Int) + (c : Int) = -(e : Int) := ⟨(-(A.2 + (j : Int) - (B.2 + (i : Int)) - (n : Int) + (c : Int))).toNat, by omega⟩
 rw [he, ← fa2, ← fb2] at hq
 have hw : ((c + e : Nat) : Int) = (n : Int) - (A.2 + (j : Int)) + (B.2 + (i : Int)) := by omega
 have hK := zia fa1 fb1 fb5 hw
 have eN : zbC (a * 2 ^ n) (b * 2 ^ (c + e)) = zaN a b 80 / 2 ^ e + if zcS a b 80 = true ∨ zaN a b 80 % 2 ^ e ≠ 0 then 1 else 0 := by
  rw [Nat.pow_add, ← Nat.mul_assoc, zhp, ← hQ, ← hL]
 have hN0 : zbC (a * 2 ^ n) (b * 2 ^ (c + e)) ≠ 0 := by
  intro h0
  have h3 := (zfj (P := a * 2 ^ n) (K := 0) (Nat.mul_pos (Nat.pos_of_ne_zero fb5) (zj (c + e)))).1 (by omega)
  have h4 : 0 < a * 2 ^ n := Nat.mul_pos (Nat.pos_of_ne_zero fa5) (zj n)
  omega
 refine ⟨zbC (a * 2 ^ n) (b * 2 ^ (c + e)), hK, ?_⟩
 refine Ev.bind hq ?_
 exact zjM (by omega) hqb (by omega) eN hN0
theorem zhz {A B : Int × Int} (hB : 0 ≤ B.1) {N : Nat} (hN : ∀ K, zB A B K = true ↔ N ≤ K * K) : (csr N ≤ 4294967295 → Lst A B (csr N)) ∧ (¬ csr N ≤ 4294967295 → zB A B 4294967295 = false) := by
 obtain ⟨h1, h2⟩ := zfv N
 constructor
 ·intro hc
  refine ⟨hc, (hN _).2 h1, fun n hn => ?_⟩
  cases hx : zB A B n with
  | false => rfl
  | true => have h3 := (hN n).1 hx; have h4 := h2 n hn; omega
 ·intro hc
  cases hx : zB A B 4294967295 with
  | false => rfl
  | true => have h3 := (hN _).1 hx; have h4 := h2 4294967295 (by omega); omega
theorem zgK {A B : Int × Int} (a0 : 0 < A.1) (b0 : 0 < B.1) : ∃ x y : Nat, alA A B = (x : Int) ∧ alB A B = (y : Int) ∧ ((bl x : Nat) : Int) - ((bl y : Nat) : Int) = top A.1 A.2 - top B.1 B.2 ∧ x ≠ 0 ∧ y ≠ 0 := by
 have h1 := zcx (z := A.1) (e := A.2) (m := min A.2 B.2) (by omega) (by omega)
 have h2 := zcx (z := B.1) (e := B.2) (m := min A.2 B.2) (by omega) (by omega)
 have h3 := zbY (z := A.1) (by omega) A.2 (min A.2 B.2)
 have h4 := zbY (z := B.1) (by omega) B.2 (min A.2 B.2)
 have h5 : al A.1 A.2 (min A.2 B.2) ≠ 0 := fun h => by have := zd0 h; omega
 have h6 : al B.1 B.2 (min A.2 B.2) ≠ 0 := fun h => by have := zd0 h; omega
 exact ⟨(al A.1 A.2 (min A.2 B.2)).natAbs, (al B.1 B.2 (min A.2 B.2)).natAbs, by unfold alA; omega, by unfold alB; omega, by omega, by omega, by omega⟩
theorem zjU {A B : Int × Int} (a0 : 0 < A.1) (b0 : 0 < B.1) (h : 66 < top A.1 A.2 - top B.1 B.2) : zB A B 4294967295 = false := by
 obtain ⟨x, y, hx, hy, ht, x0, y0⟩ := zgK a0 b0
 cases hi : zB A B 4294967295 with
 | false => rfl
 | true =>
  exfalso
  rw [zcf, hx, hy] at hi
  have h1 := zbA x0
  have h2 := z3 y
  have h3 : 2 ^ (bl y + 64) ≤ 2 ^ (bl x - 1) := Nat.pow_le_pow_right (by omega) (by omega)
  rw [Nat.pow_add] at h3
  have h4 : x ≤ 4294967295 * 4294967295 * y := by
   have h5 : (x : Int) ≤ ((4294967295 * 4294967295 * y : Nat) : Int) := by rw [Int.natCast_mul]; exact hi
   omega
  omega
theorem zjV {A B : Int × Int} (a0 : 0 < A.1) (b0 : 0 < B.1) (h : top A.1 A.2 - top B.1 B.2 < -2) : Lst A B 1 := by
 obtain ⟨x, y, hx, hy, ht, x0, y0⟩ := zgK a0 b0
 have h1 := zbA y0
 have h2 := z3 x
 have h3 : 2 ^ bl x ≤ 2 ^ (bl y - 1) := Nat.pow_le_pow_right (by omega) (by omega)
 refine ⟨by omega, ?_, fun n hn => ?_⟩
 ·rw [zcf, hx, hy]
  show (x : Int) ≤ 1 * 1 * (y : Int)
  omega
 ·have : n = 0 := by omega
  subst this
  cases hi : zB A B 0 with
  | false => rfl
  | true =>
   rw [zcf, hx, hy] at hi
   have hi : (x : Int) ≤ 0 * 0 * (y : Int) := hi
   rw [Int.mul_zero, Int.zero_mul] at hi
   omega
theorem zge {f : Int} (h : isF f) (a b : Nat) {re im den : Int × Int} (hr : Gz re) (hi : Gz im) (hd : Gz den) :
  (zB (zV f a b re im den) (sqN re im) 4294967295 = false ∧ Ev (fun k => zr.f k f (a : Int) (b : Int) (mkN re).1 (mkN re).2.1 (mkN re).2.2 (mkN im).1 (mkN im).2.1 (mkN im).2.2 (mkN den).1 (mkN den).2.1 (mkN den).2.2) (0, false)) ∨
  (∃ r : Nat, Lst (zV f a b re im den) (sqN re im) r ∧ Ev (fun k => zr.f k f (a : Int) (b : Int) (mkN re).1 (mkN re).2.1 (mkN re).2.2 (mkN im).1 (mkN im).2.1 (mkN im).2.2 (mkN den).1 (mkN den).2.1 (mkN den).2.2) ((r : Int), true)) := by
 have hA := zdC h a b hr hi hd
 have hB := zdD hr hi
 have hg := zgn h a b hr hi hd
 have a0 : 0 ≤ (zV f a b re im den).1 := zdl _ _
 have b0 := zdl re im
 generalize zV f a b re im den = A at *
 generalize sqN re im = B at *
 have sA : zaq.f (mkN A).1 (mkN A).2.1 (mkN A).2.2 = some A.1.sign := zgb A.1 A.2
 have sB : zaq.f (mkN B).1 (mkN B).2.1 (mkN B).2.2 = some B.1.sign := zgb B.1 B.2
 by_cases ca : A.1 = 0
 ·refine .inr ⟨0, ⟨by omega, ?_, fun n hn => by omega⟩, ?_⟩
  ·rw [zcf]
   have : alA A B = 0 := by unfold alA al; rw [ca, Int.zero_mul]
   rw [this]
   exact Int.mul_nonneg (Int.mul_nonneg (by omega) (by omega)) (zbY b0 _ _)
  ·unfold zr.f
   exact Ev.bind hg (zh sA (zd (by rw [ca]; rfl) (Ev.now _)))
 have ap : 0 < A.1 := by omega
 have sA1 : A.1.sign ≠ 0 := by rw [Int.sign_eq_one_of_pos ap]; omega
 by_cases cb : B.1 = 0
 ·refine .inl ⟨?_, ?_⟩
  ·cases hx : zB A B 4294967295 with
   | false => rfl
   | true =>
    rw [zcf] at hx
    have : alB A B = 0 := by unfold alB al; rw [cb, Int.zero_mul]
    rw [this, Int.mul_zero] at hx
    have h3 : 0 ≤ alA A B := zbY a0 _ _
    have h4 := zd0 (show al A.1 A.2 (min A.2 B.2) = 0 from Int.le_antisymm hx h3)
    exact absurd h4 ca
  ·unfold zr.f
   exact Ev.bind hg (zh sA (ze sA1 (zh sB (zd (by rw [cb]; rfl) (Ev.now _)))))
 have bp : 0 < B.1 := by omega
 have sB1 : B.1.sign ≠ 0 := by rw [Int.sign_eq_one_of_pos bp]; omega
 have tA : Ev (fun k => z5.f k (mkN A).1 (mkN A).2.1 (mkN A).2.2) (top A.1 A.2) := zgd (hA.rg (by omega) (by omega))
 have tB : Ev (fun k => z5.f k (mkN B).1 (mkN B).2.1 (mkN B).2.2) (top B.1 B.2) := zgd (hB.rg (by omega) (by omega))
 have ew : wrap64 (top A.1 A.2 - top B.1 B.2) = top A.1 A.2 - top B.1 B.2 := by
  have q1 := hA.lo
  have q2 := hA.hi
  have q3 := hB.lo
  have q4 := hB.hi
  have t1 : top A.1 A.2 = A.2 + (bl A.1.natAbs : Nat) := by unfold top; rw [if_neg ca]
  have t2 : top B.1 B.2 = B.2 + (bl B.1.natAbs : Nat) := by unfold top; rw [if_neg cb]
  rw [t1, t2]
  unfold wrap64; omega
 have start : ∀ {r : Int × Bool}, Ev (fun k => if wrap64 (top A.1 A.2 - top B.1 B.2) > 66 then some (0, false) else ((z5.f k (mkN A).1 (mkN A).2.1 (mkN A).2.2).bind fun t808 => ((z5.f k (mkN B).1 (mkN B).2.1 (mkN B).2.2).bind fun t809 => (if (wrap64 (t808 - t809)) < (-2) then (some (1, true)) else (zaE.f k (mkN A).1 (mkN A).2.1 (mkN A).2.2 (mkN B).1 (mkN B).2.1 (mkN B).2.2 80).bind fun t810 => (zbd.f k t810.1 t810.2.1 t810.2.2.1).bind fun t811 => (if t810.2.2.2 = true then ((zz.f k 1).bind fun t812 => ((zD.f k t811.1 t811.2.1 t811.2.2 t812.1 t812.2.1 t812.2.2).bind fun t813 => (zr.j5 k t813.1 t813.2.1 t813.2.2))) else ((zbe.f k t811.1 t811.2.1 t811.2.2 t810.1 t810.2.1 t810.2.2.1).bind fun t814 => (if (!t814) = true then ((zz.f k 1).bind fun t815 => ((zD.f k t811.1 t811.2.1 t811.2.2 t815.1 t815.2.1 t815.2.2).bind fun t816 => (zr.j5 k t816.1 t816.2.1 t816.2.2))) else (zr.j5 k t811.1 t811.2.1 t811.2.2)))))))) r → Ev (fun k => zr.f k f (a : Int) (b : Int) (mkN re).1 (mkN re).2.1 (mkN re).2.2 (mkN im).1 (mkN im).2.1 (mkN im).2.2 (mkN den).1 (mkN den).2.1 (mkN den).2.2) r := by
  intro r hr
  unfold zr.f
  exact Ev.bind hg (zh sA (ze sA1 (zh sB (ze sB1 (Ev.bind tA (Ev.bind tB hr))))))
 by_cases c1 : 66 < top A.1 A.2 - top B.1 B.2
 ·exact .inl ⟨zjU ap bp c1, start (zd (by rw [ew]; exact c1) (Ev.now _))⟩
 by_cases c2 : top A.1 A.2 - top B.1 B.2 < -2
 ·exact .inr ⟨1, zjV ap bp c2, start (ze (by rw [ew]; exact c1) (Ev.bind tA (Ev.bind tB (zd (by rw [ew]; exact c2) (Ev.now _)))))⟩
 obtain ⟨N, hN, he⟩ := zjW hA hB ap bp (by omega) (by omega)
 obtain ⟨l1, l2⟩ := zhz b0 hN
 have fin := start (ze (by rw [ew]; exact c1) (Ev.bind tA (Ev.bind tB (ze (by rw [ew]; exact c2) he))))
 by_cases c3 : csr N ≤ 4294967295
 ·rw [if_pos c3] at fin
  exact .inr ⟨csr N, l1 c3, fin⟩
 ·rw [if_neg c3] at fin
  exact .inl ⟨l2 c3, fin⟩
theorem zh4 {f : Int} (h : isF f) {a b : Nat} (ha : a < 18446744073709551616) (hb : b < 18446744073709551616) {x y z : Bool × List Int × Int} (ix : In x) (iy : In y) (iz : In z) :
  ∃ u v : Int, Ev (fun k => zE.f k f (a : Int) (b : Int) x.1 x.2.1 x.2.2 y.1 y.2.1 y.2.2 z.1 z.2.1 z.2.2) (u, v) ∧ Ev (fun k => zao.j3 k f (a : Int) (b : Int) x.1 x.2.1 x.2.2 y.1 y.2.1 y.2.2 z.1 z.2.1 z.2.2 u v) true := by
 have ho := zf2 h ha hb 0 ix iy iz
 by_cases h0 : zX f a b 0 x y z = 0
 rotate_left
 ·refine ⟨_, _, zhW h a b ix iy iz h0, ?_⟩
  refine zf ?_; simp only [zao.j3]
  exact Ev.bind ho (zd h0 (zd trivial (zd rfl (Ev.bind zda (Ev.now _)))))
 obtain ⟨_, re, im, den, rfl, rfl, rfl, o⟩ := zfc h ix iy iz h0
 rw [h0] at ho
 rcases zhX o with ⟨hm, hu⟩ | ⟨r, hr, hu⟩
 ·refine ⟨_, _, hu, ?_⟩
  rcases zge h a b o.gr o.gi o.gd with ⟨_, hv⟩ | ⟨s, hs, _⟩
  ·refine zf ?_; simp only [zao.j3]
   exact Ev.bind ho (ze (fun hh => hh rfl) (Ev.bind hv (zd rfl (zd trivial (zd trivial (Ev.bind zda (Ev.now _)))))))
  ·exact absurd hm (fun hm => zfM (zdl re im) hs hm)
 ·refine ⟨_, _, hu, ?_⟩
  rcases zge h a b o.gr o.gi o.gd with ⟨hm, _⟩ | ⟨s, hs, hv⟩
  ·exact absurd hm (fun hm => zfM (zdl re im) hr hm)
  ·have e := zim hr hs
   subst e
   refine zf ?_; simp only [zao.j3]
   exact Ev.bind ho (ze (fun hh => hh rfl) (Ev.bind hv (ze (by simp) (zd rfl (zd trivial (Ev.bind zda (Ev.now _)))))))
theorem zhV {f : Int} (h : ¬ isF f) {a b : Nat} {x y z : Bool × List Int × Int} : Ev (fun k => zao.j3 k f (a : Int) (b : Int) x.1 x.2.1 x.2.2 y.1 y.2.1 y.2.2 z.1 z.2.1 z.2.2 0 4) true := by
 refine zf ?_; simp only [zao.j3]
 exact Ev.bind (zf1 h _ _ _ x y z) (zd (by simp) (zd trivial (zd rfl (Ev.bind zda (Ev.now _)))))
theorem zi6 {f : Int} {a b : Nat} {re im den : Int × Int} (o : Ok f a b re im den) {n : Nat} (hn : n < 9223372036854775808) :
  Ev (fun k => zcL.f k f (a : Int) (b : Int) (mkN re).1 (mkN re).2.1 (mkN re).2.2 (mkN im).1 (mkN im).2.1 (mkN im).2.2 (mkN den).1 (mkN den).2.1 (mkN den).2.2 (n : Int)) (zB (zV f a b re im den) (sqN re im) n) := by
 have hA := zdC o.hf a b o.gr o.gi o.gd
 have hB := zdD o.gr o.gi
 have hg := zgn o.hf a b o.gr o.gi o.gd
 generalize zV f a b re im den = A at *
 generalize sqN re im = B at *
 have w1 := zdN (n := n) (by omega)
 have i1 : Ev (fun k => zz.f k (n : Int)) (mkN ((n : Int), 0)) := zgk (by omega) (by omega)
 have m1 := zey (w1.rg (by omega) (by omega)) (w1.rg (by omega) (by omega))
 have m2 := zey ((w1.mul w1).rg (by omega) (by omega)) (hB.rg (by omega) (by omega))
 have c1 := zi7 (hA.rg (by omega) (by omega)) ((zfZ (n := n) (by omega) hB).rg (by omega) (by omega))
 unfold zcL.f
 exact Ev.bind hg (Ev.bind i1 (Ev.bind m1 (Ev.bind m2 (Ev.bind c1 (Ev.now _)))))
theorem zg2 (f : Int) {a b : Nat} (ha : a < 18446744073709551616) (hb : b < 18446744073709551616) {x y z : Bool × List Int × Int} (dx : Dg x.2.1) (dy : Dg y.2.1) (dz : Dg z.2.1) (hx : x.2.1.length ≤ 140737488355328) (hy : y.2.1.length ≤ 140737488355328) (hz : z.2.1.length ≤ 140737488355328) (kk : Int) (hk : kk < 9223372036854775808) :
  Ev (fun k => zao.f k f (a : Int) (b : Int) x.1 x.2.1 x.2.2 y.1 y.2.1 y.2.2 z.1 z.2.1 z.2.2 kk) true := by
 unfold zao.f
 refine zh (zil hx hy hz) ?_
 by_cases c : x.2.1.length + y.2.1.length + z.2.1.length > 1300
 ·exact zd (decide_eq_true c) (Ev.bind zda (Ev.now _))
 refine ze (by simpa using c) ?_
 have ix : In x := ⟨dx, by omega⟩
 have iy : In y := ⟨dy, by omega⟩
 have iz : In z := ⟨dz, by omega⟩
 by_cases h : isF f
 rotate_left
 ·exact Ev.bind (zhY h _ _ kk x y z) (Ev.bind (zhU h _ _ x y z) (Ev.bind (zf1 h _ _ _ x y z) (zd (by simp) (ze (by simp) (ze (fun hh => hh rfl) (zhV h))))))
 obtain ⟨u, v, hu, hj⟩ := zh4 h ha hb ix iy iz
 have ho := zf2 h ha hb kk ix iy iz
 by_cases h0 : zX f a b kk x y z = 0
 rotate_left
 ·exact Ev.bind (zhZ h a b kk ix iy iz h0) (Ev.bind hu (Ev.bind ho (zd h0 (ze (by simp) (ze (fun hh => hh rfl) hj)))))
 obtain ⟨hk0, re, im, den, rfl, rfl, rfl, o⟩ := zfc h ix iy iz h0
 rw [h0] at ho
 obtain ⟨n, rfl⟩ := Int.eq_ofNat_of_zero_le hk0
 have hn : n < 9223372036854775808 := by omega
 exact Ev.bind (zh0 o hn) (Ev.bind hu (Ev.bind ho (ze (fun hh => hh rfl) (Ev.bind (zi6 o hn) (ze (fun hh => hh rfl) (ze (fun hh => hh rfl) hj))))))
theorem zg1 (f a b : Int) (ha : IntKind.u64.min ≤ a ∧ a ≤ IntKind.u64.max) (hb : IntKind.u64.min ≤ b ∧ b ≤ IntKind.u64.max) (p0 p1 p2 : Bool) (l0 l1 l2 : List Int) (e0 e1 e2 : Int) (h0 : ∀ n ∈ l0, (Lit.int .u32 n).wf = true) (h1 : ∀ n ∈ l1, (Lit.int .u32 n).wf = true) (h2 : ∀ n ∈ l2, (Lit.int .u32 n).wf = true) (n0 : l0.length ≤ 140737488355328) (n1 : l1.length ≤ 140737488355328) (n2 : l2.length ≤ 140737488355328) (kk : Int) (hk : IntKind.i64.min ≤ kk ∧ kk ≤ IntKind.i64.max) :
  Ev (fun k => zao.f k f a b p0 l0 e0 p1 l1 e1 p2 l2 e2 kk) true := by
 have q1 : IntKind.u64.min = 0 := rfl
 have q2 : IntKind.u64.max = 18446744073709551615 := rfl
 have q3 : IntKind.i64.max = 9223372036854775807 := rfl
 rw [q1, q2] at ha hb
 rw [q3] at hk
 obtain ⟨a, rfl⟩ := Int.eq_ofNat_of_zero_le ha.1
 obtain ⟨b, rfl⟩ := Int.eq_ofNat_of_zero_le hb.1
 exact zg2 f (by omega) (by omega) (x := (p0, l0, e0)) (y := (p1, l1, e1)) (z := (p2, l2, e2)) (Dg.wf h0) (Dg.wf h1) (Dg.wf h2) n0 n1 n2 kk (by omega)
end Go.Proofs.YtioialhbjmnndaaGreatDoor.Eng.K
