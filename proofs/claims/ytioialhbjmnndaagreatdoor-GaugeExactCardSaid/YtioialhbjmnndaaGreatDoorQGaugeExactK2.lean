import Derived.Test.YtioialhbjmnndaaGreatDoorQGaugeExactK1
import Derived.KernelRfl
import Derived.Lib.Strings
import Derived.Laws.RangeString
set_option linter.unusedVariables false
set_option linter.unusedSimpArgs false
namespace Go.Proofs.YtioialhbjmnndaaGreatDoor.Eng.K
open Go.RowKit
theorem zcF {z : Int} (h : z ≠ 0) (e : Int) : ∃ j : Nat, z.natAbs = V (mk z e).2.1 * 2 ^ j ∧ (mk z e).2.2 = e + j ∧ (mk z e).1 = decide (z < 0) ∧ V (mk z e).2.1 ≠ 0 := by
 have hza : z.natAbs ≠ 0 := by omega
 obtain ⟨q, hq⟩ := zcj hza
 have hd : z.natAbs / 2 ^ lw z.natAbs = 2 * q + 1 := by
  have : z.natAbs / 2 ^ lw z.natAbs = 2 ^ lw z.natAbs * (2 * q + 1) / 2 ^ lw z.natAbs := by rw [← hq]
  rw [this, Nat.mul_div_cancel_left _ (zk _)]
 have hm : mk z e = (decide (z < 0), D (z.natAbs / 2 ^ lw z.natAbs), e + (lw z.natAbs : Nat)) := by unfold mk; rw [if_neg h]
 refine ⟨lw z.natAbs, ?_, by rw [hm], by rw [hm], ?_⟩
 ·rw [hm]
  show _ = V (D _) * _
  rw [V_D, hd, Nat.mul_comm]; exact hq
 ·rw [hm]
  show V (D _) ≠ 0
  rw [V_D, hd]; omega
theorem zjF (n j b : Nat) (hn : n ≠ 0) (s : Bool) (e : Int) : mk (sv s (n * 2 ^ j / 2 ^ (bl (n * 2 ^ j) - b))) (e + ((bl (n * 2 ^ j) - b : Nat) : Int)) = mk (sv s (n / 2 ^ (bl n - b))) (e + j + ((bl n - b : Nat) : Int)) ∧ (n * 2 ^ j % 2 ^ (bl (n * 2 ^ j) - b) = 0 ↔ n % 2 ^ (bl n - b) = 0) := by
 rw [zbJ hn]
 by_cases c : bl n ≤ b
 ·have e1 : bl n - b = 0 := by omega
  have e2 : bl n + j - b ≤ j := by omega
  generalize bl n + j - b = t at *
  have h1 : n * 2 ^ j = n * 2 ^ (j - t) * 2 ^ t := by rw [Nat.mul_assoc, ← Nat.pow_add]; congr 2; omega
  rw [e1, Nat.pow_zero, Nat.div_one, Nat.mod_one, h1, Nat.mul_div_cancel _ (zk t), Nat.mul_mod_left]
  refine ⟨?_, Iff.rfl⟩
  have h2 : sv s (n * 2 ^ (j - t)) = sv s n * 2 ^ (j - t) := by
   unfold sv; split
   ·rw [Int.neg_mul, Int.natCast_mul, Int.natCast_pow]; rfl
   ·rw [Int.natCast_mul, Int.natCast_pow]; rfl
  rw [h2, zaI]; congr 1; omega
 ·have e1 : bl n + j - b = bl n - b + j := by omega
  rw [e1]
  have h1 := zen (H := n) (j := j) (r := 0) (d := bl n - b) (zk j)
  rw [Nat.add_zero] at h1
  rw [h1.1, h1.2]
  refine ⟨by congr 1; omega, ?_⟩
  constructor
  ·intro h
   have h2 : n % 2 ^ (bl n - b) * 2 ^ j = 0 := by omega
   rcases Nat.mul_eq_zero.1 h2 with h3 | h3
   ·exact h3
   ·have := zk j; omega
  ·intro h; rw [h]; omega
theorem zlc {z : Int} (hz : z ≠ 0) {e : Int} (hb : bl z.natAbs ≤ 20000000) (h1 : -90000000000000 ≤ e) (h2 : e ≤ 90000000000000) (b : Nat) (hbb : b ≤ 100000000) : Ev (fun k => zc4.f k (mk z e).1 (mk z e).2.1 (mk z e).2.2 b) ((mk (sv (decide (z < 0)) (z.natAbs / 2 ^ (bl z.natAbs - b))) (e + ((bl z.natAbs - b : Nat) : Int))).1, (mk (sv (decide (z < 0)) (z.natAbs / 2 ^ (bl z.natAbs - b))) (e + ((bl z.natAbs - b : Nat) : Int))).2.1, (mk (sv (decide (z < 0)) (z.natAbs / 2 ^ (bl z.natAbs - b))) (e + ((bl z.natAbs - b : Nat) : Int))).2.2, decide (z.natAbs % 2 ^ (bl z.natAbs - b) ≠ 0)) := by
 have a1 := zbQ z e
 have a2 := zaq z e
 have e1 : (mk z e).2.2 = me z e := rfl
 obtain ⟨j, j1, j2, j3, j4⟩ := zcF hz e
 have := zlr (zH z e) (by omega) (by omega) (by omega) b hbb
 refine zg this ?_
 have hc := zjF (V (mk z e).2.1) j b j4 (decide (z < 0)) e
 rw [← j1] at hc
 rw [j2, j3, ← hc.1]
 have : decide (V (mk z e).2.1 % 2 ^ (bl (V (mk z e).2.1) - b) ≠ 0) = decide (z.natAbs % 2 ^ (bl z.natAbs - b) ≠ 0) := decide_eq_decide.2 (not_congr hc.2.symm)
 rw [this]
def zm (A B b : Nat) : Nat := b + 1 + bl B - bl A
def zV (A B b : Nat) : Nat := bl (A * 2 ^ zm A B b / B) - b
def zba (A B b : Nat) : Nat := A * 2 ^ zm A B b / (B * 2 ^ zV A B b)
def zcM (A B b : Nat) : Bool := decide (A * 2 ^ zm A B b % (B * 2 ^ zV A B b) ≠ 0)
theorem zmq {ea eb : Int} {n : Nat} (h1 : -1000000000 ≤ ea) (h2 : ea ≤ 1000000000) (h3 : -1000000000 ≤ eb) (h4 : eb ≤ 1000000000) (hn : n ≤ 100000000) : wrap64 (wrap64 (ea - eb) - (n : Int)) = ea - eb - (n : Int) := by unfold wrap64; omega
theorem zms {b x y : Nat} (h1 : b ≤ 1000000) (h2 : x ≤ 10000000) (h3 : y ≤ 10000000) : wrap64 (wrap64 (wrap64 ((b : Int) + 1) + (x : Int)) - (y : Int)) = (b : Int) + 1 + (x : Int) - (y : Int) := by unfold wrap64; omega
theorem zlk {sa sb : Bool} {la lb : List Int} {ea eb : Int} (ha : Dy sa la ea) (hb : Dy sb lb eb) (A0 : V la ≠ 0) (B0 : V lb ≠ 0) (l1 : la.length ≤ 100000) (l2 : lb.length ≤ 100000) (h1 : -1000000000 ≤ ea) (h2 : ea ≤ 1000000000) (h3 : -1000000000 ≤ eb) (h4 : eb ≤ 1000000000) (b : Nat) (hbb : b ≤ 1000000) :
  Ev (fun k => zbz.f k sa la ea sb lb eb b) ((mk (sv (sa != sb) (zba (V la) (V lb) b)) (ea - eb - (zm (V la) (V lb) b : Nat) + (zV (V la) (V lb) b : Nat))).1, (mk (sv (sa != sb) (zba (V la) (V lb) b)) (ea - eb - (zm (V la) (V lb) b : Nat) + (zV (V la) (V lb) b : Nat))).2.1, (mk (sv (sa != sb) (zba (V la) (V lb) b)) (ea - eb - (zm (V la) (V lb) b : Nat) + (zV (V la) (V lb) b : Nat))).2.2, zcM (V la) (V lb) b) := by
 have b1 := zaM ha.nm.dg
 have b2 := zaM hb.nm.dg
 have lne : lb ≠ [] := fun h => B0 (by rw [h]; rfl)
 have ane : la ≠ [] := fun h => A0 (by rw [h]; rfl)
 have hN : zm (V la) (V lb) b = b + 1 + bl (V lb) - bl (V la) := rfl
 have hC : zV (V la) (V lb) b = bl (V la * 2 ^ zm (V la) (V lb) b / V lb) - b := rfl
 have hup := zel ha.nm.dg (by omega) (zm (V la) (V lb) b) (by omega)
 have hul := zgj ha.nm.dg (n := zm (V la) (V lb) b)
 have hq := zlx (zo (V la * 2 ^ zm (V la) (V lb) b)) hb.nm (by omega) (by omega) lne
 rw [V_D] at hq
 have last : ∀ u v w, Ev (fun k => zbz.j1 k b sa la ea sb lb eb u v w (zm (V la) (V lb) b : Nat)) ((mk (sv (sa != sb) (zba (V la) (V lb) b)) (ea - eb - (zm (V la) (V lb) b : Nat) + (zV (V la) (V lb) b : Nat))).1, (mk (sv (sa != sb) (zba (V la) (V lb) b)) (ea - eb - (zm (V la) (V lb) b : Nat) + (zV (V la) (V lb) b : Nat))).2.1, (mk (sv (sa != sb) (zba (V la) (V lb) b)) (ea - eb - (zm (V la) (V lb) b : Nat) + (zV (V la) (V lb) b : Nat))).2.2, zcM (V la) (V lb) b) := by
  intro u v w
  refine zh ?_
  simp only [zbz.j1]
  refine Ev.bind (hup) ?_; try dsimp only
  refine Ev.bind (hq) ?_; try dsimp only
  rw [zmq h1 h2 h3 h4 (by omega), zhy]
  have eQ : zba (V la) (V lb) b = V la * 2 ^ zm (V la) (V lb) b / V lb / 2 ^ zV (V la) (V lb) b := by unfold zba; rw [Nat.div_div_eq_div_mul]
  have eL : zcM (V la) (V lb) b = (decide (V la * 2 ^ zm (V la) (V lb) b / V lb % 2 ^ zV (V la) (V lb) b ≠ 0) || decide (V la * 2 ^ zm (V la) (V lb) b % V lb ≠ 0)) := by
   unfold zcM
   rw [Nat.mod_mul]
   have hB : 0 < V lb := by omega
   generalize V la * 2 ^ zm (V la) (V lb) b / V lb % 2 ^ zV (V la) (V lb) b = x
   generalize V la * 2 ^ zm (V la) (V lb) b % V lb = y
   by_cases c : x = 0
   ·subst c; simp
   ·have : V lb * x ≠ 0 := Nat.mul_ne_zero (by omega) c
    rw [decide_eq_true (show y + V lb * x ≠ 0 by omega), decide_eq_true c, Bool.true_or]
  have hqb : bl (V la * 2 ^ zm (V la) (V lb) b / V lb) ≤ bl (V la) + zm (V la) (V lb) b := Nat.le_trans (zbu (Nat.div_le_self _ _)) (zbX _ _)
  have hQ0 : V la * 2 ^ zm (V la) (V lb) b / V lb ≠ 0 := by
   have h5 := zac (V lb)
   have h6 : 2 ^ bl (V lb) ≤ V la * 2 ^ zm (V la) (V lb) b := by
    have h7 := zcp A0
    have h8 : 2 ^ (bl (V la) - 1) * 2 ^ zm (V la) (V lb) b ≤ V la * 2 ^ zm (V la) (V lb) b := Nat.mul_le_mul_right _ h7
    rw [← Nat.pow_add] at h8
    have h9 := zbW A0
    exact Nat.le_trans (Nat.pow_le_pow_right (by omega) (by omega)) h8
   have := Nat.div_pos (show V lb ≤ V la * 2 ^ zm (V la) (V lb) b by omega) (by omega)
   omega
  rw [eL, eQ]
  generalize hNN : zm (V la) (V lb) b = n at *
  generalize hCC : zV (V la) (V lb) b = c at *
  generalize V la * 2 ^ n % V lb = y
  generalize hx : V la * 2 ^ n / V lb = x at *
  clear hup hq
  have hf := zbR (sa != sb) (zo x) (by have := zaj (x := x) (k := 300000) (by omega); omega) (e := ea - eb - (n : Int)) (by omega) (by omega)
  rw [V_D] at hf
  refine Ev.bind (hf) ?_; try dsimp only
  obtain ⟨a1, a2, a3⟩ := zmo (s := (sa != sb)) hQ0
  have hc := zlc a3 (e := ea - eb - (n : Int)) (by rw [a2]; omega) (by omega) (by omega) b (by omega)
  rw [a1, a2, ← hC] at hc
  refine Ev.bind (hc) ?_; try dsimp only
  cases hcx : decide (x % 2 ^ c ≠ 0)
  ·refine zf (by simp) (zg (Ev.now _) ?_)
   rw [Bool.false_or]
   have : decide (((D y).length : Int) > 0) = decide (y ≠ 0) := decide_eq_decide.2 (by
    constructor
    ·intro h h2; rw [h2, zN] at h; simp at h
    ·intro h
     have : (D y) ≠ [] := fun h2 => h (by rw [← V_D y, h2]; rfl)
     exact zdK this)
   rw [this]
  ·refine ze rfl (zg (Ev.now _) ?_)
   rw [Bool.true_or]
 unfold zbz.f
 refine zf (fun h => ane (zax.1 h)) ?_
 refine Ev.bind (zbS hb.nm (by omega)) ?_; try dsimp only
 refine Ev.bind (zbS ha.nm (by omega)) ?_; try dsimp only
 rw [zms hbb (by omega) (by omega)]
 by_cases c : (b : Int) + 1 + (bl (V lb) : Nat) - (bl (V la) : Nat) < 0
 ·refine ze c ?_
  have : ((zm (V la) (V lb) b : Nat) : Int) = 0 := by omega
  rw [← this]
  exact last _ _ _
 ·refine zf c ?_
  have : (b : Int) + 1 + (bl (V lb) : Nat) - (bl (V la) : Nat) = ((zm (V la) (V lb) b : Nat) : Int) := by omega
  rw [this]
  exact last _ _ _
theorem zeW {A B : Nat} (hA : A ≠ 0) (hB : B ≠ 0) (n : Nat) (h : bl B ≤ bl A + n) : bl A + n - bl B ≤ bl (A * 2 ^ n / B) ∧ bl (A * 2 ^ n / B) ≤ bl A + n - bl B + 1 := by
 have h1 := zcp hA
 have h2 := zac A
 have h3 := zcp hB
 have h4 := zac B
 have h5 := zbW hA
 have h6 := zbW hB
 have lo : 2 ^ (bl A - 1 + n) ≤ A * 2 ^ n := by rw [Nat.pow_add]; exact Nat.mul_le_mul_right _ h1
 have hi : A * 2 ^ n < 2 ^ (bl A + n) := by rw [Nat.pow_add]; exact Nat.mul_lt_mul_of_pos_right h2 (zk n)
 constructor
 ·rcases Nat.eq_zero_or_pos (bl A + n - bl B) with c | c
  ·omega
  ·have h7 : 2 ^ (bl A + n - bl B - 1) ≤ A * 2 ^ n / B := by
    rw [Nat.le_div_iff_mul_le (by omega)]
    have h8 : 2 ^ (bl A + n - bl B - 1) * B ≤ 2 ^ (bl A + n - bl B - 1) * 2 ^ bl B := Nat.mul_le_mul_left _ (by omega)
    rw [← Nat.pow_add, show bl A + n - bl B - 1 + bl B = bl A - 1 + n by omega] at h8
    omega
   have h9 := zbu h7
   have : bl (2 ^ (bl A + n - bl B - 1)) = bl A + n - bl B := by
    have := zbJ (v := 1) (by omega) (bl A + n - bl B - 1)
    rw [Nat.one_mul] at this
    rw [this, show bl 1 = 1 by decide]; omega
   omega
 ·refine zP ?_
  rw [Nat.div_lt_iff_lt_mul (by omega)]
  have h8 : 2 ^ (bl A + n - bl B + 1) * 2 ^ (bl B - 1) ≤ 2 ^ (bl A + n - bl B + 1) * B := Nat.mul_le_mul_left _ h3
  rw [← Nat.pow_add, show bl A + n - bl B + 1 + (bl B - 1) = bl A + n by omega] at h8
  omega
theorem zk8 {A B b : Nat} (hA : A ≠ 0) (hB : B ≠ 0) : zm A B b + bl A = b + zV A B b + bl B ∨ zm A B b + bl A + 1 = b + zV A B b + bl B := by
 have h := zeW hA hB (zm A B b) (by unfold zm; omega)
 have hN : zm A B b = b + 1 + bl B - bl A := rfl
 have hC : zV A B b = bl (A * 2 ^ zm A B b / B) - b := rfl
 omega
theorem zk9 {A B b : Nat} (hA : A ≠ 0) (hB : B ≠ 0) : bl (zba A B b) = b := by
 have h := zeW hA hB (zm A B b) (by unfold zm; omega)
 have hN : zm A B b = b + 1 + bl B - bl A := rfl
 have hC : zV A B b = bl (A * 2 ^ zm A B b / B) - b := rfl
 unfold zba
 rw [← Nat.div_div_eq_div_mul, zcc]
 omega
theorem ziv (s : Bool) (n j : Nat) : sv s n * 2 ^ j = sv s (n * 2 ^ j) := by
 unfold sv; split
 ·rw [Int.neg_mul, Int.natCast_mul, Int.natCast_pow]; rfl
 ·rw [Int.natCast_mul, Int.natCast_pow]; rfl
theorem zgQ (x y : Nat) : bl (x * y) ≤ bl x + bl y := zP (by rw [Nat.pow_add]; exact Nat.mul_lt_mul'' (zac x) (zac y))
def wv (f : Int) (w : Nat) : Bool × List Int × Int := mk (sv (z4 f w) (zB f w)) (wex f w)
theorem zhH {f : Int} (h : isF f) (w : Nat) : zc5.f f (w : Int) = some (decide (cls f w < 4)) := by
 have hb := zfp h w
 unfold zc5.f
 rw [zfP h w, Option.bind_some]
 by_cases c : cls f w = 4
 ·rw [if_neg (fun h => h c)]
  rw [decide_eq_false (by omega)]
 ·rw [if_pos c]
  congr 1
  exact decide_eq_decide.2 (by omega)
structure Sg (z e : Int) : Prop where
 b : bl z.natAbs ≤ 30000
 lo : -39000 ≤ e
 hi : e + (bl z.natAbs : Nat) ≤ 39000
theorem ze8 {z e : Int} (h : Sg z e) : Sm (mk z e).1 (mk z e).2.1 (mk z e).2.2 := by
 have h1 := zbQ z e
 have h2 := zaq z e
 have h3 : (mk z e).2.2 = me z e := rfl
 obtain ⟨a, b, c⟩ := h
 exact ⟨zH z e, by omega, by omega, by omega⟩
theorem zkX {za ea zb eb : Int} (ha : Sg za ea) (hb : Sg zb eb) : Ev (fun k => zb2.f k (mk za ea).1 (mk za ea).2.1 (mk za ea).2.2 (mk zb eb).1 (mk zb eb).2.1 (mk zb eb).2.2) (ok3 (zl za ea zb eb)) := by
 refine zg (zjK (ze8 ha) (ze8 hb)) ?_
 show ok3 (zl (mz za ea) (me za ea) (mz zb eb) (me zb eb)) = _
 rw [zc0, zdy]
theorem zkZ {za ea zb eb : Int} (ha : Sg za ea) (hb : Sg zb eb) : Ev (fun k => zb4.f k (mk za ea).1 (mk za ea).2.1 (mk za ea).2.2 (mk zb eb).1 (mk zb eb).2.1 (mk zb eb).2.2) (ok3 (zl za ea (-zb) eb)) := by
 refine zg (zjO (ze8 ha) (ze8 hb)) ?_
 show ok3 (zl (mz za ea) (me za ea) (-mz zb eb) (me zb eb)) = _
 rw [zc0, ← (zcG zb eb).1, ← (zcG zb eb).2, zdy]
theorem zkx {n : Nat} (h : n ≠ 0) : n / 2 ^ lw n * 2 ^ lw n = n := by
 obtain ⟨q, hq⟩ := zcj h
 refine Nat.div_mul_cancel ⟨2 * q + 1, hq⟩
def wz (f : Int) (w : Nat) : Int := sv (z4 f w) (zB f w)
theorem zl3 {f : Int} (h : isF f) {x : Nat} (hx : x < sg f) (s : Bool) : (x + sgn f s) % sg f = x := by
 unfold sgn
 cases s
 ·rw [if_neg (by simp), Nat.add_zero, Nat.mod_eq_of_lt hx]
 ·rw [if_pos rfl, Nat.add_mod_right, Nat.mod_eq_of_lt hx]
theorem zjS {f : Int} (h : isF f) {q : Nat} {E : Int} (hq : q ≤ 2 ^ pr f) (hE : lo f ≤ E) (hw : (bl q : Int) + E ≤ wd f) (h0 : q ≠ 0) : zbD f q E < sg f := by
 have hpr := zaX h
 have h2 := (zfH h0 hq).resolve_right (by omega)
 have h3 := zfc h0
 have hlt := (zeN h (n := q / 2 ^ lw q) (e := E + (lw q : Nat)) h2 (by omega) (by omega)).1
 have hil := zec h
 have hp := zk (fb f)
 unfold zbD
 omega
structure Dec (f : Int) (s : Bool) (q : Nat) (E : Int) (w : Nat) : Prop where
 lt : w < 2 * sg f
 neg : z4 f w = s
 c1 : cls f w ≠ 1
 c4 : cls f w < 4
 val : mk (wz f w) (wex f w) = mk (sv s q) E
theorem dec {f : Int} (h : isF f) (s : Bool) {q : Nat} {E : Int} (hq : q ≤ 2 ^ pr f) (hE : lo f ≤ E) (hw : (bl q : Int) + E ≤ wd f) (h0 : q ≠ 0) : Dec f s q E (zbD f q E + sgn f s) := by
 have hlt := zjS h hq hE hw h0
 have hpr := zaX h
 have hfb := za6 h
 have h2 := (zfH h0 hq).resolve_right (by omega)
 have h3 := zfc h0
 have hel := zeN h (n := q / 2 ^ lw q) (e := E + (lw q : Nat)) h2 (by omega) (by omega)
 have hpl := zfJ (f := f) (n := q / 2 ^ lw q) (e := E + (lw q : Nat)) h2 (by omega)
 have hul := ziB (f := f) (n := q / 2 ^ lw q) (e := E + (lw q : Nat)) h2 (by omega)
 have huge := ziA f (q / 2 ^ lw q) (E + (lw q : Nat))
 have hund : zq f (q / 2 ^ lw q) (E + (lw q : Nat)) = max (E + (lw q : Nat) + (bl (q / 2 ^ lw q) : Nat) - (pr f : Nat)) (lo f) := rfl
 have hen : zbD f q E = (zq f (q / 2 ^ lw q) (E + (lw q : Nat)) - lo f).toNat * 2 ^ fb f + q / 2 ^ lw q * 2 ^ (E + (lw q : Nat) - zq f (q / 2 ^ lw q) (E + (lw q : Nat))).toNat := rfl
 have hq'0 : q / 2 ^ lw q ≠ 0 := by
  intro h4; rw [h4, zbv] at h3
  have := zdk h0
  omega
 have hXb := zbJ hq'0 (E + (lw q : Nat) - zq f (q / 2 ^ lw q) (E + (lw q : Nat))).toNat
 have hXv : mk (sv s (q / 2 ^ lw q * 2 ^ (E + (lw q : Nat) - zq f (q / 2 ^ lw q) (E + (lw q : Nat))).toNat)) (zq f (q / 2 ^ lw q) (E + (lw q : Nat))) = mk (sv s q) E := by
  rw [← ziv, zaI]
  have e1 : mk (sv s q) E = mk (sv s (q / 2 ^ lw q * 2 ^ lw q)) E := by rw [zkx h0]
  rw [e1, ← ziv, zaI]
  congr 1; omega
 have hX0 : q / 2 ^ lw q * 2 ^ (E + (lw q : Nat) - zq f (q / 2 ^ lw q) (E + (lw q : Nat))).toNat ≠ 0 := by
  have := Nat.mul_pos (Nat.pos_of_ne_zero hq'0) (zk (E + (lw q : Nat) - zq f (q / 2 ^ lw q) (E + (lw q : Nat))).toNat)
  omega
 generalize hw0 : zbD f q E = x at *
 generalize hX : q / 2 ^ lw q * 2 ^ (E + (lw q : Nat) - zq f (q / 2 ^ lw q) (E + (lw q : Nat))).toNat = X at *
 generalize hU : zq f (q / 2 ^ lw q) (E + (lw q : Nat)) = U at *
 have hsp := zbT h
 have hmod : (x + sgn f s) % sg f = x := zl3 h hlt s
 have hng : z4 f (x + sgn f s) = s := by
  unfold z4 sgn
  cases s
  ·rw [if_neg (by simp)]; exact decide_eq_false (by omega)
  ·rw [if_pos rfl]; exact decide_eq_true (by omega)
 have hltw : x + sgn f s < 2 * sg f := by unfold sgn; split <;> omega
 have hp := zk (fb f)
 have hm := zeh h
 rw [hpr, Nat.pow_succ] at hpl
 have main : zB f (x + sgn f s) = X ∧ wex f (x + sgn f s) = U ∧ zJ f (x + sgn f s) < mo f := by
  unfold zB wex zJ zM
  rw [hmod]
  by_cases c : X < 2 ^ fb f
  ·have hb : bl X ≤ fb f := zP c
   have hu0 : (U - lo f).toNat = 0 := by omega
   have hx : x = X := by rw [hen, hu0]; omega
   have hd : x / 2 ^ fb f = 0 := Nat.div_eq_of_lt (by omega)
   rw [hd, if_pos rfl, if_pos rfl, Nat.mod_eq_of_lt (by omega)]
   refine ⟨hx, by omega, by omega⟩
  ·have hx : x = ((U - lo f).toNat + 1) * 2 ^ fb f + (X - 2 ^ fb f) := by rw [hen, Nat.add_mul, Nat.one_mul]; omega
   have hd : x / 2 ^ fb f = (U - lo f).toNat + 1 := by
    rw [hx, Nat.mul_comm, Nat.mul_add_div hp, Nat.div_eq_of_lt (by omega), Nat.add_zero]
   have hr : x % 2 ^ fb f = X - 2 ^ fb f := by
    rw [hx, Nat.mul_comm, Nat.mul_add_mod, Nat.mod_eq_of_lt (by omega)]
   rw [hd, hr, if_neg (by omega), if_neg (by omega)]
   refine ⟨by omega, by omega, by omega⟩
 obtain ⟨m1, m2, m3⟩ := main
 refine ⟨hltw, hng, ?_, ?_, ?_⟩
 ·intro hc
  rw [zdZ h] at hc
  by_cases c : zJ f (x + sgn f s) = 0
  ·rw [if_pos c] at hc
   have : zB f (x + sgn f s) = zM f (x + sgn f s) := by unfold zB; rw [if_pos c]
   by_cases c2 : zM f (x + sgn f s) = 0
   ·omega
   ·rw [if_neg c2] at hc; omega
  ·rw [if_neg c, if_pos m3] at hc; omega
 ·rw [zdZ h]
  by_cases c : zJ f (x + sgn f s) = 0
  ·rw [if_pos c]; split <;> omega
  ·rw [if_neg c, if_pos m3]; omega
 ·unfold wz
  rw [m1, m2, hng]
  exact hXv
theorem zki {f : Int} (h : isF f) (s : Bool) : cls f (mo f * 2 ^ fb f + sgn f s) = 4 ∧ mo f * 2 ^ fb f + sgn f s < 2 * sg f ∧ z4 f (mo f * 2 ^ fb f + sgn f s) = s := by
 rcases h with rfl | rfl <;> cases s <;> decide +kernel
theorem zgn {f : Int} (h : isF f) (s : Bool) : cls f (sgn f s) = 1 ∧ sgn f s < 2 * sg f ∧ z4 f (sgn f s) = s := by
 rcases h with rfl | rfl <;> cases s <;> decide +kernel
theorem zkD {a b ea eb c : Int} (h : mk a ea = mk b eb) : mk a (ea + c) = mk b (eb + c) := by
 by_cases ha : a = 0
 ·have hb : b = 0 := by
   by_cases hb : b = 0
   ·exact hb
   ·exfalso
    have h1 := zeS hb eb
    unfold mz at h1
    rw [← h, ha] at h1
    exact h1 rfl
  rw [ha, hb]; rfl
 ·by_cases hb : b = 0
  ·exfalso
   have h1 := zeS ha ea
   unfold mz at h1
   rw [h, hb] at h1
   exact h1 rfl
  ·have hm : mz a ea = mz b eb := by unfold mz; rw [h]
   have he : me a ea = me b eb := by unfold me; rw [h]
   obtain ⟨j, j1, j2, _, _⟩ := zaJ ha ea
   obtain ⟨i, i1, i2, _, _⟩ := zaJ hb eb
   have h1 : mk a (ea + c) = mk (mz a ea) (ea + c + j) := by
    have : mk a (ea + c) = mk (mz a ea * 2 ^ j) (ea + c) := by rw [← j1]
    rw [this, zaI]
   have h2 : mk b (eb + c) = mk (mz b eb) (eb + c + i) := by
    have : mk b (eb + c) = mk (mz b eb * 2 ^ i) (eb + c) := by rw [← i1]
    rw [this, zaI]
   rw [h1, h2, hm]
   congr 1; omega
open Go.RowKit Go.Proofs.YtioialhbjmnndaaGreatDoor.Eng
theorem zht (A Bl : List Int) (i : Nat) (x : Int) (hx : 0 ≤ x ∧ x < 4294967296) (hB : Dg Bl) (hl : A.length < 1000000000) (hlb : Bl.length < 1000000000) (hi : i < A.length) (res : List Int) : ∀ (b done r pb : List Int) (c : Int), Bl = pb ++ b → done.length = i + pb.length → b.length < r.length → Dg r → 0 ≤ c ∧ c < 4294967296 →
  Ev (fun k => zU.l0 k Bl (done ++ zad x b r c) A A.length ((i + 1 : Nat) : Int)) res →
  Ev (fun k => zU.l1 k Bl (done ++ r) i x c A A.length i Bl Bl.length pb.length) res
 | [], done, r, pb, c, he, hd, hr, hg, hc, H => by
  obtain ⟨y, r, rfl⟩ : ∃ y r', r = y :: r' := by
   cases r with
   | nil => simp at hr
   | cons y r' => exact ⟨y, r', rfl⟩
  have hlen : Bl.length = pb.length := by rw [he]; simp
  refine zh ?_
  have e : wrap64 ((i : Int) + (Bl.length : Int)) = ((i + Bl.length : Nat) : Int) := by unfold wrap64; omega
  simp only [zU.l1, e, z3 (n := i) (by omega)]
  clear e
  refine zf (by omega) (ze (by omega) (ze (by simp; omega) ?_))
  have hs : (done ++ y :: r).set (((i + Bl.length : Nat) : Int)).toNat (c % 4294967296) = done ++ zad x [] (y :: r) c := by
   rw [zcP (by omega)]; simp [zad]; omega
  rw [hs]; exact H
 | y :: b, done, r, pb, c, he, hd, hr, hg, hc, H => by
  obtain ⟨o, r, rfl⟩ : ∃ y r', r = y :: r' := by
   cases r with
   | nil => simp at hr
   | cons y r' => exact ⟨y, r', rfl⟩
  have hlen : Bl.length = pb.length + 1 + b.length := by rw [he]; simp; omega
  have hy : 0 ≤ y ∧ y < 4294967296 := by rw [he] at hB; exact hB.right.head
  have ho := hg.head
  have hp := zeQ hx hy
  refine zh ?_
  have e : wrap64 ((i : Int) + (pb.length : Int)) = ((done.length : Nat) : Int) := by unfold wrap64; omega
  simp only [zU.l1, e, z3 (n := pb.length) (by omega)]
  clear e
  refine ze (by omega) (ze (by omega) (ze (by omega) (ze (by omega) (ze (by simp; omega) (ze (by omega) (ze (by simp; omega) ?_))))))
  have h1 : rd Bl (pb.length : Int) = y := by rw [he]; exact zaY rfl
  have h2 : rd (done ++ o :: r) (done.length : Int) = o := zaY rfl
  rw [h1, h2, zcP rfl, u64 hx.1 (by omega), u64 hy.1 (by omega), u64 ho.1 (by omega), u64 (n := x * y) hp.1 (by omega), u64 (n := x * y + o) (by omega) (by omega), u64 (n := x * y + o + c) (by omega) (by omega)]
  have := zht A Bl i x hx hB hl hlb hi res b (done ++ [(x * y + o + c) % 4294967296]) r (pb ++ [y]) ((x * y + o + c) / 4294967296) (by rw [he]; simp) (by simp [hd]; omega) (by simpa using hr) hg.tail (by omega) (by simpa [zad] using H)
  simpa using this
theorem zhs (A Bl : List Int) (hA : Dg A) (hB : Dg Bl) (hl : A.length < 1000000000) (hlb : Bl.length < 1000000000) : ∀ (a done r pa : List Int), A = pa ++ a → done.length = pa.length → Dg done → Dg r → r.length = Bl.length + a.length → r.drop Bl.length = List.replicate a.length 0 →
  Ev (fun k => zU.l0 k Bl (done ++ r) A A.length done.length) (D (V (done ++ zb7 a Bl r)))
 | [], done, r, pa, he, hd, hg, hr, hrl, hz => by
  have hlen : A.length = done.length := by rw [he, hd]; simp
  refine zh ?_
  simp only [zU.l0]
  refine zf (by omega) ?_
  refine Ev.bind (zdO (hg.app hr) (by simp; simp at hrl; omega)) ?_
  exact Ev.now _
 | x :: a, done, r, pa, he, hd, hg, hr, hrl, hz => by
  have hlen : A.length = done.length + 1 + a.length := by rw [he, hd]; simp; omega
  have hx : 0 ≤ x ∧ x < 4294967296 := by rw [he] at hA; exact hA.right.head
  have hrr := zf8 hx Bl r 0 a.length hB hr (by omega) (by simpa using hz)
  refine zh ?_
  simp only [zU.l0]
  refine ze (by omega) (ze (by omega) (ze (by omega) ?_))
  have h1 : rd A (done.length : Int) = x := by rw [he]; exact zaY (by omega)
  rw [h1]
  refine zht A Bl done.length x hx hB hl hlb (by omega) _ Bl done r [] 0 rfl rfl (by simp at hrl; omega) hr (by omega) ?_
  obtain ⟨r0, r', e⟩ : ∃ r0 r', zad x Bl r 0 = r0 :: r' := by
   cases h : zad x Bl r 0 with
   | nil =>
    have hl := hrr.2.2.2
    rw [h] at hl
    simp at hrl hl; omega
   | cons r0 r' => exact ⟨r0, r', rfl⟩
  rw [e] at hrr
  have := zhs A Bl hA hB hl hlb a (done ++ [r0]) r' (pa ++ [x]) (by rw [he]; simp) (by simp [hd]) (hg.app (Dg.cons hrr.2.1.head.1 hrr.2.1.head.2 Dg.nil)) hrr.2.1.tail (by have := hrr.2.2.2; simp at this hrl; omega) (by simpa using hrr.2.2.1)
  rw [List.length_append, List.length_singleton, List.append_assoc] at this
  have e2 : done ++ zb7 (x :: a) Bl r = done ++ [r0] ++ zb7 a Bl r' := by simp [zb7, e]
  rw [e, e2]; simpa using this
theorem zkN {a b : List Int} (ha : Dg a) (hb : Dg b) (la : a.length < 1000000000) (lb : b.length < 1000000000) : Ev (fun k => zU.f k a b) (D (V a * V b)) := by
 unfold zU.f
 have e : wrap64 ((a.length : Int) + (b.length : Int)) = ((a.length + b.length : Nat) : Int) := by unfold wrap64; omega
 simp only [e]
 clear e
 refine ze (by omega) (ze (by omega) ?_)
 have := zhs a b ha hb la lb a [] (List.replicate (a.length + b.length) 0) [] rfl rfl Dg.nil (Dg.zeros _) (by simp; omega) (by simp)
 refine zg this ?_
 have h2 := zhr a b (List.replicate (a.length + b.length) 0) ha hb (Dg.zeros _) (by simp)
 simp [h2.1, zez]
theorem zkL {a b : List Int} (ha : Nm a) (hb : Nm b) (la : a.length ≤ 4096) (lb : b.length ≤ 4096) : Ev (fun k => zdN.f k a b) (zbw (V a * V b)) := by
 have h1 : may a = true := zaT.2 ⟨la, ha⟩
 have h2 : may b = true := zaT.2 ⟨lb, hb⟩
 have tail : Ev (fun k => (zU.f k a b).bind fun t => (zaV.f t).bind fun bt => some (bt.1, bt.2)) (zbw (V a * V b)) := by
  refine Ev.bind (zkN ha.dg hb.dg (by omega) (by omega)) ?_
  exact zi (zhw _) (Ev.now _)
 unfold zdN.f
 refine Ev.bind (zeF ha.dg hb.dg (by omega) (by omega)) ?_
 refine zf (by simp [h1, h2]) ?_
 by_cases c1 : a.length > 0
 ·refine ze (by omega) ?_
  by_cases c2 : b.length > 0
  ·refine ze (by omega) ?_
   have e : wrap64 (wrap64 ((a.length : Int) + (b.length : Int)) - 1) = ((a.length + b.length - 1 : Nat) : Int) := by unfold wrap64; omega
   rw [e]
   clear e
   by_cases c3 : a.length + b.length - 1 > 4096
   ·refine ze (by omega) (zg (Ev.now _) ?_)
    have p1 := zff ha (fun e => by subst e; simp at c1)
    have p2 := zff hb (fun e => by subst e; simp at c2)
    have p3 := Nat.mul_le_mul p1 p2
    rw [← Nat.pow_add] at p3
    have p4 : (D (V a * V b)).length > 4096 := by
     apply Nat.lt_of_not_le
     intro k
     have p5 := zdj (V a * V b)
     have p6 := Nat.pow_lt_pow_iff_right (a := 4294967296) (by omega) |>.1 (Nat.lt_of_le_of_lt p3 p5)
     omega
    unfold zbw; rw [if_pos p4]
   ·exact zf (by omega) tail
  ·exact zf (by omega) tail
 ·exact zf (by omega) tail
theorem zjN {sa sb : Bool} {la lb : List Int} {ea eb : Int} (ha : My sa la ea) (hb : My sb lb eb) (hl : bl (V la) + bl (V lb) ≤ 131000) (h1 : -16000000 ≤ ea + eb) (h2 : ea + eb ≤ 16000000) : Ev (fun k => zde.f k sa la ea sb lb eb) (ok3 (mk (sv sa (V la) * sv sb (V lb)) (ea + eb))) := by
 have a1 := ha.lo
 have a2 := ha.hi
 have b1 := hb.lo
 have b2 := hb.hi
 have hbl := zgQ (V la) (V lb)
 have hlen := zaj (x := V la * V lb) (k := 4096) (by omega)
 have e : wrap64 (ea + eb) = ea + eb := zmp (by omega) (by omega) (by omega) (by omega)
 have m1 := zkL ha.dy.nm hb.dy.nm ha.len hb.len
 rw [zgS (by omega)] at m1
 have k1 := zdd (sa != sb) (zo (V la * V lb)) (by omega) (ea + eb)
 rw [V_D, zdl (by omega) (by omega), ← ziu] at k1
 have hne : (decide (¬ sa = sb)) = (sa != sb) := by cases sa <;> cases sb <;> rfl
 unfold zde.f
 refine Ev.bind (zdG ha hb) ?_; try dsimp only
 refine zf (by simp) ?_
 refine Ev.bind (m1) ?_; try dsimp only
 refine zf (by simp) ?_
 rw [e, hne]
 clear e
 refine Ev.bind (k1) ?_; try dsimp only
 exact Ev.now _
theorem zeR {z e : Int} (hb : bl z.natAbs ≤ 131072) (h1 : -16777216 ≤ e) (h2 : e + (bl z.natAbs : Nat) ≤ 16777216) : My (mk z e).1 (mk z e).2.1 (mk z e).2.2 := by
 have a1 := zbQ z e
 have a2 := zaq z e
 have e1 : (mk z e).2.2 = me z e := rfl
 exact ⟨zH z e, by omega, by omega, by omega⟩
theorem zkC (za ea zb eb : Int) : mk (mz za ea * mz zb eb) (me za ea + me zb eb) = mk (za * zb) (ea + eb) := by
 by_cases c : za = 0
 ·subst c; rw [zck, Int.zero_mul, Int.zero_mul]; rfl
 by_cases c2 : zb = 0
 ·subst c2; rw [zck, Int.mul_zero, Int.mul_zero]; rfl
 obtain ⟨j, p1, p2, _, _⟩ := zaJ c ea
 obtain ⟨i, q1, q2, _, _⟩ := zaJ c2 eb
 have e3 : za * zb = mz za ea * mz zb eb * 2 ^ (j + i) := by
  conv => lhs; rw [p1, q1]
  rw [Int.pow_add, Int.mul_assoc, Int.mul_assoc]
  congr 1
  rw [Int.mul_left_comm]
 rw [e3, zaI, p2, q2]
 congr 1
 omega
theorem zex (z e : Int) : bl (V (mk z e).2.1) ≤ bl z.natAbs := by
 by_cases c : z = 0
 ·subst c; exact Nat.zero_le _
 ·obtain ⟨j, j1, _⟩ := zcF c e
  rw [j1]
  have h := zbX (V (mk z e).2.1) j
  have hp : V (mk z e).2.1 ≤ V (mk z e).2.1 * 2 ^ j := Nat.le_mul_of_pos_right _ (zk j)
  exact zbu hp
theorem zhC {za ea zb eb : Int} (hb : bl za.natAbs + bl zb.natAbs ≤ 131000) (h1 : -8000000 ≤ ea) (h2 : ea ≤ 7000000) (h3 : -8000000 ≤ eb) (h4 : eb ≤ 7000000) : Ev (fun k => zde.f k (mk za ea).1 (mk za ea).2.1 (mk za ea).2.2 (mk zb eb).1 (mk zb eb).2.1 (mk zb eb).2.2) (ok3 (mk (za * zb) (ea + eb))) := by
 have a2 := zaq za ea
 have b2 := zaq zb eb
 have a3 := zex za ea
 have b3 := zex zb eb
 have e1 : (mk za ea).2.2 = me za ea := rfl
 have e2 : (mk zb eb).2.2 = me zb eb := rfl
 refine zg (zjN (zeR (z := za) (e := ea) (by omega) (by omega) (by omega)) (zeR (z := zb) (e := eb) (by omega) (by omega) (by omega)) (by omega) (by omega) (by omega)) ?_
 show ok3 (mk (mz za ea * mz zb eb) (me za ea + me zb eb)) = _
 rw [zkC]
structure Wn (L H : Int) (s : Bool) (l : List Int) (e : Int) : Prop where
 dy : Dy s l e
 lo : l ≠ [] → L ≤ e
 hi : l ≠ [] → e + (bl (V l) : Nat) ≤ H
structure Wk (L H : Int) : Prop where
 lo : -1000000 ≤ L
 hi : H ≤ 1000000
 sz : H - L ≤ 130000
theorem Wn.bls {L H : Int} {s : Bool} {l : List Int} {e : Int} (h : Wn L H s l e) (k : Wk L H) : bl (V l) ≤ 130000 := by
 by_cases c : l = []
 ·subst c; exact Nat.zero_le _
 ·have h1 := h.lo c
  have h2 := h.hi c
  have h3 := k.sz
  omega
theorem Wn.ex {L H : Int} {s : Bool} {l : List Int} {e : Int} (h : Wn L H s l e) (k : Wk L H) : -1000000 ≤ e ∧ e ≤ 1000000 := by
 by_cases c : l = []
 ·have h1 := (h.dy.none c).2
  omega
 ·have h1 := h.lo c
  have h2 := h.hi c
  have h3 := k.lo
  have h4 := k.hi
  omega
theorem Wn.len {L H : Int} {s : Bool} {l : List Int} {e : Int} (h : Wn L H s l e) (k : Wk L H) : l.length ≤ 4096 := by
 have h1 := h.bls k
 have h2 := h.dy.nm
 unfold Nm at h2
 rw [← h2]
 exact zaj (by omega)
theorem Wn.my {L H : Int} {s : Bool} {l : List Int} {e : Int} (h : Wn L H s l e) (k : Wk L H) : My s l e := by
 have h1 := h.ex k
 exact ⟨h.dy, h.len k, by omega, by omega⟩
theorem ziO {e m : Int} (h1 : -1000000 ≤ e ∧ e ≤ 1000000) (h2 : -1000000 ≤ m ∧ m ≤ 1000000) (h : m ≤ e) : wrap64 (e - m) = ((e - m).toNat : Int) := by unfold wrap64; omega
theorem zmt {n b : Nat} (hn : n ≤ 2000000) (hb : b ≤ 2000000) : wrap64 ((n : Int) + (b : Int)) = ((n + b : Nat) : Int) := by unfold wrap64; omega
theorem ziK {la lb : List Int} {sa sb : Bool} {ea : Int} (da : Nm la) (db : Nm lb) (n : Nat) (h1 : -1000000 ≤ ea ∧ ea ≤ 1000000) (hn : bl (V lb) + n ≤ 130000) (ha : bl (V la) ≤ 130000) (hb : bl (V lb) ≤ 130000) (h2 : n ≤ 130000) :
  Ev (fun k => zaC.f k lb) (bl (V lb) : Nat) ∧ wrap64 ((n : Int) + ((bl (V lb) : Nat) : Int)) = ((n + bl (V lb) : Nat) : Int) ∧ Ev (fun k => zaw.f k lb (n : Int)) (D (V lb * 2 ^ n), false, 0) ∧ Ev (fun k => zbl.f k sb (D (V lb * 2 ^ n)) sa la ea) (ok3 (mk (sv sb (V lb * 2 ^ n) + sv sa (V la)) ea)) := by
 have hu := zbX (V lb) n
 have ll : lb.length ≤ 4096 := by
  have h3 := db
  unfold Nm at h3
  rw [← h3]
  exact zaj (by omega)
 have hs := zdn db ll (n : Int)
 rw [zdT (by omega)] at hs
 have j1 := zfx sb sa (V lb * 2 ^ n) (V la) (e := ea) (by omega) (by omega) (by omega) (by omega)
 have h3 := da
 unfold Nm at h3
 rw [h3] at j1
 exact ⟨zcI db ll, zmt (by omega) (by omega), hs, j1⟩
theorem zg8 {L H : Int} (k : Wk L H) {sa sb : Bool} {la lb : List Int} {ea eb : Int} (ha : Wn L H sa la ea) (hb : Wn L H sb lb eb) : Ev (fun k => zav.f k sa la ea sb lb eb) (ok3 (zl (sv sa (V la)) ea (sv sb (V lb)) eb)) := by
 have xa := ha.ex k
 have xb := hb.ex k
 have ba := ha.bls k
 have bb := hb.bls k
 have lla := ha.len k
 have llb := hb.len k
 have da := ha.dy
 have db := hb.dy
 unfold zav.f
 by_cases c : la = []
 ·subst c
  clear ha hb
  (repeat (first | with_reducible refine ep ?_ | with_reducible refine en ?_))
  refine zi (zdH sb eb (by omega)) ?_
  (repeat (first | with_reducible refine ep ?_ | with_reducible refine en ?_))
  refine zg (Ev.now _) ?_
  rw [zO, zW, zdz, zeU db]
 refine zf (fun h => c (zax.1 h)) ?_
 by_cases c2 : lb = []
 ·subst c2
  clear ha hb
  (repeat (first | with_reducible refine ep ?_ | with_reducible refine en ?_))
  refine zi (zdH sa ea (by omega)) ?_
  (repeat (first | with_reducible refine ep ?_ | with_reducible refine en ?_))
  refine zg (Ev.now _) ?_
  rw [zO, zW, zfk, zeU da]
 refine zf (fun h => c2 (zax.1 h)) ?_
 have la1 := ha.lo c
 have la2 := ha.hi c
 have lb1 := hb.lo c2
 have lb2 := hb.hi c2
 have ksz := k.sz
 clear ha hb k
 by_cases c3 : ea < eb
 ·have hw := ziO xb xa (by omega)
  have hn : bl (V lb) + (eb - ea).toNat ≤ 130000 := by omega
  have e0 : zl (sv sa (V la)) ea (sv sb (V lb)) eb = mk (sv sb (V lb * 2 ^ (eb - ea).toNat) + sv sa (V la)) ea := by
   rw [← zcn (m := ea) (by omega) (by omega), za1, za1, Int.sub_self, Int.add_comm]
   show mk (_ + sv sa (V la * 2 ^ 0)) ea = _
   rw [Nat.pow_zero, Nat.mul_one]
  rw [e0]
  obtain ⟨hl, hw3, hs, j1⟩ := ziK (sa := sa) (sb := sb) (ea := ea) da.nm db.nm (eb - ea).toNat xa hn ba bb (by omega)
  clear e0
  generalize (eb - ea).toNat = n at *
  refine ze c3 ?_
  refine zh ?_
  simp only [zav.j1, hw]
  clear hw
  refine Ev.bind hl ?_
  rw [hw3]
  refine zf (by omega) ?_
  refine Ev.bind hl ?_
  rw [hw3]
  clear hw3
  refine zf (by omega) ?_
  refine Ev.bind hs ?_
  dsimp only
  refine Ev.bind j1 ?_
  exact Ev.now _
 ·have hw := ziO xa xb (by omega)
  have hn : bl (V la) + (ea - eb).toNat ≤ 130000 := by omega
  have e0 : zl (sv sa (V la)) ea (sv sb (V lb)) eb = mk (sv sa (V la * 2 ^ (ea - eb).toNat) + sv sb (V lb)) eb := by
   rw [← zcn (m := eb) (by omega) (by omega), za1, za1, Int.sub_self]
   show mk (_ + sv sb (V lb * 2 ^ 0)) eb = _
   rw [Nat.pow_zero, Nat.mul_one]
  rw [e0]
  obtain ⟨hl, hw3, hs, j1⟩ := ziK (sa := sb) (sb := sa) (ea := eb) db.nm da.nm (ea - eb).toNat xb hn bb ba (by omega)
  clear e0
  generalize (ea - eb).toNat = n at *
  refine zf c3 ?_
  refine zh ?_
  simp only [zav.j1, hw]
  clear hw
  refine Ev.bind hl ?_
  rw [hw3]
  refine zf (by omega) ?_
  refine Ev.bind hl ?_
  rw [hw3]
  clear hw3
  refine zf (by omega) ?_
  refine Ev.bind hs ?_
  dsimp only
  refine Ev.bind j1 ?_
  exact Ev.now _
theorem zjL {L H : Int} (k : Wk L H) {sa sb : Bool} {la lb : List Int} {ea eb : Int} (ha : Wn L H sa la ea) (hb : Wn L H sb lb eb) : Ev (fun k => zb2.f k sa la ea sb lb eb) (ok3 (zl (sv sa (V la)) ea (sv sb (V lb)) eb)) := by
 unfold zb2.f
 refine Ev.bind (zdG (ha.my k) (hb.my k)) ?_
 refine zf (by simp) ?_
 refine Ev.bind (zg8 k ha hb) ?_
 exact Ev.now _
theorem zjP {L H : Int} (k : Wk L H) {sa sb : Bool} {la lb : List Int} {ea eb : Int} (ha : Wn L H sa la ea) (hb : Wn L H sb lb eb) : Ev (fun k => zb4.f k sa la ea sb lb eb) (ok3 (zl (sv sa (V la)) ea (-(sv sb (V lb))) eb)) := by
 unfold zb4.f
 have hv := zfg hb.dy
 have hd := zH (-(sv sb (V lb))) eb
 rw [hv.1, hv.2.2] at hd
 have hn : Wn L H (mk (-(sv sb (V lb))) eb).1 lb eb := ⟨hd, hb.lo, hb.hi⟩
 have h1 := zg8 k ha hn
 rw [hv.2.1] at h1
 refine Ev.bind (zdG (ha.my k) (hb.my k)) ?_
 refine zf (by simp) ?_
 refine zi (zg9 hb.dy (hb.len k)) ?_
 simp only [hv.1, hv.2.2]
 refine Ev.bind h1 ?_
 exact Ev.now _
theorem zjQ {L H : Int} (k : Wk L H) {sa sb : Bool} {la lb : List Int} {ea eb : Int} (ha : Wn L H sa la ea) (hb : Wn L H sb lb eb) (ca : la ≠ []) (cb : lb ≠ []) : Ev (fun k => zaS.f k sa la ea sb lb eb) (zp (V la : Int) ea (V lb : Int) eb) := by
 have hma := ha.my k
 have hmb := hb.my k
 have xa := ha.ex k
 have xb := hb.ex k
 have ba := ha.bls k
 have bb := hb.bls k
 have lla := ha.len k
 have llb := hb.len k
 have da := ha.dy
 have db := hb.dy
 have la1 := ha.lo ca
 have la2 := ha.hi ca
 have lb1 := hb.lo cb
 have lb2 := hb.hi cb
 have ksz := k.sz
 clear ha hb k
 have oa := da.odd ca
 have ob := db.odd cb
 have ta := zfw hma
 have tb := zfw hmb
 have va : V la ≠ 0 := by omega
 have vb : V lb ≠ 0 := by omega
 have ea1 : top (sv sa (V la)) ea = ea + ((bl (V la) : Nat) : Int) := by unfold top; rw [if_neg (fun h => va (zbb.1 h)), zaz]
 have eb1 : top (sv sb (V lb)) eb = eb + ((bl (V lb) : Nat) : Int) := by unfold top; rw [if_neg (fun h => vb (zbb.1 h)), zaz]
 rw [ea1] at ta
 rw [eb1] at tb
 clear ea1 eb1
 have na := zcI da.nm lla
 have nb := zcI db.nm llb
 unfold zaS.f
 refine Ev.bind ta ?_
 refine Ev.bind tb ?_
 have hm1 : min ea eb ≤ ea := by omega
 have hm2 : min ea eb ≤ eb := by omega
 have pa := zeB (z := (V la : Int)) (e := ea) (m := min ea eb) (by omega) hm1
 have pb := zeB (z := (V lb : Int)) (e := eb) (m := min ea eb) (by omega) hm2
 have qa : top (V la : Int) ea = ea + ((bl (V la) : Nat) : Int) := by unfold top; rw [if_neg (by omega)]; rfl
 have qb : top (V lb : Int) eb = eb + ((bl (V lb) : Nat) : Int) := by unfold top; rw [if_neg (by omega)]; rfl
 rw [qa] at pa
 rw [qb] at pb
 have sa1 : (al (V la : Int) ea (min ea eb)).sign = 1 := by rw [zaE]; exact Int.sign_eq_one_of_pos (by omega)
 have sb1 : (al (V lb : Int) eb (min ea eb)).sign = 1 := by rw [zaE]; exact Int.sign_eq_one_of_pos (by omega)
 by_cases c1 : ea + ((bl (V la) : Nat) : Int) < eb + ((bl (V lb) : Nat) : Int)
 ·refine ze c1 ?_
  refine zg (Ev.now _) ?_
  have hc := zfr (a := al (V la : Int) ea (min ea eb)) (b := al (V lb : Int) eb (min ea eb)) (by rw [sa1, sb1]) (by rw [sa1]; decide) (by omega)
  rw [sa1, decide_eq_true (by omega : bl (al (V la : Int) ea (min ea eb)).natAbs < bl (al (V lb : Int) eb (min ea eb)).natAbs)] at hc
  unfold zp
  rw [hc]; rfl
 refine zf c1 ?_
 refine Ev.bind ta ?_
 refine Ev.bind tb ?_
 by_cases c2 : ea + ((bl (V la) : Nat) : Int) > eb + ((bl (V lb) : Nat) : Int)
 ·refine ze c2 ?_
  refine zg (Ev.now _) ?_
  have hc := zfr (a := al (V la : Int) ea (min ea eb)) (b := al (V lb : Int) eb (min ea eb)) (by rw [sa1, sb1]) (by rw [sa1]; decide) (by omega)
  rw [sa1, decide_eq_false (by omega : ¬ bl (al (V la : Int) ea (min ea eb)).natAbs < bl (al (V lb : Int) eb (min ea eb)).natAbs)] at hc
  unfold zp
  rw [hc]; rfl
 refine zf c2 ?_
 refine Ev.bind na ?_
 refine Ev.bind nb ?_
 clear pa pb qa qb sa1 sb1 hm1 hm2
 have ew : wrap64 (((bl (V la) : Nat) : Int) - ((bl (V lb) : Nat) : Int)) = eb - ea := by unfold wrap64; omega
 rw [ew]
 clear ew
 by_cases c3 : eb - ea > 0
 ·obtain ⟨n, hn⟩ := Int.eq_ofNat_of_zero_le (show 0 ≤ eb - ea by omega)
  rw [hn]
  have hu := zbX (V lb) n
  have hs := zdn db.nm llb (n : Int)
  rw [zdT (by omega)] at hs
  have cc := zeT da.nm (zo (V lb * 2 ^ n)) lla (zaj (by omega))
  rw [V_D] at cc
  refine ze (by omega) ?_
  refine Ev.bind hs ?_
  dsimp only
  refine zh ?_
  simp only [zaS.j1]
  refine Ev.bind cc ?_
  refine zg (Ev.now _) ?_
  rw [← zd0 (m := ea) (by omega) (by omega), zeC, zeC, Int.sub_self, hn, zgY]
  show _ = (((V la * 2 ^ 0 : Nat) : Int) - _).sign
  rw [Nat.pow_zero, Nat.mul_one]; rfl
 ·obtain ⟨n, hn⟩ := Int.eq_ofNat_of_zero_le (show 0 ≤ ea - eb by omega)
  have ew2 : wrap64 (-(eb - ea)) = (n : Int) := by unfold wrap64; omega
  rw [ew2]
  clear ew2
  have hu := zbX (V la) n
  have hs := zdn da.nm lla (n : Int)
  rw [zdT (by omega)] at hs
  have cc := zeT (zo (V la * 2 ^ n)) db.nm (zaj (by omega)) llb
  rw [V_D] at cc
  refine zf c3 ?_
  refine Ev.bind hs ?_
  dsimp only
  refine zh ?_
  simp only [zaS.j1]
  refine Ev.bind cc ?_
  refine zg (Ev.now _) ?_
  rw [← zd0 (m := eb) (by omega) (by omega), zeC, zeC, Int.sub_self, hn, zgY]
  show _ = (_ - ((V lb * 2 ^ 0 : Nat) : Int)).sign
  rw [Nat.pow_zero, Nat.mul_one]; rfl
theorem zjM {L H : Int} (k : Wk L H) {sa sb : Bool} {la lb : List Int} {ea eb : Int} (ha : Wn L H sa la ea) (hb : Wn L H sb lb eb) : Ev (fun k => zce.f k sa la ea sb lb eb) (zp (sv sa (V la)) ea (sv sb (V lb)) eb, 0) := by
 have s1 := zfv (ha.my k)
 have s2 := zfv (hb.my k)
 unfold zce.f
 refine Ev.bind (zdG (ha.my k) (hb.my k)) ?_
 refine zf (by simp) ?_
 refine Ev.bind s1 ?_
 refine Ev.bind s2 ?_
 by_cases c1 : (sv sa (V la)).sign = (sv sb (V lb)).sign
 ·refine zf (by omega) ?_
  refine zf (by omega) ?_
  by_cases ca : la = []
  ·have hz : (sv sa (V la)).sign = 0 := by rw [ca, zO, zW]; rfl
   have cb : lb = [] := by
    by_cases cb : lb = []
    ·exact cb
    ·have h1 := hb.dy.odd cb
     rw [zb9 (n := V lb) (by omega), hz] at c1
     split at c1 <;> omega
   subst ca; subst cb
   obtain ⟨e1, e2⟩ := zgt ha.dy
   obtain ⟨e3, e4⟩ := zgt hb.dy
   subst e1; subst e2; subst e3; subst e4
   refine Ev.bind zjR ?_
   refine zg (Ev.now _) ?_
   rw [Int.mul_zero, za0 (by omega) (by omega)]; rfl
  ·have h1 := ha.dy.odd ca
   have va : V la ≠ 0 := by omega
   have cb : lb ≠ [] := by
    intro cb
    rw [cb, zO, zW, zb9 va] at c1
    have : (0 : Int).sign = 0 := rfl
    rw [this] at c1
    split at c1 <;> omega
   have h2 := hb.dy.odd cb
   have vb : V lb ≠ 0 := by omega
   have hs : sa = sb := by
    rw [zb9 va, zb9 vb] at c1
    cases sa <;> cases sb <;> simp at c1 <;> rfl
   refine Ev.bind (zjQ k ha hb ca cb) ?_
   refine zg (Ev.now _) ?_
   rw [hs, zjy sb (V la) (V lb) ea eb va]
   have hr := zjw (sv sb (V la)) ea (sv sb (V lb)) eb
   have e : wrap64 (zp (sv sb (V la)) ea (sv sb (V lb)) eb) = zp (sv sb (V la)) ea (sv sb (V lb)) eb := by unfold wrap64; omega
   rw [e]
 ·have hc := zg0 (a := al (sv sa (V la)) ea (min ea eb)) (b := al (sv sb (V lb)) eb (min ea eb)) (by rw [zaE, zaE]; exact c1)
  rw [zaE, zaE] at hc
  unfold zp
  rw [hc]
  by_cases c2 : (sv sa (V la)).sign < (sv sb (V lb)).sign
  ·refine ze c2 ?_
   exact zg (Ev.now _) (by rw [if_pos c2])
  ·refine zf c2 ?_
   refine ze (by omega) ?_
   exact zg (Ev.now _) (by rw [if_neg c2])
structure Wg (L H z e : Int) : Prop where
 lo : z ≠ 0 → L ≤ e
 hi : z ≠ 0 → e + (bl z.natAbs : Nat) ≤ H
theorem zdV {L H z e : Int} (h : Wg L H z e) : Wn L H (mk z e).1 (mk z e).2.1 (mk z e).2.2 := by
 refine ⟨zH z e, ?_, ?_⟩
 ·intro c
  by_cases hz : z = 0
  ·subst hz; exact absurd rfl c
  ·have h1 := h.lo hz
   have h2 := zaq z e
   have h3 : (mk z e).2.2 = me z e := rfl
   omega
 ·intro c
  by_cases hz : z = 0
  ·subst hz; exact absurd rfl c
  ·have h1 := h.hi hz
   obtain ⟨j, p1, p2, p3, p4⟩ := zaJ hz e
   have h3 : (mk z e).2.2 = me z e := rfl
   have h4 : bl (mz z e).natAbs = bl (V (mk z e).2.1) := by unfold mz; rw [zaz]
   omega
theorem zml {L H : Int} (k : Wk L H) {za ea zb eb : Int} (ha : Wg L H za ea) (hb : Wg L H zb eb) : Ev (fun k => zb2.f k (mk za ea).1 (mk za ea).2.1 (mk za ea).2.2 (mk zb eb).1 (mk zb eb).2.1 (mk zb eb).2.2) (ok3 (zl za ea zb eb)) := by
 refine zg (zjL k (zdV ha) (zdV hb)) ?_
 show ok3 (zl (mz za ea) (me za ea) (mz zb eb) (me zb eb)) = _
 rw [zc0, zdy]
theorem zmm {L H : Int} (k : Wk L H) {za ea zb eb : Int} (ha : Wg L H za ea) (hb : Wg L H zb eb) : Ev (fun k => zb4.f k (mk za ea).1 (mk za ea).2.1 (mk za ea).2.2 (mk zb eb).1 (mk zb eb).2.1 (mk zb eb).2.2) (ok3 (zl za ea (-zb) eb)) := by
 refine zg (zjP k (zdV ha) (zdV hb)) ?_
 show ok3 (zl (mz za ea) (me za ea) (-mz zb eb) (me zb eb)) = _
 rw [zc0, ← (zcG zb eb).1, ← (zcG zb eb).2, zdy]
theorem ziG {L H : Int} (k : Wk L H) {za ea zb eb : Int} (ha : Wg L H za ea) (hb : Wg L H zb eb) : Ev (fun k => zce.f k (mk za ea).1 (mk za ea).2.1 (mk za ea).2.2 (mk zb eb).1 (mk zb eb).2.1 (mk zb eb).2.2) (zp za ea zb eb, 0) := by
 refine zg (zjM k (zdV ha) (zdV hb)) ?_
 show (zp (mz za ea) (me za ea) (mz zb eb) (me zb eb), (0 : Int)) = _
 rw [zfq, zgV]
theorem ziH {f : Int} (h : isF f) (w : Nat) : Ev (fun k => zdu.f k f (w : Int)) (zbF f w) := by
 unfold zdu.f
 exact Ev.bind (zgm h w) (Ev.now _)
theorem zkY {f : Int} (h : isF f) (a b : Nat) : Ev (fun k => zdQ.f k f (a : Int) (b : Int)) (if a < 2 * sg f ∧ b < 2 * sg f then 0 else 6) := by
 unfold zdQ.f
 have ha := ziH h a
 have hb := ziH h b
 unfold zbF at ha hb
 by_cases c : a < 2 * sg f
 ·rw [if_pos c] at ha
  refine Ev.bind ha (zf (by simp) (Ev.bind hb ?_))
  by_cases d : b < 2 * sg f
  ·rw [if_pos d, if_pos ⟨c, d⟩]; exact Ev.now _
  ·rw [if_neg d, if_neg (fun hh => d hh.2)]; exact Ev.now _
 ·rw [if_neg c] at ha
  rw [if_neg (fun hh => c hh.1)]
  exact Ev.bind ha (ze (by simp) (Ev.now _))
theorem zh8 {f : Int} (h : isF f) (l : List (Nat × Nat)) (hl : l.length ≤ 1000) (hw : ∀ p ∈ l, p.1 < 18446744073709551616 ∧ p.2 < 18446744073709551616) : ∀ n i : Nat, i + n = l.length →
  Ev (fun k => zaR.l0 k f (l.map fun p => ((p.1 : Int), (p.2 : Int))) (i : Int)) (if ∀ p ∈ l.drop i, p.1 < 2 * sg f ∧ p.2 < 2 * sg f then 0 else 6)
 | 0, i, hi => by
  refine zh ?_; simp only [zaR.l0]
  rw [List.drop_eq_nil_of_le (by omega), if_pos (fun p hp => by cases hp)]
  exact zf (by rw [List.length_map]; omega) (Ev.now _)
 | n + 1, i, hi => by
  have hd : l.drop i = l[i] :: l.drop (i + 1) := List.drop_eq_getElem_cons (by omega)
  have hr : rdT [.i .u64, .i .u64] (l.map fun p => ((p.1 : Int), (p.2 : Int))) (i : Int) = ((l[i].1 : Int), (l[i].2 : Int)) := by
   unfold rdT
   rw [Int.toNat_natCast, List.getD_eq_getElem?_getD, List.getElem?_map, List.getElem?_eq_getElem (by omega)]
   rfl
  obtain ⟨b1, b2⟩ := hw l[i] (List.getElem_mem _)
  have e1 : wrap64 ((i : Int) + 1) = ((i + 1 : Nat) : Int) := by rw [w64 (by omega) (by omega)]; omega
  have ih := zh8 h l hl hw n (i + 1) (by omega)
  refine zh ?_; simp only [zaR.l0]
  rw [hr, e1, hd]
  refine ze (by rw [List.length_map]; omega) (ze (by omega) (ze (by rw [List.length_map]; omega) (zi (zhJ h b1) ?_)))
  by_cases c : l[i].1 < 2 * sg f
  ·refine zf (by unfold zbF; rw [if_pos c]; simp) (ze (by omega) (ze (by rw [List.length_map]; omega) (zi (zhJ h b2) ?_)))
   by_cases d : l[i].2 < 2 * sg f
   ·refine zf (by unfold zbF; rw [if_pos d]; simp) ?_
    refine zg ih ?_
    by_cases e : ∀ p ∈ l.drop (i + 1), p.1 < 2 * sg f ∧ p.2 < 2 * sg f
    ·rw [if_pos e, if_pos (fun p hp => by
      rcases List.mem_cons.1 hp with rfl | hp
      ·exact ⟨c, d⟩
      ·exact e p hp)]
    ·rw [if_neg e, if_neg (fun hh => e (fun p hp => hh p (List.mem_cons_of_mem _ hp)))]
   ·refine ze (by unfold zbF; rw [if_neg d]; simp) ?_
    rw [if_neg (fun hh => d (hh _ (List.mem_cons_self)).2)]
    exact Ev.now _
  ·refine ze (by unfold zbF; rw [if_neg c]; simp) ?_
   rw [if_neg (fun hh => c (hh _ (List.mem_cons_self)).1)]
   exact Ev.now _
theorem zlL {f : Int} (h : isF f) (l : List (Nat × Nat)) (hl : l.length ≤ 1000) (hw : ∀ p ∈ l, p.1 < 18446744073709551616 ∧ p.2 < 18446744073709551616) :
  Ev (fun k => zaR.f k f (l.map fun p => ((p.1 : Int), (p.2 : Int)))) (if ∀ p ∈ l, p.1 < 2 * sg f ∧ p.2 < 2 * sg f then 0 else 6) := by
 unfold zaR.f
 refine zi (zfQ f) ?_
 rw [decide_eq_true h]
 exact zf (by simp) (zh8 h l hl hw l.length 0 (by omega))
theorem zlK {f : Int} (h : ¬ isF f) (l : List (Int × Int)) : Ev (fun k => zaR.f k f l) 4 := by
 unfold zaR.f
 refine zi (zfQ f) ?_
 rw [decide_eq_false h]
 exact ze rfl (Ev.now _)
def pcl (f : Int) (a b : Nat) : Int := if cls f a = 4 ∨ cls f b = 4 then 3 else if cls f a = 5 ∨ cls f b = 5 then 4 else if cls f a = 1 ∧ cls f b = 1 then 1 else 2
theorem zhE (x y : Int) (u : Bool) : Ev (fun k => zal.j2 k x y u) (if u = true then (4, 0) else if x = 1 ∧ y = 1 then (1, 0) else (2, 0)) := by
 refine zh ?_; simp only [zal.j2]
 cases u
 ·refine zf (by simp) ?_
  rw [if_neg (show ¬ (false = true) by simp)]
  by_cases c : x = 1
  ·by_cases d : y = 1
   ·rw [if_pos (show x = 1 ∧ y = 1 from ⟨c, d⟩)]; exact ze c (ze d (Ev.now _))
   ·rw [if_neg (show ¬ (x = 1 ∧ y = 1) from fun hh => d hh.2)]; exact ze c (zf d (Ev.now _))
  ·rw [if_neg (show ¬ (x = 1 ∧ y = 1) from fun hh => c hh.1)]; exact zf c (Ev.now _)
 ·exact ze rfl (Ev.now _)
theorem zhD (f x y : Int) (u : Bool) : Ev (fun k => zal.j1 k x y u) (if u = true then (3, 0) else if x = 5 ∨ y = 5 then (4, 0) else if x = 1 ∧ y = 1 then (1, 0) else (2, 0)) := by
 refine zh ?_; simp only [zal.j1]
 cases u
 ·refine zf (by simp) ?_
  rw [if_neg (show ¬ (false = true) by simp)]
  by_cases c : x = 5
  ·rw [if_pos (show x = 5 ∨ y = 5 from .inl c)]
   refine ze c (zg (zhE x y true) ?_)
   rw [if_pos rfl]
  ·refine zf c (zg (zhE x y _) ?_)
   by_cases d : y = 5
   ·rw [decide_eq_true d, if_pos (show true = true from rfl), if_pos (show x = 5 ∨ y = 5 from .inr d)]
   ·rw [decide_eq_false d, if_neg (show ¬ (false = true) by simp), if_neg (show ¬ (x = 5 ∨ y = 5) from fun hh => hh.elim c d)]
 ·exact ze rfl (Ev.now _)
theorem zhB {f : Int} (h : isF f) {a b : Nat} (ha : a < 2 * sg f) (hb : b < 2 * sg f) : Ev (fun k => zal.f k f (a : Int) (b : Int)) (pcl f a b, 0) := by
 unfold zal.f pcl
 refine Ev.bind (ziQ h ha) (zf (by simp) (Ev.bind (ziQ h hb) (zf (by simp) ?_)))
 dsimp only
 by_cases c : cls f a = 4
 ·rw [if_pos (.inl c)]
  refine ze c (zg (zhD f _ _ true) ?_)
  rw [if_pos rfl]
 ·refine zf c (zg (zhD f _ _ _) ?_)
  by_cases d : cls f b = 4
  ·rw [decide_eq_true d, if_pos (show true = true from rfl), if_pos (.inr d)]
  ·rw [decide_eq_false d, if_neg (show ¬ (false = true) by simp), if_neg (show ¬ (cls f a = 4 ∨ cls f b = 4) from fun hh => hh.elim c d)]
   by_cases c5 : cls f a = 5 ∨ cls f b = 5
   ·rw [if_pos c5, if_pos c5]
   ·rw [if_neg c5, if_neg c5]
    split <;> rfl
theorem zem {f : Int} (h : isF f) (a b : Nat) : za4.f f (a : Int) (b : Int) = some (pcl f a b) := by
 unfold za4.f pcl
 rw [zfP h, Option.bind_some, zfP h, Option.bind_some]
 generalize cls f a = x
 generalize cls f b = y
 by_cases c : x = 4
 ·simp [c]
 by_cases d : y = 4
 ·simp [c, d]
 by_cases c5 : x = 5
 ·simp [c5, d]
 by_cases d5 : y = 5
 ·simp [c, c5, d5]
 by_cases c1 : x = 1
 ·by_cases d1 : y = 1
  ·simp [c1, d1]
  ·simp [c1, d, d5, d1]
 ·simp [c, d, c5, d5, c1]
def zw (f : Int) (a b : Nat) : Prop := cls f a < 4 ∧ cls f b < 4
instance (f : Int) (a b : Nat) : Decidable (zw f a b) := inferInstanceAs (Decidable (_ ∧ _))
theorem zdR {f : Int} (h : isF f) (a b : Nat) : zbk.f f (a : Int) (b : Int) = some (decide (zw f a b)) := by
 unfold zbk.f zw
 rw [zhH h, Option.bind_some, zhH h, Option.bind_some]
 by_cases c : cls f a < 4
 ·rw [if_pos (decide_eq_true c)]
  congr 1
  by_cases d : cls f b < 4 <;> simp [c, d]
 ·rw [if_neg (by simpa using c)]
  simp [c]
theorem zhF {f : Int} (h : isF f) (a b : Nat) : pcl f a b > 2 ↔ ¬ zw f a b := by
 have h1 := zfp h a
 have h2 := zfp h b
 unfold pcl zw
 split
 ·omega
 ·split
  ·omega
  ·split <;> omega
def zay (f : Int) (l : List (Nat × Nat)) : Int := if ∀ p ∈ l, p.1 < 2 * sg f ∧ p.2 < 2 * sg f then (if ∀ p ∈ l, zw f p.1 p.2 then 0 else 7) else 6
theorem zhV (l : List (Nat × Nat)) {i : Nat} (hi : i < l.length) : rdT [.i .u64, .i .u64] (l.map fun p => ((p.1 : Int), (p.2 : Int))) (i : Int) = ((l[i].1 : Int), (l[i].2 : Int)) := by
 unfold rdT
 rw [Int.toNat_natCast, List.getD_eq_getElem?_getD, List.getElem?_map, List.getElem?_eq_getElem hi]
 rfl
theorem zhe {f : Int} (h : isF f) (l : List (Nat × Nat)) (hl : l.length ≤ 1000) (hw : ∀ p ∈ l, p.1 < 2 * sg f ∧ p.2 < 2 * sg f) : ∀ n i : Nat, i + n = l.length →
  Ev (fun k => zT.l1 k f (l.map fun p => ((p.1 : Int), (p.2 : Int))) (l.length : Int) (i : Int)) (if ∀ p ∈ l.drop i, zw f p.1 p.2 then 0 else 7)
 | 0, i, hi => by
  refine zh ?_; simp only [zT.l1]
  rw [List.drop_eq_nil_of_le (by omega), if_pos (fun p hp => by cases hp)]
  exact zf (by omega) (Ev.now _)
 | n + 1, i, hi => by
  have hd : l.drop i = l[i] :: l.drop (i + 1) := List.drop_eq_getElem_cons (by omega)
  have hr := zhV l (i := i) (by omega)
  have e1 : wrap64 ((i : Int) + 1) = ((i + 1 : Nat) : Int) := by rw [w64 (by omega) (by omega)]; omega
  have ih := zhe h l hl hw n (i + 1) (by omega)
  obtain ⟨b1, b2⟩ := hw l[i] (List.getElem_mem _)
  refine zh ?_; simp only [zT.l1]
  rw [hr, e1, hd]
  clear e1
  refine ze (by omega) (ze (by omega) (ze (by rw [List.length_map]; omega) (Ev.bind (zhB h b1 b2) ?_)))
  dsimp only
  by_cases c : zw f l[i].1 l[i].2
  ·refine zf (fun hh => (zhF h _ _).1 hh c) (zg ih ?_)
   by_cases e : ∀ p ∈ l.drop (i + 1), zw f p.1 p.2
   ·rw [if_pos e, if_pos (fun p hp => by
     rcases List.mem_cons.1 hp with rfl | hp
     ·exact c
     ·exact e p hp)]
   ·rw [if_neg e, if_neg (fun hh => e (fun p hp => hh p (List.mem_cons_of_mem _ hp)))]
  ·refine ze ((zhF h _ _).2 c) ?_
   rw [if_neg (fun hh => c (hh _ List.mem_cons_self))]
   exact Ev.now _
theorem zhd {f : Int} (h : isF f) (l : List (Nat × Nat)) (hl : l.length ≤ 1000) : ∀ n i : Nat, i + n = l.length → (∀ p ∈ l.take i, p.1 < 2 * sg f ∧ p.2 < 2 * sg f) →
  Ev (fun k => zT.l0 k f (l.map fun p => ((p.1 : Int), (p.2 : Int))) (l.map fun p => ((p.1 : Int), (p.2 : Int))) (l.length : Int) (i : Int)) (zay f l)
 | 0, i, hi, hw => by
  rw [List.take_of_length_le (by omega)] at hw
  have h1 := zhe h l hl hw l.length 0 (by omega)
  have e0 : ((l.map fun p : Nat × Nat => ((p.1 : Int), (p.2 : Int))).length : Int) = (l.length : Int) := by rw [List.length_map]
  refine zh ?_; simp only [zT.l0]
  rw [e0]
  refine zf (by omega) (zg h1 ?_)
  unfold zay
  rw [if_pos hw]; rfl
 | n + 1, i, hi, hw => by
  have hr := zhV l (i := i) (by omega)
  have e1 : wrap64 ((i : Int) + 1) = ((i + 1 : Nat) : Int) := by rw [w64 (by omega) (by omega)]; omega
  have ht : l.take (i + 1) = l.take i ++ [l[i]] := by rw [List.take_succ_eq_append_getElem]
  refine zh ?_; simp only [zT.l0]
  rw [hr, e1]
  clear e1
  refine ze (by omega) (ze (by omega) (ze (by rw [List.length_map]; omega) (Ev.bind (zkY h l[i].1 l[i].2) ?_)))
  by_cases c : l[i].1 < 2 * sg f ∧ l[i].2 < 2 * sg f
  ·rw [if_pos c]
   refine zf (by simp) (zhd h l hl n (i + 1) (by omega) ?_)
   rw [ht]
   intro p hp
   rcases List.mem_append.1 hp with hp | hp
   ·exact hw p hp
   ·rw [List.mem_singleton.1 hp]; exact c
  ·rw [if_neg c]
   refine ze (by simp) ?_
   unfold zay
   rw [if_neg (fun hh => c (hh _ (List.getElem_mem _)))]
   exact Ev.now _
theorem zfA {f : Int} (h : isF f) (l : List (Nat × Nat)) (hl : l.length ≤ 1000) : Ev (fun k => zT.f k f (l.map fun p => ((p.1 : Int), (p.2 : Int)))) (zay f l) := by
 unfold zT.f
 have h1 := zhd h l hl l.length 0 (by omega) (fun p hp => by cases hp)
 have e0 : ((l.map fun p : Nat × Nat => ((p.1 : Int), (p.2 : Int))).length : Int) = (l.length : Int) := by rw [List.length_map]
 rw [e0]
 exact h1
theorem zkp (m : Nat) : zby.f (m + 100) = some true := by kernel_rfl
theorem zcB : Ev (fun k => zby.f k) true := by
 refine ⟨100, fun k hk => ?_⟩
 obtain ⟨m, rfl⟩ : ∃ m, k = m + 100 := ⟨k - 100, by omega⟩
 exact zkp m
def zv (f : Int) (w : Nat) : Int := sv (z4 f w) (zB f w)
structure Wz (z e : Int) : Prop where
 b : bl z.natAbs ≤ 64
 lo : -1074 ≤ e
 hi : e ≤ 3000
theorem zbU {f : Int} (h : isF f) (w : Nat) : Wz (zv f w) (wex f w) := by
 have h1 := ziN h w
 have h2 := ziM h w
 refine ⟨?_, h2.1, h2.2⟩
 unfold zv
 rw [zaz]
 exact zP h1
theorem zgR (x y : Int) : bl (x * y).natAbs ≤ bl x.natAbs + bl y.natAbs := by
 rw [Int.natAbs_mul]; exact zgQ _ _
theorem zjq (x y : Int) : bl (x + y).natAbs ≤ max (bl x.natAbs) (bl y.natAbs) + 1 :=
 Nat.le_trans (zbu (Int.natAbs_add_le x y)) (zgO _ _)
def zcX (za ea zb eb : Int) : Int := al za ea (min ea eb) + al zb eb (min ea eb)
theorem zgP (z e m : Int) : bl (al z e m).natAbs ≤ bl z.natAbs + (e - m).toNat := by
 rw [zgF]; exact zbX _ _
theorem zjr (za ea zb eb : Int) {n : Nat} (ha : bl za.natAbs + (ea - min ea eb).toNat ≤ n) (hb : bl zb.natAbs + (eb - min ea eb).toNat ≤ n) : bl (zcX za ea zb eb).natAbs ≤ n + 1 := by
 have h1 := zgP za ea (min ea eb)
 have h2 := zgP zb eb (min ea eb)
 have h3 := zjq (al za ea (min ea eb)) (al zb eb (min ea eb))
 unfold zcX
 omega
structure W2 (z e : Int) : Prop where
 b : bl z.natAbs ≤ 128
 lo : -2148 ≤ e
 hi : e ≤ 6000
theorem Wz.mul {za ea zb eb : Int} (ha : Wz za ea) (hb : Wz zb eb) : W2 (za * zb) (ea + eb) := by
 have h1 := zgR za zb
 obtain ⟨a1, a2, a3⟩ := ha
 obtain ⟨b1, b2, b3⟩ := hb
 exact ⟨by omega, by omega, by omega⟩
theorem W2.sg {z e : Int} (h : W2 z e) : Sg z e := by
 obtain ⟨a1, a2, a3⟩ := h
 exact ⟨by omega, by omega, by omega⟩
theorem W2.rg {z e : Int} (h : W2 z e) : Rg z e := by
 obtain ⟨a1, a2, a3⟩ := h
 exact ⟨by omega, by omega, by omega⟩
theorem W2.neg {z e : Int} (h : W2 z e) : W2 (-z) e := by
 obtain ⟨a1, a2, a3⟩ := h
 exact ⟨by rw [Int.natAbs_neg]; exact a1, a2, a3⟩
theorem Wz.rg {z e : Int} (h : Wz z e) : Rg z e := by
 obtain ⟨a1, a2, a3⟩ := h
 exact ⟨by omega, by omega, by omega⟩
theorem zeb {f : Int} (h : isF f) {a b : Nat} (ha : a < 2 * sg f) (hb : b < 2 * sg f) (hf : zw f a b) : Ev (fun k => zbm.f k f (a : Int) (b : Int)) ((mk (zv f a) (wex f a)).1, (mk (zv f a) (wex f a)).2.1, (mk (zv f a) (wex f a)).2.2, (mk (zv f b) (wex f b)).1, (mk (zv f b) (wex f b)).2.1, (mk (zv f b) (wex f b)).2.2) := by
 unfold zbm.f
 exact Ev.bind (ziR h ha hf.1) (Ev.bind (ziR h hb hf.2) (Ev.now _))
theorem zb5 {za ea zb eb : Int} (ha : Wz za ea) (hb : Wz zb eb) : Ev (fun k => zE.f k (mk za ea).1 (mk za ea).2.1 (mk za ea).2.2 (mk zb eb).1 (mk zb eb).2.1 (mk zb eb).2.2) (mk (za * zb) (ea + eb)) := by
 obtain ⟨a1, a2, a3⟩ := ha
 obtain ⟨b1, b2, b3⟩ := hb
 unfold zE.f
 exact Ev.bind (zhC (by omega) (by omega) (by omega) (by omega) (by omega)) (Ev.now _)
theorem zfz {za ea zb eb : Int} (ha : W2 za ea) (hb : W2 zb eb) : Ev (fun k => zbE.f k (mk za ea).1 (mk za ea).2.1 (mk za ea).2.2 (mk zb eb).1 (mk zb eb).2.1 (mk zb eb).2.2) (zl za ea zb eb) := by
 unfold zbE.f
 exact Ev.bind (zkX ha.sg hb.sg) (Ev.now _)
theorem zhf {za ea zb eb : Int} (ha : W2 za ea) (hb : W2 zb eb) : Ev (fun k => za8.f k (mk za ea).1 (mk za ea).2.1 (mk za ea).2.2 (mk zb eb).1 (mk zb eb).2.1 (mk zb eb).2.2) (zl za ea (-zb) eb) := by
 unfold za8.f
 exact Ev.bind (zkZ ha.sg hb.sg) (Ev.now _)
def prR (f : Int) (a b c d : Nat) : Bool × List Int × Int := zl (zv f a * zv f c) (wex f a + wex f c) (-(zv f b * zv f d)) (wex f b + wex f d)
def prI (f : Int) (a b c d : Nat) : Bool × List Int × Int := zl (zv f a * zv f d) (wex f a + wex f d) (zv f b * zv f c) (wex f b + wex f c)
def quR (f : Int) (a b c d : Nat) : Bool × List Int × Int := zl (zv f a * zv f c) (wex f a + wex f c) (zv f b * zv f d) (wex f b + wex f d)
def quI (f : Int) (a b c d : Nat) : Bool × List Int × Int := zl (zv f b * zv f c) (wex f b + wex f c) (-(zv f a * zv f d)) (wex f a + wex f d)
def quD (f : Int) (c d : Nat) : Bool × List Int × Int := zl (zv f c * zv f c) (wex f c + wex f c) (zv f d * zv f d) (wex f d + wex f d)
theorem zj7 {f : Int} (h : isF f) {a b c d : Nat} (hw : ∀ p ∈ [(a, b), (c, d)], p.1 < 2 * sg f ∧ p.2 < 2 * sg f) (hf : ∀ p ∈ [(a, b), (c, d)], zw f p.1 p.2) :
  Ev (fun k => zdg.f k f (a : Int) (b : Int) (c : Int) (d : Int)) ((prR f a b c d).1, (prR f a b c d).2.1, (prR f a b c d).2.2, (prI f a b c d).1, (prI f a b c d).2.1, (prI f a b c d).2.2, 0) := by
 have ho := zfA h [(a, b), (c, d)] (by simp)
 have e0 : zay f [(a, b), (c, d)] = 0 := by unfold zay; rw [if_pos hw, if_pos hf]
 rw [e0] at ho
 have w1 := hw (a, b) (by simp)
 have w2 := hw (c, d) (by simp)
 have f1 := hf (a, b) (by simp)
 have f2 := hf (c, d) (by simp)
 have za := zbU h a
 have zb := zbU h b
 have zc := zbU h c
 have zd := zbU h d
 unfold zdg.f
 refine Ev.bind ho (zf (by simp) (Ev.bind (zeb h w1.1 w1.2 f1) (Ev.bind (zeb h w2.1 w2.2 f2) ?_)))
 dsimp only
 refine Ev.bind (zb5 za zc) (Ev.bind (zb5 zb zd) (Ev.bind (zhf (za.mul zc) (zb.mul zd)) (Ev.bind (zb5 za zd) (Ev.bind (zb5 zb zc) (Ev.bind (zfz (za.mul zd) (zb.mul zc)) ?_)))))
 exact Ev.now _
theorem zkg {za ea zb eb : Int} (ha : Wz za ea) (hb : Wz zb eb) : Ev (fun k => zbn.f k (mk za ea).1 (mk za ea).2.1 (mk za ea).2.2 (mk zb eb).1 (mk zb eb).2.1 (mk zb eb).2.2) (zl (za * za) (ea + ea) (zb * zb) (eb + eb)) := by
 unfold zbn.f
 exact Ev.bind (zb5 ha ha) (Ev.bind (zb5 hb hb) (Ev.bind (zfz (ha.mul ha) (hb.mul hb)) (Ev.now _)))
theorem zj8 {f : Int} (h : isF f) {a b c d : Nat} (hw : ∀ p ∈ [(a, b), (c, d)], p.1 < 2 * sg f ∧ p.2 < 2 * sg f) (hf : ∀ p ∈ [(a, b), (c, d)], zw f p.1 p.2) (h0 : pcl f c d ≠ 1) :
  Ev (fun k => za7.f k f (a : Int) (b : Int) (c : Int) (d : Int)) ((quR f a b c d).1, (quR f a b c d).2.1, (quR f a b c d).2.2, (quI f a b c d).1, (quI f a b c d).2.1, (quI f a b c d).2.2, (quD f c d).1, (quD f c d).2.1, (quD f c d).2.2, 0) := by
 have ho := zfA h [(a, b), (c, d)] (by simp)
 have e0 : zay f [(a, b), (c, d)] = 0 := by unfold zay; rw [if_pos hw, if_pos hf]
 rw [e0] at ho
 have w1 := hw (a, b) (by simp)
 have w2 := hw (c, d) (by simp)
 have f1 := hf (a, b) (by simp)
 have f2 := hf (c, d) (by simp)
 have za := zbU h a
 have zb := zbU h b
 have zc := zbU h c
 have zd := zbU h d
 unfold za7.f
 refine Ev.bind ho (Ev.bind (zhB h w2.1 w2.2) (zf h0 ?_))
 refine zh ?_; simp only [za7.j1]
 refine zf (by simp) (Ev.bind (zeb h w1.1 w1.2 f1) (Ev.bind (zeb h w2.1 w2.2 f2) ?_))
 dsimp only
 refine Ev.bind (zb5 za zc) (Ev.bind (zb5 zb zd) (Ev.bind (zfz (za.mul zc) (zb.mul zd)) (Ev.bind (zb5 zb zc) (Ev.bind (zb5 za zd) (Ev.bind (zhf (zb.mul zc) (za.mul zd)) (Ev.bind (zkg zc zd) ?_))))))
 exact Ev.now _
theorem zh6 {f : Int} (h : isF f) (w : Nat) : zdc.f f (w : Int) = some (z4 f w) := by
 unfold zdc.f
 rw [zfW h, Option.bind_some]
theorem zie {f : Int} (h : isF f) (a b : Nat) (s : Bool) : Ev (fun k => z8.f k f (a : Int) (b : Int) s) ((mk (if s = true then -(zv f a * zv f b) else zv f a * zv f b) (wex f a + wex f b)).1, (mk (if s = true then -(zv f a * zv f b) else zv f a * zv f b) (wex f a + wex f b)).2.1, (mk (if s = true then -(zv f a * zv f b) else zv f a * zv f b) (wex f a + wex f b)).2.2, decide (¬ (decide (¬ (z4 f a = z4 f b))) = s)) := by
 have za := zbU h a
 have zb := zbU h b
 unfold z8.f
 refine Ev.bind (zfY h a) (Ev.bind (zfY h b) (Ev.bind (zhM za.rg zb.rg) ?_))
 have j0 : ∀ (x : Bool × List Int × Int), Ev (fun k => z8.j0 k f (a : Int) (b : Int) s false [] 0 false x.1 x.2.1 x.2.2) (x.1, x.2.1, x.2.2, decide (¬ (decide (¬ (z4 f a = z4 f b))) = s)) := by
  intro x
  refine zh ?_; simp only [z8.j0]
  exact zi (zh6 h a) (zi (zh6 h b) (Ev.now _))
 cases s
 ·exact zf (by simp) (j0 _)
 ·exact ze rfl (zi (zlf _ _) (j0 _))
def zdm (s : Bool) (l : List Int) (e : Int) : Bool := may l && (if l = [] then !s && decide (e = 0) else decide (V l % 2 = 1) && decide (-16777216 ≤ e ∧ e ≤ 16777216))
theorem zkA {s : Bool} {l : List Int} {e : Int} (h : zdm s l e = true) : My s l e := by
 unfold zdm at h
 rw [Bool.and_eq_true] at h
 obtain ⟨h1, h2⟩ := h
 obtain ⟨h3, h4⟩ := zaT.1 h1
 by_cases c : l = []
 ·rw [if_pos c, Bool.and_eq_true, decide_eq_true_iff, Bool.not_eq_true'] at h2
  obtain ⟨h5, h6⟩ := h2
  exact ⟨⟨h4, fun _ => ⟨h5, h6⟩, fun hh => absurd c hh⟩, h3, by omega, by omega⟩
 ·rw [if_neg c, Bool.and_eq_true, decide_eq_true_iff, decide_eq_true_iff] at h2
  obtain ⟨h5, h6⟩ := h2
  exact ⟨⟨h4, fun hh => absurd hh c, fun _ => h5⟩, h3, h6.1, h6.2⟩
theorem zkl (e : Int) : zdf.f e = some (decide (-16777216 ≤ e ∧ e ≤ 16777216)) := by
 unfold zdf.f
 by_cases c : -16777216 ≤ e
 ·rw [if_pos c]; simp [c]
 ·rw [if_neg c]; simp [c]
theorem zft {s : Bool} {l : List Int} {e : Int} (h : Dg l) (hb : l.length ≤ 1000000) : zS.f s l e = some (zdm s l e) := by
 unfold zS.f zdm
 rw [zcJ h (by omega), Option.bind_some]
 cases may l with
 | false => rw [if_pos (show (!false) = true from rfl), Bool.false_and]
 | true =>
  rw [if_neg (show ¬ (!true) = true by simp), Bool.true_and]
  by_cases c : l = []
  ·rw [if_pos (zax.2 c), if_pos c]
   cases s
   ·rw [if_pos (show (!false) = true from rfl)]; simp
   ·rw [if_neg (show ¬ (!true) = true by simp)]; simp
  ·rw [if_neg (fun hh => c (zax.1 hh)), if_neg c, if_pos (zdK c), zhj h, zkl, Option.bind_some]
   by_cases o : V l % 2 = 1
   ·rw [if_pos (by omega)]; simp [o]
   ·rw [if_neg (by omega)]; simp [o]
structure In (d : Bool × List Int × Int) : Prop where
 dg : Dg d.2.1
 len : d.2.1.length ≤ 1300
def zbp (d : Bool × List Int × Int) : Prop := d.2.1.length ≤ 400 ∧ -20000 ≤ d.2.2 ∧ d.2.2 ≤ 20000
instance (d : Bool × List Int × Int) : Decidable (zbp d) := inferInstanceAs (Decidable (_ ∧ _ ∧ _))
def zI (d : Bool × List Int × Int) : Bool := zdm d.1 d.2.1 d.2.2
def zbI (f : Int) (a b : Nat) (k : Int) (x y z : Bool × List Int × Int) : Int :=
 if ¬ (a < 2 * sg f ∧ b < 2 * sg f) then 6 else if ¬ (zI x = true ∧ zI y = true ∧ zI z = true ∧ 0 ≤ k) then 2 else if z.2.1 = [] then 11 else if ¬ zw f a b then 7 else if zbp x ∧ zbp y ∧ zbp z then 0 else 3
theorem zjg (x y z : Bool × List Int × Int) : Ev (fun k => zu.l0 k x.1 x.2.1 x.2.2 y.1 y.2.1 y.2.2 z.1 z.2.1 z.2.2 0) (if zbp x ∧ zbp y ∧ zbp z then 0 else 3) := by
 have w0 : wrap64 (0 + 1) = 1 := by unfold wrap64; omega
 have w1 : wrap64 (1 + 1) = 2 := by unfold wrap64; omega
 have w2 : wrap64 (2 + 1) = 3 := by unfold wrap64; omega
 have bad : ∀ {d : Bool × List Int × Int} {g : Nat → Option Int}, ¬ zbp d → Ev (fun k => if (d.2.1.length : Int) > 400 then some 3 else if d.2.2 < -20000 then some 3 else if d.2.2 > 20000 then some 3 else g k) 3 := by
  intro d g hd
  by_cases c1 : (d.2.1.length : Int) > 400
  ·exact ze c1 (Ev.now _)
  by_cases c2 : d.2.2 < -20000
  ·exact zf c1 (ze c2 (Ev.now _))
  by_cases c3 : d.2.2 > 20000
  ·exact zf c1 (zf c2 (ze c3 (Ev.now _)))
  exact absurd (⟨by omega, by omega, by omega⟩ : zbp d) hd
 have good : ∀ {d : Bool × List Int × Int} {g : Nat → Option Int} {r : Int}, zbp d → Ev g r → Ev (fun k => if (d.2.1.length : Int) > 400 then some 3 else if d.2.2 < -20000 then some 3 else if d.2.2 > 20000 then some 3 else g k) r := by
  intro d g r hd hg
  obtain ⟨h1, h2, h3⟩ := hd
  exact zf (by omega) (zf (by omega) (zf (by omega) hg))
 refine zh ?_; simp only [zu.l0]
 refine ze (by omega) (ze trivial ?_)
 by_cases hx : zbp x
 rotate_left
 ·rw [if_neg (fun hh => hx hh.1)]; exact bad hx
 refine good hx ?_
 rw [w0]
 refine zh ?_; simp only [zu.l0]
 refine ze (by omega) (zf (by omega) (ze trivial ?_))
 by_cases hy : zbp y
 rotate_left
 ·rw [if_neg (fun hh => hy hh.2.1)]; exact bad hy
 refine good hy ?_
 rw [w1]
 refine zh ?_; simp only [zu.l0]
 refine ze (by omega) (zf (by omega) (zf (by omega) (ze trivial ?_)))
 by_cases hz : zbp z
 rotate_left
 ·rw [if_neg (fun hh => hz hh.2.2)]; exact bad hz
 refine good hz ?_
 rw [w2, if_pos ⟨hx, hy, hz⟩]
 refine zh ?_; simp only [zu.l0]
 exact zf (by omega) (Ev.now _)
theorem zil {d : Bool × List Int × Int} (h : Dy d.1 d.2.1 d.2.2) : (sv d.1 (V d.2.1)).sign = 0 ↔ d.2.1 = [] := by
 constructor
 ·intro hs
  by_cases c : d.2.1 = []
  ·exact c
  ·have h1 := h.odd c
   rw [zb9 (by omega)] at hs
   split at hs <;> omega
 ·intro c
  rw [c, zO, zW]; rfl
theorem zeG {f : Int} {a b : Nat} {kk n : Int} {x y z : Bool × List Int × Int} (u : Bool) (hu : u = true ↔ ¬ (zI x = true ∧ zI y = true ∧ zI z = true ∧ 0 ≤ kk)) (hn : n = if zw f a b then 0 else 7) (hw : a < 2 * sg f ∧ b < 2 * sg f) :
  Ev (fun k => zu.j2 k x.1 x.2.1 x.2.2 y.1 y.2.1 y.2.2 z.1 z.2.1 z.2.2 n u) (zbI f a b kk x y z) := by
 unfold zbI
 rw [if_neg (fun hh => hh hw)]
 refine zh ?_; simp only [zu.j2]
 by_cases c : u = true
 ·rw [if_pos (hu.1 c)]
  exact ze c (Ev.now _)
 have hm : zI x = true ∧ zI y = true ∧ zI z = true ∧ 0 ≤ kk := Classical.byContradiction fun hh => c (hu.2 hh)
 have hz := zkA hm.2.2.1
 rw [if_neg (fun hh => hh hm)]
 refine zf c (Ev.bind (zfv hz) ?_)
 by_cases c2 : z.2.1 = []
 ·rw [if_pos c2]
  exact ze ((zil hz.dy).2 c2) (Ev.now _)
 rw [if_neg c2]
 refine zf (fun hh => c2 ((zil hz.dy).1 hh)) ?_
 subst hn
 by_cases c3 : zw f a b
 ·rw [if_pos c3, if_neg (fun hh => hh c3)]
  exact zf (by simp) (zjg x y z)
 ·rw [if_neg c3, if_pos c3]
  exact ze (by simp) (Ev.now _)
theorem zgM {f : Int} (h : isF f) (a b : Nat) (kk : Int) {x y z : Bool × List Int × Int} (hx : In x) (hy : In y) (hz : In z) :
  Ev (fun k => zu.f k f (a : Int) (b : Int) kk x.1 x.2.1 x.2.2 y.1 y.2.1 y.2.2 z.1 z.2.1 z.2.2) (zbI f a b kk x y z) := by
 have ho := zfA h [(a, b)] (by simp)
 have mx := zft (s := x.1) (e := x.2.2) hx.dg (by have := hx.len; omega)
 have my := zft (s := y.1) (e := y.2.2) hy.dg (by have := hy.len; omega)
 have mz := zft (s := z.1) (e := z.2.2) hz.dg (by have := hz.len; omega)
 unfold zu.f
 by_cases hw : a < 2 * sg f ∧ b < 2 * sg f
 rotate_left
 ·have e0 : zay f [(a, b)] = 6 := by unfold zay; rw [if_neg (fun hh => hw (hh (a, b) (by simp)))]
  rw [e0] at ho
  unfold zbI
  rw [if_pos hw]
  exact Ev.bind ho (ze (by simp) (ze (by simp) (Ev.now _)))
 have e0 : zay f [(a, b)] = if zw f a b then 0 else 7 := by
  unfold zay
  rw [if_pos (fun p hp => by rw [List.mem_singleton.1 hp]; exact hw)]
  by_cases c : zw f a b
  ·rw [if_pos c, if_pos (fun p hp => by rw [List.mem_singleton.1 hp]; exact c)]
  ·rw [if_neg c, if_neg (fun hh => c (hh (a, b) (by simp)))]
 have tail : Ev (fun k => (zS.f x.1 x.2.1 x.2.2).bind fun t133 => if (!t133) = true then zu.j2 k x.1 x.2.1 x.2.2 y.1 y.2.1 y.2.2 z.1 z.2.1 z.2.2 (zay f [(a, b)]) true else (zS.f y.1 y.2.1 y.2.2).bind fun t134 => if (!t134) = true then zu.j2 k x.1 x.2.1 x.2.2 y.1 y.2.1 y.2.2 z.1 z.2.1 z.2.2 (zay f [(a, b)]) true else (zS.f z.1 z.2.1 z.2.2).bind fun t135 => if (!t135) = true then zu.j2 k x.1 x.2.1 x.2.2 y.1 y.2.1 y.2.2 z.1 z.2.1 z.2.2 (zay f [(a, b)]) true else zu.j2 k x.1 x.2.1 x.2.2 y.1 y.2.1 y.2.2 z.1 z.2.1 z.2.2 (zay f [(a, b)]) (decide (kk < 0))) (zbI f a b kk x y z) := by
  refine zi mx ?_
  by_cases c1 : zI x = true
  rotate_left
  ·exact ze (by unfold zI at c1; simpa using c1) (zeG true ⟨fun _ hh => c1 hh.1, fun _ => rfl⟩ e0 hw)
  refine zf (by unfold zI at c1; simpa using c1) (zi my ?_)
  by_cases c2 : zI y = true
  rotate_left
  ·exact ze (by unfold zI at c2; simpa using c2) (zeG true ⟨fun _ hh => c2 hh.2.1, fun _ => rfl⟩ e0 hw)
  refine zf (by unfold zI at c2; simpa using c2) (zi mz ?_)
  by_cases c3 : zI z = true
  rotate_left
  ·exact ze (by unfold zI at c3; simpa using c3) (zeG true ⟨fun _ hh => c3 hh.2.2.1, fun _ => rfl⟩ e0 hw)
  refine zf (by unfold zI at c3; simpa using c3) (zeG _ ?_ e0 hw)
  rw [decide_eq_true_iff]
  exact ⟨fun hh hm => by have := hm.2.2.2; omega, fun hh => by
   refine Classical.byContradiction fun hk => hh ⟨c1, c2, c3, by omega⟩⟩
 refine Ev.bind ho ?_
 by_cases c : zw f a b
 ·have e1 : zay f [(a, b)] = 0 := by rw [e0, if_pos c]
  exact zf (fun hh => hh e1) tail
 ·have e1 : zay f [(a, b)] = 7 := by rw [e0, if_neg c]
  exact ze (fun hh => by omega) (zf (fun hh => hh e1) tail)
def mkN (p : Int × Int) : Bool × List Int × Int := mk p.1 p.2
def zn (p q : Int × Int) : Int × Int := (p.1 * q.1, p.2 + q.2)
def zr (p q : Int × Int) : Int × Int := (zcX p.1 p.2 q.1 q.2, min p.2 q.2)
def zZ (p : Int × Int) : Int × Int := (-p.1, p.2)
def nsh (p : Int × Int) (n : Int) : Int × Int := (p.1, p.2 + n)
def vN (f : Int) (w : Nat) : Int × Int := (zv f w, wex f w)
structure Wx (L H : Int) (p : Int × Int) : Prop where
 lo : L ≤ p.2
 hi : p.2 + (bl p.1.natAbs : Nat) ≤ H
theorem Wx.wg {L H : Int} {p : Int × Int} (h : Wx L H p) : Wg L H p.1 p.2 := ⟨fun _ => h.lo, fun _ => h.hi⟩
theorem Wx.mono {L H L' H' : Int} {p : Int × Int} (h : Wx L H p) (h1 : L' ≤ L) (h2 : H ≤ H') : Wx L' H' p := ⟨Int.le_trans h1 h.lo, Int.le_trans h.hi h2⟩
theorem Wx.mul {L H L' H' : Int} {p q : Int × Int} (h : Wx L H p) (k : Wx L' H' q) : Wx (L + L') (H + H') (zn p q) := by
 have h1 := h.lo
 have h2 := h.hi
 have h3 := k.lo
 have h4 := k.hi
 have h5 := zgR p.1 q.1
 refine ⟨?_, ?_⟩
 ·show _ ≤ p.2 + q.2; omega
 ·show p.2 + q.2 + (bl (p.1 * q.1).natAbs : Nat) ≤ _; omega
theorem Wx.add {L H : Int} {p q : Int × Int} (h : Wx L H p) (k : Wx L H q) : Wx L (H + 1) (zr p q) := by
 have h1 := h.lo
 have h2 := h.hi
 have h3 := k.lo
 have h4 := k.hi
 have h5 := zjr p.1 p.2 q.1 q.2 (n := (H - min p.2 q.2).toNat) (by omega) (by omega)
 refine ⟨?_, ?_⟩
 ·show _ ≤ min p.2 q.2; omega
 ·show min p.2 q.2 + (bl (zcX p.1 p.2 q.1 q.2).natAbs : Nat) ≤ _; omega
theorem Wx.neg {L H : Int} {p : Int × Int} (h : Wx L H p) : Wx L H (zZ p) := ⟨h.lo, by show p.2 + (bl (-p.1).natAbs : Nat) ≤ H; rw [Int.natAbs_neg]; exact h.hi⟩
theorem Wx.sh {L H : Int} {p : Int × Int} (h : Wx L H p) (n : Int) : Wx (L + n) (H + n) (nsh p n) := by
 have h1 := h.lo
 have h2 := h.hi
 exact ⟨by show _ ≤ p.2 + n; omega, by show p.2 + n + (bl p.1.natAbs : Nat) ≤ _; omega⟩
theorem Wx.rg {L H : Int} {p : Int × Int} (h : Wx L H p) (h1 : -1000000 ≤ L) (h2 : H ≤ 1000000) : Rg p.1 p.2 := by
 have h3 := h.lo
 have h4 := h.hi
 exact ⟨by omega, by omega, by omega⟩
theorem Wx.my {L H : Int} {p : Int × Int} (h : Wx L H p) (h1 : -1000000 ≤ L) (h2 : H ≤ 1000000) (h3 : H - L ≤ 130000) : My (mkN p).1 (mkN p).2.1 (mkN p).2.2 := by
 have h4 := h.lo
 have h5 := h.hi
 exact zeR (by omega) (by omega) (by omega)
theorem zdr {f : Int} (h : isF f) (w : Nat) : Wx (-1074) 3064 (vN f w) := by
 have h1 := zbU h w
 obtain ⟨a, b, c⟩ := h1
 exact ⟨b, by show wex f w + (bl (zv f w).natAbs : Nat) ≤ 3064; omega⟩
theorem zdi {L H L' H' : Int} {p q : Int × Int} (h : Wx L H p) (k : Wx L' H' q) (h1 : -1000000 ≤ L) (h2 : H ≤ 1000000) (h3 : -1000000 ≤ L') (h4 : H' ≤ 1000000) (h5 : H - L + (H' - L') ≤ 131000) :
  Ev (fun k => zE.f k (mkN p).1 (mkN p).2.1 (mkN p).2.2 (mkN q).1 (mkN q).2.1 (mkN q).2.2) (mkN (zn p q)) := by
 have a1 := h.lo
 have a2 := h.hi
 have b1 := k.lo
 have b2 := k.hi
 unfold zE.f
 exact Ev.bind (zhC (by omega) (by omega) (by omega) (by omega) (by omega)) (Ev.now _)
theorem zkb {L H : Int} (w : Wk L H) {p q : Int × Int} (h : Wx L H p) (k : Wx L H q) :
  Ev (fun k => zbE.f k (mkN p).1 (mkN p).2.1 (mkN p).2.2 (mkN q).1 (mkN q).2.1 (mkN q).2.2) (mkN (zr p q)) := by
 unfold zbE.f
 exact Ev.bind (zml w h.wg k.wg) (Ev.now _)
theorem zkh {L H : Int} (w : Wk L H) {p q : Int × Int} (h : Wx L H p) (k : Wx L H q) :
  Ev (fun k => za8.f k (mkN p).1 (mkN p).2.1 (mkN p).2.2 (mkN q).1 (mkN q).2.1 (mkN q).2.2) (mkN (zr p (zZ q))) := by
 unfold za8.f
 exact Ev.bind (zmm w h.wg k.wg) (Ev.now _)
def sqN (p q : Int × Int) : Int × Int := zr (zn p p) (zn q q)
theorem zfB {L H : Int} (h1 : -100000 ≤ L) (h2 : H ≤ 100000) (h3 : H - L ≤ 65000) {p q : Int × Int} (h : Wx L H p) (k : Wx L H q) :
  Ev (fun k => zbn.f k (mkN p).1 (mkN p).2.1 (mkN p).2.2 (mkN q).1 (mkN q).2.1 (mkN q).2.2) (mkN (sqN p q)) := by
 unfold zbn.f
 refine Ev.bind (zdi h h (by omega) (by omega) (by omega) (by omega) (by omega)) (Ev.bind (zdi k k (by omega) (by omega) (by omega) (by omega) (by omega)) (Ev.bind (zkb ⟨by omega, by omega, by omega⟩ (h.mul h) (k.mul k)) (Ev.now _)))
theorem zge {L H : Int} {p q : Int × Int} (h : Wx L H p) (k : Wx L H q) : Wx (L + L) (H + H + 1) (sqN p q) := (h.mul h).add (k.mul k)
theorem zhG {f : Int} (h : isF f) : zdh.f f = some ((fb f + 1 : Nat) : Int) := by rcases h with rfl | rfl <;> rfl
def zbP (f : Int) (a b : Nat) (re im den : Int × Int) : Int × Int := nsh (sqN (zr (zn (vN f a) den) (zZ re)) (zr (zn (vN f b) den) (zZ im))) (2 * ((fb f + 1 : Nat) : Int))
def Gz (p : Int × Int) : Prop := Wx (-20000) 32800 p
theorem zeO {f : Int} (h : isF f) (a : Nat) {re den : Int × Int} (hr : Gz re) (hd : Gz den) : Wx (-21074) 35865 (zr (zn (vN f a) den) (zZ re)) := by
 have h1 := ((zdr h a).mul hd).mono (L' := -21074) (H' := 35864) (by omega) (by omega)
 exact (h1.add (hr.neg.mono (by omega) (by omega))).mono (by omega) (by omega)
theorem zd9 {f : Int} (h : isF f) : 23 ≤ fb f ∧ fb f ≤ 52 := by rcases h with rfl | rfl <;> decide
theorem zjZ {f : Int} (h : isF f) (a b : Nat) {re im den : Int × Int} (hr : Gz re) (hi : Gz im) (hd : Gz den) : Wx (-42148) 71900 (zbP f a b re im den) := by
 have h1 := ((zge (zeO h a hr hd) (zeO h b hi hd)).sh (2 * ((fb f + 1 : Nat) : Int)))
 have h2 := zd9 h
 exact h1.mono (by omega) (by omega)
theorem zha {re im : Int × Int} (hr : Gz re) (hi : Gz im) : Wx (-40000) 65601 (sqN re im) := (zge hr hi).mono (by omega) (by omega)
theorem zkf {L H : Int} {p : Int × Int} (h : Wx L H p) (h1 : -1000000 ≤ L) (h2 : H ≤ 1000000) (h3 : H - L ≤ 130000) {n : Int} (h4 : -1000 ≤ n) (h5 : n ≤ 1000) : zb3.f (mkN p).1 (mkN p).2.1 (mkN p).2.2 n = some (ok3 (mkN (nsh p n))) := by
 have a1 := h.lo
 have a2 := h.hi
 have ms := zaq p.1 p.2
 have e0 : (mkN p).2.2 = me p.1 p.2 := rfl
 rw [zg6 (h.my h1 h2 h3) (by omega) (by omega) (by omega)]
 have e3 : mk (mz p.1 p.2) (me p.1 p.2 + n) = mkN (nsh p n) := zkD (zho p.1 p.2)
 rw [← e3]; rfl
theorem zhc {f : Int} (h : isF f) (a : Nat) {re den : Int × Int} (hr : Gz re) (hd : Gz den) {β : Type} {F : Nat → Bool × List Int × Int → Option β} {r : β} (k : Ev (fun n => F n (mkN (zr (zn (vN f a) den) (zZ re)))) r) :
  Ev (fun k => (zE.f k (mkN (vN f a)).1 (mkN (vN f a)).2.1 (mkN (vN f a)).2.2 (mkN den).1 (mkN den).2.1 (mkN den).2.2).bind fun t => (za8.f k t.1 t.2.1 t.2.2 (mkN re).1 (mkN re).2.1 (mkN re).2.2).bind fun u => F k u) r := by
 have m1 := ((zdr h a).mul hd).mono (L' := -21074) (H' := 35864) (by omega) (by omega)
 have g1 := zdi (zdr h a) hd (by omega) (by omega) (by omega) (by omega) (by omega)
 have g2 := zkh (L := -21074) (H := 35864) ⟨by omega, by omega, by omega⟩ m1 (hr.mono (by omega) (by omega))
 exact Ev.bind g1 (Ev.bind g2 k)
theorem zkd {f : Int} (h : isF f) {a b : Nat} (ha : a < 2 * sg f) (hb : b < 2 * sg f) (hf : zw f a b) : Ev (fun k => zbm.f k f (a : Int) (b : Int)) ((mkN (vN f a)).1, (mkN (vN f a)).2.1, (mkN (vN f a)).2.2, (mkN (vN f b)).1, (mkN (vN f b)).2.1, (mkN (vN f b)).2.2) := zeb h ha hb hf
theorem zkc {f : Int} (h : isF f) {a b : Nat} (ha : a < 2 * sg f) (hb : b < 2 * sg f) (hf : zw f a b) {re im den : Int × Int} (hr : Gz re) (hi : Gz im) (hd : Gz den) :
  Ev (fun k => zcA.f k f (a : Int) (b : Int) (mkN re).1 (mkN re).2.1 (mkN re).2.2 (mkN im).1 (mkN im).2.1 (mkN im).2.2 (mkN den).1 (mkN den).2.1 (mkN den).2.2) ((mkN (zbP f a b re im den)).1, (mkN (zbP f a b re im den)).2.1, (mkN (zbP f a b re im den)).2.2, (mkN (sqN re im)).1, (mkN (sqN re im)).2.1, (mkN (sqN re im)).2.2) := by
 have p1 := zeO h a hr hd
 have p2 := zeO h b hi hd
 have hF := zd9 h
 have s0 := zge p1 p2
 have g1 := zfB (by omega) (by omega) (by omega) p1 p2
 have g2 := zfB (L := -20000) (H := 32800) (by omega) (by omega) (by omega) hr hi
 have g3 : zb3.f _ _ _ _ = some (ok3 (mkN (zbP f a b re im den))) := zkf s0 (by omega) (by omega) (by omega) (n := 2 * ((fb f + 1 : Nat) : Int)) (by omega) (by omega)
 generalize zbP f a b re im den = A at g3 ⊢
 have e2 : wrap64 (2 * ((fb f + 1 : Nat) : Int)) = 2 * ((fb f + 1 : Nat) : Int) := by unfold wrap64; omega
 unfold zcA.f
 refine Ev.bind (zkd h ha hb hf) ?_
 dsimp only
 refine zhc h a hr hd (zhc h b hi hd (Ev.bind g1 (zi (zhG h) ?_)))
 rw [e2]
 refine zi g3 (Ev.bind g2 (zg (Ev.now _) ?_))
 simp only [ok3]
theorem zh2 {p q : Int × Int} (h : Rg p.1 p.2) (k : Rg q.1 q.2) : Ev (fun k => zbe.f k (mkN p).1 (mkN p).2.1 (mkN p).2.2 (mkN q).1 (mkN q).2.1 (mkN q).2.2) (mkN (zn p q)) := zhM h k
theorem ze1 {p q : Int × Int} (h : Rg p.1 p.2) (k : Rg q.1 q.2) : Ev (fun k => zL.f k (mkN p).1 (mkN p).2.1 (mkN p).2.2 (mkN q).1 (mkN q).2.1 (mkN q).2.2) (mkN (zr p q)) := zfO h k
theorem zhQ {f : Int} (h : isF f) (w : Nat) : Ev (fun k => zao.f k f (w : Int)) (mkN (vN f w)) := zfY h w
def ze6 (f : Int) (re im den : Int × Int) : Bool := decide (zp (sqN re im).1 (sqN re im).2 (zn (zn (1, lo f + ((fb f + 64 : Nat) : Int)) den) (zn (1, lo f + ((fb f + 64 : Nat) : Int)) den)).1 (zn (zn (1, lo f + ((fb f + 64 : Nat) : Int)) den) (zn (1, lo f + ((fb f + 64 : Nat) : Int)) den)).2 ≥ 0)
theorem zhA {f : Int} (h : isF f) : Wx (-1100) 100 ((1, lo f + ((fb f + 64 : Nat) : Int)) : Int × Int) := by
 have h1 : bl (1 : Int).natAbs = 1 := by decide
 rcases h with rfl | rfl
 ·exact ⟨by decide, by show lo 1 + ((fb 1 + 64 : Nat) : Int) + (bl (1 : Int).natAbs : Nat) ≤ 100; rw [h1]; decide⟩
 ·exact ⟨by decide, by show lo 2 + ((fb 2 + 64 : Nat) : Int) + (bl (1 : Int).natAbs : Nat) ≤ 100; rw [h1]; decide⟩
theorem zkq {f : Int} (h : isF f) {den : Int × Int} (hd : Gz den) : Wx (-21100) 32900 (zn (1, lo f + ((fb f + 64 : Nat) : Int)) den) := ((zhA h).mul hd).mono (by omega) (by omega)
theorem zmh {f : Int} (h : isF f) : Ev (fun k => zer.f k f 0) (false, [1], lo f, 0) := by
 rcases h with rfl | rfl
 ·refine ⟨100, fun k hk => ?_⟩
  obtain ⟨m, rfl⟩ : ∃ m, k = m + 100 := ⟨k - 100, by omega⟩
  kernel_rfl
 ·refine ⟨100, fun k hk => ?_⟩
  obtain ⟨m, rfl⟩ : ∃ m, k = m + 100 := ⟨k - 100, by omega⟩
  kernel_rfl
theorem zj9 {f : Int} (h : isF f) {re im den : Int × Int} (hx : In (mkN re)) (hy : In (mkN im)) (hz : In (mkN den)) (hr : Gz re) (hi : Gz im) (hd : Gz den) (h0 : zbI f 0 0 0 (mkN re) (mkN im) (mkN den) = 0) :
  Ev (fun k => zdJ.f k f (mkN re).1 (mkN re).2.1 (mkN re).2.2 (mkN im).1 (mkN im).2.1 (mkN im).2.2 (mkN den).1 (mkN den).2.1 (mkN den).2.2) (ze6 f re im den, 0) := by
 have ha := zgM h 0 0 0 hx hy hz
 rw [h0] at ha
 have hF := zd9 h
 have e1 : wrap64 (((fb f + 1 : Nat) : Int) - 1) = (fb f : Int) := by unfold wrap64; omega
 have e2 : wrap64 ((fb f : Int) + 64) = ((fb f + 64 : Nat) : Int) := by unfold wrap64; omega
 have m1 : My false [1] (lo f) := by
  have := zeR (z := 1) (e := lo f) (by decide) (by rcases h with rfl | rfl <;> decide) (by rcases h with rfl | rfl <;> decide)
  rw [zhp] at this
  exact this
 have hlo : -2000 ≤ lo f ∧ lo f ≤ 0 := by rcases h with rfl | rfl <;> decide
 have hs := zg6 m1 (n := ((fb f + 64 : Nat) : Int)) (by omega) (by omega) (by omega)
 have e3 : ok3 (mk (sv false (V [1])) (lo f + ((fb f + 64 : Nat) : Int))) = ok3 (mkN (1, lo f + ((fb f + 64 : Nat) : Int))) := rfl
 rw [e3] at hs
 have lw := zkq h hd
 unfold zdJ.f
 refine Ev.bind ha (zf (fun hh => hh rfl) (Ev.bind (zmh h) (zi (zhG h) ?_)))
 rw [e1, e2]
 clear e1 e2
 refine zi hs (Ev.bind (zdi (zhA h) hd (by omega) (by omega) (by omega) (by omega) (by omega)) (Ev.bind (zfB (L := -20000) (H := 32800) (by omega) (by omega) (by omega) hr hi) (Ev.bind (zdi lw lw (by omega) (by omega) (by omega) (by omega) (by omega)) (Ev.bind (ziG (L := -42200) (H := 65900) ⟨by omega, by omega, by omega⟩ ((zha hr hi).mono (by omega) (by omega)).wg ((lw.mul lw).mono (by omega) (by omega)).wg) ?_))))
 exact Ev.now _
theorem zeD {z : Int} (h : 0 ≤ z) (e m : Int) : 0 ≤ al z e m := by
 unfold al
 exact Int.mul_nonneg h (Int.le_of_lt (zej _))
theorem zgH {z e m : Int} (h : al z e m = 0) : z = 0 := by
 unfold al at h
 have hp := zej (e - m).toNat
 rcases Int.mul_eq_zero.1 h with h | h
 ·exact h
 ·omega
theorem ze9 (x : Int) : 0 ≤ x * x := by
 rcases Int.le_total 0 x with h | h
 ·exact Int.mul_nonneg h h
 ·have := Int.mul_nonneg (show 0 ≤ -x by omega) (show 0 ≤ -x by omega)
  rwa [Int.neg_mul_neg] at this
theorem zlY (p q : Int × Int) : 0 ≤ (sqN p q).1 := by
 show 0 ≤ zcX (p.1 * p.1) (p.2 + p.2) (q.1 * q.1) (q.2 + q.2)
 unfold zcX
 have h1 := zeD (ze9 p.1) (p.2 + p.2) (min (p.2 + p.2) (q.2 + q.2))
 have h2 := zeD (ze9 q.1) (q.2 + q.2) (min (p.2 + p.2) (q.2 + q.2))
 omega
theorem zlZ {p q : Int × Int} (h : (sqN p q).1 = 0) : p.1 = 0 ∧ q.1 = 0 := by
 have h : zcX (p.1 * p.1) (p.2 + p.2) (q.1 * q.1) (q.2 + q.2) = 0 := h
 unfold zcX at h
 have h1 := zeD (ze9 p.1) (p.2 + p.2) (min (p.2 + p.2) (q.2 + q.2))
 have h2 := zeD (ze9 q.1) (q.2 + q.2) (min (p.2 + p.2) (q.2 + q.2))
 have h3 := zgH (show al (p.1 * p.1) (p.2 + p.2) (min (p.2 + p.2) (q.2 + q.2)) = 0 by omega)
 have h4 := zgH (show al (q.1 * q.1) (q.2 + q.2) (min (p.2 + p.2) (q.2 + q.2)) = 0 by omega)
 exact ⟨(Int.mul_eq_zero.1 h3).elim id id, (Int.mul_eq_zero.1 h4).elim id id⟩
def nnB (n : Nat) (B : Int × Int) : Int × Int := zn (zn ((n : Int), 0) ((n : Int), 0)) B
def zed (A B : Int × Int) (n : Nat) : Bool := decide (zp A.1 A.2 (nnB n B).1 (nnB n B).2 ≤ 0)
theorem zfG {n : Nat} (h : n < 18446744073709551616) : Wx 0 64 ((n : Int), 0) := by
 have h1 : bl n ≤ 64 := zP (by omega)
 exact ⟨Int.le_refl _, by show (0 : Int) + (bl (n : Int).natAbs : Nat) ≤ 64; rw [Int.natAbs_natCast]; omega⟩
theorem zkS {n : Nat} (h : n < 18446744073709551616) {B : Int × Int} (hB : Wx (-40000) 65601 B) : Wx (-40000) 65729 (nnB n B) :=
 (((zfG h).mul (zfG h)).mul hB).mono (by omega) (by omega)
theorem zke {A B : Int × Int} (hA : Wx (-42148) 71900 A) (hB : Wx (-40000) 65601 B) {n : Nat} (h : n < 18446744073709551616) :
  Ev (fun k => zch.f k (mkN A).1 (mkN A).2.1 (mkN A).2.2 (mkN B).1 (mkN B).2.1 (mkN B).2.2 (n : Int)) (zed A B n) := by
 have o1 := zfF (n := (n : Int)) (by omega) (by omega)
 rw [Int.toNat_natCast] at o1
 have h1 : bl n ≤ 64 := zP (by omega)
 have m1 := zdd false (zo n) (zaj (by omega)) 0
 rw [V_D, zdl (by omega) (by omega)] at m1
 have w1 := zfG h
 have g1 := zdi w1 w1 (by omega) (by omega) (by omega) (by omega) (by omega)
 have g2 := zdi (w1.mul w1) hB (by omega) (by omega) (by omega) (by omega) (by omega)
 have c1 := ziG (L := -42148) (H := 71900) ⟨by omega, by omega, by omega⟩ hA.wg ((zkS h hB).mono (by omega) (by omega)).wg
 unfold zch.f
 exact Ev.bind o1 (Ev.bind m1 (Ev.bind g1 (Ev.bind g2 (Ev.bind c1 (Ev.now _)))))
theorem zjf {f : Int} {a b : Nat} {k : Int} (hk : 0 ≤ k) (x y z : Bool × List Int × Int) : zbI f a b k x y z = zbI f a b 0 x y z := by
 unfold zbI
 have e : (zI x = true ∧ zI y = true ∧ zI z = true ∧ 0 ≤ k) ↔ (zI x = true ∧ zI y = true ∧ zI z = true ∧ (0 : Int) ≤ 0) := by
  constructor
  ·rintro ⟨h1, h2, h3, _⟩; exact ⟨h1, h2, h3, by omega⟩
  ·rintro ⟨h1, h2, h3, _⟩; exact ⟨h1, h2, h3, hk⟩
 simp only [e]
structure Ok (f : Int) (a b : Nat) (re im den : Int × Int) : Prop where
 hf : isF f
 wa : a < 2 * sg f
 wb : b < 2 * sg f
 fin : zw f a b
 gr : Gz re
 gi : Gz im
 gd : Gz den
 ne : den.1 ≠ 0
 ix : In (mkN re)
 iy : In (mkN im)
 iz : In (mkN den)
 ask : zbI f a b 0 (mkN re) (mkN im) (mkN den) = 0
theorem zka {f : Int} {a b : Nat} {re im den : Int × Int} (o : Ok f a b re im den) {n : Nat} (hn : n < 9223372036854775808) :
  Ev (fun k => zcz.f k f (a : Int) (b : Int) (mkN re).1 (mkN re).2.1 (mkN re).2.2 (mkN im).1 (mkN im).2.1 (mkN im).2.2 (mkN den).1 (mkN den).2.1 (mkN den).2.2 (n : Int)) (zed (zbP f a b re im den) (sqN re im) n, 0) := by
 have h1 := zgM o.hf a b (n : Int) o.ix o.iy o.iz
 rw [zjf (by omega), o.ask] at h1
 have e1 : IntKind.u64.wrap (n : Int) = (n : Int) := by rw [zbG]; omega
 unfold zcz.f
 refine Ev.bind h1 (zf (fun hh => hh rfl) (Ev.bind (zkc o.hf o.wa o.wb o.fin o.gr o.gi o.gd) ?_))
 rw [e1]
 clear e1
 exact Ev.bind (zke (zjZ o.hf a b o.gr o.gi o.gd) (zha o.gr o.gi) (by omega)) (Ev.now _)
open Go.RowKit Go.Proofs Go.Proofs.YtioialhbjmnndaaGreatDoor.Eng
def tl (s : ByteArray) : List UInt8 := s.data.toList
def hx (b : UInt8) : Option Nat := if 48 ≤ b.toNat ∧ b.toNat ≤ 57 then some (b.toNat - 48) else if 97 ≤ b.toNat ∧ b.toNat ≤ 102 then some (b.toNat - 87) else none
def zci (l : List UInt8) (a : Nat) : Nat := l.foldl (fun a b => 16 * a + (hx b).getD 0) a
theorem zfm (b : Bool) : bN b < 2 := by cases b <;> decide
theorem zjh (b : Bool) : bN b = 0 ↔ b = false := by cases b <;> decide
def stk (Q : Nat) (b : Bool) : Nat := 2 * Q + bN b
theorem zjo {Q : Nat} (h : Q ≠ 0) (b : Bool) : bl (stk Q b) = bl Q + 1 := by
 have hb := zfm b
 have : stk Q b / 2 ^ 1 = Q := by unfold stk; omega
 have h2 := zcc (stk Q b) 1
 rw [this] at h2
 have h3 := zbW h
 have h4 : bl (stk Q b) ≠ 0 := fun e => by rw [e] at h2; omega
 omega
theorem zjl {H r j : Nat} (h : H ≠ 0) (hr : r < 2 ^ j) : bl (H * 2 ^ j + r) = bl H + j := by
 have h1 : (H * 2 ^ j + r) / 2 ^ j = H := by
  rw [Nat.mul_comm, Nat.mul_add_div (zk j), Nat.div_eq_of_lt hr, Nat.add_zero]
 have h2 := zcc (H * 2 ^ j + r) j
 rw [h1] at h2
 have := zbW h
 omega
theorem zf7 {f m : Int} (h : isF f) (s : Bool) {H r j : Nat} (hH : pr f + 1 ≤ bl H) (hr : r < 2 ^ j) (e : Int) : zam f m s (H * 2 ^ j + r) e = zam f m s (stk H (decide (r ≠ 0))) (e + j - 1) := by
 have hpr := zaX h
 have h0 : H ≠ 0 := fun c => by rw [c, zbv] at hH; omega
 have hb1 := zjl h0 hr
 have hb2 := zjo h0 (decide (r ≠ 0))
 rw [← zh7, ← zh7]
 have hT : e + j - 1 + (bl (stk H (decide (r ≠ 0))) : Nat) = e + (bl (H * 2 ^ j + r) : Nat) := by omega
 rw [hT]
 refine zlI fun E hE => ?_
 obtain ⟨d, hd⟩ : ∃ d : Nat, (E - e).toNat = d + j ∧ 1 ≤ d := ⟨(E - e).toNat - j, by omega, by omega⟩
 have e1 : (e - E).toNat = 0 := by omega
 have e2 : (e + j - 1 - E).toNat = 0 := by omega
 have e3 : (E - (e + j - 1)).toNat = d + 1 := by omega
 unfold R exR stk
 rw [e1, e2, e3, hd.1, Nat.pow_zero, Nat.mul_one, Nat.mul_one]
 exact ⟨zlH m s hr hd.2, decide_eq_decide.2 (zjY hr)⟩
theorem zj6 (X Y j : Nat) (hY : 0 < Y) : ∃ r, r < 2 ^ j ∧ X * 2 ^ j / Y = X / Y * 2 ^ j + r ∧ (X % Y = 0 ↔ r = 0 ∧ X * 2 ^ j % Y = 0) := by
 have h1 := Nat.div_add_mod X Y
 have h2 := Nat.mod_lt X hY
 have e : X * 2 ^ j = Y * (X / Y * 2 ^ j) + X % Y * 2 ^ j := by
  conv => lhs; rw [← h1, Nat.add_mul, Nat.mul_assoc]
 refine ⟨X % Y * 2 ^ j / Y, ?_, ?_, ?_⟩
 ·rw [Nat.div_lt_iff_lt_mul hY, Nat.mul_comm]
  exact Nat.mul_lt_mul_of_pos_left h2 (zk j)
 ·rw [e, Nat.mul_add_div hY]
 ·rw [e, Nat.mul_add_mod]
  constructor
  ·intro c; rw [c]; simp
  ·intro ⟨c1, c2⟩
   have h3 := Nat.div_add_mod (X % Y * 2 ^ j) Y
   rw [c1, c2] at h3
   have h4 : X % Y * 2 ^ j = 0 := by rw [← h3]; simp
   rcases Nat.mul_eq_zero.1 h4 with h5 | h5
   ·exact h5
   ·have := zk j; omega
theorem zh9 {f m : Int} (h : isF f) (s : Bool) {A B N : Nat} (hB : 0 < B) (hn : pr f + 1 ≤ bl (A * 2 ^ N / B)) (e : Int) (j : Nat) :
  zam f m s (stk (A * 2 ^ (N + j) / B) (decide (A * 2 ^ (N + j) % B ≠ 0))) (e - (N + j : Nat) - 1) = zam f m s (stk (A * 2 ^ N / B) (decide (A * 2 ^ N % B ≠ 0))) (e - N - 1) := by
 obtain ⟨r, hr, hq, hz⟩ := zj6 (A * 2 ^ N) B j hB
 rw [Nat.pow_add, ← Nat.mul_assoc]
 rw [hq]
 have hb := zfm (decide (A * 2 ^ N * 2 ^ j % B ≠ 0))
 have hs : stk (A * 2 ^ N / B * 2 ^ j + r) (decide (A * 2 ^ N * 2 ^ j % B ≠ 0)) = A * 2 ^ N / B * 2 ^ (j + 1) + (2 * r + bN (decide (A * 2 ^ N * 2 ^ j % B ≠ 0))) := by
  unfold stk
  rw [Nat.pow_succ, ← Nat.mul_assoc]; omega
 rw [hs, zf7 h s hn (by rw [Nat.pow_succ]; omega)]
 have hd : decide (2 * r + bN (decide (A * 2 ^ N * 2 ^ j % B ≠ 0)) ≠ 0) = decide (A * 2 ^ N % B ≠ 0) := by
  apply decide_eq_decide.2
  have := zjh (decide (A * 2 ^ N * 2 ^ j % B ≠ 0))
  have h3 : bN (decide (A * 2 ^ N * 2 ^ j % B ≠ 0)) = 0 ↔ A * 2 ^ N * 2 ^ j % B = 0 := by rw [this]; simp
  constructor
  ·intro c c2
   have := hz.1 c2
   exact c (by rw [h3.2 this.2, this.1])
  ·intro c c2
   exact c (hz.2 ⟨by omega, h3.1 (by omega)⟩)
 rw [hd]
 congr 1
 omega
def rq (f m : Int) (s : Bool) (A B : Nat) (e : Int) : Int × Int :=
 zam f m s (stk (A * 2 ^ (bl B + 64) / B) (decide (A * 2 ^ (bl B + 64) % B ≠ 0))) (e - (bl B + 64 : Nat) - 1)
theorem ze5 {A B : Nat} (hA : A ≠ 0) (hB : 0 < B) : 64 + 1 ≤ bl (A * 2 ^ (bl B + 64) / B) := by
 have := (zeW hA (Nat.ne_of_gt hB) (bl B + 64) (by omega)).1
 have := zbW hA
 omega
theorem zf9 {f m : Int} (h : isF f) (s : Bool) {A B : Nat} (hA : A ≠ 0) (hB : 0 < B) (e : Int) (N : Nat) (hn : pr f + 1 ≤ bl (A * 2 ^ N / B)) :
  zam f m s (stk (A * 2 ^ N / B) (decide (A * 2 ^ N % B ≠ 0))) (e - N - 1) = rq f m s A B e := by
 have hpr := zaX h
 have hfb := za6 h
 have hb := ze5 hA hB
 unfold rq
 have h1 := zh9 (m := m) h s hB hn e (bl B + 64)
 have h2 := zh9 (m := m) h s (A := A) (N := bl B + 64) hB (by omega) e N
 rw [← h1, ← h2, Nat.add_comm N]
theorem zlN {f m : Int} (h : isF f) (s : Bool) {A B c : Nat} (hA : A ≠ 0) (hB : 0 < B) (hc : 0 < c) (e : Int) : rq f m s (A * c) (B * c) e = rq f m s A B e := by
 have hAc : A * c ≠ 0 := Nat.mul_ne_zero hA (by omega)
 have hBc : 0 < B * c := Nat.mul_pos hB hc
 have hpr := zaX h
 have hfb := za6 h
 have hb := ze5 hAc hBc
 have e1 : A * c * 2 ^ (bl (B * c) + 64) = A * 2 ^ (bl (B * c) + 64) * c := Nat.mul_right_comm _ _ _
 have e2 : A * c * 2 ^ (bl (B * c) + 64) / (B * c) = A * 2 ^ (bl (B * c) + 64) / B := by rw [e1, Nat.mul_div_mul_right _ _ hc]
 have e3 : A * c * 2 ^ (bl (B * c) + 64) % (B * c) = A * 2 ^ (bl (B * c) + 64) % B * c := by rw [e1, Nat.mul_mod_mul_right]
 rw [e2] at hb
 rw [← zf9 h s hA hB e (bl (B * c) + 64) (by omega)]
 unfold rq
 rw [e2, e3]
 have hd : decide (A * 2 ^ (bl (B * c) + 64) % B * c ≠ 0) = decide (A * 2 ^ (bl (B * c) + 64) % B ≠ 0) := by
  apply decide_eq_decide.2
  rw [Ne, Nat.mul_eq_zero]
  omega
 rw [hd]
theorem zia {f m : Int} (h : isF f) (s : Bool) {A B : Nat} (hA : A ≠ 0) (hB : 0 < B) (e : Int) (j : Nat) : rq f m s (A * 2 ^ j) B e = rq f m s A B (e + j) := by
 have hAj : A * 2 ^ j ≠ 0 := Nat.mul_ne_zero hA (Nat.ne_of_gt (zk j))
 have hpr := zaX h
 have hfb := za6 h
 have hb := ze5 hAj hB
 have e1 : A * 2 ^ j * 2 ^ (bl B + 64) = A * 2 ^ (bl B + 64 + j) := by rw [Nat.mul_assoc, ← Nat.pow_add, Nat.add_comm j]
 rw [e1] at hb
 rw [← zf9 h s hA hB (e + j) (bl B + 64 + j) (by omega)]
 have e2 : e + (j : Int) - ((bl B + 64 + j : Nat) : Int) - 1 = e - ((bl B + 64 : Nat) : Int) - 1 := by omega
 rw [e2]
 unfold rq
 rw [e1]
theorem zkv (x y : Nat) : (decide (x ≠ 0) || decide (y ≠ 0)) = decide (2 * x + bN (decide (y ≠ 0)) ≠ 0) := by
 by_cases c1 : x = 0
 ·subst c1
  by_cases c2 : y = 0
  ·subst c2; rfl
  ·have e : decide (y ≠ 0) = true := decide_eq_true c2
   rw [e]; rfl
 ·have e : decide (x ≠ 0) = true := decide_eq_true c1
  rw [e, Bool.true_or]
  exact (decide_eq_true (by omega)).symm
theorem zlp {f m : Int} (h : isF f) (hm : isM m) {sa sb : Bool} {la lb : List Int} {ea eb : Int} (ha : Dy sa la ea) (hb : Dy sb lb eb) (A0 : V la ≠ 0) (B0 : V lb ≠ 0) (l1 : bl (V la) ≤ 300000) (l2 : bl (V lb) ≤ 300000) (h1 : -100000 ≤ ea) (h2 : ea ≤ 100000) (h3 : -100000 ≤ eb) (h4 : eb ≤ 100000) :
  Ev (fun k => zdD.f k f m sa la ea sb lb eb) (rq f m (decide (¬ sa = sb)) (V la) (V lb) (ea - eb)) := by
 have hpr := zaX h
 have hfb := za6 h
 have ll1 := zaj (k := 10000) (x := V la) (by omega)
 have ll2 := zaj (k := 10000) (x := V lb) (by omega)
 rw [ha.nm.len] at ll1
 rw [hb.nm.len] at ll2
 have hq := zlk ha hb A0 B0 (by omega) (by omega) (by omega) (by omega) (by omega) (by omega) 60 (by omega)
 have hQb := zk9 (b := 60) A0 B0
 have hCb := zk8 (b := 60) A0 B0
 have hN : zm (V la) (V lb) 60 = 60 + 1 + bl (V lb) - bl (V la) := rfl
 have hC : zV (V la) (V lb) 60 = bl (V la * 2 ^ zm (V la) (V lb) 60 / V lb) - 60 := rfl
 have hqt := zeW A0 B0 (zm (V la) (V lb) 60) (by omega)
 have hrq := zf9 (m := m) h (sa != sb) A0 (Nat.pos_of_ne_zero B0) (ea - eb) (zm (V la) (V lb) 60) (by omega)
 have hne : (decide (¬ sa = sb)) = (sa != sb) := by cases sa <;> cases sb <;> rfl
 rw [hne]
 have hres : zam f m (sa != sb) (stk (zba (V la) (V lb) 60) (zcM (V la) (V lb) 60)) (ea - eb - (zm (V la) (V lb) 60 : Nat) + (zV (V la) (V lb) 60 : Nat) - 1) = rq f m (sa != sb) (V la) (V lb) (ea - eb) := by
  rw [← hrq]
  have eQ : zba (V la) (V lb) 60 = V la * 2 ^ zm (V la) (V lb) 60 / V lb / 2 ^ zV (V la) (V lb) 60 := by unfold zba; rw [Nat.div_div_eq_div_mul]
  have eL : zcM (V la) (V lb) 60 = (decide (V la * 2 ^ zm (V la) (V lb) 60 / V lb % 2 ^ zV (V la) (V lb) 60 ≠ 0) || decide (V la * 2 ^ zm (V la) (V lb) 60 % V lb ≠ 0)) := by
   unfold zcM
   rw [Nat.mod_mul]
   generalize V la * 2 ^ zm (V la) (V lb) 60 / V lb % 2 ^ zV (V la) (V lb) 60 = x
   generalize V la * 2 ^ zm (V la) (V lb) 60 % V lb = y
   by_cases c : x = 0
   ·subst c; simp
   ·have : V lb * x ≠ 0 := Nat.mul_ne_zero (by omega) c
    rw [decide_eq_true (show y + V lb * x ≠ 0 by omega), decide_eq_true c, Bool.true_or]
  rw [eL]
  rw [eQ] at hQb ⊢
  generalize zm (V la) (V lb) 60 = n at *
  generalize zV (V la) (V lb) 60 = c at *
  generalize V la * 2 ^ n % V lb = y at *
  generalize V la * 2 ^ n / V lb = x at *
  have hr := Nat.mod_lt x (zk c)
  have hx := Nat.div_add_mod x (2 ^ c)
  have hb := zfm (decide (y ≠ 0))
  have hs : stk x (decide (y ≠ 0)) = x / 2 ^ c * 2 ^ (c + 1) + (2 * (x % 2 ^ c) + bN (decide (y ≠ 0))) := by
   unfold stk
   conv => lhs; rw [← hx]
   rw [Nat.pow_succ, Nat.mul_comm (2 ^ c), ← Nat.mul_assoc]; omega
  rw [hs, zf7 h _ (by omega) (by rw [Nat.pow_succ]; omega)]
  have hd := zkv (x % 2 ^ c) y
  rw [hd]
  congr 1
  omega
 clear hrq hqt
 rw [← hres]
 clear hres
 generalize zm (V la) (V lb) 60 = n at *
 generalize zV (V la) (V lb) 60 = c at *
 generalize zba (V la) (V lb) 60 = Q at *
 generalize zcM (V la) (V lb) 60 = L at *
 generalize he : ea - eb - (n : Int) + (c : Int) = e at *
 have Q0 : Q ≠ 0 := fun h => by rw [h, zbv] at hQb; omega
 have z0 : sv (sa != sb) Q ≠ 0 := fun h => Q0 (zbb.1 h)
 have zb : bl (sv (sa != sb) Q).natAbs = 60 := by rw [zaz, hQb]
 have zs : decide (sv (sa != sb) Q < 0) = (sa != sb) := zeo Q0
 unfold zdD.f
 refine Ev.bind (hq) ?_; try dsimp only
 cases L
 ·have hr := zhN h hm z0 (e := e) (by omega) (by omega) (by omega)
  rw [zs, zaz] at hr
  have hst : zam f m (sa != sb) (stk Q false) (e - 1) = zam f m (sa != sb) Q e := by
   have : stk Q false = Q * 2 ^ 1 := by unfold stk bN; rw [if_neg (by decide), Nat.pow_one]; omega
   rw [this, zlJ f m _ Q0]
   congr 1
   omega
  rw [hst]
  have hb : Ev (fun k => zcu.f k (mk (sv (sa != sb) Q) e).1 (mk (sv (sa != sb) Q) e).2.1 (mk (sv (sa != sb) Q) e).2.2 false) (mk (sv (sa != sb) Q) e) := by
   unfold zcu.f
   exact ze rfl (Ev.now _)
  refine Ev.bind (hb) ?_; try dsimp only
  refine Ev.bind (hr) ?_; try dsimp only
  exact Ev.now _
 ·have g1 : Rg (sv (sa != sb) Q) e := ⟨by omega, by omega, by omega⟩
  have ht := ze0 g1
  have htop : top (sv (sa != sb) Q) e = e + 60 := by
   unfold top
   rw [if_neg z0, zb]; rfl
  rw [htop] at ht
  have g2 : Rg 1 (e - 2) := ⟨by decide, by omega, by omega⟩
  have w1 : wrap64 (wrap64 (e + 60 - 60) - 2) = e - 2 := by
   rw [ziT (a := e + 60) (by omega) (by omega) (by omega) (by omega), ziT (by omega) (by omega) (by omega) (by omega)]; omega
  have hst : zam f m (sa != sb) (stk Q true) (e - 1) = zam f m (sa != sb) (4 * Q + 1) (e - 2) := by
   have h1 := zf7 (m := m) h (sa != sb) (H := Q) (r := 1) (j := 2) (by omega) (by decide) (e - 2)
   rw [show Q * 2 ^ 2 + 1 = 4 * Q + 1 by omega, show decide (1 ≠ 0) = true from rfl] at h1
   rw [h1]
   congr 1
   omega
  rw [hst]
  have hsum : zl (sv (sa != sb) Q) e (if (sa != sb) = true then -1 else 1) (e - 2) = mk (sv (sa != sb) (4 * Q + 1)) (e - 2) := by
   have h1 := zfj (if (sa != sb) = true then -1 else 1) (sv (sa != sb) Q) (e - 2) 2
   rw [show e - 2 + ((2 : Nat) : Int) = e by omega, zeA] at h1
   rw [h1]
   congr 1
   cases (sa != sb)
   ·simp [sv]; omega
   ·simp [sv]; omega
  have z1 : sv (sa != sb) (4 * Q + 1) ≠ 0 := fun h => by have := zbb.1 h; omega
  have zb1 : bl (sv (sa != sb) (4 * Q + 1)).natAbs ≤ 62 := by
   rw [zaz]
   have := zac Q
   rw [hQb] at this
   exact zP (by omega)
  have zs1 : decide (sv (sa != sb) (4 * Q + 1) < 0) = (sa != sb) := zeo (by omega)
  have hr := zhN h hm z1 (e := e - 2) (by omega) (by omega) (by omega)
  rw [zs1, zaz] at hr
  have hb : Ev (fun k => zcu.f k (mk (sv (sa != sb) Q) e).1 (mk (sv (sa != sb) Q) e).2.1 (mk (sv (sa != sb) Q) e).2.2 true) (mk (sv (sa != sb) (4 * Q + 1)) (e - 2)) := by
   unfold zcu.f
   refine zf (by simp) ?_
   refine Ev.bind (ht) ?_; try dsimp only
   rw [w1]
   clear w1
   refine zi (zhP (e - 2)) ?_; try dsimp only
   have hsg : (mk (sv (sa != sb) Q) e).1 = (sa != sb) := by
    obtain ⟨j, _, _, j3, _⟩ := zcF z0 e
    rw [j3, zs]
   rw [hsg]
   cases hs : (sa != sb)
   ·rw [hs] at g1 hsum hsg
    refine zf (by simp) ?_
    have := zfO g1 g2
    rw [hsg] at this
    simp only [Bool.false_eq_true, if_false] at hsum
    rw [hsum] at this
    refine Ev.bind (this) ?_; try dsimp only
    exact Ev.now _
   ·rw [hs] at g1 hsum hsg
    refine ze rfl ?_
    have := zfX g1 g2
    rw [hsg] at this
    simp only [if_true] at hsum
    rw [hsum] at this
    refine Ev.bind (this) ?_; try dsimp only
    exact Ev.now _
  refine Ev.bind (hb) ?_; try dsimp only
  refine Ev.bind (hr) ?_; try dsimp only
  exact Ev.now _
theorem zlM {f m : Int} (h : isF f) (s : Bool) {A B : Nat} (hA : A ≠ 0) (hB : 0 < B) (e : Int) (j : Nat) : rq f m s A (B * 2 ^ j) e = rq f m s A B (e - j) := by
 have h1 := zia (m := m) h s hA (Nat.mul_pos hB (zk j)) (e - j) j
 rw [show e - (j : Int) + j = e by omega] at h1
 rw [← h1, zlN h s hA hB (zk j)]
theorem zla {f m : Int} (h : isF f) (s : Bool) {n N : Nat} {e e' : Int} (hn : n ≠ 0) (hN : N ≠ 0) : rq f m s (V (mk (sv s n) e).2.1) (V (mk (N : Int) e').2.1) ((mk (sv s n) e).2.2 - (mk (N : Int) e').2.2) = rq f m s n N (e - e') := by
 have z0 : sv s n ≠ 0 := fun h => hn (zbb.1 h)
 have z1 : (N : Int) ≠ 0 := by omega
 obtain ⟨j, j1, j2, j3, j4⟩ := zcF z0 e
 obtain ⟨i, i1, i2, i3, i4⟩ := zcF z1 e'
 rw [zaz] at j1
 rw [Int.natAbs_natCast] at i1
 rw [i2, j2]
 have h1 := zia (m := m) h s j4 (Nat.pos_of_ne_zero i4) (e - (e' + (i : Int))) j
 have h2 := zlM (m := m) h s hn (Nat.pos_of_ne_zero i4) (e - e') i
 rw [← j1] at h1
 rw [← i1] at h2
 rw [h2, show e - e' - (i : Int) = e - (e' + (i : Int)) by omega, h1]
 congr 1
 omega
theorem zlG (s : Bool) (x b k : Nat) (hb : b ≤ 1) :
  (rnd 1 s (2 * x + b) (k + 1) = x / 2 ^ k ∧ 2 * (x % 2 ^ k) + b ≤ 2 ^ k) ∨ (rnd 1 s (2 * x + b) (k + 1) = x / 2 ^ k + 1 ∧ 2 ^ k ≤ 2 * (x % 2 ^ k) + b) := by
 have hp := zk k
 have hx := Nat.div_add_mod x (2 ^ k)
 have hr := Nat.mod_lt x hp
 have e0 : 2 ^ (k + 1) = 2 * 2 ^ k := by rw [Nat.pow_succ, Nat.mul_comm]
 have e1 : (2 * x + b) / (2 * 2 ^ k) = x / 2 ^ k := by rw [← Nat.div_div_eq_div_mul]; congr 1; omega
 have e2 : (2 * x + b) % (2 * 2 ^ k) = 2 * (x % 2 ^ k) + b := by
  have h1 := Nat.div_add_mod (2 * x + b) (2 * 2 ^ k)
  rw [e1, Nat.mul_assoc] at h1
  omega
 unfold rnd
 rw [e0, e1, e2]
 generalize 2 ^ k = h at *
 generalize x / h = q at *
 generalize x % h = r at *
 split
 ·rename_i hu
  refine .inr ⟨rfl, ?_⟩
  unfold upB at hu
  rw [if_pos rfl, Bool.and_eq_true, decide_eq_true_iff] at hu
  omega
 ·rename_i hu
  refine .inl ⟨rfl, ?_⟩
  apply Nat.le_of_not_lt
  intro hc
  apply hu
  unfold upB
  have hm : 2 * (2 * r + b) % (2 * h) ≠ 0 := by
   rw [Nat.mod_eq_sub_mod (by omega), Nat.mod_eq_of_lt (by omega)]
   omega
  rw [if_pos rfl, decide_eq_true hm, Bool.true_or, Bool.and_true, decide_eq_true_iff]
  omega
theorem zkQ (s : Bool) {x b k N P r : Nat} (hk : 1 ≤ k) (hP : P = x * N + r) (hr : r < N) (hb : b = if r ≠ 0 then 1 else 0) :
  ∃ E, (P = rnd 1 s (2 * x + b) (k + 1) * (2 ^ k * N) + E ∨ rnd 1 s (2 * x + b) (k + 1) * (2 ^ k * N) = P + E) ∧ 2 * E ≤ 2 ^ k * N := by
 have hx := Nat.div_add_mod x (2 ^ k)
 have hm := Nat.mod_lt x (zk k)
 obtain ⟨h', hh⟩ : ∃ h', 2 ^ k = 2 * h' := ⟨2 ^ (k - 1), by
  conv => lhs; rw [show k = k - 1 + 1 by omega]
  rw [Nat.pow_succ, Nat.mul_comm]⟩
 have hn := zlG s x b k (by rw [hb]; split <;> omega)
 generalize rnd 1 s (2 * x + b) (k + 1) = q at *
 generalize x / 2 ^ k = q0 at *
 generalize x % 2 ^ k = r0 at *
 generalize 2 ^ k = h at *
 have e1 : P = q0 * (h * N) + (r0 * N + r) := by
  rw [hP, ← hx, Nat.add_mul, Nat.mul_comm h q0, Nat.mul_assoc]; omega
 have e2 : (q0 + 1) * (h * N) = q0 * (h * N) + h * N := by rw [Nat.add_mul, Nat.one_mul]
 have e3 : r0 * N + N ≤ h * N := by
  have := Nat.mul_le_mul_right N (show r0 + 1 ≤ h by omega)
  rw [Nat.add_mul, Nat.one_mul] at this
  exact this
 rcases hn with ⟨rfl, h2⟩ | ⟨rfl, h2⟩
 ·refine ⟨r0 * N + r, .inl e1, ?_⟩
  by_cases c : r ≠ 0
  ·rw [if_pos c] at hb
   have h3 := Nat.mul_le_mul_right N (show 2 * (r0 + 1) ≤ h by omega)
   rw [Nat.mul_assoc, Nat.add_mul, Nat.one_mul] at h3
   omega
  ·have h3 := Nat.mul_le_mul_right N (show 2 * r0 ≤ h by omega)
   rw [Nat.mul_assoc] at h3
   omega
 ·refine ⟨h * N - (r0 * N + r), .inr ?_, ?_⟩
  ·rw [e1, e2]; omega
  ·have h3 := Nat.mul_le_mul_right N (show h ≤ 2 * r0 by
    by_cases c : r ≠ 0
    ·rw [if_pos c] at hb; omega
    ·rw [if_neg c] at hb; omega)
   rw [Nat.mul_assoc] at h3
   omega
theorem zjU {q H P E G : Nat} (hE : P = q * H + E ∨ q * H = P + E) (h2 : 2 * E ≤ H) (hn : G * H ≤ P) : (2 * G + 1) * E ≤ P := by
 by_cases c : E = 0
 ·subst c; rw [Nat.mul_zero]; omega
 have e : (2 * G + 1) * E = G * (2 * E) + E := by rw [Nat.add_mul, Nat.one_mul, Nat.mul_comm 2 G, Nat.mul_assoc]
 have hG : G * (2 * E) ≤ G * H := Nat.mul_le_mul_left G h2
 rw [e]
 rcases hE with hE | hE
 ·have hq : G ≤ q := by
   apply Nat.le_of_not_lt
   intro hc
   have h3 := Nat.mul_le_mul_right H (show q + 1 ≤ G by omega)
   rw [Nat.add_mul, Nat.one_mul] at h3
   omega
  have h4 := Nat.mul_le_mul_right H hq
  omega
 ·have hq : G + 1 ≤ q := by
   apply Nat.le_of_not_lt
   intro hc
   have h3 := Nat.mul_le_mul_right H (show q ≤ G by omega)
   omega
  have h4 := Nat.mul_le_mul_right H hq
  rw [Nat.add_mul, Nat.one_mul] at h4
  omega
theorem ziU {f : Int} (h : isF f) (s : Bool) : zB f (sgn f s) = 0 := by
 rcases h with rfl | rfl <;> cases s <;> decide +kernel
theorem zk0 {f : Int} (h : isF f) (s : Bool) {n N : Nat} (hn : n ≠ 0) (hN : N ≠ 0) (e : Int) {w : Nat} (hw : (rq f 1 s n N e).1 = (w : Int)) (hc : cls f w < 4) :
  w < 2 * sg f ∧ ∃ (q : Nat) (u : Int), lo f ≤ u ∧ mk (zv f w) (wex f w) = mk (sv s q) u ∧ ∀ m1 : Int, m1 ≤ lo f → m1 ≤ e →
   ∃ F : Nat, (n * 2 ^ (e - m1).toNat = q * 2 ^ (u - m1).toNat * N + F ∨ q * 2 ^ (u - m1).toNat * N = n * 2 ^ (e - m1).toNat + F) ∧ ((2 * 2 ^ fb f + 1) * F ≤ n * 2 ^ (e - m1).toNat ∨ 2 * F ≤ N * 2 ^ (lo f - m1).toNat) := by
 have hpr := zaX h
 have hfb := zd9 h
 have hNp := Nat.pos_of_ne_zero hN
 have hbits := ze5 (A := n) (B := N) hn hNp
 have hdm := Nat.div_add_mod (n * 2 ^ (bl N + 64)) N
 have hml := Nat.mod_lt (n * 2 ^ (bl N + 64)) hNp
 unfold rq at hw
 obtain ⟨N', hN'⟩ : ∃ N', N' = bl N + 64 := ⟨_, rfl⟩
 rw [← hN'] at hw hbits hdm hml
 obtain ⟨P, hP⟩ : ∃ P, P = n * 2 ^ N' := ⟨_, rfl⟩
 rw [← hP] at hw hbits hdm hml
 obtain ⟨x, hx⟩ : ∃ x, x = P / N := ⟨_, rfl⟩
 obtain ⟨r, hr⟩ : ∃ r, r = P % N := ⟨_, rfl⟩
 rw [← hx] at hw hbits hdm
 rw [← hr] at hw hdm hml
 have hst : stk x (decide (r ≠ 0)) = 2 * x + if r ≠ 0 then 1 else 0 := by
  unfold stk bN
  by_cases c : r ≠ 0
  ·rw [if_pos c, if_pos (decide_eq_true c)]
  ·rw [if_neg c, if_neg (by simpa using c)]
 rw [hst] at hw
 obtain ⟨b, hb⟩ : ∃ b, b = if r ≠ 0 then 1 else 0 := ⟨_, rfl⟩
 rw [← hb] at hw
 have hb1 : b ≤ 1 := by rw [hb]; split <;> omega
 have hx0 : x ≠ 0 := fun hh => by rw [hh, zbv] at hbits; omega
 have hbl : bl (2 * x + b) = bl x + 1 := by
  have h1 := zcp hx0
  have h2 := zac x
  have h3 := zbW hx0
  have h4 : 2 * x + b < 2 ^ (bl x + 1) := by rw [Nat.pow_succ]; omega
  have h5 := zP h4
  have h6 : bl x + 1 ≤ bl (2 * x + b) := by
   have h7 := zbu (show 2 * 2 ^ (bl x - 1) ≤ 2 * x + b by omega)
   have h8 := zbJ (v := 1) (by omega) (bl x)
   rw [Nat.one_mul, show bl 1 = 1 by decide] at h8
   have h9 : 2 * 2 ^ (bl x - 1) = 2 ^ bl x := by
    conv => rhs; rw [show bl x = bl x - 1 + 1 by omega]
    rw [Nat.pow_succ, Nat.mul_comm]
   rw [h9] at h7
   omega
  omega
 have hn' : 2 * x + b ≠ 0 := by omega
 obtain ⟨u, hu⟩ : ∃ u, u = zj f (2 * x + b) (e - (N' : Int) - 1) := ⟨_, rfl⟩
 have hu2 : u = max (e - (N' : Int) - 1 + ((bl x + 1 : Nat) : Int) - (pr f : Nat)) (lo f) := by rw [hu]; unfold zj; rw [hbl]
 obtain ⟨k, hk⟩ : ∃ k : Nat, u - (e - (N' : Int) - 1) = (k : Int) + 1 := ⟨(u - (e - (N' : Int) - 1) - 1).toNat, by omega⟩
 have hk1 : 1 ≤ k := by omega
 obtain ⟨q, hq⟩ : ∃ q, q = rnd 1 s (2 * x + b) (k + 1) := ⟨_, rfl⟩
 have hR : R 1 s (2 * x + b) (e - (N' : Int) - 1) u = q := by
  unfold R
  rw [show (e - (N' : Int) - 1 - u).toNat = 0 by omega, show (u - (e - (N' : Int) - 1)).toNat = k + 1 by omega, Nat.pow_zero, Nat.mul_one, hq]
 have hq2 : q ≤ 2 ^ pr f := by
  rw [← hR]
  exact zeu (by rw [hbl]; omega)
 unfold zam at hw
 rw [← hu] at hw
 dsimp only at hw
 rw [hR] at hw
 have lu : lo f ≤ u := by omega
 have val : w < 2 * sg f ∧ mk (zv f w) (wex f w) = mk (sv s q) u := by
  by_cases c : (bl q : Int) + u > wd f
  ·rw [if_pos c] at hw
   have hw : zcK f 1 s = w := Int.ofNat.inj hw
   have e1 : zcK f 1 s = mo f * 2 ^ fb f + sgn f s := by
    unfold zcK inw
    cases s <;> rfl
   have := (zki h s).1
   rw [← e1, hw] at this
   omega
  rw [if_neg c] at hw
  have hw : (if q = 0 then 0 else zbD f q u) + sgn f s = w := Int.ofNat.inj hw
  by_cases c0 : q = 0
  ·rw [if_pos c0, Nat.zero_add] at hw
   subst hw
   refine ⟨(zgn h s).2.1, ?_⟩
   unfold zv
   rw [ziU h, c0, zW, zW]
   rfl
  ·rw [if_neg c0] at hw
   subst hw
   have d := dec h s hq2 lu (by omega) c0
   exact ⟨d.lt, d.val⟩
 refine ⟨val.1, q, u, lu, val.2, fun m1 h1 h2 => ?_⟩
 have hPx : P = x * N + r := by rw [Nat.mul_comm]; exact hdm.symm
 obtain ⟨E, hE, hE2⟩ := zkQ s hk1 hPx hml hb
 rw [← hq] at hE
 obtain ⟨T, hT⟩ : ∃ T, T = 2 ^ (e - m1).toNat := ⟨_, rfl⟩
 obtain ⟨S, hS⟩ : ∃ S, S = 2 ^ N' := ⟨_, rfl⟩
 have Sp : 0 < S := by rw [hS]; exact zk _
 have eX : n * T * S = P * T := by rw [hP, ← hS, Nat.mul_right_comm]
 have ev : 2 ^ (u - m1).toNat * S = 2 ^ k * T := by
  rw [hS, hT, ← Nat.pow_add, ← Nat.pow_add]
  congr 1; omega
 have eY : q * 2 ^ (u - m1).toNat * N * S = q * (2 ^ k * N) * T := by
  have e1 : q * 2 ^ (u - m1).toNat * N * S = q * N * (2 ^ (u - m1).toNat * S) := by
   rw [Nat.mul_right_comm q, Nat.mul_assoc]
  have e2 : q * (2 ^ k * N) * T = q * N * (2 ^ k * T) := by
   rw [Nat.mul_comm (2 ^ k) N, ← Nat.mul_assoc, Nat.mul_assoc]
  rw [e1, e2, ev]
 rw [← hT]
 obtain ⟨Y, hY⟩ : ∃ Y, Y = q * 2 ^ (u - m1).toNat * N := ⟨_, rfl⟩
 rw [← hY] at eY ⊢
 obtain ⟨F, hF, hFS⟩ : ∃ F, (n * T = Y + F ∨ Y = n * T + F) ∧ F * S = E * T := by
  rcases hE with hE | hE
  ·have h3 : n * T * S = Y * S + E * T := by rw [eX, eY, hE, Nat.add_mul]
   have h4 : Y ≤ n * T := Nat.le_of_mul_le_mul_right (by omega : Y * S ≤ n * T * S) Sp
   refine ⟨n * T - Y, .inl (by omega), ?_⟩
   rw [Nat.sub_mul]; omega
  ·have h3 : Y * S = n * T * S + E * T := by rw [eX, eY, hE, Nat.add_mul]
   have h4 : n * T ≤ Y := Nat.le_of_mul_le_mul_right (by omega : n * T * S ≤ Y * S) Sp
   refine ⟨Y - n * T, .inr (by omega), ?_⟩
   rw [Nat.sub_mul]; omega
 refine ⟨F, hF, ?_⟩
 by_cases c : u = lo f
 ·right
  have h3 : 2 * F * S ≤ N * 2 ^ (lo f - m1).toNat * S := by
   rw [Nat.mul_assoc 2, hFS, ← c, Nat.mul_assoc N, ev, ← Nat.mul_assoc, ← Nat.mul_assoc]
   exact Nat.mul_le_mul_right T (by rw [Nat.mul_comm N]; exact hE2)
  exact Nat.le_of_mul_le_mul_right h3 Sp
 ·left
  have hn3 : 2 ^ fb f * (2 ^ k * N) ≤ P := by
   have h4 := zcp hx0
   have h5 : 2 ^ (k + fb f) ≤ 2 ^ (bl x - 1) := Nat.pow_le_pow_right (by omega) (by omega)
   have h6 : 2 ^ (k + fb f) * N ≤ x * N := Nat.mul_le_mul_right N (by omega)
   rw [Nat.pow_add, Nat.mul_comm (2 ^ k), Nat.mul_assoc] at h6
   omega
  have h7 := zjU hE hE2 hn3
  have h8 : (2 * 2 ^ fb f + 1) * F * S ≤ n * T * S := by
   rw [Nat.mul_assoc, hFS, ← Nat.mul_assoc, eX]
   exact Nat.mul_le_mul_right T h7
  exact Nat.le_of_mul_le_mul_right h8 Sp
theorem zmb {K U X1 X2 F1 F2 : Nat} (hK : K ≤ 9007199254740992) (hs : U * (K * 9223372036854775808) * (U * (K * 9223372036854775808)) ≤ X1 * X1 + X2 * X2) (h1 : (K + 1) * F1 ≤ X1 ∨ 2 * F1 ≤ U) (h2 : (K + 1) * F2 ≤ X2 ∨ 2 * F2 ≤ U) :
  (F1 * F1 + F2 * F2) * (K * K) ≤ X1 * X1 + X2 * X2 := by
 have sm : ∀ {F : Nat}, 2 * F ≤ U → F * F * (K * K) * 340282366920938463463374607431768211456 ≤ X1 * X1 + X2 * X2 := by
  intro F hF
  have h3 : F * K * 18446744073709551616 ≤ U * (K * 9223372036854775808) := by
   have := Nat.mul_le_mul_right (K * 9223372036854775808) hF
   have e : 2 * F * (K * 9223372036854775808) = F * K * 18446744073709551616 := by
    rw [Nat.mul_assoc 2, ← Nat.mul_assoc F]; omega
   omega
  have h4 := Nat.mul_le_mul h3 h3
  have e2 : F * K * 18446744073709551616 * (F * K * 18446744073709551616) = F * F * (K * K) * 340282366920938463463374607431768211456 := by
   rw [Nat.mul_mul_mul_comm (F * K), Nat.mul_mul_mul_comm F K F K]
  rw [e2] at h4
  exact Nat.le_trans h4 hs
 have no : ∀ {F X : Nat}, (K + 1) * F ≤ X → F * F * (K * K) + F * F * (2 * K + 1) ≤ X * X := by
  intro F X hF
  have h4 := Nat.mul_le_mul hF hF
  have e2 : (K + 1) * F * ((K + 1) * F) = F * F * (K * K) + F * F * (2 * K + 1) := by
   rw [Nat.mul_mul_mul_comm, Nat.mul_comm, ← Nat.mul_add]
   congr 1
   rw [Nat.add_mul, Nat.mul_add]; omega
  omega
 have cross : ∀ {F : Nat}, 2 * (F * F * (K * K)) ≤ F * F * (2 * K + 1) * 9007199254740992 := by
  intro F
  have h4 : F * F * (2 * K + 1) * K ≤ F * F * (2 * K + 1) * 9007199254740992 := Nat.mul_le_mul_left _ hK
  have e2 : F * F * (2 * K + 1) * K = 2 * (F * F * (K * K)) + F * F * K := by
   rw [Nat.mul_assoc (F * F), Nat.add_mul, Nat.one_mul, Nat.mul_add, Nat.mul_assoc 2, Nat.mul_left_comm (F * F) 2]
  omega
 rw [Nat.add_mul]
 rcases h1 with h1 | h1
 ·rcases h2 with h2 | h2
  ·have a1 := no h1
   have a2 := no h2
   omega
  ·have a1 := no h1
   have a2 := sm h2
   have a3 := cross (F := F1)
   have a4 : 0 ≤ X2 * X2 := Nat.zero_le _
   omega
 ·rcases h2 with h2 | h2
  ·have a1 := no h2
   have a2 := sm h1
   have a3 := cross (F := F2)
   omega
  ·have a1 := sm h1
   have a2 := sm h2
   omega
theorem zgJ {p q : Int × Int} {M : Int} (h1 : M ≤ p.2) (h2 : M ≤ q.2) : al (zr p q).1 (zr p q).2 M = al p.1 p.2 M + al q.1 q.2 M := by
 show al (al p.1 p.2 (min p.2 q.2) + al q.1 q.2 (min p.2 q.2)) (min p.2 q.2) M = _
 rw [zgG, zdA (by omega) (by omega), zdA (by omega) (by omega)]
theorem zdY {p q : Int × Int} {M M' : Int} (h1 : M ≤ p.2) (h2 : M' ≤ q.2) : al (zn p q).1 (zn p q).2 (M + M') = al p.1 p.2 M * al q.1 q.2 M' := by
 show p.1 * q.1 * 2 ^ (p.2 + q.2 - (M + M')).toNat = p.1 * 2 ^ (p.2 - M).toNat * (q.1 * 2 ^ (q.2 - M').toNat)
 rw [show (p.2 + q.2 - (M + M')).toNat = (p.2 - M).toNat + (q.2 - M').toNat by omega, Int.pow_add, Int.mul_assoc, Int.mul_assoc, Int.mul_left_comm q.1]
theorem zgK {p q : Int × Int} {M : Int} (h1 : M ≤ p.2) (h2 : M ≤ q.2) : al (sqN p q).1 (sqN p q).2 (M + M) = al p.1 p.2 M * al p.1 p.2 M + al q.1 q.2 M * al q.1 q.2 M := by
 unfold sqN
 rw [zgJ (by show M + M ≤ p.2 + p.2; omega) (by show M + M ≤ q.2 + q.2; omega), zdY h1 h1, zdY h2 h2]
theorem zi9 {p : Int × Int} {M : Int} {n : Nat} (h : M ≤ p.2) : al (nsh p (n : Int)).1 (nsh p (n : Int)).2 M = al p.1 p.2 M * 2 ^ n := by
 show p.1 * 2 ^ (p.2 + (n : Int) - M).toNat = p.1 * 2 ^ (p.2 - M).toNat * 2 ^ n
 rw [show (p.2 + (n : Int) - M).toNat = (p.2 - M).toNat + n by omega, Int.pow_add, Int.mul_assoc]
theorem zkk {A B : Int × Int} {M : Int} (h1 : M ≤ A.2) (h2 : M ≤ B.2) (h : al A.1 A.2 M ≤ al B.1 B.2 M) : zed A B 1 = true := by
 have e1 : (nnB 1 B).1 = B.1 := by show ((1 : Nat) : Int) * ((1 : Nat) : Int) * B.1 = B.1; omega
 have e2 : (nnB 1 B).2 = B.2 := by show (0 : Int) + 0 + B.2 = B.2; omega
 unfold zed
 rw [decide_eq_true_iff, e1, e2, ← zd0 h1 h2]
 rcases zaZ (al A.1 A.2 M - al B.1 B.2 M) with ⟨_, k⟩ | ⟨_, k⟩ | ⟨k1, k⟩ <;> rw [k] <;> omega
theorem zjz {A B : Int × Int} {M : Int} (h1 : M ≤ A.2) (h2 : M ≤ B.2) (h : zp A.1 A.2 B.1 B.2 ≥ 0) : al B.1 B.2 M ≤ al A.1 A.2 M := by
 rw [← zd0 h1 h2] at h
 rcases zaZ (al A.1 A.2 M - al B.1 B.2 M) with ⟨_, k⟩ | ⟨_, k⟩ | ⟨k1, k⟩ <;> rw [k] at h <;> omega
theorem zfC (f : Int) (w : Nat) : lo f ≤ wex f w := by
 unfold wex
 split <;> omega
theorem zl5 (s : Bool) {X Y F : Nat} (h : X = Y + F ∨ Y = X + F) : (sv s Y + -(sv s X)) * (sv s Y + -(sv s X)) = ((F * F : Nat) : Int) := by
 have e : sv s Y + -(sv s X) = (F : Int) ∨ sv s Y + -(sv s X) = -(F : Int) := by
  unfold sv
  cases s
  ·simp only [Bool.false_eq_true, if_false]
   omega
  ·simp only [if_true]
   omega
 rcases e with e | e
 ·rw [e, Int.natCast_mul]
 ·rw [e, Int.neg_mul_neg, Int.natCast_mul]
theorem zl4 (s : Bool) (X : Nat) : sv s X * sv s X = ((X * X : Nat) : Int) := by
 unfold sv
 cases s
 ·simp
 ·simp only [if_true]
  rw [Int.neg_mul_neg, Int.natCast_mul]
def Rnd (f : Int) (re den : Int × Int) (w : Nat) : Prop :=
 (re.1 = 0 ∧ w < 2 * sg f ∧ cls f w < 4 ∧ zv f w = 0) ∨ (∃ (s : Bool) (n N : Nat), re.1 = sv s n ∧ n ≠ 0 ∧ den.1 = (N : Int) ∧ N ≠ 0 ∧ (rq f 1 s n N (re.2 - den.2)).1 = (w : Int))
theorem zeH {f : Int} (h : isF f) {re den : Int × Int} {N : Nat} (hd : den.1 = (N : Int)) {w : Nat} (hr : Rnd f re den w) (hc : cls f w < 4) :
  w < 2 * sg f ∧ ∀ m1 : Int, m1 ≤ lo f → m1 ≤ re.2 - den.2 → ∃ F X : Nat, al (zr (zn (vN f w) den) (zZ re)).1 (zr (zn (vN f w) den) (zZ re)).2 (m1 + den.2) * al (zr (zn (vN f w) den) (zZ re)).1 (zr (zn (vN f w) den) (zZ re)).2 (m1 + den.2) = ((F * F : Nat) : Int) ∧
   al re.1 re.2 (m1 + den.2) * al re.1 re.2 (m1 + den.2) = ((X * X : Nat) : Int) ∧ ((2 * 2 ^ fb f + 1) * F ≤ X ∨ 2 * F ≤ N * 2 ^ (lo f - m1).toNat) := by
 have hlw := zfC f w
 have ed : al den.1 den.2 den.2 = den.1 := zeE _ _
 have split : ∀ m1 : Int, m1 ≤ lo f → m1 ≤ re.2 - den.2 → al (zr (zn (vN f w) den) (zZ re)).1 (zr (zn (vN f w) den) (zZ re)).2 (m1 + den.2) = al (zv f w) (wex f w) m1 * den.1 + -(al re.1 re.2 (m1 + den.2)) := by
  intro m1 h1 h2
  rw [zgJ (by show m1 + den.2 ≤ wex f w + den.2; omega) (by show m1 + den.2 ≤ re.2; omega), zdY (M := m1) (M' := den.2) (by show m1 ≤ wex f w; omega) (by omega), ed]
  show al (zv f w) (wex f w) m1 * den.1 + al (-re.1) re.2 (m1 + den.2) = _
  rw [zfl]
 rcases hr with ⟨h0, hw, _, hz⟩ | ⟨s, n, N', e1, hn, e2, hN, hq⟩
 ·refine ⟨hw, fun m1 h1 h2 => ⟨0, 0, ?_, ?_, .inl (by omega)⟩⟩
  ·rw [split m1 h1 h2, hz, h0, zco, zco, Int.zero_mul]; rfl
  ·rw [h0, zco]; rfl
 ·have eN : N' = N := by rw [hd] at e2; exact (Int.ofNat.inj e2).symm
  subst eN
  obtain ⟨hw, q, u, hu, hv, hall⟩ := zk0 h s hn hN (re.2 - den.2) hq hc
  refine ⟨hw, fun m1 h1 h2 => ?_⟩
  obtain ⟨F, hF, hb⟩ := hall m1 h1 h2
  refine ⟨F, n * 2 ^ (re.2 - den.2 - m1).toNat, ?_, ?_, hb⟩
  ·have ev : al (zv f w) (wex f w) m1 = sv s (q * 2 ^ (u - m1).toNat) := by
    rw [(zhn (m := m1) (by omega) (by omega)).1 hv, za1]
   have ea : al re.1 re.2 (m1 + den.2) = sv s (n * 2 ^ (re.2 - den.2 - m1).toNat) := by
    rw [e1, za1, show re.2 - (m1 + den.2) = re.2 - den.2 - m1 by omega]
   have em : sv s (q * 2 ^ (u - m1).toNat) * den.1 = sv s (q * 2 ^ (u - m1).toNat * N') := by
    rw [hd]
    unfold sv
    split
    ·rw [Int.neg_mul, Int.natCast_mul (q * 2 ^ (u - m1).toNat)]
    ·rw [Int.natCast_mul (q * 2 ^ (u - m1).toNat)]
   rw [split m1 h1 h2, ev, ea, em]
   exact zl5 s hF
  ·rw [e1, za1, show re.2 - (m1 + den.2) = re.2 - den.2 - m1 by omega]
   exact zl4 s _
theorem zk6 {f : Int} (h : isF f) : 2 * 2 ^ fb f ≤ 9007199254740992 := by rcases h with rfl | rfl <;> decide
theorem zmr {f : Int} (h : isF f) {re im den : Int × Int} {N : Nat} (hd : den.1 = (N : Int)) {a b : Nat} (ha : Rnd f re den a) (hb : Rnd f im den b) (ca : cls f a < 4) (cb : cls f b < 4) (hs : ze6 f re im den = true) :
  zed (zbP f a b re im den) (sqN re im) 1 = true := by
 obtain ⟨_, A⟩ := zeH h hd ha ca
 obtain ⟨_, B⟩ := zeH h hd hb cb
 have hfb := zd9 h
 obtain ⟨m1, h1, h2, h3⟩ : ∃ m1 : Int, m1 ≤ lo f ∧ m1 ≤ re.2 - den.2 ∧ m1 ≤ im.2 - den.2 := ⟨min (lo f) (min (re.2 - den.2) (im.2 - den.2)), by omega, by omega, by omega⟩
 obtain ⟨F1, X1, a1, a2, a3⟩ := A m1 h1 h2
 obtain ⟨F2, X2, b1, b2, b3⟩ := B m1 h1 h3
 have la := zfC f a
 have lb := zfC f b
 obtain ⟨M, hM⟩ : ∃ M, M = m1 + den.2 := ⟨_, rfl⟩
 rw [← hM] at a1 a2 b1 b2
 have p1 : M ≤ (zr (zn (vN f a) den) (zZ re)).2 := by show M ≤ min (wex f a + den.2) re.2; omega
 have p2 : M ≤ (zr (zn (vN f b) den) (zZ im)).2 := by show M ≤ min (wex f b + den.2) im.2; omega
 have r1 : M ≤ re.2 := by omega
 have r2 : M ≤ im.2 := by omega
 have q1 : M + M ≤ (sqN (zr (zn (vN f a) den) (zZ re)) (zr (zn (vN f b) den) (zZ im))).2 := by
  show M + M ≤ min ((zr (zn (vN f a) den) (zZ re)).2 + (zr (zn (vN f a) den) (zZ re)).2) ((zr (zn (vN f b) den) (zZ im)).2 + (zr (zn (vN f b) den) (zZ im)).2)
  omega
 have q2 : M + M ≤ (sqN re im).2 := by show M + M ≤ min (re.2 + re.2) (im.2 + im.2); omega
 have eB : al (sqN re im).1 (sqN re im).2 (M + M) = ((X1 * X1 + X2 * X2 : Nat) : Int) := by
  rw [zgK r1 r2, a2, b2, Int.natCast_add]
 have eA : al (zbP f a b re im den).1 (zbP f a b re im den).2 (M + M) = (((F1 * F1 + F2 * F2) * (2 * 2 ^ fb f * (2 * 2 ^ fb f)) : Nat) : Int) := by
  unfold zbP
  have e : (2 * ((fb f + 1 : Nat) : Int)) = ((2 * (fb f + 1) : Nat) : Int) := by omega
  rw [e, zi9 q1, zgK p1 p2, a1, b1, ← Int.natCast_add, Int.natCast_mul (F1 * F1 + F2 * F2)]
  congr 1
  have e2 : 2 * 2 ^ fb f * (2 * 2 ^ fb f) = 2 ^ (2 * (fb f + 1)) := by
   rw [Nat.mul_comm 2 (2 ^ fb f), ← Nat.pow_succ, ← Nat.pow_add]; congr 1; omega
  rw [e2, Int.natCast_pow]; rfl
 refine zkk (M := M + M) (by show M + M ≤ _ + 2 * ((fb f + 1 : Nat) : Int); omega) q2 ?_
 rw [eA, eB]
 refine Int.ofNat_le.2 (zmb (U := N * 2 ^ (lo f - m1).toNat) (zk6 h) ?_ a3 b3)
 unfold ze6 at hs
 rw [decide_eq_true_iff] at hs
 have hge := zjz (M := M + M) q2 (by show M + M ≤ lo f + ((fb f + 64 : Nat) : Int) + den.2 + (lo f + ((fb f + 64 : Nat) : Int) + den.2); omega) hs
 have l1 : M ≤ (zn ((1 : Int), lo f + ((fb f + 64 : Nat) : Int)) den).2 := by show M ≤ lo f + ((fb f + 64 : Nat) : Int) + den.2; omega
 rw [zdY l1 l1, eB] at hge
 have eL : al (zn ((1 : Int), lo f + ((fb f + 64 : Nat) : Int)) den).1 (zn ((1 : Int), lo f + ((fb f + 64 : Nat) : Int)) den).2 M = ((N * 2 ^ (lo f - m1).toNat * (2 * 2 ^ fb f * 9223372036854775808) : Nat) : Int) := by
  rw [hM, zdY (M := m1) (M' := den.2) (by show m1 ≤ lo f + ((fb f + 64 : Nat) : Int); omega) (by omega), zeE, hd]
  show (1 : Int) * 2 ^ (lo f + ((fb f + 64 : Nat) : Int) - m1).toNat * (N : Int) = _
  have e3 : 2 ^ (lo f - m1).toNat * (2 * 2 ^ fb f * 9223372036854775808) = 2 ^ (lo f + ((fb f + 64 : Nat) : Int) - m1).toNat := by
   have e4 : 2 * 2 ^ fb f * 9223372036854775808 = 2 ^ (fb f + 64) := by rw [Nat.pow_add]; omega
   rw [e4, ← Nat.pow_add]; congr 1; omega
  rw [Nat.mul_assoc N, e3, Int.one_mul, Int.natCast_mul, Int.mul_comm, Int.natCast_pow]; rfl
 rw [eL, ← Int.natCast_mul] at hge
 exact Int.ofNat_le.1 hge
theorem zfE {s : Bool} {l : List Int} {e : Int} (h : My s l e) : zdm s l e = true := by
 unfold zdm
 rw [zaT.2 ⟨h.len, h.dy.nm⟩, Bool.true_and]
 by_cases c : l = []
 ·obtain ⟨h1, h2⟩ := h.dy.none c
  rw [if_pos c, h1, h2]; rfl
 ·rw [if_neg c, decide_eq_true (h.dy.odd c), decide_eq_true (⟨h.lo, h.hi⟩ : -16777216 ≤ e ∧ e ≤ 16777216)]; rfl
theorem ze7 {p : Int × Int} (h : Wx (-6000) 6500 p) : (mkN p).2.1.length ≤ 400 ∧ -20000 ≤ (mkN p).2.2 ∧ (mkN p).2.2 ≤ 20000 := by
 have h1 := h.lo
 have h2 := h.hi
 have h3 := zbQ p.1 p.2
 have h4 := zaq p.1 p.2
 have e : (mkN p).2.2 = me p.1 p.2 := rfl
 refine ⟨?_, by omega, by omega⟩
 show (mk p.1 p.2).2.1.length ≤ 400
 omega
theorem zgd {p : Int × Int} (h : Wx (-6000) 6500 p) : In (mkN p) := ⟨(zH p.1 p.2).nm.dg, Nat.le_trans (ze7 h).1 (by omega)⟩
theorem zio {f : Int} (h : isF f) {a b : Nat} (wa : a < 2 * sg f) (wb : b < 2 * sg f) (hf : zw f a b) {re im den : Int × Int} (hr : Wx (-6000) 6500 re) (hi : Wx (-6000) 6500 im) (hd : Wx (-6000) 6500 den) (hn : den.1 ≠ 0) : Ok f a b re im den := by
 have m1 : zI (mkN re) = true := zfE (hr.my (by omega) (by omega) (by omega))
 have m2 : zI (mkN im) = true := zfE (hi.my (by omega) (by omega) (by omega))
 have m3 : zI (mkN den) = true := zfE (hd.my (by omega) (by omega) (by omega))
 have hne : (mkN den).2.1 ≠ [] := by
  intro hc
  obtain ⟨j, j1, j2, j3, j4⟩ := zcF hn den.2
  exact j4 (by show V (mkN den).2.1 = 0; rw [hc]; rfl)
 refine ⟨h, wa, wb, hf, hr.mono (by omega) (by omega), hi.mono (by omega) (by omega), hd.mono (by omega) (by omega), hn, zgd hr, zgd hi, zgd hd, ?_⟩
 unfold zbI
 rw [if_neg (fun hh => hh ⟨wa, wb⟩), if_neg (fun hh => hh ⟨m1, m2, m3, by omega⟩), if_neg hne, if_neg (fun hh => hh hf), if_pos ⟨ze7 hr, ze7 hi, ze7 hd⟩]
theorem zlW {f : Int} (h : isF f) (m : Int) {a b c d : Nat} (h1 : zw f a b) (h2 : zw f c d) : Ev (fun k => zaG.f k f m (a : Int) (b : Int) (c : Int) (d : Int)) (0, 0, 0, 0, false) := by
 unfold zaG.f
 exact zi (zem h a b) (zi (zem h c d) (zi (zdR h a b) (ze (decide_eq_true h1) (zi (zdR h c d) (ze (decide_eq_true h2) (Ev.now _))))))
theorem zlV {f : Int} (h : isF f) (m : Int) {a b c d : Nat} (h1 : zw f a b) (h2 : pcl f c d = 2) : Ev (fun k => zah.f k f m (a : Int) (b : Int) (c : Int) (d : Int)) (0, 0, 0, 0, false) := by
 unfold zah.f
 exact zi (zem h a b) (zi (zem h c d) (zi (zdR h a b) (ze (decide_eq_true h1) (ze h2 (Ev.now _)))))
def tm (p : Int × Int) (s : Bool) : Bool × List Int × Int × Bool := ((mkN p).1, (mkN p).2.1, (mkN p).2.2, s)
theorem zl1 (m : Int) (L : List (Bool × List Int × Int × Bool)) (hL : L.length = 2) (u v w : _) (p : Int × Int) (x : Bool) : ∃ s, Ev (fun k => zR.l0 k m L u v w (mkN p).1 (mkN p).2.1 (mkN p).2.2 x 2) ((mkN p).1, (mkN p).2.1, (mkN p).2.2, s) := by
 cases x
 ·refine ⟨decide (m = 5), ?_⟩
  refine zh ?_; simp only [zR.l0]
  exact zf (by omega) (zf (by simp) (Ev.now _))
 ·refine ⟨(rdT [.b, .is .u32, .i .i64, .b] L 0).2.2.2, ?_⟩
  refine zh ?_; simp only [zR.l0]
  exact zf (by omega) (ze trivial (ze (by omega) (Ev.now _)))
theorem zis (m : Int) {L : List (Bool × List Int × Int × Bool)} {i : Int} (hi : 0 ≤ i) (hi2 : i < (L.length : Int)) (h0 : 0 < (L.length : Int)) {q : Int × Int} {sq : Bool} (hq : rdT [.b, .is .u32, .i .i64, .b] L i = tm q sq) (u v w : _) {p : Int × Int} (rp : Rg p.1 p.2) (rq : Rg q.1 q.2) {F : Bool → Int × Int} (x : Bool)
  (k : ∀ y : Bool, ∃ s, Ev (fun k => zR.l0 k m L u v w (mkN (zr p q)).1 (mkN (zr p q)).2.1 (mkN (zr p q)).2.2 y (wrap64 (i + 1))) ((mkN (F x)).1, (mkN (F x)).2.1, (mkN (F x)).2.2, s)) :
  ∃ s, Ev (fun k => zR.l0 k m L u v w (mkN p).1 (mkN p).2.1 (mkN p).2.2 x i) ((mkN (F x)).1, (mkN (F x)).2.1, (mkN (F x)).2.2, s) := by
 have sg : z7.f (mkN q).1 (mkN q).2.1 (mkN q).2.2 = some q.1.sign := zfV q.1 q.2
 cases x
 ·obtain ⟨s, hs⟩ := k false
  refine ⟨s, ?_⟩
  refine zh ?_; simp only [zR.l0]
  rw [hq]
  exact ze hi2 (ze hi (ze hi2 (Ev.bind (ze1 rp rq) (zf (by simp) hs))))
 ·by_cases c : q.1.sign = 0
  ·obtain ⟨s, hs⟩ := k (decide (sq = (rdT [.b, .is .u32, .i .i64, .b] L 0).2.2.2))
   refine ⟨s, ?_⟩
   refine zh ?_; simp only [zR.l0]
   rw [hq]
   exact ze hi2 (ze hi (ze hi2 (Ev.bind (ze1 rp rq) (ze trivial (ze hi (ze hi2 (zi sg (ze c (ze hi (ze hi2 (ze h0 hs)))))))))))
  ·obtain ⟨s, hs⟩ := k false
   refine ⟨s, ?_⟩
   refine zh ?_; simp only [zR.l0]
   rw [hq]
   exact ze hi2 (ze hi (ze hi2 (Ev.bind (ze1 rp rq) (ze trivial (ze hi (ze hi2 (zi sg (zf c hs))))))))
theorem zkJ (p : Int × Int) : mkN (zr (0, 0) p) = mkN p := zdz 0 p.1 p.2
theorem zeZ (m : Int) {p q : Int × Int} (hp : Wx (-3000) 6300 p) (hq : Wx (-3000) 6300 q) (s t : Bool) : ∃ g, Ev (fun k => zR.f k m [tm p s, tm q t]) ((mkN (zr p q)).1, (mkN (zr p q)).2.1, (mkN (zr p q)).2.2, g) := by
 have w1 : wrap64 (0 + 1) = 1 := by unfold wrap64; omega
 have w2 : wrap64 (1 + 1) = 2 := by unfold wrap64; omega
 have r0 : Rg ((0, 0) : Int × Int).1 ((0, 0) : Int × Int).2 := ⟨by decide, by decide, by decide⟩
 have rp := hp.rg (by omega) (by omega)
 have rq := hq.rg (by omega) (by omega)
 unfold zR.f
 refine zis m (L := [tm p s, tm q t]) (i := 0) (by omega) (by simp) (by simp) (q := p) (sq := s) rfl false [] 0 (p := (0, 0)) r0 rp (F := fun _ => zr p q) true (fun y => ?_)
 rw [w1, zkJ]
 refine zis m (L := [tm p s, tm q t]) (i := 1) (by omega) (by simp) (by simp) (q := q) (sq := t) rfl false [] 0 (p := p) rp rq (F := fun _ => zr p q) y (fun y => ?_)
 rw [w2]
 exact zl1 m _ rfl _ _ _ _ y
theorem zeX {f : Int} (h : isF f) {p den : Int × Int} (hp : Wx (-6000) 6500 p) (hd : Wx (-6000) 6500 den) (d0 : 0 < den.1) (g : Bool) : ∃ (w : Nat) (x : Int), Ev (fun k => zbN.f k f 1 (mkN p).1 (mkN p).2.1 (mkN p).2.2 g (mkN den).1 (mkN den).2.1 (mkN den).2.2) ((w : Int), x) ∧ Rnd f p den w := by
 have sg : z7.f (mkN p).1 (mkN p).2.1 (mkN p).2.2 = some p.1.sign := zfV p.1 p.2
 by_cases c : p.1 = 0
 ·refine ⟨sgn f g, 0, ?_, .inl ⟨c, (zgn h g).2.1, by rw [(zgn h g).1]; omega, ?_⟩⟩
  ·have hs : zab.f f 0 g = some ((sgn f g : Nat) : Int) := by
    rcases h with rfl | rfl <;> cases g <;> rfl
   unfold zbN.f
   exact zi sg (ze (by rw [c]; rfl) (zi hs (Ev.now _)))
  ·unfold zv
   rw [ziU h, zW]
 ·have m1 : isM 1 := ⟨by omega, by omega⟩
  have d1 : den.1 ≠ 0 := by omega
  have hl := hp.lo
  have hh := hp.hi
  have kl := hd.lo
  have kh := hd.hi
  obtain ⟨j, j1, j2, j3, j4⟩ := zcF c p.2
  obtain ⟨i, i1, i2, i3, i4⟩ := zcF d1 den.2
  have v1 := zex p.1 p.2
  have v2 := zex den.1 den.2
  have n1 := zaq p.1 p.2
  have n2 := zaq den.1 den.2
  have t1 : (mk p.1 p.2).2.2 = me p.1 p.2 := rfl
  have t2 : (mk den.1 den.2).2.2 = me den.1 den.2 := rfl
  have hq := zlp h m1 (zH p.1 p.2) (zH den.1 den.2) j4 i4 (by omega) (by omega) (by omega) (by omega) (by omega) (by omega)
  have hsg : decide (¬ (mk p.1 p.2).1 = (mk den.1 den.2).1) = decide (p.1 < 0) := by
   rw [j3, i3, decide_eq_false (show ¬ den.1 < 0 by omega)]
   cases decide (p.1 < 0) <;> rfl
  rw [hsg] at hq
  have en : p.1.natAbs ≠ 0 := by omega
  have eN : den.1.natAbs ≠ 0 := by omega
  have hpt := zla (m := 1) h (decide (p.1 < 0)) (n := p.1.natAbs) (N := den.1.natAbs) (e := p.2) (e' := den.2) en eN
  have e1 : sv (decide (p.1 < 0)) p.1.natAbs = p.1 := zep p.1
  have e2 : (den.1.natAbs : Int) = den.1 := by omega
  rw [e1, e2] at hpt
  rw [hpt] at hq
  have hw : ∃ w : Nat, (rq f 1 (decide (p.1 < 0)) p.1.natAbs den.1.natAbs (p.2 - den.2)).1 = (w : Int) := by
   unfold rq zam
   dsimp only
   split
   ·exact ⟨_, rfl⟩
   ·exact ⟨_, rfl⟩
  obtain ⟨w, hw⟩ := hw
  refine ⟨w, (rq f 1 (decide (p.1 < 0)) p.1.natAbs den.1.natAbs (p.2 - den.2)).2, ?_, .inr ⟨decide (p.1 < 0), p.1.natAbs, den.1.natAbs, e1.symm, en, e2.symm, eN, hw⟩⟩
  have hs0 : p.1.sign ≠ 0 := by
   rcases zaZ p.1 with ⟨_, k⟩ | ⟨k, _⟩ | ⟨_, k⟩ <;> omega
  rw [← hw]
  unfold zbN.f
  exact zi sg (zf hs0 (Ev.bind hq (Ev.now _)))
def zfL (f : Int) (a b c d : Nat) : Int × Int := zr (zn (vN f a) (vN f c)) (zZ (zn (vN f b) (vN f d)))
def zfK (f : Int) (a b c d : Nat) : Int × Int := zr (zn (vN f a) (vN f d)) (zn (vN f b) (vN f c))
def zfN (f : Int) (a b c d : Nat) : Int × Int := zr (zn (vN f a) (vN f c)) (zn (vN f b) (vN f d))
def zfM (f : Int) (a b c d : Nat) : Int × Int := zr (zn (vN f b) (vN f c)) (zZ (zn (vN f a) (vN f d)))
def zcL (f : Int) (c d : Nat) : Int × Int := sqN (vN f c) (vN f d)
theorem zD {f : Int} (h : isF f) (a b : Nat) : Wx (-3000) 6300 (zn (vN f a) (vN f b)) := ((zdr h a).mul (zdr h b)).mono (by omega) (by omega)
theorem zfS : Ev (fun k => zaa.f k 1) (mkN (1, 0)) := zlu (by omega) (by omega)
theorem zfI : Wx (-6000) 6500 ((1, 0) : Int × Int) := ⟨by decide, by decide⟩
theorem zdS {f : Int} (h : isF f) (a b : Nat) : ∃ g, Ev (fun k => z8.f k f (a : Int) (b : Int) false) (tm (zn (vN f a) (vN f b)) g) := ⟨_, zie h a b false⟩
theorem zid {f : Int} (h : isF f) (a b : Nat) : ∃ g, Ev (fun k => z8.f k f (a : Int) (b : Int) true) (tm (zZ (zn (vN f a) (vN f b))) g) := ⟨_, zie h a b true⟩
theorem zle {f : Int} (h : isF f) {a b c d : Nat} (h1 : zw f a b) (h2 : zw f c d) : ∃ (u v : Nat) (x y : Int), Ev (fun k => zdb.f k f 1 (a : Int) (b : Int) (c : Int) (d : Int)) ((u : Int), (v : Int), x, y) ∧ Rnd f (zfL f a b c d) (1, 0) u ∧ Rnd f (zfK f a b c d) (1, 0) v := by
 obtain ⟨g1, t1⟩ := zdS h a c
 obtain ⟨g2, t2⟩ := zid h b d
 obtain ⟨g3, t3⟩ := zdS h a d
 obtain ⟨g4, t4⟩ := zdS h b c
 obtain ⟨s1, e1⟩ := zeZ 1 (zD h a c) (zD h b d).neg g1 g2
 obtain ⟨s2, e2⟩ := zeZ 1 (zD h a d) (zD h b c) g3 g4
 obtain ⟨u, x, hu, ru⟩ := zeX h (p := zfL f a b c d) (den := (1, 0)) (((zD h a c).add (zD h b d).neg).mono (by omega) (by omega)) zfI (by decide) s1
 obtain ⟨v, y, hv, rv⟩ := zeX h (p := zfK f a b c d) (den := (1, 0)) (((zD h a d).add (zD h b c)).mono (by omega) (by omega)) zfI (by decide) s2
 refine ⟨u, v, x, y, ?_, ru, rv⟩
 unfold zdb.f zd4.f
 exact Ev.bind (zlW h 1 h1 h2) (zf (by simp) (Ev.bind (Ev.bind t1 (Ev.bind t2 (Ev.bind t3 (Ev.bind t4 (Ev.now _))))) (Ev.bind zfS (Ev.bind e1 (Ev.bind e2 (Ev.bind hu (Ev.bind hv (Ev.now _))))))))
theorem zld {f : Int} (h : isF f) {a b c d : Nat} (h1 : zw f a b) (h2 : pcl f c d = 2) (hd : 0 < (zcL f c d).1) : ∃ (u v : Nat) (x y : Int), Ev (fun k => zda.f k f 1 (a : Int) (b : Int) (c : Int) (d : Int)) ((u : Int), (v : Int), x, y) ∧ Rnd f (zfN f a b c d) (zcL f c d) u ∧ Rnd f (zfM f a b c d) (zcL f c d) v := by
 obtain ⟨g1, t1⟩ := zdS h a c
 obtain ⟨g2, t2⟩ := zdS h b d
 obtain ⟨g3, t3⟩ := zdS h b c
 obtain ⟨g4, t4⟩ := zid h a d
 have wd : Wx (-6000) 6500 (zcL f c d) := ((zD h c c).add (zD h d d)).mono (by omega) (by omega)
 have rc := (zdr h c).rg (by omega) (by omega)
 have rd := (zdr h d).rg (by omega) (by omega)
 have m1 := zh2 rc rc
 have m2 := zh2 rd rd
 have m3 := ze1 ((zD h c c).rg (by omega) (by omega)) ((zD h d d).rg (by omega) (by omega))
 obtain ⟨s1, e1⟩ := zeZ 1 (zD h a c) (zD h b d) g1 g2
 obtain ⟨s2, e2⟩ := zeZ 1 (zD h b c) (zD h a d).neg g3 g4
 obtain ⟨u, x, hu, ru⟩ := zeX h (p := zfN f a b c d) (den := zcL f c d) (((zD h a c).add (zD h b d)).mono (by omega) (by omega)) wd hd s1
 obtain ⟨v, y, hv, rv⟩ := zeX h (p := zfM f a b c d) (den := zcL f c d) (((zD h b c).add (zD h a d).neg).mono (by omega) (by omega)) wd hd s2
 refine ⟨u, v, x, y, ?_, ru, rv⟩
 unfold zda.f zd5.f
 exact Ev.bind (zlV h 1 h1 h2) (zf (by simp) (Ev.bind (Ev.bind (zhQ h c) (Ev.bind (zhQ h d) (Ev.bind t1 (Ev.bind t2 (Ev.bind t3 (Ev.bind t4 (Ev.bind m1 (Ev.bind m2 (Ev.bind m3 (Ev.now _)))))))))) (Ev.bind e1 (Ev.bind e2 (Ev.bind hu (Ev.bind hv (Ev.now _)))))))
theorem ziV {f : Int} (h : isF f) {w : Nat} (hc : cls f w < 4) (hz : zv f w = 0) : cls f w = 1 := by
 by_cases c : cls f w = 1
 ·exact c
 ·have := zjt h c hc
  exact absurd (zbb.1 hz) this
theorem zk7 {f : Int} (h : isF f) {c d : Nat} (hf : zw f c d) (h1 : pcl f c d ≠ 1) : 0 < (zcL f c d).1 := by
 have h0 := zlY (vN f c) (vN f d)
 by_cases hz : (sqN (vN f c) (vN f d)).1 = 0
 ·exfalso
  obtain ⟨z1, z2⟩ := zlZ hz
  have c1 := ziV h hf.1 z1
  have c2 := ziV h hf.2 z2
  apply h1
  unfold pcl
  rw [c1, c2]
  rfl
 ·show 0 < (sqN (vN f c) (vN f d)).1
  omega
theorem zk1 {f : Int} {c d : Nat} (hf : zw f c d) (h1 : pcl f c d ≠ 1) : pcl f c d = 2 := by
 obtain ⟨h2, h3⟩ := hf
 unfold pcl at h1 ⊢
 rw [if_neg (by omega), if_neg (by omega)] at h1 ⊢
 split at h1
 ·exact absurd rfl h1
 ·rename_i hh; rw [if_neg hh]
theorem zhb {f : Int} (h : isF f) {re im den : Int × Int} (hr : Wx (-6000) 6500 re) (hi : Wx (-6000) 6500 im) (hd : Wx (-6000) 6500 den) (d0 : 0 < den.1) {u v : Nat} (ru : Rnd f re den u) (rv : Rnd f im den v) (x y : Int) :
  Ev (fun k => zaN.j2 k f (mkN re).1 (mkN re).2.1 (mkN re).2.2 (mkN im).1 (mkN im).2.1 (mkN im).2.2 0 (mkN den).1 (mkN den).2.1 (mkN den).2.2 (u : Int) (v : Int) x y) true := by
 have z0 : cls f 0 = 1 := by rcases h with rfl | rfl <;> rfl
 have w0 : 0 < 2 * sg f := by rcases h with rfl | rfl <;> decide
 have o0 := zio h w0 w0 (⟨by rw [z0]; omega, by rw [z0]; omega⟩ : zw f 0 0) hr hi hd (by omega)
 have hs := zj9 h o0.ix o0.iy o0.iz o0.gr o0.gi o0.gd o0.ask
 refine zh ?_; simp only [zaN.j2]
 refine Ev.bind hs (zf (by simp) (zf (by simp) ?_))
 cases hsf : ze6 f re im den with
 | false => exact ze rfl (Ev.bind zcB (Ev.now _))
 | true =>
  refine zf (by simp) (zi (zdR h u v) ?_)
  by_cases hf : zw f u v
  rotate_left
  ·exact ze (by simpa using hf) (Ev.bind zcB (Ev.now _))
  refine zf (by simpa using hf) ?_
  have eN : den.1 = ((den.1.natAbs : Nat) : Int) := by omega
  have wu := (zeH h eN ru hf.1).1
  have wv := (zeH h eN rv hf.2).1
  have o := zio h wu wv hf hr hi hd (by omega)
  have hw := zka o (n := 1) (by omega)
  rw [zmr h eN ru rv hf.1 hf.2 hsf] at hw
  exact Ev.bind hw (ze rfl (ze rfl (Ev.bind zcB (Ev.now _))))
theorem ziZ {f : Int} (h : isF f) {a b c d : Nat} (ha : a < 18446744073709551616) (hb : b < 18446744073709551616) (hc : c < 18446744073709551616) (hd : d < 18446744073709551616) (q : Bool) : Ev (fun k => zaN.f k f (a : Int) (b : Int) (c : Int) (d : Int) q) true := by
 have hg := zlL h [(a, b), (c, d)] (by simp) (fun p hp => by
  rcases List.mem_cons.1 hp with rfl | hp
  ·exact ⟨ha, hb⟩
  ·rw [List.mem_singleton.1 hp]; exact ⟨hc, hd⟩)
 unfold zaN.f
 by_cases hw : ∀ p ∈ [(a, b), (c, d)], p.1 < 2 * sg f ∧ p.2 < 2 * sg f
 rotate_left
 ·rw [if_neg hw] at hg
  exact Ev.bind hg (ze (by simp) (Ev.bind zcB (Ev.now _)))
 rw [if_pos hw] at hg
 refine Ev.bind hg (zf (by simp) (zi (zdR h a b) ?_))
 by_cases f1 : zw f a b
 rotate_left
 ·exact ze (by simpa using f1) (Ev.bind zcB (Ev.now _))
 refine zf (by simpa using f1) (zi (zdR h c d) ?_)
 by_cases f2 : zw f c d
 rotate_left
 ·exact ze (by simpa using f2) (Ev.bind zcB (Ev.now _))
 refine zf (by simpa using f2) ?_
 have hf : ∀ p ∈ [(a, b), (c, d)], zw f p.1 p.2 := fun p hp => by
  rcases List.mem_cons.1 hp with rfl | hp
  ·exact f1
  ·rw [List.mem_singleton.1 hp]; exact f2
 have gp := zj7 h hw hf
 obtain ⟨u, v, x, y, hm, ru, rv⟩ := zle h f1 f2
 have w1 : Wx (-6000) 6500 (zfL f a b c d) := ((zD h a c).add (zD h b d).neg).mono (by omega) (by omega)
 have w2 : Wx (-6000) 6500 (zfK f a b c d) := ((zD h a d).add (zD h b c)).mono (by omega) (by omega)
 cases q with
 | false =>
  exact zf (by simp) (Ev.bind gp (Ev.bind zfS (Ev.bind hm (zf (by simp) (zhb h w1 w2 zfI (by decide) ru rv x y)))))
 | true =>
  refine ze rfl (zi (zem h c d) ?_)
  by_cases h1 : pcl f c d = 1
  ·exact ze h1 (Ev.bind zcB (Ev.now _))
  refine zf h1 ?_
  have gq := zj8 h hw hf h1
  have d0 := zk7 h f2 h1
  obtain ⟨u', v', x', y', hm', ru', rv'⟩ := zld h f1 (zk1 f2 h1) d0
  have w3 : Wx (-6000) 6500 (zfN f a b c d) := ((zD h a c).add (zD h b d)).mono (by omega) (by omega)
  have w4 : Wx (-6000) 6500 (zfM f a b c d) := ((zD h b c).add (zD h a d).neg).mono (by omega) (by omega)
  have w5 : Wx (-6000) 6500 (zcL f c d) := ((zD h c c).add (zD h d d)).mono (by omega) (by omega)
  exact Ev.bind gp (Ev.bind zfS (Ev.bind hm (ze rfl (Ev.bind gq (Ev.bind hm' (zhb h w3 w4 w5 d0 ru' rv' x' y'))))))
theorem ziY (f a b c d : Int) (ha : IntKind.u64.min ≤ a ∧ a ≤ IntKind.u64.max) (hb : IntKind.u64.min ≤ b ∧ b ≤ IntKind.u64.max) (hc : IntKind.u64.min ≤ c ∧ c ≤ IntKind.u64.max) (hd : IntKind.u64.min ≤ d ∧ d ≤ IntKind.u64.max) (q : Bool) : Ev (fun k => zaN.f k f a b c d q) true := by
 have e1 : IntKind.u64.min = 0 := rfl
 have e2 : IntKind.u64.max = 18446744073709551615 := rfl
 rw [e1, e2] at ha hb hc hd
 obtain ⟨a, rfl⟩ := Int.eq_ofNat_of_zero_le ha.1
 obtain ⟨b, rfl⟩ := Int.eq_ofNat_of_zero_le hb.1
 obtain ⟨c, rfl⟩ := Int.eq_ofNat_of_zero_le hc.1
 obtain ⟨d, rfl⟩ := Int.eq_ofNat_of_zero_le hd.1
 by_cases h : isF f
 ·exact ziZ h (by omega) (by omega) (by omega) (by omega) q
 ·have hg := zlK h [((a : Int), (b : Int)), ((c : Int), (d : Int))]
  unfold zaN.f
  exact Ev.bind hg (ze (by simp) (Ev.bind zcB (Ev.now _)))
end Go.Proofs.YtioialhbjmnndaaGreatDoor.Eng.K
