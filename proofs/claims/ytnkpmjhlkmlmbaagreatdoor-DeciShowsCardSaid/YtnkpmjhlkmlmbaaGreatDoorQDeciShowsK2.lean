import Derived.Test.YtnkpmjhlkmlmbaaGreatDoorQDeciShowsK1
set_option linter.unusedVariables false
set_option linter.unusedSimpArgs false
namespace Go.Proofs.YtnkpmjhlkmlmbaaGreatDoor.Eng.K
open Go.RowKit Go.Proofs.YtnkpmjhlkmlmbaaGreatDoor.Eng
theorem zgr (a : List UInt8) (d : UInt8) : bt (bx (a ++ [d])) (a.length : Int) = (d.toNat : Int) := zd5 (s := bx (a ++ [d])) (A := a) (B := []) (b := d) (by rw [zbf])
theorem zh3 (a : List UInt8) (d : UInt8) : (a ++ [d]).take a.length = a := by simp
theorem zfo {d e : UInt8} (h : d ≠ e) : (d.toNat : Int) ≠ (e.toNat : Int) := fun c => h (zh9 c)
theorem zie : ∀ (n : Nat) (l : List UInt8), l.length = n → l.length ≤ 1000000 → Ev (fun k => za4.l0 k (bx l) 48) (bx (tr l))
 | 0, l, hn, _ => by
  have : l = [] := List.length_eq_zero_iff.1 hn
  subst this
  refine zf ?_; simp only [za4.l0]
  exact ze (by decide) (Ev.now _)
 | n + 1, l, hn, hl => by
  rcases List.eq_nil_or_concat l with rfl | ⟨a, d, rfl⟩
  ·simp at hn
  rw [List.concat_eq_append] at hn hl ⊢
  have hz := zE (a ++ [d])
  rw [List.length_append, List.length_singleton] at hz hn hl
  have e1 : wrap64 (((bx (a ++ [d])).size : Int) - 1) = (a.length : Int) := by rw [w64 (by omega) (by omega)]; omega
  refine zf ?_; simp only [za4.l0]
  rw [e1, zgr, Int.toNat_natCast, zbH, zh3]
  refine zd (by omega) (zd (by omega) (zd (by omega) ?_))
  by_cases c : d = 48
  ·subst c
   rw [zeJ]
   exact zd rfl (zd (by omega) (zd (by omega) (zie n a (by omega) (by omega))))
  ·rw [zdd _ c]
   exact ze (zfo c) (Ev.now _)
theorem zid {l : List UInt8} (hl : l.length ≤ 1000000) : Ev (fun k => zaR.f k (bx l) (⟨#[48]⟩ : ByteArray)) (bx (tr l)) := by
 unfold zaR.f
 by_cases c : l = []
 ·subst c
  exact zd rfl (Ev.now _)
 ·refine ze (fun h => c (zi4.1 h)) (ze (by decide) (zd (by decide) (zd (by decide) ?_)))
  have e : decide (bt (⟨#[48]⟩ : ByteArray) 0 < 128) = true := by decide
  have e2 : bt (⟨#[48]⟩ : ByteArray) 0 = 48 := by decide
  rw [e]
  refine zf ?_; simp only [zaR.j2]
  rw [e2]
  refine zd trivial (zd (by decide) ?_)
  unfold za4.f
  exact Ev.bind (zie _ l rfl hl) (Ev.now _)
theorem zgi (s p : Bool) (q : ByteArray) (o : Int) {L r : List UInt8} {b : UInt8} (e : L = b :: r) (hb : b ≠ 48) (hL : L.length ≤ 2000) : ∀ (j : Nat) (x : Int), j ≤ 2000 → -10000 ≤ x - j → x ≤ 10000 →
  Ev (fun k => zaz.l0 k p q o s x (bx (List.replicate j 48 ++ L))) (s, bx (tr L), x - j)
 | 0, x, _, h1, h2 => by
  subst e
  have hz := zE (b :: r)
  rw [List.length_cons] at hz
  have hb0 := zd5 (s := bx (b :: r)) (A := []) (B := r) (b := b) (by rw [zbf]; rfl)
  rw [List.length_nil, show ((0 : Nat) : Int) = 0 from rfl] at hb0
  rw [show List.replicate 0 (48 : UInt8) ++ b :: r = b :: r from rfl]
  refine zf ?_; simp only [zaz.l0]
  rw [hb0]
  refine zd (by omega) (ze (zfo hb) (Ev.bind (zid (by omega)) (zg (Ev.now _) ?_)))
  rw [show x - ((0 : Nat) : Int) = x by omega]
 | j + 1, x, hj, h1, h2 => by
  have hz := zE (List.replicate (j + 1) 48 ++ L)
  rw [List.length_append, List.length_replicate] at hz
  have e0 : List.replicate (j + 1) (48 : UInt8) ++ L = 48 :: (List.replicate j 48 ++ L) := by rw [List.replicate_succ]; rfl
  have hb0 := zd5 (s := bx (List.replicate (j + 1) 48 ++ L)) (A := []) (B := List.replicate j 48 ++ L) (b := 48) (by rw [zbf, e0]; rfl)
  rw [List.length_nil, show ((0 : Nat) : Int) = 0 from rfl] at hb0
  have ih := zgi s p q o e hb hL j (x - 1) (by omega) (by omega) (by omega)
  refine zf ?_; simp only [zaz.l0]
  have hz' : 1 ≤ (bx (List.replicate (j + 1) 48 ++ L)).size := by omega
  rw [hb0, show (1 : Int).toNat = 1 from rfl, zcL, w64 (n := x - 1) (by omega) (by omega)]
  refine zd (by omega) (zd rfl (zd (by decide) (zd (by omega) ?_)))
  rw [e0, show (48 :: (List.replicate j 48 ++ L)).drop 1 = List.replicate j 48 ++ L from rfl]
  rw [show x - ((j + 1 : Nat) : Int) = x - 1 - (j : Int) by omega]
  exact ih
def nN (f : Int) (w : Nat) : Nat := exN (dz f w) (we f w)
def nG (f : Int) (w : Nat) : Nat := exG (we f w)
structure Nw (f : Int) (w : Nat) : Prop where
 ne : nN f w ≠ 0
 len : (dx (nN f w)).length ≤ 800
 g : nG f w ≤ 1074
theorem zfp {f : Int} (h : isF f) {w : Nat} (c1 : cls f w ≠ 1) (c4 : cls f w < 4) : Nw f w := by
 have W := zde h c1 c4
 have h3 := W.lo
 have h4 := W.hi
 exact ⟨zb9 W.ne _, zff W.b W.lo (by omega), by unfold nG exG; omega⟩
theorem zjm {f : Int} (h : isF f) {w : Nat} (hw : w < 2 * sg f) (c1 : cls f w ≠ 1) (c4 : cls f w < 4) :
  Ev (fun k => zaz.f k f (w : Int)) (zn f w, bx (tr (dx (nN f w))), ((dx (nN f w)).length : Int) - 1 - (nG f w : Nat)) := by
 have W := zde h c1 c4
 obtain ⟨ne, hl, hg⟩ := zfp h c1 c4
 have h1 := zjH W.ne (we f w)
 have h2 := zjF (dz f w) (we f w)
 obtain ⟨j, hj, hj2⟩ := zjG (dz f w) (we f w)
 have hj3 := congrArg List.length hj
 rw [List.length_append, List.length_append, List.length_replicate, h2] at hj3
 obtain ⟨b, r, e, hb⟩ := zbc ne
 have s1 := zE (exP (dz f w) (we f w))
 have s2 := zE (exW (dz f w) (we f w))
 unfold nN nG at *
 unfold zaz.f
 refine Ev.bind (zjn h hw c1 c4) (zd (show (bx (exW (dz f w) (we f w))).size + (bx (exP (dz f w) (we f w))).size < 35184372088832 by omega) ?_)
 dsimp only
 rw [w64 (n := ((bx (exW (dz f w) (we f w))).size : Int) - 1) (by omega) (by omega), s2, zq, hj]
 have := zgi (zn f w) false (⟨#[]⟩ : ByteArray) 0 e hb (by omega) j (((exW (dz f w) (we f w)).length : Int) - 1) (by omega) (by omega) (by omega)
 rw [show ((exW (dz f w) (we f w)).length : Int) - 1 - (j : Int) = ((dx (exN (dz f w) (we f w))).length : Int) - 1 - (exG (we f w) : Nat) by omega] at this
 exact this
theorem zlN (l : List UInt8) : qfL (l.map fun b => (b.toNat : Int)) = bx l := by
 refine zbA.1 ?_
 rw [zl8, zbf, List.map_map]
 conv => rhs; rw [← List.map_id l]
 congr 1
 funext b
 show UInt8.ofNat ((b.toNat : Int)).toNat = b
 rw [Int.toNat_natCast, UInt8.ofNat_toNat]
theorem zg4 (s p : Bool) (q : ByteArray) (o x : Int) (hx : -100000 ≤ x ∧ x ≤ 100000) (q0 : ByteArray) {T : List UInt8} (hT : T.all isD = true) (hT0 : ∀ b r, T = b :: r → b ≠ 48) (hne : T ≠ []) (hl : T.length ≤ 2000) :
  ∀ (n : Nat) (P : List UInt8) (j : Nat), P.length = n → T = P ++ List.replicate j 57 →
  Ev (fun k => zaA.l0 k s q0 x p q o (T.map fun b => (b.toNat : Int)) ((P.length : Int) - 1)) (s, bx (tr (dx (zi T 0 + 1))), x + ((dx (zi T 0 + 1)).length : Int) - (T.length : Int))
 | 0, P, j, hn, hP => by
  have : P = [] := List.length_eq_zero_iff.1 hn
  subst this
  rw [List.nil_append] at hP
  have hj : 0 < j := by
   rcases Nat.eq_zero_or_pos j with h | h
   ·subst h; exact absurd hP hne
   ·exact h
  obtain ⟨m1, m2⟩ := zjC hj
  rw [← hP] at m1 m2
  have hlen : T.length = j := by rw [hP, List.length_replicate]
  rw [m2, m1]
  refine zf ?_; simp only [zaA.l0]
  refine ze (by simp) (zg (Ev.now _) ?_)
  rw [w64 (n := x + 1) (by omega) (by omega), hlen, List.length_cons, List.length_replicate, show x + ((j + 1 : Nat) : Int) - (j : Int) = x + 1 by omega]
  rfl
 | n + 1, P, j, hn, hP => by
  rcases List.eq_nil_or_concat P with rfl | ⟨a, d, rfl⟩
  ·simp at hn
  rw [List.concat_eq_append] at hn hP ⊢
  rw [List.length_append, List.length_singleton] at hn ⊢
  have hlen : T.length = a.length + 1 + j := by rw [hP]; simp; omega
  have hml : (T.map fun b => (b.toNat : Int)).length = a.length + 1 + j := by rw [List.length_map, hlen]
  have ei : ((a.length + 1 : Nat) : Int) - 1 = (a.length : Int) := by omega
  have hrd : rd (T.map fun b => (b.toNat : Int)) (a.length : Int) = (d.toNat : Int) := by
   rw [rdn, hP]; simp
  have hd : isD d = true := by
   rw [hP, List.append_assoc] at hT
   exact (zd0 (zbF hT).2).1
  have hdl := zc0 hd
  rw [ei]
  refine zf ?_; simp only [zaA.l0]
  rw [hrd, Int.toNat_natCast]
  refine zd (by omega) (zd (by omega) (zd (by omega) ?_))
  by_cases c : d = 57
  ·subst c
   have ih := zg4 s p q o x hx q0 hT hT0 hne hl n a (j + 1) (by omega) (by rw [hP, List.append_assoc, List.replicate_succ]; rfl)
   refine ze (by decide) ?_
   rw [w64 (n := (a.length : Int) - 1) (by omega) (by omega)]
   exact ih
  ·have hdn : d.toNat ≠ 57 := fun hh => c (UInt8.toNat_inj.1 (by rw [hh]; rfl))
   obtain ⟨u1, u2, u3⟩ := zgO hd c
   obtain ⟨m1, m2⟩ := zjB (A := a) (d := d) (j := j) (by rw [hP] at hT; exact (zbF hT).1) c (fun b r hbr => hT0 b (r ++ List.replicate j 57) (by rw [hP, hbr]; rfl))
   rw [← hP] at m1 m2
   have em : ((d.toNat : Int) + 1) % 256 = ((d + 1).toNat : Int) := by rw [u2]; omega
   have e1 : wrap64 ((a.length : Int) + 1) = ((a.length + 1 : Nat) : Int) := by rw [w64 (by omega) (by omega)]; omega
   have es : ((T.map fun b => (b.toNat : Int)).set a.length ((d + 1).toNat : Int)).take (a.length + 1) = (a ++ [d + 1]).map fun b => (b.toNat : Int) := by
    rw [hP, List.map_append, List.map_append, List.append_assoc]
    have hm : (a.map fun b => (b.toNat : Int)).length = a.length := List.length_map ..
    rw [← hm]
    generalize hA : (a.map fun b => (b.toNat : Int)) = A
    rw [List.set_append_right _ _ (Nat.le_refl _), Nat.sub_self, List.take_append, List.take_of_length_le (by omega), Nat.add_sub_cancel_left, List.map_append]
    simp [hA]
   rw [em, e1, Int.toNat_natCast, es, zlN, m2, m1]
   clear m1 m2 es hrd hT hT0 hP em e1
   refine zd (by omega) (zd (by omega) (zd (by omega) (zd (by omega) (zd (by omega) (zd (by omega) (zd (by rw [List.length_set, hml]; omega) (zg (Ev.now _) ?_)))))))
   rw [hlen, List.length_append, List.length_append, List.length_singleton, List.length_replicate, show x + ((a.length + 1 + j : Nat) : Int) - ((a.length + 1 + j : Nat) : Int) = x by omega]
theorem zh2 {d r : List UInt8} {b : UInt8} (e : d = b :: r) {n : Nat} (hn : 1 ≤ n) : ∃ t, d.take n = b :: t := by
 subst e
 obtain ⟨m, rfl⟩ : ∃ m, n = m + 1 := ⟨n - 1, by omega⟩
 exact ⟨r.take m, rfl⟩
theorem zku (s : Bool) {d r : List UInt8} {b : UInt8} (hd : d.all isD = true) (e : d = b :: r) (hb : b ≠ 48) (hl : d.length ≤ 2000) {x : Int} (hx : -100000 ≤ x ∧ x ≤ 100000) {n : Nat} (h1 : 1 ≤ n) (h2 : n ≤ d.length) :
  Ev (fun k => zaA.f k s (bx d) x (n : Int)) (s, bx (tr (dx (zi (d.take n) 0 + 1))), x + ((dx (zi (d.take n) 0 + 1)).length : Int) - (n : Int)) := by
 have hz := zE d
 obtain ⟨t, ht⟩ := zh2 e h1
 have hlen : (d.take n).length = n := by rw [List.length_take]; omega
 have := zg4 s false (⟨#[]⟩ : ByteArray) 0 x hx (bx d) (T := d.take n) (ziL hd n) (fun b' r' h => by rw [ht] at h; rw [← (List.cons.inj h).1]; exact hb) (by rw [ht]; simp) (by omega) n (d.take n) 0 hlen (by simp)
 rw [hlen] at this
 unfold zaA.f
 rw [Int.toNat_natCast, zbH, zcp, w64 (n := (n : Int) - 1) (by omega) (by omega)]
 exact zd (by omega) (zd (by omega) this)
theorem zkb (s : Bool) {d : List UInt8} (hl : d.length ≤ 2000) (x : Int) {n : Nat} (h2 : n ≤ d.length) : Ev (fun k => zb2.f k s (bx d) x (n : Int)) (s, bx (tr (d.take n)), x) := by
 have hz := zE d
 unfold zb2.f
 rw [Int.toNat_natCast, zbH]
 exact zd (by omega) (zd (by omega) (Ev.bind (zid (by rw [List.length_take]; omega)) (Ev.now _)))
theorem zls (s : Bool) {A B : List UInt8} {c : UInt8} (x : Int) (hl : (A ++ c :: B).length ≤ 2000) :
  zb3.f s (bx (A ++ c :: B)) x (A.length : Int) = some (if c.toNat < 53 then -1 else if 53 < c.toNat then 1 else if B ≠ [] then 1 else 0) := by
 have hz := zE (A ++ c :: B)
 rw [List.length_append, List.length_cons] at hz hl
 have e1 : wrap64 ((A.length : Int) + 1) = ((A.length + 1 : Nat) : Int) := by rw [w64 (by omega) (by omega)]; omega
 unfold zb3.f
 rw [e1, if_pos (by omega), if_pos (by omega), if_pos (by omega), Int.toNat_natCast, Int.toNat_natCast, zi3]
 have e2 : ((A ++ c :: B).take (A.length + 1)).drop A.length = [c] := by simp [List.take_append, List.drop_append]
 rw [e2]
 unfold zbz.f
 have e3 : Lib.compareBytes (bx [c]).data.toList (⟨#[53]⟩ : ByteArray).data.toList = if c < 53 then -1 else if 53 < c then 1 else 0 := rfl
 have l1 : c < 53 ↔ c.toNat < 53 := UInt8.lt_iff_toNat_lt
 have l2 : 53 < c ↔ 53 < c.toNat := UInt8.lt_iff_toNat_lt
 rw [e3, Option.bind_some]
 by_cases c1 : c.toNat < 53
 ·rw [if_pos (l1.2 c1), if_pos c1, if_pos (by decide)]
 rw [if_neg (fun h => c1 (l1.1 h)), if_neg c1]
 by_cases c2 : 53 < c.toNat
 ·rw [if_pos (l2.2 c2), if_pos c2, if_pos (by decide)]
 rw [if_neg (fun h => c2 (l2.1 h)), if_neg c2, if_neg (by decide)]
 by_cases c3 : B = []
 ·subst c3
  rw [if_neg (by rw [List.length_nil] at hz; omega), if_neg (by simp)]
 ·have : 0 < B.length := List.length_pos_iff.2 c3
  rw [if_pos (by omega), if_pos c3]
theorem ziR (n : Nat) (h : n < 256) : Go.bits .and .u8 (n : Int) 1 = ((n % 2 : Nat) : Int) := by
 have : ∀ n : Fin 256, Go.bits .and .u8 (n.1 : Int) 1 = ((n.1 % 2 : Nat) : Int) := by decide +kernel
 exact this ⟨n, h⟩
theorem zkH (s : Bool) {d A B : List UInt8} {c : UInt8} (hd : d.all isD = true) (x : Int) (hl : d.length ≤ 2000) (e : d = A ++ c :: B) :
  zbK.f s (bx d) x ((A.length + 1 : Nat) : Int) = some (decide (zi (A ++ [c]) 0 % 2 = 1)) := by
 subst e
 have hz := zE (A ++ c :: B)
 rw [List.length_append, List.length_cons] at hz hl
 have hc := zc0 (zd0 (zbF hd).2).1
 have e1 : wrap64 (((A.length + 1 : Nat) : Int) - 1) = (A.length : Int) := by rw [w64 (by omega) (by omega)]; omega
 have hb := zd5 (s := bx (A ++ c :: B)) (A := A) (B := B) (b := c) (by rw [zbf])
 have e2 : ((c.toNat : Int) - 48) % 256 = ((c.toNat - 48 : Nat) : Int) := by omega
 have e3 : zi (A ++ [c]) 0 = 10 * zi A 0 + (c.toNat - 48) := by rw [zb5, zb6]; show _ * 10 ^ 1 + (_ * 10 ^ 0 + 0) = _; omega
 unfold zbK.f
 rw [e1, if_pos (by omega), if_pos (by omega), hb, e2, ziR _ (by omega), e3]
 congr 1
 apply decide_eq_decide.2
 omega
theorem zkR (s : Bool) : (if s = true then (⟨#[45]⟩ : ByteArray) else (⟨#[]⟩ : ByteArray)) = bx (sgT s) := by cases s <;> rfl
theorem zfu (s : Bool) {d r : List UInt8} {b : UInt8} (e : d = b :: r) (hl : d.length ≤ 2000) {x : Int} (h1 : -1100 ≤ x) (h2 : x < 1100) : Ev (fun k => zM.f k s (bx d) x) (bx (zbw s d x)) := by
 have hz := zE d
 have hlen : d.length = r.length + 1 := by rw [e]; simp
 unfold zM.f zbw
 refine zd ⟨by omega, by omega, by omega⟩ ?_
 rw [zkR]
 by_cases c1 : x < -5 ∨ x > 20
 ·obtain ⟨t, ht, ht2⟩ := zit h1 h2
  have hts : t = bx (etx x) := zbA.1 (by rw [ht2, zbf])
  have hts2 := zfc x
  have hts3 := zE (etx x)
  subst hts
  refine zd c1 (zd (by omega) (Ev.bind ht (zd (by omega) (zg (Ev.now _) ?_))))
  rw [if_pos c1, zbH, zcL, show (⟨#[46]⟩ : ByteArray) = bx [46] from rfl, show (⟨#[101]⟩ : ByteArray) = bx [101] from rfl, show (⟨#[]⟩ : ByteArray) = bx [] from rfl, zq, zq, zq]
  by_cases c2 : 1 < d.length
  ·rw [if_pos (by omega), if_pos c2, zq, zq]; simp
  ·rw [if_neg (by omega), if_neg c2, zq, zq]; simp
 refine ze c1 ?_
 rw [if_neg c1]
 by_cases c2 : x < 0
 ·refine zd c2 (zk (zfL (by omega) (by omega)) (zg (Ev.now _) ?_))
  rw [if_pos c2, show (⟨#[48, 46]⟩ : ByteArray) = bx [48, 46] from rfl, zq, zq, zq]; simp
 refine ze c2 ?_
 rw [if_neg c2]
 by_cases c3 : x + 1 < (d.length : Int)
 ·refine zd (by omega) (zg (Ev.now _) ?_)
  rw [if_pos c3, zbH, zcL, show (⟨#[46]⟩ : ByteArray) = bx [46] from rfl, zq, zq, zq]; simp
 ·refine ze (by omega) ?_
  rw [hz]
  refine zk (zfL (by omega) (by omega)) (zg (Ev.now _) ?_)
  rw [if_neg c3, zq, zq]
theorem zhh {n : Nat} (hn : n ≤ 100000) : ∀ (j i : Nat), i + j = n → Ev (fun k => zaJ.l0 k (n : Int) (bx (List.replicate i 48)) (i : Int)) (bx (List.replicate n 48))
 | 0, i, h => by
  refine zf ?_; simp only [zaJ.l0]
  rw [show i = n by omega]
  exact ze (by omega) (Ev.now _)
 | j + 1, i, h => by
  have hz := zE (List.replicate i 48)
  rw [List.length_replicate] at hz
  have ih := zhh hn j (i + 1) (by omega)
  refine zf ?_; simp only [zaJ.l0]
  rw [show (⟨#[48]⟩ : ByteArray) = bx [48] from rfl, zq, w64 (n := (i : Int) + 1) (by omega) (by omega)]
  refine zd (by omega) (zd (show (bx (List.replicate i 48)).size + 1 < 35184372088832 by omega) ?_)
  rw [show List.replicate i (48 : UInt8) ++ [48] = List.replicate (i + 1) 48 by rw [List.replicate_succ'], show (i : Int) + 1 = ((i + 1 : Nat) : Int) by omega]
  exact ih
theorem zhg {n : Int} (h0 : 0 ≤ n) (h1 : n ≤ 100000) : Ev (fun k => zaJ.f k n) (bx (List.replicate n.toNat 48)) := by
 have := zhh (n := n.toNat) (by omega) n.toNat 0 (by omega)
 rw [Int.toNat_of_nonneg h0] at this
 unfold zaJ.f
 exact this
theorem zhM {b : UInt8} (hb : b ≠ 48) : ∀ (n : Nat) (r : List UInt8), r.length = n → r.length ≤ 100000 → Ev (fun k => zaK.l0 k (bx (b :: r))) (bx (tr (b :: r)))
 | 0, r, hn, _ => by
  have : r = [] := List.length_eq_zero_iff.1 hn
  subst this
  have : tr [b] = [b] := zdd [] hb
  rw [this]
  refine zf ?_; simp only [zaK.l0]
  exact ze (by rw [zE]; simp) (Ev.now _)
 | n + 1, r, hn, hl => by
  rcases List.eq_nil_or_concat r with rfl | ⟨a, d, rfl⟩
  ·simp at hn
  rw [List.concat_eq_append] at hn hl ⊢
  have hz := zE (b :: a ++ [d])
  have hlen : (b :: a ++ [d]).length = a.length + 2 := by simp
  rw [List.length_append, List.length_singleton] at hn hl
  have e1 : wrap64 (((bx (b :: a ++ [d])).size : Int) - 1) = ((b :: a).length : Int) := by rw [w64 (by omega) (by omega), List.length_cons]; omega
  have hla : (b :: a).length = a.length + 1 := by simp
  show Ev (fun k => zaK.l0 k (bx (b :: a ++ [d]))) (bx (tr (b :: a ++ [d])))
  refine zf ?_; simp only [zaK.l0]
  rw [e1, zgr, Int.toNat_natCast, zbH, zh3]
  refine zd (by omega) (zd (by omega) (zd (by omega) ?_))
  by_cases c : d = 48
  ·subst c
   rw [zeJ]
   exact zd rfl (zd (by omega) (zd (by omega) (zhM hb n a (by omega) (by omega))))
  ·rw [zdd _ c]
   exact ze (zfo c) (Ev.now _)
theorem zlc {n : Nat} (h : n < 1100) : Ev (fun k => zo.f k (D n)) (bx (dtx n)) := by
 obtain ⟨t, ht, ht2⟩ := zld h
 have : t = bx (dtx n) := zbA.1 (by rw [ht2, zbf])
 subst this
 exact ht
theorem zhq {x : Int} (h1 : -1100 < x) (h2 : x < 1100) {t : List UInt8} (ht : t.length ≤ 10000) : Ev (fun k => zC.j2 k x (bx t)) (bx (t ++ 101 :: etx x)) := by
 have hz := zE t
 have hz1 := zE (t ++ [101])
 rw [List.length_append, List.length_singleton] at hz1
 have hd := zfc x
 have j3 : ∀ (y : Int) (u : List UInt8), 0 ≤ y → y < 1100 → u.length ≤ 20000 → Ev (fun k => zC.j3 k y (bx u)) (bx (u ++ dtx y.toNat)) := by
  intro y u h0 h3 hu
  have hs := zE u
  have hs2 := zE (dtx y.toNat)
  have hl : (dtx y.toNat).length ≤ 7 := by
   have := zfc y
   unfold etx at this
   rw [if_neg (by omega), List.nil_append, show y.natAbs = y.toNat by omega] at this
   exact this
  have hO := zc6 (n := y) (by omega) (by omega)
  refine zf ?_; simp only [zC.j3]
  rw [u64 (by omega) (by omega)]
  refine Ev.bind hO (Ev.bind (zlc (n := y.toNat) (by omega)) (zd (by omega) ?_))
  rw [zq]
  exact Ev.now _
 refine zf ?_; simp only [zC.j2]
 rw [show (⟨#[101]⟩ : ByteArray) = bx [101] from rfl, zq, show (⟨#[45]⟩ : ByteArray) = bx [45] from rfl, zq]
 refine zd (show (bx t).size + 1 < 35184372088832 by omega) ?_
 unfold etx
 by_cases c : x < 0
 ·rw [if_pos c, w64 (n := -x) (by omega) (by omega)]
  refine zd c (zd (show (bx (t ++ [101])).size + 1 < 35184372088832 by omega) ?_)
  have := j3 (-x) (t ++ [101] ++ [45]) (by omega) (by omega) (by simp; omega)
  rw [show (-x).toNat = x.natAbs by omega] at this
  rw [show t ++ 101 :: ([45] ++ dtx x.natAbs) = t ++ [101] ++ [45] ++ dtx x.natAbs by simp]
  exact this
 ·rw [if_neg c]
  refine ze c ?_
  have := j3 x (t ++ [101]) (by omega) (by omega) (by simp; omega)
  rw [show x.toNat = x.natAbs by omega] at this
  rw [show t ++ 101 :: ([] ++ dtx x.natAbs) = t ++ [101] ++ dtx x.natAbs by simp]
  exact this
theorem zkQ {d r : List UInt8} {b : UInt8} (e : d = b :: r) (hl : d.length ≤ 2000) {x : Int} (h1 : -1100 < x) (h2 : x < 1100) {t : List UInt8} (ht : t.length ≤ 10) :
  Ev (fun k => zC.j1 k (bx d) x (bx t) (decide (x < -5 ∨ x > 20))) (bx (t ++ zbw false d x)) := by
 have hz := zE d
 have hzt := zE t
 have hlen : d.length = r.length + 1 := by rw [e]; simp
 have sz : ∀ u : List UInt8, (bx u).size = u.length := zE
 unfold zbw
 rw [show sgT false = [] from rfl, List.nil_append]
 refine zf ?_; simp only [zC.j1]
 by_cases c1 : x < -5 ∨ x > 20
 ·rw [if_pos c1, decide_eq_true c1, show (1 : Int).toNat = 1 from rfl, zbH, zcL, show (⟨#[46]⟩ : ByteArray) = bx [46] from rfl, zq, zq, zq]
  have l1 : (d.take 1).length ≤ 1 := by rw [List.length_take]; omega
  refine zd rfl (zd (by decide) (zd (by omega) (zd (by rw [sz, sz]; omega) ?_)))
  by_cases c2 : 1 < d.length
  ·have l2 : (d.drop 1).length ≤ 2000 := by rw [List.length_drop]; omega
   rw [if_pos c2]
   refine zd (by omega) (zd (by rw [sz, sz, List.length_append]; simp; omega) (zd (by decide) (zd (by omega) (zd (by rw [sz, sz, List.length_append, List.length_append]; simp; omega) ?_))))
   have := zhq (x := x) h1 h2 (t := t ++ d.take 1 ++ [46] ++ d.drop 1) (by simp; omega)
   rw [show t ++ (d.take 1 ++ 46 :: d.drop 1 ++ 101 :: etx x) = t ++ d.take 1 ++ [46] ++ d.drop 1 ++ 101 :: etx x by simp]
   exact this
  ·rw [if_neg c2, List.append_nil]
   refine ze (by omega) ?_
   have := zhq (x := x) h1 h2 (t := t ++ d.take 1) (by simp; omega)
   rw [← List.append_assoc]
   exact this
 rw [if_neg c1, decide_eq_false c1]
 refine ze (by simp) ?_
 by_cases c2 : x < 0
 ·rw [if_pos c2, show (⟨#[48, 46]⟩ : ByteArray) = bx [48, 46] from rfl, zq, w64 (n := -x) (by omega) (by omega), w64 (n := -x - 1) (by omega) (by omega)]
  refine zd c2 (zd (by rw [sz, sz]; simp; omega) (Ev.bind (zhg (by omega) (by omega)) ?_))
  rw [zq, zq]
  refine zd (by rw [sz, sz]; simp; omega) (zd (by rw [sz, sz]; simp; omega) (zg (Ev.now _) (by simp)))
 rw [if_neg c2]
 refine ze c2 ?_
 rw [w64 (n := x + 1) (by omega) (by omega)]
 by_cases c3 : x + 1 < (d.length : Int)
 ·rw [if_pos c3, zbH, zcL, show (⟨#[46]⟩ : ByteArray) = bx [46] from rfl, zq, zq, zq]
  have l1 : (d.take (x + 1).toNat).length ≤ 2000 := by rw [List.length_take]; omega
  have l2 : (d.drop (x + 1).toNat).length ≤ 2000 := by rw [List.length_drop]; omega
  refine ze (by omega) (zd (by omega) (zd (by omega) (zd (by rw [sz, sz]; omega) (zd (by rw [sz, sz, List.length_append]; simp; omega) (zd (by omega) (zd (by omega) (zd (by rw [sz, sz, List.length_append, List.length_append]; simp; omega) (zg (Ev.now _) (by rw [zq]; simp)))))))))
 ·rw [if_neg c3, hz, w64 (n := x + 1 - (d.length : Int)) (by omega) (by omega)]
  refine zd (by omega) (zd (by rw [sz]; omega) (Ev.bind (zhg (by omega) (by omega)) ?_))
  rw [zq, zq]
  exact zd (by rw [sz, sz]; simp; omega) (zg (Ev.now _) (by simp))
theorem zk8 (s : Bool) {d r : List UInt8} {b : UInt8} (e : d = b :: r) (hl : d.length ≤ 2000) {x : Int} (h1 : -1100 < x) (h2 : x < 1100) : Ev (fun k => zC.f k s (bx d) x) (bx (zbw s d x)) := by
 have j0 : ∀ {t : List UInt8}, t.length ≤ 10 → Ev (fun k => zC.j0 k (bx d) x (bx t)) (bx (t ++ zbw false d x)) := by
  intro t ht
  have := zkQ e hl h1 h2 ht
  refine zf ?_; simp only [zC.j0]
  by_cases c : x < -5
  ·rw [decide_eq_true (.inl c)] at this
   exact zd c this
  ·rw [show decide (x < -5 ∨ x > 20) = decide (x > 20) from decide_eq_decide.2 ⟨fun h => h.resolve_left c, .inr⟩] at this
   exact ze c this
 rw [zkS]
 unfold zC.f
 cases s with
 | true => exact zd rfl (j0 (t := [45]) (by simp))
 | false => exact ze (by simp) (j0 (t := []) (by simp))
theorem zlA (s : Bool) {q : Nat} (hq : q ≠ 0) (hl : (dx q).length ≤ 2000) {x : Int} (h1 : -1100 < x + ((dx q).length : Int) - 1) (h2 : x + ((dx q).length : Int) - 1 < 1100) : Ev (fun k => zcW.f k s (D q) x) (bx (za5 s q x)) := by
 obtain ⟨b, r, e, hb⟩ := zbc hq
 have hp := zcs hq
 have hDq : (D q).length ≤ 1000 := by
  apply zbD
  have h3 := zcY q
  have h4 := zcJ (Nat.le_of_lt h3)
  have h5 := zbQ (dx q).length
  omega
 have ht := zlr (zD q) (by omega)
 rw [V_D, zfS] at ht
 have hsz := zE (dx q)
 have htr : Ev (fun k => zaK.f k (bx (dx q))) (bx (tr (dx q))) := by
  unfold zaK.f
  rw [e] at hl ⊢
  exact zhM hb _ r rfl (by simp at hl; omega)
 obtain ⟨r', e'⟩ := zdL e hb
 have hlt := zdM (dx q)
 have hpl := zk8 s (d := tr (dx q)) e' (by omega) h1 h2
 unfold zcW.f
 refine Ev.bind ht (Ev.bind htr ?_)
 rw [hsz, w64 (n := x + ((dx q).length : Int)) (by omega) (by omega), w64 (n := x + ((dx q).length : Int) - 1) (by omega) (by omega)]
 exact Ev.bind hpl (Ev.now _)
theorem zlJ {a : Int} {c : Int} (h : 0 < c) : (a * c).sign = a.sign := by
 rw [Int.sign_mul, Int.sign_eq_one_of_pos h, Int.mul_one]
theorem zd9 (z b : Nat) (e : Int) : zad (z : Int) e (b : Int) 0 = ((exN z e : Int) - ((b * 10 ^ exG e : Nat) : Int)).sign := by
 by_cases c : 0 ≤ e
 ·rw [← ze3 (za := (z : Int)) (zb := (b : Int)) (m := 0) c (by omega), zfd z c]
  have e1 : exG e = 0 := by unfold exG; omega
  rw [e1, Nat.pow_zero, Nat.mul_one]
  congr 1
  unfold al
  rw [show (e - 0).toNat = e.toNat by omega, show ((0 : Int) - 0).toNat = 0 by omega]
  simp
 ·have c' : e < 0 := by omega
  have e1 : exG e = (-e).toNat := rfl
  rw [← ze3 (za := (z : Int)) (zb := (b : Int)) (m := e) (by omega) (by omega), zfe z c', e1]
  unfold al
  rw [show (e - e).toNat = 0 by omega, show (0 - e).toNat = (-e).toNat by omega]
  have e2 : (10 : Nat) ^ (-e).toNat = 2 ^ (-e).toNat * 5 ^ (-e).toNat := by rw [← Nat.mul_pow]
  have hp : (0 : Int) < ((5 ^ (-e).toNat : Nat) : Int) := by exact_mod_cast Nat.pow_pos (by omega)
  rw [e2, ← Nat.mul_assoc]
  rw [← zlJ hp (a := (z : Int) * 2 ^ 0 - (b : Int) * 2 ^ (-e).toNat)]
  congr 1
  rw [Int.sub_mul]
  push_cast
  simp
theorem zbX (n : Nat) : bl (n : Int).natAbs = bl n := by rw [Int.natAbs_natCast]
structure Pn (z : Nat) (e : Int) : Prop where
 eq : mk (z : Int) e = (false, D z, e)
 ne : z ≠ 0
 b : bl z ≤ 53
 lo : -1074 ≤ e
 hi : e ≤ 1024
theorem zhs {z : Nat} {e : Int} (h : Pn z e) : Rg (z : Int) e := ⟨by rw [zbX]; have := h.b; omega, by have := h.lo; omega, by have := h.hi; omega⟩
theorem zeI {Y : Nat} (h : Y ≤ 100000) : Rg ((10 ^ Y : Nat) : Int) 0 := ⟨by rw [zbX]; have := zbQ Y; omega, by omega, by omega⟩
theorem zhr {z : Nat} {e : Int} (h : Pn z e) {Y : Nat} (hY : Y ≤ 100000) : Ev (fun k => zaM.f k false (D z) e (mk ((10 ^ Y : Nat) : Int) 0).1 (mk ((10 ^ Y : Nat) : Int) 0).2.1 (mk ((10 ^ Y : Nat) : Int) 0).2.2) (mk ((z * 10 ^ Y : Nat) : Int) e) := by
 have := zfD (zhs h) (zeI hY)
 rw [h.eq, Int.add_zero] at this
 rw [Int.natCast_mul]
 exact this
theorem zkT {z : Nat} {e : Int} (h : Pn z e) {Y : Nat} (hY : Y ≤ 100000) : Rg ((z * 10 ^ Y : Nat) : Int) e := ⟨by rw [zbX]; have := zdo z (10 ^ Y); have := zbQ Y; have := h.b; omega, by have := h.lo; omega, by have := h.hi; omega⟩
theorem zel (z a : Nat) (e : Int) : exN (z * a) e = exN z e * a := by
 unfold exN
 rw [Nat.mul_right_comm z a, Nat.mul_right_comm (z * 2 ^ e.toNat) a]
theorem zhO (a b : Nat) : ((a : Int) - (b : Int)).sign = if a < b then -1 else if b < a then 1 else 0 := by
 by_cases c : a < b
 ·rw [if_pos c, Int.sign_eq_neg_one_of_neg (by omega)]
 ·rw [if_neg c]
  by_cases c2 : b < a
  ·rw [if_pos c2, Int.sign_eq_one_of_pos (by omega)]
  ·rw [if_neg c2, show (a : Int) - (b : Int) = 0 by omega]; rfl
theorem zfQ (a b : Nat) : ((a : Int) - (b : Int)).sign < 0 ↔ a < b := by
 rw [zhO]
 by_cases c : a < b
 ·rw [if_pos c]; exact ⟨fun _ => c, fun _ => by decide⟩
 ·rw [if_neg c]
  constructor
  ·intro h; split at h <;> exact absurd h (by decide)
  ·exact fun h => absurd h c
theorem zez : Rg ((1 : Nat) : Int) 0 := ⟨by decide, by omega, by omega⟩
theorem zeA {z : Nat} {e : Int} (h : Pn z e) {x : Int} (h1 : -3000 ≤ x) (h2 : x ≤ 3000) : ∃ o, Ev (fun k => zbJ.f k false (D z) e x) o ∧
  ∃ c, Ev (fun k => zaI.f k o.1 o.2.1 o.2.2 (mk 1 0).1 (mk 1 0).2.1 (mk 1 0).2.2) c ∧ (c < 0 ↔ exN z e * 10 ^ (-x).toNat < 10 ^ (exG e + x.toNat)) := by
 by_cases c : x ≤ 0
 ·have e1 : wrap64 (-x) = (((-x).toNat : Nat) : Int) := by rw [w64 (by omega) (by omega)]; omega
  have ht := zc7 (Y := (-x).toNat) (by omega)
  have hm := zhr h (Y := (-x).toNat) (by omega)
  refine ⟨mk ((z * 10 ^ (-x).toNat : Nat) : Int) e, ?_, _, zc4 (zkT h (Y := (-x).toNat) (by omega)) zez, ?_⟩
  ·unfold zbJ.f
   rw [e1]
   exact zd c (Ev.bind ht (Ev.bind hm (Ev.now _)))
  ·show zad _ e ((1 : Nat) : Int) 0 < 0 ↔ _
   rw [zd9, zfQ, zel, Nat.one_mul, show x.toNat = 0 by omega, Nat.add_zero]
 ·have hx : x = ((x.toNat : Nat) : Int) := by omega
  have ht := zc7 (Y := x.toNat) (by omega)
  rw [← hx] at ht
  have hc := zc4 (zhs h) (zeI (Y := x.toNat) (by omega))
  rw [h.eq, zd9] at hc
  have e2 : (10 : Nat) ^ x.toNat * 10 ^ exG e = 10 ^ (exG e + x.toNat) := by rw [Nat.add_comm, Nat.pow_add]
  rw [e2] at hc
  have e3 : (-x).toNat = 0 := by omega
  rw [e3, Nat.pow_zero, Nat.mul_one]
  by_cases cl : exN z e < 10 ^ (exG e + x.toNat)
  ·refine ⟨mk 1 (-1), ?_, _, zc4 (za := ((1 : Nat) : Int)) ⟨by decide, by omega, by omega⟩ zez, ?_⟩
   ·unfold zbJ.f
    exact ze c (Ev.bind ht (Ev.bind hc (zd ((zfQ _ _).2 cl) (zk (zle (-1)) (Ev.now _)))))
   ·exact ⟨fun _ => cl, fun _ => by decide⟩
  ·refine ⟨mk 1 0, ?_, _, zc4 zez zez, ?_⟩
   ·unfold zbJ.f
    exact ze c (Ev.bind ht (Ev.bind hc (ze (fun hh => cl ((zfQ _ _).1 hh)) (Ev.bind (zc5 (n := 1) (by omega) (by omega)) (Ev.now _)))))
   ·exact ⟨fun hh => absurd hh (by decide), fun hh => absurd hh cl⟩
theorem zeC {N G : Nat} (hN : N ≠ 0) (x : Int) : N * 10 ^ (-x).toNat < 10 ^ (G + x.toNat) ↔ ((dx N).length : Int) - G ≤ x := by
 have h1 := zcY N
 have h2 := zgF hN
 have h3 := zcs hN
 constructor
 ·intro hlt
  apply Int.le_of_not_gt
  intro hc
  have h4 : 10 ^ ((dx N).length - 1) * 10 ^ (-x).toNat ≤ N * 10 ^ (-x).toNat := Nat.mul_le_mul_right _ h2
  rw [← Nat.pow_add] at h4
  have h5 : 10 ^ (G + x.toNat) ≤ 10 ^ ((dx N).length - 1 + (-x).toNat) := Nat.pow_le_pow_right (by omega) (by omega)
  omega
 ·intro hc
  have h4 : N * 10 ^ (-x).toNat < 10 ^ (dx N).length * 10 ^ (-x).toNat := Nat.mul_lt_mul_of_pos_right h1 (Nat.pow_pos (by omega))
  rw [← Nat.pow_add] at h4
  exact Nat.lt_of_lt_of_le h4 (Nat.pow_le_pow_right (by omega) (by omega))
theorem zhp {z : Nat} {e : Int} (h : Pn z e) {P : Int} (hP : P = ((dx (exN z e)).length : Int) - 1 - (exG e : Int)) (hP1 : -2000 ≤ P) (hP2 : P ≤ 2000) : ∀ (j : Nat) (x : Int), x + j = P → -2500 ≤ x →
  Ev (fun k => zW.l1 k false (D z) e x) P
 | 0, x, hj, hx => by
  obtain ⟨o, ho, c, hc, hcl⟩ := zeA h (x := x + 1) (by omega) (by omega)
  rw [zeC (zb9 h.ne e)] at hcl
  have hlt := hcl.2 (by omega)
  refine zf ?_; simp only [zW.l1]
  rw [w64 (n := x + 1) (by omega) (by omega)]
  refine Ev.bind ho (Ev.bind (zc5 (n := 1) (by omega) (by omega)) (Ev.bind hc (ze (by omega) (zg (Ev.now _) (by omega)))))
 | j + 1, x, hj, hx => by
  obtain ⟨o, ho, c, hc, hcl⟩ := zeA h (x := x + 1) (by omega) (by omega)
  rw [zeC (zb9 h.ne e)] at hcl
  have hlt : ¬ c < 0 := fun hh => by have := hcl.1 hh; omega
  have ih := zhp h hP hP1 hP2 j (x + 1) (by omega) (by omega)
  refine zf ?_; simp only [zW.l1]
  rw [w64 (n := x + 1) (by omega) (by omega)]
  exact Ev.bind ho (Ev.bind (zc5 (n := 1) (by omega) (by omega)) (Ev.bind hc (zd (by omega) ih)))
theorem zho {z : Nat} {e : Int} (h : Pn z e) {P : Int} (hP : P = ((dx (exN z e)).length : Int) - 1 - (exG e : Int)) (hP1 : -2000 ≤ P) (hP2 : P ≤ 2000) : ∀ (j : Nat) (x : Int), (x = P + j ∨ (j = 0 ∧ x ≤ P)) → -2500 ≤ x → x ≤ 2500 →
  Ev (fun k => zW.l0 k false (D z) e x) P
 | 0, x, hj, h1, h2 => by
  obtain ⟨o, ho, c, hc, hcl⟩ := zeA h (x := x) (by omega) (by omega)
  rw [zeC (zb9 h.ne e)] at hcl
  have hlt : ¬ c < 0 := fun hh => by have := hcl.1 hh; omega
  have hl1 := zhp h hP hP1 hP2 (P - x).toNat x (by omega) h1
  refine zf ?_; simp only [zW.l0]
  exact Ev.bind ho (Ev.bind (zc5 (n := 1) (by omega) (by omega)) (Ev.bind hc (ze hlt hl1)))
 | j + 1, x, hj, h1, h2 => by
  obtain ⟨o, ho, c, hc, hcl⟩ := zeA h (x := x) (by omega) (by omega)
  rw [zeC (zb9 h.ne e)] at hcl
  have hlt := hcl.2 (by omega)
  have ih := zho h hP hP1 hP2 j (x - 1) (by omega) (by omega) (by omega)
  refine zf ?_; simp only [zW.l0]
  rw [w64 (n := x - 1) (by omega) (by omega)]
  exact Ev.bind ho (Ev.bind (zc5 (n := 1) (by omega) (by omega)) (Ev.bind hc (zd hlt ih)))
theorem zlV {a : Int} (h1 : -40000000 ≤ a) (h2 : a ≤ 40000000) : -400 ≤ Int.tdiv a 100000 ∧ Int.tdiv a 100000 ≤ 400 := by
 by_cases c : 0 ≤ a
 ·rw [Int.tdiv_eq_ediv_of_nonneg c]; omega
 ·have : Int.tdiv a 100000 = -(Int.tdiv (-a) 100000) := by rw [Int.neg_tdiv, Int.neg_neg]
  rw [this, Int.tdiv_eq_ediv_of_nonneg (by omega)]; omega
theorem ziw {z : Nat} {e : Int} (h : Pn z e) : Ev (fun k => zW.f k false (D z) e) (((dx (exN z e)).length : Int) - 1 - (exG e : Int)) := by
 have hl := zff h.b h.lo h.hi
 have hg : exG e ≤ 1074 := by have := h.lo; unfold exG; omega
 have hp := zcs (zb9 h.ne e)
 have hb := h.b
 have h1 := h.lo
 have h2 := h.hi
 have hd : Dy false (D z) e := by have := za8 (z : Int) e; rw [h.eq] at this; exact this
 have hT := zfK hd (by have : (D z).length ≤ 2 := zbD (by omega); omega) (by omega) (by omega)
 have ht : top (sv false (V (D z))) e = e + (bl z : Nat) := by
  unfold top
  rw [V_D, if_neg (fun hh => h.ne (zdb.1 hh)), zda]
 rw [ht] at hT
 obtain ⟨t, htt⟩ : ∃ t, t = e + ((bl z : Nat) : Int) := ⟨_, rfl⟩
 rw [← htt] at hT
 have b1 := zlV (a := (t - 1) * 30103) (by omega) (by omega)
 unfold zW.f
 refine Ev.bind hT ?_
 rw [w64 (n := t - 1) (by omega) (by omega), w64 (n := (t - 1) * 30103) (by omega) (by omega), w64 (n := Int.tdiv ((t - 1) * 30103) 100000) (by omega) (by omega)]
 generalize Int.tdiv ((t - 1) * 30103) 100000 = x at b1 ⊢
 exact zho h rfl (by omega) (by omega) (x - (((dx (exN z e)).length : Int) - 1 - (exG e : Int))).toNat x (by omega) (by omega) (by omega)
theorem zjP {A B A' B' : Nat} (hB : 0 < B) (hB' : 0 < B') (h : A * B' = A' * B) : A / B = A' / B' ∧ (A % B = 0 ↔ A' % B' = 0) := by
 have e1 : A / B = A * B' / (B * B') := (Nat.mul_div_mul_right A B hB').symm
 have e2 : A' / B' = A' * B / (B' * B) := (Nat.mul_div_mul_right A' B' hB).symm
 have e3 : A % B * B' = A * B' % (B * B') := (Nat.mul_mod_mul_right B' A B).symm
 have e4 : A' % B' * B = A' * B % (B' * B) := (Nat.mul_mod_mul_right B A' B').symm
 rw [h, Nat.mul_comm B B'] at e1 e3
 refine ⟨by rw [e1, e2], ?_⟩
 have e5 : A % B * B' = A' % B' * B := by rw [e3, e4]
 constructor
 ·intro hz
  rw [hz, Nat.zero_mul] at e5
  rcases Nat.mul_eq_zero.1 e5.symm with hh | hh
  ·exact hh
  ·omega
 ·intro hz
  rw [hz, Nat.zero_mul] at e5
  rcases Nat.mul_eq_zero.1 e5 with hh | hh
  ·exact hh
  ·omega
def MM (z : Nat) (e x : Int) : Nat := exN z e * 10 ^ (-x).toNat
def DD (e x : Int) : Nat := 10 ^ (exG e + x.toNat)
theorem zeS (e x : Int) : 0 < DD e x := Nat.pow_pos (by omega)
theorem zgk {A B : Nat} (hA : A ≠ 0) (hB : B ≠ 0) {ea : Int} (bA : bl A ≤ 100000) (bB : bl B ≤ 100000) (h1 : -2000 ≤ ea) (h2 : ea ≤ 2000) {M K : Nat} (hK : 0 < K) (hf : A * 2 ^ ea.toNat * K = M * (B * 2 ^ (-ea).toNat)) :
  Ev (fun k => z7.j0 k (mk (A : Int) ea).1 (mk (A : Int) ea).2.1 (mk (A : Int) ea).2.2 (mk (B : Int) 0).1 (mk (B : Int) 0).2.1 (mk (B : Int) 0).2.2) (D (M / K), decide (M % K ≠ 0)) := by
 obtain ⟨j, j1, j2, _, j3⟩ := zfl (z := (A : Int)) (by omega) ea
 obtain ⟨i, i1, i2, _, i3⟩ := zfl (z := (B : Int)) (by omega) 0
 have na := (za8 (A : Int) ea).nm
 have nb := (za8 (B : Int) 0).nm
 have la := zc2 (A : Int) ea
 have lb := zc2 (B : Int) 0
 rw [Int.natAbs_natCast] at j1 i1 la lb
 have hj : j ≤ bl A := by
  have h3 := zd3 (v := V (mk (A : Int) ea).2.1) j3 j
  rw [← j1] at h3; omega
 have hi : i ≤ bl B := by
  have h3 := zd3 (v := V (mk (B : Int) 0).2.1) i3 i
  rw [← i1] at h3; omega
 revert j1 j2 j3 i1 i2 i3 na nb la lb
 generalize mk (A : Int) ea = p
 generalize mk (B : Int) 0 = q
 obtain ⟨s, l, x⟩ := p
 obtain ⟨s', l', y⟩ := q
 intro j1 j2 j3 i1 i2 i3 na nb la lb
 dsimp only at *
 have u1 := zcd na.dg (by omega) 0 (by omega)
 have u2 := zcd nb.dg (by omega) 0 (by omega)
 rw [Nat.pow_zero, Nat.mul_one, na] at u1
 rw [Nat.pow_zero, Nat.mul_one, nb] at u2
 have fin : ∀ {a b : Nat}, bl a ≤ 300000 → bl b ≤ 300000 → b ≠ 0 → a * K = M * b → Ev (fun k => z7.j1 k (D a) (D b)) (D (M / K), decide (M % K ≠ 0)) := by
  intro a b ba bb b0 hab
  obtain ⟨f1, f2⟩ := zjP (A := a) (B := b) (A' := M) (B' := K) (by omega) hK hab
  have hla : (D a).length ≤ 10000 := zbD (by omega)
  have hlb : (D b).length ≤ 10000 := zbD (by omega)
  have hq := zlo (zD a) (zD b) (by omega) (by omega) (fun hh => b0 (by have := V_D b; rw [hh] at this; exact this.symm))
  rw [V_D, V_D, f1] at hq
  refine zf ?_; simp only [z7.j1]
  refine Ev.bind hq (zg (Ev.now _) ?_)
  dsimp only
  congr 1
  apply decide_eq_decide.2
  refine Iff.trans ?_ (not_congr f2)
  by_cases c : a % b = 0
  ·rw [c, zu]; simp
  ·have := zbs (a % b)
   have : (D (a % b)).length ≠ 0 := fun hh => by rw [hh, Nat.pow_zero] at this; omega
   constructor
   ·intro _; exact c
   ·intro _; omega
 rw [j1, i1] at hf
 have hf' : V l * K * 2 ^ (j + ea.toNat) = M * V l' * 2 ^ (i + (-ea).toNat) := by
  have e1 : V l * K * (2 ^ j * 2 ^ ea.toNat) = V l * 2 ^ j * 2 ^ ea.toNat * K := by ac_rfl
  have e2 : M * V l' * (2 ^ i * 2 ^ (-ea).toNat) = M * (V l' * 2 ^ i * 2 ^ (-ea).toNat) := by ac_rfl
  rw [Nat.pow_add, Nat.pow_add, e1, e2, hf]
 have bl1 : bl (V l) ≤ bl A := zcJ (by rw [j1]; exact Nat.le_mul_of_pos_right _ (zm j))
 have bl2 : bl (V l') ≤ bl B := zcJ (by rw [i1]; exact Nat.le_mul_of_pos_right _ (zm i))
 refine zf ?_; simp only [z7.j0]
 refine Ev.bind u1 (Ev.bind u2 ?_)
 by_cases c : x > y
 ·have hn := zcd na.dg (by omega) (x - y).toNat (by omega)
  rw [Int.toNat_of_nonneg (by omega)] at hn
  rw [w64 (n := x - y) (by omega) (by omega)]
  refine zd c (Ev.bind hn ?_)
  have h5 := zco (V l) (x - y).toNat
  have := fin (a := V l * 2 ^ (x - y).toNat) (b := V l') (by omega) (by omega) i3 (by
   rw [show j + ea.toNat = (x - y).toNat + (i + (-ea).toNat) by omega, Nat.pow_add _ (x - y).toNat, ← Nat.mul_assoc] at hf'
   have h6 := Nat.eq_of_mul_eq_mul_right (zm _) hf'
   rw [← h6]; ac_rfl)
  rw [nb] at this
  exact this
 ·have hn := zcd nb.dg (by omega) (y - x).toNat (by omega)
  rw [Int.toNat_of_nonneg (by omega)] at hn
  rw [w64 (n := y - x) (by omega) (by omega)]
  refine ze c (Ev.bind hn ?_)
  have h5 := zco (V l') (y - x).toNat
  have := fin (a := V l) (b := V l' * 2 ^ (y - x).toNat) (by omega) (by omega) (Nat.mul_ne_zero i3 (Nat.ne_of_gt (zm _))) (by
   rw [show i + (-ea).toNat = (y - x).toNat + (j + ea.toNat) by omega, Nat.pow_add _ (y - x).toNat, ← Nat.mul_assoc] at hf'
   have h6 := Nat.eq_of_mul_eq_mul_right (zm _) hf'
   rw [h6]; ac_rfl)
  rw [na] at this
  exact this
theorem ziq {z : Nat} {e : Int} (h : Pn z e) {x : Int} (h1 : -3000 ≤ x) (h2 : x ≤ 3000) : Ev (fun k => z7.f k false (D z) e x) (D (MM z e x / DD e x), decide (MM z e x % DD e x ≠ 0)) := by
 have hb := h.b
 have hlo := h.lo
 have hhi := h.hi
 have hN := zb9 h.ne e
 unfold z7.f
 refine Ev.bind (zc5 (n := 1) (by omega) (by omega)) ?_
 have key : ∀ Y : Nat, z * 10 ^ Y * 2 ^ e.toNat * 10 ^ exG e = exN z e * 10 ^ Y * 2 ^ (-e).toNat := by
  intro Y
  have e2 : (10 : Nat) ^ exG e = 2 ^ (-e).toNat * 5 ^ (-e).toNat := by rw [← Nat.mul_pow]; rfl
  unfold exN
  rw [e2]; ac_rfl
 by_cases c : x < 0
 ·have e1 : wrap64 (-x) = (((-x).toNat : Nat) : Int) := by rw [w64 (by omega) (by omega)]; omega
  have ht := zc7 (Y := (-x).toNat) (by omega)
  have hm := zhr h (Y := (-x).toNat) (by omega)
  have h3 := zdo z (10 ^ (-x).toNat)
  have h4 := zbQ (-x).toNat
  rw [e1]
  refine zd c (Ev.bind ht (Ev.bind hm ?_))
  refine zgk (A := z * 10 ^ (-x).toNat) (B := 1) (Nat.mul_ne_zero h.ne (Nat.ne_of_gt (zdK _))) (by omega) (by omega) (by decide) (by omega) (by omega) (zeS e x) ?_
  unfold MM DD
  rw [show x.toNat = 0 by omega, Nat.add_zero, key, Nat.one_mul]
 ·have hx : x = ((x.toNat : Nat) : Int) := by omega
  have ht := zc7 (Y := x.toNat) (by omega)
  rw [← hx] at ht
  have h4 := zbQ x.toNat
  refine ze c (Ev.bind ht ?_)
  have := zgk (A := z) (B := 10 ^ x.toNat) h.ne (Nat.ne_of_gt (zdK _)) (ea := e) (M := MM z e x) (K := DD e x) (by omega) (by omega) (by omega) (by omega) (zeS e x) (by
   unfold MM DD
   have := key 0
   rw [Nat.pow_zero, Nat.mul_one, Nat.mul_one] at this
   rw [show (-x).toNat = 0 by omega, Nat.pow_zero, Nat.mul_one, Nat.pow_add, ← Nat.mul_assoc, this]; ac_rfl)
  rw [h.eq] at this
  exact this
theorem zkn (z : Nat) (e : Int) : mk (z : Int) (e + 1) = mk ((2 * z : Nat) : Int) e := by
 have := zev (z : Int) e 1
 rw [show ((2 * z : Nat) : Int) = (z : Int) * 2 ^ 1 by push_cast; omega, this]; rfl
theorem zjU (M K : Nat) : ((2 * M : Nat) : Int) - (((2 * (M / K) + 1) * K : Nat) : Int) = ((2 * (M % K) : Nat) : Int) - (K : Int) := by
 have h := Nat.div_add_mod M K
 have e : (2 * (M / K) + 1) * K = 2 * (K * (M / K)) + K := by rw [Nat.add_mul, Nat.one_mul, Nat.mul_assoc, Nat.mul_comm (M / K)]
 rw [e]; omega
theorem zjQ {z : Nat} {e : Int} (h : Pn z e) {x : Int} (h1 : -3000 ≤ x) (h2 : x ≤ 3000) (hq : (D (MM z e x / DD e x)).length ≤ 1000) : Ev (fun k => zcV.f k false (D z) e (D (MM z e x / DD e x)) x) (hlf (MM z e x % DD e x) (DD e x)) := by
 have hb := h.b
 have hlo := h.lo
 have hhi := h.hi
 obtain ⟨q, hqq⟩ : ∃ q, q = MM z e x / DD e x := ⟨_, rfl⟩
 have hhl : hlf (MM z e x % DD e x) (DD e x) = (((2 * MM z e x : Nat) : Int) - (((2 * q + 1) * DD e x : Nat) : Int)).sign := by
  rw [hqq, zjU, zhO]; rfl
 rw [hhl, ← hqq]
 rw [← hqq] at hq
 have hs := zk9 (z : Int) (e := e) (n := 1) (by rw [zbX]; omega) (by omega) (by omega) (by omega) (by omega)
 rw [h.eq, zkn] at hs
 have hu := zcd (zO q) (by omega) 1 (by omega)
 rw [V_D, Nat.pow_one, Nat.mul_comm] at hu
 have hbq := zaV (zO q)
 rw [V_D] at hbq
 have hb2 : bl (2 * q) ≤ 32001 := by
  have := zco q 1
  rw [Nat.pow_one, Nat.mul_comm] at this
  omega
 have l2q : (D (2 * q)).length ≤ 1001 := zbD (by omega)
 have ha := zeE (zO (2 * q)) (zO 1) (by omega) (by rw [zbW]; simp)
 rw [V_D, V_D, zbW] at ha
 have hb3 : bl (2 * q + 1) ≤ 32002 := Nat.le_trans (ziX _) (by omega)
 have hf := zbR false (zD (2 * q + 1)) (by have : (D (2 * q + 1)).length ≤ 1001 := zbD (by omega); omega) (e := 0) (by omega) (by omega)
 rw [V_D, show sv false (2 * q + 1) = ((2 * q + 1 : Nat) : Int) from rfl] at hf
 have r2 : Rg ((2 * z : Nat) : Int) e := ⟨by rw [zbX]; have := zco z 1; rw [Nat.pow_one, Nat.mul_comm] at this; omega, by omega, by omega⟩
 have rq' : Rg ((2 * q + 1 : Nat) : Int) 0 := ⟨by rw [zbX]; omega, by omega, by omega⟩
 unfold zcV.f
 refine zk hs (Ev.bind hu (Ev.bind ha (Ev.bind hf ?_)))
 by_cases c : x < 0
 ·have e1 : wrap64 (-x) = (((-x).toNat : Nat) : Int) := by rw [w64 (by omega) (by omega)]; omega
  have ht := zc7 (Y := (-x).toNat) (by omega)
  have h3 := zdo (2 * z) (10 ^ (-x).toNat)
  have h4 := zbQ (-x).toNat
  have h5 := zco z 1
  rw [Nat.pow_one, Nat.mul_comm] at h5
  have hm := zfD r2 (zeI (Y := (-x).toNat) (by omega))
  rw [Int.add_zero, ← Int.natCast_mul] at hm
  have hc := zc4 (za := ((2 * z * 10 ^ (-x).toNat : Nat) : Int)) (ea := e) ⟨by rw [zbX]; omega, by omega, by omega⟩ rq'
  rw [zd9, zel, Nat.mul_comm 2 z, zel, show exN z e * 2 * 10 ^ (-x).toNat = 2 * MM z e x by unfold MM; ac_rfl, show (10 : Nat) ^ exG e = DD e x by unfold DD; rw [show x.toNat = 0 by omega, Nat.add_zero]] at hc
  rw [e1]
  rw [Nat.mul_comm 2 z] at hm ⊢
  refine zd c (Ev.bind ht (Ev.bind hm (Ev.bind hc (Ev.now _))))
 ·have hx : x = ((x.toNat : Nat) : Int) := by omega
  have ht := zc7 (Y := x.toNat) (by omega)
  rw [← hx] at ht
  have h3 := zdo (2 * q + 1) (10 ^ x.toNat)
  have h4 := zbQ x.toNat
  have hm := zfD rq' (zeI (Y := x.toNat) (by omega))
  rw [Int.add_zero, ← Int.natCast_mul] at hm
  have hc := zc4 r2 (zb := (((2 * q + 1) * 10 ^ x.toNat : Nat) : Int)) (eb := 0) ⟨by rw [zbX]; omega, by omega, by omega⟩
  rw [zd9, Nat.mul_comm 2 z, zel, show exN z e * 2 = 2 * MM z e x by unfold MM; rw [show (-x).toNat = 0 by omega]; omega, Nat.mul_assoc, show (10 : Nat) ^ x.toNat * 10 ^ exG e = DD e x by unfold DD; rw [Nat.add_comm, Nat.pow_add]] at hc
  refine ze c (Ev.bind ht (Ev.bind hm ?_))
  rw [Nat.mul_comm 2 z]
  exact Ev.bind hc (Ev.now _)
theorem zjT (r p : Nat) {c : Nat} (hc : 0 < c) : hlf (r * c) (p * c) = hlf r p := by
 unfold hlf
 have e : 2 * (r * c) = 2 * r * c := by ac_rfl
 rw [e]
 by_cases c1 : 2 * r < p
 ·rw [if_pos c1, if_pos (Nat.mul_lt_mul_of_pos_right c1 hc)]
 ·rw [if_neg c1, if_neg (fun h => c1 (Nat.lt_of_mul_lt_mul_right h))]
  by_cases c2 : p < 2 * r
  ·rw [if_pos c2, if_pos (Nat.mul_lt_mul_of_pos_right c2 hc)]
  ·rw [if_neg c2, if_neg (fun h => c2 (Nat.lt_of_mul_lt_mul_right h))]
theorem zgM (r p : Nat) : hlf r p = -1 ∨ hlf r p = 0 ∨ hlf r p = 1 := by unfold hlf; split <;> (try split) <;> simp
theorem zkq {z : Nat} {e : Int} (n : Nat) (h : (dx (exN z e)).length ≤ n) :
  MM z e (((dx (exN z e)).length : Int) - (exG e : Int) - (n : Int)) = exN z e * 10 ^ (n - (dx (exN z e)).length) * DD e (((dx (exN z e)).length : Int) - (exG e : Int) - (n : Int)) := by
 unfold MM DD
 rw [Nat.mul_assoc, ← Nat.pow_add]
 congr 2; omega
theorem zkr {z : Nat} {e : Int} (n : Nat) (h : n ≤ (dx (exN z e)).length) : ∃ c, 0 < c ∧
  MM z e (((dx (exN z e)).length : Int) - (exG e : Int) - (n : Int)) = exN z e * c ∧ DD e (((dx (exN z e)).length : Int) - (exG e : Int) - (n : Int)) = 10 ^ ((dx (exN z e)).length - n) * c := by
 refine ⟨10 ^ (-(((dx (exN z e)).length : Int) - (exG e : Int) - (n : Int))).toNat, zdK _, rfl, ?_⟩
 unfold DD
 rw [← Nat.pow_add]
 congr 1; omega
theorem qgn {N n : Nat} (hN : N ≠ 0) (h1 : 1 ≤ n) (h2 : n < (tr (dx N)).length) : ∃ (A : List UInt8) (c : UInt8) (B : List UInt8), tr (dx N) = A ++ c :: B ∧ A.length = n ∧ dx (N / 10 ^ ((dx N).length - n)) = A ∧
  hlf (N % 10 ^ ((dx N).length - n)) (10 ^ ((dx N).length - n)) = (if c.toNat < 53 then -1 else if 53 < c.toNat then 1 else if B ≠ [] then 1 else 0) ∧ N % 10 ^ ((dx N).length - n) ≠ 0 := by
 obtain ⟨j, hj⟩ := zcD (dx N)
 have hall := zbL N
 cases hd : (tr (dx N)).drop n with
 | nil =>
  have := congrArg List.length hd
  rw [List.length_drop] at this
  simp at this; omega
 | cons c B =>
  have e1 : tr (dx N) = (tr (dx N)).take n ++ c :: B := by rw [← hd, List.take_append_drop]
  have hlA : ((tr (dx N)).take n).length = n := by rw [List.length_take]; omega
  generalize hA : (tr (dx N)).take n = A at e1 hlA
  have e2 : dx N = A ++ (c :: (B ++ List.replicate j 48)) := by
   conv => lhs; rw [hj, e1]
   simp
  have e3 : (c :: (B ++ List.replicate j 48)).length = (dx N).length - n := by
   have := congrArg List.length e2
   rw [List.length_append] at this
   omega
  obtain ⟨p1, p2⟩ := zeg hN e2 (fun h => by rw [h] at hlA; simp at hlA; omega)
  rw [e3] at p1 p2
  have hR : (c :: (B ++ List.replicate j 48)).all isD = true := by rw [e2] at hall; exact (zbF hall).2
  have hne : zi (B ++ List.replicate j 48) 0 ≠ 0 ↔ B ≠ [] := by
   rw [ze7 hall (A := A ++ [c]) (B := B ++ List.replicate j 48) (by rw [e2]; simp), e1]
   rw [List.length_append, List.length_append, List.length_singleton, List.length_cons]
   constructor
   ·intro h hB; rw [hB] at h; simp at h
   ·intro h; have := List.length_pos_iff.2 h; omega
  refine ⟨A, c, B, e1, hlA, p1, ?_, ?_⟩
  ·rw [p2, ← e3, zjS hR]
   by_cases d1 : c.toNat < 53
   ·rw [if_pos d1, if_pos d1]
   rw [if_neg d1, if_neg d1]
   by_cases d2 : 53 < c.toNat
   ·rw [if_pos d2, if_pos d2]
   rw [if_neg d2, if_neg d2]
   by_cases c1 : B = []
   ·rw [if_neg (fun h => hne.1 h c1), if_neg (fun h => h c1)]
   ·rw [if_pos (hne.2 c1), if_pos c1]
  ·rw [p2]
   exact (ze7 hall e2).2 (by rw [hlA]; exact h2)
def upS (m : Int) (s : Bool) (c : Int) (o : Bool) : Bool := if m = 4 then !s else if m = 5 then s else if m = 2 then decide (0 ≤ c) else if m = 1 then (decide (0 < c) || (decide (c = 0) && o)) else false
def shN (m : Int) (s : Bool) (N G n : Nat) : List UInt8 :=
 if n < (tr (dx N)).length then
  za5 s (N / 10 ^ ((dx N).length - n) + if upS m s (hlf (N % 10 ^ ((dx N).length - n)) (10 ^ ((dx N).length - n))) (decide (N / 10 ^ ((dx N).length - n) % 2 = 1)) = true then 1 else 0) (((dx N).length : Int) - G - n)
 else zbw s (tr (dx N)) (((dx N).length : Int) - 1 - G)
theorem zjj {N n : Nat} {A : List UInt8} (h1 : 1 ≤ n) (hA : A.length = n) (h : dx (N / 10 ^ ((dx N).length - n)) = A) (hh : ∀ b r, A = b :: r → b ≠ 48) : N / 10 ^ ((dx N).length - n) ≠ 0 := by
 intro hz
 rw [hz] at h
 have : dx 0 = [48] := by decide
 rw [this] at h
 exact hh 48 [] h.symm rfl
theorem zlU {l A B : List UInt8} (e : l = A ++ B) : l.take A.length = A := by rw [e]; simp
theorem zjp {N : Nat} (hN : N ≠ 0) {A R : List UInt8} (e : tr (dx N) = A ++ R) : ∀ b r, A = b :: r → b ≠ 48 := by
 intro b r hb
 obtain ⟨b0, r0, e0, h0⟩ := zbc hN
 obtain ⟨r1, h1⟩ := zdL e0 h0
 rw [h1, hb] at e
 rw [← (List.cons.inj e).1]; exact h0
theorem zlI {m : Int} (hm : isM m) {s : Bool} {c : Int} (hc : c = -1 ∨ c = 0 ∨ c = 1) {o : Bool} {j4 : Nat → Bool → Option (ByteArray × Int)} {od : Option Bool} (ho : od = some o) {r : ByteArray × Int} (h : Ev (fun k => j4 k (upS m s c o)) r) :
  Ev (fun k => if m = 4 then j4 k (!s) else (if m = 5 then j4 k s else (if m = 2 then j4 k (decide (c ≥ 0)) else (if m = 1 then (if c > 0 then j4 k true else (if c = 0 then (od.bind fun t => j4 k t) else j4 k false)) else j4 k false)))) r := by
 have hm' : m = 1 ∨ m = 2 ∨ m = 3 ∨ m = 4 ∨ m = 5 := by unfold isM at hm; omega
 subst ho
 rcases hm' with rfl | rfl | rfl | rfl | rfl <;> rcases hc with rfl | rfl | rfl <;> exact h
theorem ziA {f m : Int} (h : isF f) (hm : isM m) {w : Nat} (hw : w < 2 * sg f) (c1 : cls f w ≠ 1) (c4 : cls f w < 4) {n : Nat} (h1 : 1 ≤ n) (h2 : n ≤ 800) (nm : ByteArray) :
  Ev (fun k => zw.j1 k f m (w : Int) (n : Int) nm false false) (bx (shN m (zn f w) (nN f w) (nG f w) n), 0) := by
 obtain ⟨hN, hl, hg⟩ := zfp h c1 c4
 have hall := zjm h hw c1 c4
 revert hN hl hg hall
 generalize nN f w = N
 generalize nG f w = G
 generalize zn f w = s
 intro hN hl hg hall
 obtain ⟨b, r, e, hb⟩ := zbc hN
 obtain ⟨r', e'⟩ := zdL e hb
 have htl := zdM (dx N)
 have hzt := zE (tr (dx N))
 have hpos := zcs hN
 refine zf ?_; simp only [zw.j1]
 refine ze (by simp) (ze (by simp) (Ev.bind hall ?_))
 dsimp only
 unfold shN
 by_cases c : n < (tr (dx N)).length
 rotate_left
 ·rw [if_neg c]
  exact zd (by omega) (Ev.bind (zfu s e' (by omega) (by omega) (by omega)) (Ev.now _))
 rw [if_pos c]
 obtain ⟨A, d, B, t1, t2, t3, t4, t5⟩ := qgn hN h1 c
 have hhead := zjp hN t1
 have hq := zjj h1 t2 t3 hhead
 have hDall := zib (zbL N)
 have hrest := zls s (A := A) (B := B) (c := d) (((dx N).length : Int) - 1 - G) (by rw [← t1]; omega)
 rw [← t1, t2, ← t4] at hrest
 have hA0 : A ≠ [] := fun hh => by rw [hh] at t2; simp at t2; omega
 have hodd : zbK.f s (bx (tr (dx N))) (((dx N).length : Int) - 1 - G) (n : Int) = some (decide (N / 10 ^ ((dx N).length - n) % 2 = 1)) := by
  rcases List.eq_nil_or_concat A with hh | ⟨A', c', hh⟩
  ·exact absurd hh hA0
  ·rw [List.concat_eq_append] at hh
   have := zkH s (A := A') (B := d :: B) (c := c') hDall (((dx N).length : Int) - 1 - G) (by omega) (by rw [t1, hh]; simp)
   rw [← hh] at this
   have hl2 : n = A'.length + 1 := by rw [← t2, hh]; simp
   rw [hl2, this, ← hl2, ← t3, zb7]
 have htk : (tr (dx N)).take n = A := by rw [← t2]; exact zlU t1
 have hv : zi ((tr (dx N)).take n) 0 = N / 10 ^ ((dx N).length - n) := by rw [htk, ← t3, zb7]
 have hmore := zku s hDall e' hb (by omega) (x := ((dx N).length : Int) - 1 - G) (by omega) h1 (by omega)
 have hless := zkb s (d := tr (dx N)) (by omega) (((dx N).length : Int) - 1 - G) (n := n) (by omega)
 rw [hv] at hmore
 rw [htk] at hless
 generalize hqq : N / 10 ^ ((dx N).length - n) = q at hmore hodd hq t3 ⊢
 have hj4 : ∀ u : Bool, Ev (fun k => zw.j4 k (n : Int) s (bx (tr (dx N))) (((dx N).length : Int) - 1 - G) u) (bx (za5 s (q + if u = true then 1 else 0) (((dx N).length : Int) - G - n)), 0) := by
  intro u
  refine zf ?_; simp only [zw.j4]
  cases u with
  | true =>
   obtain ⟨b2, r2, e2, hb2⟩ := zbc (n := q + 1) (by omega)
   obtain ⟨r3, e3⟩ := zdL e2 hb2
   have hl3 := zdM (dx (q + 1))
   have hl4 : (dx (q + 1)).length ≤ n + 1 := by
    apply zfb _ (by omega)
    have := zcY q
    rw [t3, t2] at this
    rw [Nat.pow_succ]; omega
   refine zd rfl (Ev.bind hmore (Ev.bind (zfu s e3 (x := ((dx N).length : Int) - 1 - G + ((dx (q + 1)).length : Int) - n) (by omega) (by omega) (by omega)) (zg (Ev.now _) ?_)))
   unfold za5
   rw [if_pos rfl, show ((dx N).length : Int) - G - n + ((dx (q + 1)).length : Int) - 1 = ((dx N).length : Int) - 1 - G + ((dx (q + 1)).length : Int) - n by omega]
  | false =>
   obtain ⟨b2, r2, e2, hb2⟩ := zbc hq
   have e3 : ∃ r3, tr A = b2 :: r3 := by rw [t3] at e2; exact zdL e2 hb2
   obtain ⟨r3, e3⟩ := e3
   have hl3 := zdM A
   refine ze (by simp) (Ev.bind hless (Ev.bind (zfu s e3 (x := ((dx N).length : Int) - 1 - G) (by omega) (by omega) (by omega)) (zg (Ev.now _) ?_)))
   unfold za5
   rw [if_neg (by simp), Nat.add_zero, t3, t2, show ((dx N).length : Int) - G - n + (n : Int) - 1 = ((dx N).length : Int) - 1 - G by omega]
 refine ze (by omega) (zk hrest ?_)
 exact zlI hm (zgM _ _) hodd (hj4 _)
def shS (f m : Int) (w n : Nat) : List UInt8 := if zag f w = true then nmT f w else shN m (zn f w) (nN f w) (nG f w) n
theorem ziz {f m : Int} (h : isF f) (hm : isM m) {w : Nat} (hw : w < 2 * sg f) {n : Int} (h1 : 1 ≤ n) (h2 : n ≤ 800) : Ev (fun k => zw.f k f m (w : Int) n) (bx (shS f m w n.toNat), 0) := by
 have hn : n = ((n.toNat : Nat) : Int) := by omega
 unfold zw.f
 refine Ev.bind (zeX h hm false) (ze (by simp) (Ev.bind (zg9 h hw) (ze (by simp) (ze (by omega) ?_))))
 rw [show decide (n > 800) = false from decide_eq_false (by omega)]
 unfold shS
 by_cases hnm : zag f w = true
 ·rw [if_pos hnm, hnm]
  refine zf ?_; simp only [zw.j1]
  exact ze (by simp) (zd trivial (Ev.now _))
 ·rw [if_neg hnm]
  have hf : zag f w = false := by simpa using hnm
  obtain ⟨c5, c4, c1⟩ := zgQ hf
  rw [hf, hn, Int.toNat_natCast]
  exact ziA h hm hw c1 (zgJ h c5 c4) (by omega) (by omega) _
theorem zf9 {f m : Int} (h : isF f) (hm : isM m) {w : Nat} (hw : w < 2 * sg f) {n : Int} (hn : n < 1 ∨ n > 800) : Ev (fun k => zw.f k f m (w : Int) n) (⟨#[]⟩, 20) := by
 have hgo : Ev (fun k => zw.j1 k f m (w : Int) n (bx (nmT f w)) (zag f w) true) (⟨#[]⟩, 20) := by
  refine zf ?_; simp only [zw.j1]
  exact zd trivial (Ev.now _)
 unfold zw.f
 refine Ev.bind (zeX h hm false) (ze (by simp) (Ev.bind (zg9 h hw) (ze (by simp) ?_)))
 by_cases c : n < 1
 ·exact zd c hgo
 ·rw [show decide (n > 800) = true from decide_eq_true (by omega)]
  exact ze c hgo
theorem ziy {f m : Int} (hf : fmE f m ≠ 0) (w n : Int) : Ev (fun k => zw.f k f m w n) (⟨#[]⟩, fmE f m) := by
 unfold zw.f
 exact Ev.bind (ziu hf false) (zd (by simpa using hf) (Ev.now _))
theorem zix {f m : Int} (h : isF f) (hm : isM m) {w : Nat} (hw : ¬ w < 2 * sg f) (n : Int) : Ev (fun k => zw.f k f m (w : Int) n) (⟨#[]⟩, 6) := by
 unfold zw.f
 exact Ev.bind (zeX h hm false) (ze (by simp) (Ev.bind (zkx h hw) (zd (by simp) (Ev.now _))))
theorem zmt {f : Int} (h : isF f) {w : Nat} (c1 : cls f w ≠ 1) (c4 : cls f w < 4) : Pn (dz f w) (we f w) := by
 have W := zde h c1 c4
 have hd : Dy false (D (dz f w)) (we f w) := ⟨W.my.dy.nm, fun hh => ⟨rfl, (W.my.dy.none hh).2⟩, W.my.dy.odd⟩
 have e := zfj hd
 rw [V_D, show sv false (dz f w) = ((dz f w : Nat) : Int) from rfl] at e
 have h4 := W.hi
 exact ⟨e, W.ne, W.b, W.lo, by omega⟩
theorem zly {m : Int} (hm : isM m) {s : Bool} {c : Int} (hc : c = -1 ∨ c = 0 ∨ c = 1) {b : Int} {o : Bool} (ho : decide (b = 1) = o) {T : Nat → Bool → Option ByteArray} {r : ByteArray} (h : Ev (fun k => T k (upS m s c o)) r) :
  Ev (fun k => if m = 4 then (if (!s) = true then T k true else (if m = 5 then (if s = true then T k true else (if m = 1 then (if c > 0 then T k true else (if c = 0 then (if m = 2 then T k true else T k (decide (b = 1))) else T k false)) else (if m = 2 then (if c > 0 then T k true else (if c = 0 then (if m = 2 then T k true else T k (decide (b = 1))) else T k false)) else T k false))) else (if m = 1 then (if c > 0 then T k true else (if c = 0 then (if m = 2 then T k true else T k (decide (b = 1))) else T k false)) else (if m = 2 then (if c > 0 then T k true else (if c = 0 then (if m = 2 then T k true else T k (decide (b = 1))) else T k false)) else T k false)))) else (if m = 5 then (if s = true then T k true else (if m = 1 then (if c > 0 then T k true else (if c = 0 then (if m = 2 then T k true else T k (decide (b = 1))) else T k false)) else (if m = 2 then (if c > 0 then T k true else (if c = 0 then (if m = 2 then T k true else T k (decide (b = 1))) else T k false)) else T k false))) else (if m = 1 then (if c > 0 then T k true else (if c = 0 then (if m = 2 then T k true else T k (decide (b = 1))) else T k false)) else (if m = 2 then (if c > 0 then T k true else (if c = 0 then (if m = 2 then T k true else T k (decide (b = 1))) else T k false)) else T k false)))) r := by
 have hm' : m = 1 ∨ m = 2 ∨ m = 3 ∨ m = 4 ∨ m = 5 := by unfold isM at hm; omega
 subst ho
 rcases hm' with rfl | rfl | rfl | rfl | rfl <;> rcases hc with rfl | rfl | rfl <;> cases s <;> exact h
theorem ziS {z : Nat} {e : Int} (n : Nat) (h : (dx (exN z e)).length ≤ n) :
  MM z e (((dx (exN z e)).length : Int) - (exG e : Int) - (n : Int)) / DD e (((dx (exN z e)).length : Int) - (exG e : Int) - (n : Int)) = exN z e * 10 ^ (n - (dx (exN z e)).length) ∧
  MM z e (((dx (exN z e)).length : Int) - (exG e : Int) - (n : Int)) % DD e (((dx (exN z e)).length : Int) - (exG e : Int) - (n : Int)) = 0 := by
 have hp := zeS e (((dx (exN z e)).length : Int) - (exG e : Int) - (n : Int))
 have hm := zkq n h
 generalize MM z e _ = M at hm ⊢
 generalize DD e _ = K at hm hp ⊢
 rw [hm]
 exact ⟨Nat.mul_div_cancel _ hp, Nat.mul_mod_left _ _⟩
theorem ziT {z : Nat} {e : Int} (n : Nat) (h : n ≤ (dx (exN z e)).length) :
  MM z e (((dx (exN z e)).length : Int) - (exG e : Int) - (n : Int)) / DD e (((dx (exN z e)).length : Int) - (exG e : Int) - (n : Int)) = exN z e / 10 ^ ((dx (exN z e)).length - n) ∧
  (MM z e (((dx (exN z e)).length : Int) - (exG e : Int) - (n : Int)) % DD e (((dx (exN z e)).length : Int) - (exG e : Int) - (n : Int)) ≠ 0 ↔ exN z e % 10 ^ ((dx (exN z e)).length - n) ≠ 0) ∧
  hlf (MM z e (((dx (exN z e)).length : Int) - (exG e : Int) - (n : Int)) % DD e (((dx (exN z e)).length : Int) - (exG e : Int) - (n : Int))) (DD e (((dx (exN z e)).length : Int) - (exG e : Int) - (n : Int))) =
   hlf (exN z e % 10 ^ ((dx (exN z e)).length - n)) (10 ^ ((dx (exN z e)).length - n)) := by
 obtain ⟨c, hc, h1, h2⟩ := zkr n h
 generalize MM z e _ = M at h1 ⊢
 generalize DD e _ = K at h2 ⊢
 subst h1; subst h2
 rw [Nat.mul_div_mul_right _ _ hc, Nat.mul_mod_mul_right, zjT _ _ hc]
 refine ⟨rfl, ?_, rfl⟩
 constructor
 ·intro hh hz; exact hh (by rw [hz, Nat.zero_mul])
 ·intro hh; exact Nat.mul_ne_zero hh (by omega)
theorem zeV {q n : Nat} (h : (dx q).length ≤ n) (hn : n ≤ 7000) : (D q).length ≤ 1000 := by
 apply zbD
 have h3 := zcY q
 have h4 := zcJ (Nat.le_of_lt h3)
 have h5 := zbQ (dx q).length
 omega
theorem zkO {N n : Nat} (hN : N ≠ 0) (h1 : 1 ≤ n) (h2 : n ≤ (dx N).length) (h3 : ¬ n < (tr (dx N)).length) : tr (dx (N / 10 ^ ((dx N).length - n))) = tr (dx N) := by
 obtain ⟨j, hj⟩ := zcD (dx N)
 have hlj := congrArg List.length hj
 rw [List.length_append, List.length_replicate] at hlj
 have e2 : dx N = (tr (dx N) ++ List.replicate (n - (tr (dx N)).length) 48) ++ List.replicate ((dx N).length - n) 48 := by
  rw [List.append_assoc, List.replicate_append_replicate, show n - (tr (dx N)).length + ((dx N).length - n) = j by omega]
  exact hj
 obtain ⟨p1, p2⟩ := zeg hN e2 (by
  intro hh
  have := congrArg List.length hh
  rw [List.length_append, List.length_replicate] at this
  simp only [List.length_nil] at this
  omega)
 rw [List.length_replicate] at p1
 rw [p1, zdN, zmb]
theorem zkP {N n : Nat} (hN : N ≠ 0) (h1 : 1 ≤ n) (h2 : n ≤ (dx N).length) : (dx (N / 10 ^ ((dx N).length - n))).length = n ∧ N / 10 ^ ((dx N).length - n) ≠ 0 := by
 have e2 : dx N = (dx N).take n ++ (dx N).drop n := (List.take_append_drop n _).symm
 have hl : ((dx N).take n).length = n := by rw [List.length_take]; omega
 obtain ⟨p1, p2⟩ := zeg hN e2 (fun hh => by rw [hh] at hl; simp at hl; omega)
 rw [List.length_drop] at p1
 refine ⟨by rw [p1, hl], fun hz => ?_⟩
 obtain ⟨b, r, hb, hb0⟩ := zbc hN
 obtain ⟨t, ht⟩ := zh2 hb h1
 rw [hz, ht] at p1
 have h0 : dx 0 = [48] := by decide
 rw [h0] at p1
 exact hb0 (List.cons.inj p1).1.symm
theorem zjD {q n : Nat} (h : (dx q).length = n) (hq : q ≠ 0) : (dx (q + 1)).length ≤ n + 1 ∧ n ≤ (dx (q + 1)).length := by
 have hp := zcs hq
 have k0 := zcY q
 have k1 := zgF hq
 rw [h] at k0 k1 hp
 constructor
 ·apply zfb _ (by omega)
  rw [Nat.pow_succ]; omega
 ·apply Nat.le_of_not_lt
  intro hlt
  have k2 := zcY (q + 1)
  have k3 : 10 ^ (dx (q + 1)).length ≤ 10 ^ (n - 1) := Nat.pow_le_pow_right (by omega) (by omega)
  omega
theorem zhz (s : Bool) (l : List Int) (e0 : Int) {q : Nat} (hq : q ≠ 0) {n : Nat} (hl : (dx q).length ≤ n + 1) (hn : n ≤ 900) {x : Int} (h1 : -1099 < x + (n : Int) - 1) (h2 : x + (n : Int) - 1 < 1000) (h3 : n ≤ (dx q).length) : Ev (fun k => zj.j2 k s l e0 x (D q)) (bx (za5 s q x)) := by
 refine zf ?_; simp only [zj.j2]
 exact Ev.bind (zlA s hq (by omega) (by omega) (by omega)) (Ev.now _)
theorem zla {f m : Int} (h : isF f) (hm : isM m) (w : Nat) {n : Int} (h1 : 1 ≤ n) (h2 : n ≤ 800) : Ev (fun k => zj.f k f m (w : Int) n) (bx (shS f m w n.toNat)) := by
 obtain ⟨n, rfl⟩ : ∃ j : Nat, n = (j : Int) := ⟨n.toNat, by omega⟩
 rw [Int.toNat_natCast]
 unfold zj.f shS
 refine Ev.bind (zk7 h w) ?_
 by_cases hnm : zag f w = true
 ·rw [if_pos hnm]
  exact zd hnm (Ev.now _)
 rw [if_neg hnm]
 obtain ⟨c5, c4, c1⟩ := zgQ (by simpa using hnm)
 have hf := zgJ h c5 c4
 have P := zmt h c1 hf
 obtain ⟨hN, hl, hg⟩ := zfp h c1 hf
 refine ze hnm (Ev.bind (zlC h c1 hf) ?_)
 unfold nN at hN hl
 unfold nG at hg
 unfold nN nG
 revert P hN hl hg
 generalize dz f w = z
 generalize we f w = e
 generalize zn f w = s
 intro P hN hl hg
 have hpos := zcs hN
 have hPl := ziw P
 have hwr : wrap64 (wrap64 (((dx (exN z e)).length : Int) - 1 - (exG e : Int) - (n : Int)) + 1) = ((dx (exN z e)).length : Int) - (exG e : Int) - (n : Int) := by
  rw [w64 (n := ((dx (exN z e)).length : Int) - 1 - (exG e : Int) - (n : Int)) (by omega) (by omega), w64 (by omega) (by omega)]; omega
 have hB := ziq P (x := ((dx (exN z e)).length : Int) - (exG e : Int) - (n : Int)) (by omega) (by omega)
 have hH := zjQ P (x := ((dx (exN z e)).length : Int) - (exG e : Int) - (n : Int)) (by omega) (by omega)
 refine zk (a := (false, D z, e)) rfl (Ev.bind hPl ?_)
 dsimp only
 rw [hwr]
 refine Ev.bind hB ?_
 dsimp only
 clear hPl hB hwr
 have j1f : ∀ {q : Nat}, q ≠ 0 → (dx q).length = n → Ev (fun k => zj.j1 k s (D z) e (((dx (exN z e)).length : Int) - (exG e : Int) - (n : Int)) (D q) false) (bx (za5 s q (((dx (exN z e)).length : Int) - (exG e : Int) - (n : Int)))) := by
  intro q hq hlq
  refine zf ?_; simp only [zj.j1]
  exact ze (by simp) (zhz s _ _ hq (n := n) (by omega) (by omega) (by omega) (by omega) (by omega))
 by_cases ch : (dx (exN z e)).length ≤ n
 ·obtain ⟨b1, b2⟩ := ziS (z := z) (e := e) n ch
  have htl := zdM (dx (exN z e))
  rw [b1, b2]
  refine ze (by simp) ?_
  have hq : exN z e * 10 ^ (n - (dx (exN z e)).length) ≠ 0 := Nat.mul_ne_zero hN (Nat.ne_of_gt (zdK _))
  have := j1f hq (by rw [zeh hN, List.length_append, List.length_replicate]; omega)
  refine zg this ?_
  unfold shN
  rw [if_neg (by omega), show ((dx (exN z e)).length : Int) - (exG e : Int) - (n : Int) = -(exG e : Int) - ((n - (dx (exN z e)).length : Nat) : Int) by omega, zma s hN]
  unfold za5
  rw [show -(exG e : Int) + ((dx (exN z e)).length : Int) - 1 = ((dx (exN z e)).length : Int) - 1 - (exG e : Int) by omega]
 ·obtain ⟨b1, b2, b3⟩ := ziT (z := z) (e := e) n (by omega)
  obtain ⟨q1, q2⟩ := zkP hN (by omega : 1 ≤ n) (by omega)
  rw [b1] at hH ⊢
  have hH' := hH (zeV (Nat.le_of_eq q1) (by omega))
  rw [b3] at hH'
  clear hH
  by_cases ct : n < (tr (dx (exN z e))).length
  ·have hne := (b2.2 (by
    obtain ⟨_, _, _, _, _, _, _, hh⟩ := qgn hN (by omega : 1 ≤ n) ct
    exact hh))
   rw [decide_eq_true hne]
   have hbit := zeF (zO (exN z e / 10 ^ ((dx (exN z e)).length - n))) (by have := zeV (Nat.le_of_eq q1) (by omega); omega) 0 (by omega)
   rw [V_D, Nat.pow_zero, Nat.div_one] at hbit
   refine zd rfl (Ev.bind hH' (zk hbit ?_))
   unfold shN
   rw [if_pos ct]
   refine zly hm (zgM _ _) (b := (((exN z e / 10 ^ ((dx (exN z e)).length - n)) % 2 : Nat) : Int)) (o := decide ((exN z e / 10 ^ ((dx (exN z e)).length - n)) % 2 = 1)) (decide_eq_decide.2 (by omega)) (T := fun k u => zj.j1 k s (D z) e (((dx (exN z e)).length : Int) - (exG e : Int) - (n : Int)) (D (exN z e / 10 ^ ((dx (exN z e)).length - n))) u) ?_
   generalize upS m s _ _ = u
   cases u with
   | false =>
    rw [if_neg (by simp), Nat.add_zero]
    exact j1f q2 q1
   | true =>
    rw [if_pos rfl]
    have hlq := zeV (Nat.le_of_eq q1) (by omega)
    have ha := zeE (zO (exN z e / 10 ^ ((dx (exN z e)).length - n))) (zO 1) (by omega) (by rw [zbW]; simp)
    rw [V_D, V_D, zbW] at ha
    obtain ⟨hup, hdn⟩ := zjD q1 q2
    refine zf ?_; simp only [zj.j1]
    exact zd trivial (Ev.bind ha (zhz s _ _ (Nat.succ_ne_zero _) (n := n) hup (by omega) (by omega) (by omega) hdn))
  ·have hz : exN z e % 10 ^ ((dx (exN z e)).length - n) = 0 := by
    have hd := (zeg hN (List.take_append_drop n (dx (exN z e))).symm (fun hh => by
     have := congrArg List.length hh
     rw [List.length_take] at this
     simp only [List.length_nil] at this; omega)).2
    rw [List.length_drop] at hd
    rw [hd]
    have hdd := ze7 (zbL (exN z e)) (List.take_append_drop n (dx (exN z e))).symm
    rw [List.length_take] at hdd
    by_cases hx : zi ((dx (exN z e)).drop n) 0 = 0
    ·exact hx
    ·exact absurd (hdd.1 hx) (by omega)
   have hflag : decide (MM z e (((dx (exN z e)).length : Int) - (exG e : Int) - (n : Int)) % DD e (((dx (exN z e)).length : Int) - (exG e : Int) - (n : Int)) ≠ 0) = false := decide_eq_false (fun hh => b2.1 hh hz)
   rw [hflag]
   refine ze (by simp) (zg (j1f q2 q1) ?_)
   unfold shN za5
   rw [if_neg ct, q1, zkO hN (by omega) (by omega) ct, show ((dx (exN z e)).length : Int) - (exG e : Int) - (n : Int) + (n : Int) - 1 = ((dx (exN z e)).length : Int) - 1 - (exG e : Int) by omega]
theorem zis (f m w n : Int) (hw : IntKind.u64.min ≤ w ∧ w ≤ IntKind.u64.max) : Ev (fun k => zaX.f k f m w n) true := by
 obtain ⟨w, rfl, hlt⟩ := zmm hw
 unfold zaX.f
 by_cases hb : fmE f m = 0
 rotate_left
 ·refine Ev.bind (ziy hb _ _) (Ev.bind (zjv hb [(w : Int)]) ?_)
  exact zd (by simpa using hb) (zd rfl (zd rfl zec))
 obtain ⟨h, hm⟩ := zjM hb
 have ho := zjw h hm hlt
 by_cases hg : w < 2 * sg f
 rotate_left
 ·rw [if_neg hg] at ho
  exact Ev.bind (zix h hm hg _) (Ev.bind ho (zd (by simp) (zd rfl (zd rfl zec))))
 rw [if_pos hg] at ho
 have hj2 : ∀ {t : ByteArray}, t = ⟨#[]⟩ → Ev (fun k => zaX.j2 k f m (w : Int) n t 20 true) true := by
  intro t ht
  refine zf ?_; simp only [zaX.j2]
  exact zd trivial (zd ht (zd trivial zec))
 by_cases c1 : n < 1
 ·exact Ev.bind (zf9 h hm hg (.inl c1)) (Ev.bind ho (ze (by simp) (zd c1 (hj2 rfl))))
 by_cases c2 : n > 800
 ·refine Ev.bind (zf9 h hm hg (.inr c2)) (Ev.bind ho (ze (by simp) (ze c1 ?_)))
  rw [decide_eq_true c2]
  exact hj2 rfl
 ·refine Ev.bind (ziz h hm hg (by omega) (by omega)) (Ev.bind ho (ze (by simp) (ze c1 ?_)))
  rw [decide_eq_false c2]
  refine zf ?_; simp only [zaX.j2]
  exact ze (by simp) (Ev.bind (zla h hm w (by omega) (by omega)) (zd rfl (zd trivial zec)))
end Go.Proofs.YtnkpmjhlkmlmbaaGreatDoor.Eng.K
