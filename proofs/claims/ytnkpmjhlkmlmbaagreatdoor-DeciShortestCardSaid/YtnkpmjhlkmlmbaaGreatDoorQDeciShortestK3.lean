import Derived.Test.YtnkpmjhlkmlmbaaGreatDoorQDeciShortestK2
set_option linter.unusedVariables false
set_option linter.unusedSimpArgs false
namespace Go.Proofs.YtnkpmjhlkmlmbaaGreatDoor.Eng.K
open Go.RowKit Go.Proofs.YtnkpmjhlkmlmbaaGreatDoor.Eng
theorem znU (r p : Nat) {c : Nat} (hc : 0 < c) : hlf (r * c) (p * c) = hlf r p := by
 unfold hlf
 have e : 2 * (r * c) = 2 * r * c := by ac_rfl
 rw [e]
 by_cases c1 : 2 * r < p
 ·rw [if_pos c1, if_pos (Nat.mul_lt_mul_of_pos_right c1 hc)]
 ·rw [if_neg c1, if_neg (fun h => c1 (Nat.lt_of_mul_lt_mul_right h))]
  by_cases c2 : p < 2 * r
  ·rw [if_pos c2, if_pos (Nat.mul_lt_mul_of_pos_right c2 hc)]
  ·rw [if_neg c2, if_neg (fun h => c2 (Nat.lt_of_mul_lt_mul_right h))]
theorem zjG (r p : Nat) : hlf r p = -1 ∨ hlf r p = 0 ∨ hlf r p = 1 := by unfold hlf; split <;> (try split) <;> simp
theorem zoB {z : Nat} {e : Int} (n : Nat) (h : n ≤ (dx (exN z e)).length) : ∃ c, 0 < c ∧
  MM z e (((dx (exN z e)).length : Int) - (exG e : Int) - (n : Int)) = exN z e * c ∧ DD e (((dx (exN z e)).length : Int) - (exG e : Int) - (n : Int)) = 10 ^ ((dx (exN z e)).length - n) * c := by
 refine ⟨10 ^ (-(((dx (exN z e)).length : Int) - (exG e : Int) - (n : Int))).toNat, zc8 _, rfl, ?_⟩
 unfold DD
 rw [← Nat.pow_add]
 congr 1; omega
theorem qgn {N n : Nat} (hN : N ≠ 0) (h1 : 1 ≤ n) (h2 : n < (tr (dx N)).length) : ∃ (A : List UInt8) (c : UInt8) (B : List UInt8), tr (dx N) = A ++ c :: B ∧ A.length = n ∧ dx (N / 10 ^ ((dx N).length - n)) = A ∧
  hlf (N % 10 ^ ((dx N).length - n)) (10 ^ ((dx N).length - n)) = (if c.toNat < 53 then -1 else if 53 < c.toNat then 1 else if B ≠ [] then 1 else 0) ∧ N % 10 ^ ((dx N).length - n) ≠ 0 := by
 obtain ⟨j, hj⟩ := zdI (dx N)
 have hall := zcv N
 cases hd : (tr (dx N)).drop n with
 | nil =>
  have := congrArg List.length hd
  rw [List.length_drop] at this
  simp at this; omega
 | cons c B =>
  have e1 : tr (dx N) = (tr (dx N)).take n ++ c :: B := by rw [← hd, List.take_append_drop]
  have hlA : ((tr (dx N)).take n).length = n := by rw [List.length_take]; omega
  generalize hA : (tr (dx N)).take n = A at e1 hlA
  have e2 : dx N = A ++ (c :: (B ++ List.replicate j 48)) := by
   conv => lhs; rw [hj, e1]
   simp
  have e3 : (c :: (B ++ List.replicate j 48)).length = (dx N).length - n := by
   have := congrArg List.length e2
   rw [List.length_append] at this
   omega
  obtain ⟨p1, p2⟩ := zfX hN e2 (fun h => by rw [h] at hlA; simp at hlA; omega)
  rw [e3] at p1 p2
  have hR : (c :: (B ++ List.replicate j 48)).all isD = true := by rw [e2] at hall; exact (zcL hall).2
  have hne : zk (B ++ List.replicate j 48) 0 ≠ 0 ↔ B ≠ [] := by
   rw [zg5 hall (A := A ++ [c]) (B := B ++ List.replicate j 48) (by rw [e2]; simp), e1]
   rw [List.length_append, List.length_append, List.length_singleton, List.length_cons]
   constructor
   ·intro h hB; rw [hB] at h; simp at h
   ·intro h; have := List.length_pos_iff.2 h; omega
  refine ⟨A, c, B, e1, hlA, p1, ?_, ?_⟩
  ·rw [p2, ← e3, znT hR]
   by_cases d1 : c.toNat < 53
   ·rw [if_pos d1, if_pos d1]
   rw [if_neg d1, if_neg d1]
   by_cases d2 : 53 < c.toNat
   ·rw [if_pos d2, if_pos d2]
   rw [if_neg d2, if_neg d2]
   by_cases c1 : B = []
   ·rw [if_neg (fun h => hne.1 h c1), if_neg (fun h => h c1)]
   ·rw [if_pos (hne.2 c1), if_pos c1]
  ·rw [p2]
   exact (zg5 hall e2).2 (by rw [hlA]; exact h2)
def upS (m : Int) (s : Bool) (c : Int) (o : Bool) : Bool := if m = 4 then !s else if m = 5 then s else if m = 2 then decide (0 ≤ c) else if m = 1 then (decide (0 < c) || (decide (c = 0) && o)) else false
theorem zmZ {N n : Nat} {A : List UInt8} (h1 : 1 ≤ n) (hA : A.length = n) (h : dx (N / 10 ^ ((dx N).length - n)) = A) (hh : ∀ b r, A = b :: r → b ≠ 48) : N / 10 ^ ((dx N).length - n) ≠ 0 := by
 intro hz
 rw [hz] at h
 have : dx 0 = [48] := by decide
 rw [this] at h
 exact hh 48 [] h.symm rfl
theorem zqx {l A B : List UInt8} (e : l = A ++ B) : l.take A.length = A := by rw [e]; simp
theorem znb {N : Nat} (hN : N ≠ 0) {A R : List UInt8} (e : tr (dx N) = A ++ R) : ∀ b r, A = b :: r → b ≠ 48 := by
 intro b r hb
 obtain ⟨b0, r0, e0, h0⟩ := zbh hN
 obtain ⟨r1, h1⟩ := zc9 e0 h0
 rw [h1, hb] at e
 rw [← (List.cons.inj e).1]; exact h0
theorem zrd {f : Int} (h : isF f) {w : Nat} (c1 : cls f w ≠ 1) (c4 : cls f w < 4) : Pn (dz f w) (we f w) := by
 have W := zec h c1 c4
 have hd : Dy false (D (dz f w)) (we f w) := ⟨W.my.dy.nm, fun hh => ⟨rfl, (W.my.dy.none hh).2⟩, W.my.dy.odd⟩
 have e := zfi hd
 rw [V_D, show sv false (dz f w) = ((dz f w : Nat) : Int) from rfl] at e
 have h4 := W.hi
 exact ⟨e, W.ne, W.b, W.lo, by omega⟩
theorem zmx {z : Nat} {e : Int} (n : Nat) (h : n ≤ (dx (exN z e)).length) :
  MM z e (((dx (exN z e)).length : Int) - (exG e : Int) - (n : Int)) / DD e (((dx (exN z e)).length : Int) - (exG e : Int) - (n : Int)) = exN z e / 10 ^ ((dx (exN z e)).length - n) ∧
  (MM z e (((dx (exN z e)).length : Int) - (exG e : Int) - (n : Int)) % DD e (((dx (exN z e)).length : Int) - (exG e : Int) - (n : Int)) ≠ 0 ↔ exN z e % 10 ^ ((dx (exN z e)).length - n) ≠ 0) ∧
  hlf (MM z e (((dx (exN z e)).length : Int) - (exG e : Int) - (n : Int)) % DD e (((dx (exN z e)).length : Int) - (exG e : Int) - (n : Int))) (DD e (((dx (exN z e)).length : Int) - (exG e : Int) - (n : Int))) =
   hlf (exN z e % 10 ^ ((dx (exN z e)).length - n)) (10 ^ ((dx (exN z e)).length - n)) := by
 obtain ⟨c, hc, h1, h2⟩ := zoB n h
 generalize MM z e _ = M at h1 ⊢
 generalize DD e _ = K at h2 ⊢
 subst h1; subst h2
 rw [Nat.mul_div_mul_right _ _ hc, Nat.mul_mod_mul_right, znU _ _ hc]
 refine ⟨rfl, ?_, rfl⟩
 constructor
 ·intro hh hz; exact hh (by rw [hz, Nat.zero_mul])
 ·intro hh; exact Nat.mul_ne_zero hh (by omega)
theorem zlX {q n : Nat} (h : (dx q).length ≤ n) (hn : n ≤ 7000) : (D q).length ≤ 1000 := by
 apply zcK
 have h3 := zdZ q
 have h4 := zat (Nat.le_of_lt h3)
 have h5 := zbz (dx q).length
 omega
theorem zo5 {N n : Nat} (hN : N ≠ 0) (h1 : 1 ≤ n) (h2 : n ≤ (dx N).length) (h3 : ¬ n < (tr (dx N)).length) : tr (dx (N / 10 ^ ((dx N).length - n))) = tr (dx N) := by
 obtain ⟨j, hj⟩ := zdI (dx N)
 have hlj := congrArg List.length hj
 rw [List.length_append, List.length_replicate] at hlj
 have e2 : dx N = (tr (dx N) ++ List.replicate (n - (tr (dx N)).length) 48) ++ List.replicate ((dx N).length - n) 48 := by
  rw [List.append_assoc, List.replicate_append_replicate, show n - (tr (dx N)).length + ((dx N).length - n) = j by omega]
  exact hj
 obtain ⟨p1, p2⟩ := zfX hN e2 (by
  intro hh
  have := congrArg List.length hh
  rw [List.length_append, List.length_replicate] at this
  simp only [List.length_nil] at this
  omega)
 rw [List.length_replicate] at p1
 rw [p1, zgw, zqR]
theorem zo7 {N n : Nat} (hN : N ≠ 0) (h1 : 1 ≤ n) (h2 : n ≤ (dx N).length) : (dx (N / 10 ^ ((dx N).length - n))).length = n ∧ N / 10 ^ ((dx N).length - n) ≠ 0 := by
 have e2 : dx N = (dx N).take n ++ (dx N).drop n := (List.take_append_drop n _).symm
 have hl : ((dx N).take n).length = n := by rw [List.length_take]; omega
 obtain ⟨p1, p2⟩ := zfX hN e2 (fun hh => by rw [hh] at hl; simp at hl; omega)
 rw [List.length_drop] at p1
 refine ⟨by rw [p1, hl], fun hz => ?_⟩
 obtain ⟨b, r, hb, hb0⟩ := zbh hN
 obtain ⟨t, ht⟩ := zlu hb h1
 rw [hz, ht] at p1
 have h0 : dx 0 = [48] := by decide
 rw [h0] at p1
 exact hb0 (List.cons.inj p1).1.symm
theorem zju {q n : Nat} (h : (dx q).length = n) (hq : q ≠ 0) : (dx (q + 1)).length ≤ n + 1 ∧ n ≤ (dx (q + 1)).length := by
 have hp := zdt hq
 have k0 := zdZ q
 have k1 := zjs hq
 rw [h] at k0 k1 hp
 constructor
 ·apply zjt _ (by omega)
  rw [Nat.pow_succ]; omega
 ·apply Nat.le_of_not_lt
  intro hlt
  have k2 := zdZ (q + 1)
  have k3 : 10 ^ (dx (q + 1)).length ≤ 10 ^ (n - 1) := Nat.pow_le_pow_right (by omega) (by omega)
  omega
theorem znn {d r : List UInt8} {b : UInt8} (hd : d.all isD = true) (e : d = b :: r) (hb : b ≠ 48) : zk d 0 ≠ 0 := by
 subst e
 rw [zcS]
 have h1 := zhw (zeX hd).1 hb
 have hp : 0 < 10 ^ r.length := Nat.pow_pos (by omega)
 have : 1 * 10 ^ r.length ≤ (b.toNat - 48) * 10 ^ r.length := Nat.mul_le_mul_right _ (by omega)
 omega
theorem znZ {f : Int} (h : isF f) (s : Bool) {d r : List UInt8} {b : UInt8} (hd : d.all isD = true) (e : d = b :: r) (hb : b ≠ 48) (hl : d.length ≤ 1200) {x : Int} (hx : -100000 ≤ x ∧ x ≤ 100000) (w : Int) :
  Ev (fun k => zdr.f k s (bx d) x f w) (decide ((zt f 1 s (zk d 0) (x - (d.length : Int) + 1)).1 = w)) := by
 have hz := zK d
 have e1 : tz0 d = b :: r := by
  subst e
  unfold tz0
  rw [List.dropWhile_cons, if_neg (by simpa using hb)]
 have hT := zjK hd e1
 rw [← e] at hT
 have hp := zoK (s := bx d) (by omega)
 rw [zo4 hT hd (by omega)] at hp
 have hr := zm9 h (m := 1) (by decide) s (znn hd e hb) (p := d.length) hl (ze6 hd) (x - (d.length : Int) + 1)
 have hw : Ev (fun k => zev.f k s (bx d) x f 1) ((zt f 1 s (zk d 0) (x - (d.length : Int) + 1)).1, (zt f 1 s (zk d 0) (x - (d.length : Int) + 1)).2, 0) := by
  unfold zev.f
  rw [hz, w64 (n := x - (d.length : Int)) (by omega) (by omega), w64 (n := x - (d.length : Int) + 1) (by omega) (by omega)]
  exact Ev.bind hp (Ev.bind hr (Ev.now _))
 unfold zdr.f
 exact Ev.bind hw (Ev.now _)
theorem zm5 {f m : Int} (h : isF f) (s : Bool) {q : Nat} (hq : q ≠ 0) (x : Int) : zt f m s (zk (tr (dx q)) 0) (x + ((dx q).length : Int) - ((tr (dx q)).length : Int)) = zt f m s q x := by
 have h1 := zno (dx q)
 have h2 := zdH (dx q)
 rw [zcT] at h1
 have h3 : zk (tr (dx q)) 0 ≠ 0 := fun hz => hq (by rw [h1, hz, Nat.zero_mul])
 have := zjl (m := m) h s h3 ((dx q).length - (tr (dx q)).length) x
 rw [← h1] at this
 rw [this]
 congr 1; omega
theorem zjM {f : Int} (h : isF f) (s : Bool) {q : Nat} (hq : q ≠ 0) (hl : (dx q).length ≤ 1200) {x : Int} (hx : -50000 ≤ x ∧ x ≤ 50000) (w : Int) :
  Ev (fun k => zdr.f k s (bx (tr (dx q))) (x + ((dx q).length : Int) - 1) f w) (decide ((zt f 1 s q x).1 = w)) := by
 obtain ⟨b, r, e, hb⟩ := zbh hq
 obtain ⟨r', e'⟩ := zc9 e hb
 have h2 := zdH (dx q)
 have := znZ h s (zil (zcv q)) e' hb (by omega) (x := x + ((dx q).length : Int) - 1) (by omega) w
 rw [show x + ((dx q).length : Int) - 1 - ((tr (dx q)).length : Int) + 1 = x + ((dx q).length : Int) - ((tr (dx q)).length : Int) by omega, zm5 h s hq] at this
 exact this
def srt (f w : Int) (s : Bool) (N G : Nat) : Nat → Nat → List UInt8
 | 0, n => zcB s (tr (dx N)) (((dx N).length : Int) - 1 - G)
 | j + 1, n =>
  if (zt f 1 s (N / 10 ^ ((dx N).length - n)) (((dx N).length : Int) - G - n)).1 = w ∧ ¬ ((zt f 1 s (N / 10 ^ ((dx N).length - n) + 1) (((dx N).length : Int) - G - n)).1 = w ∧ upS 1 s (hlf (N % 10 ^ ((dx N).length - n)) (10 ^ ((dx N).length - n))) (decide (N / 10 ^ ((dx N).length - n) % 2 = 1)) = true) then
   zbp s (N / 10 ^ ((dx N).length - n)) (((dx N).length : Int) - G - n)
  else if (zt f 1 s (N / 10 ^ ((dx N).length - n) + 1) (((dx N).length : Int) - G - n)).1 = w then zbp s (N / 10 ^ ((dx N).length - n) + 1) (((dx N).length : Int) - G - n)
  else srt f w s N G j (n + 1)
theorem zq9 {s : Bool} {c : Int} {o : Bool} : upS 1 s c o = (decide (0 < c) || (decide (c = 0) && o)) := rfl
theorem zlg {f : Int} (h : isF f) (s : Bool) {N G : Nat} (hN : N ≠ 0) (hl : (dx N).length ≤ 800) (hg : G ≤ 1074) (w : Int) : ∀ (j n : Nat), 1 ≤ n → n + j = (tr (dx N)).length →
  Ev (fun k => zx.l0 k s (bx (tr (dx N))) (((dx N).length : Int) - 1 - G) f w (n : Int)) (bx (srt f w s N G j n), 0)
 | 0, n, h1, hj => by
  obtain ⟨b, r, e, hb⟩ := zbh hN
  obtain ⟨r', e'⟩ := zc9 e hb
  have htl := zdH (dx N)
  have hz := zK (tr (dx N))
  have hpos := zdt hN
  refine zf ?_; simp only [zx.l0]
  exact ze (by omega) (Ev.bind (zhF s e' (by omega) (by omega) (by omega)) (Ev.now _))
 | j + 1, n, h1, hj => by
  obtain ⟨b, r, e, hb⟩ := zbh hN
  obtain ⟨r', e'⟩ := zc9 e hb
  have htl := zdH (dx N)
  have hz := zK (tr (dx N))
  have hpos := zdt hN
  have ih := zlg h s hN hl hg w j (n + 1) (by omega) (by omega)
  have hct : n < (tr (dx N)).length := by omega
  obtain ⟨A, d, B, t1, t2, t3, t4, t5⟩ := qgn hN h1 hct
  have hhead := znb hN t1
  have hq := zmZ h1 t2 t3 hhead
  have hDall := zil (zcv N)
  have hrest := zpY s (A := A) (B := B) (c := d) (((dx N).length : Int) - 1 - G) (by rw [← t1]; omega)
  rw [← t1, t2, ← t4] at hrest
  have hA0 : A ≠ [] := fun hh => by rw [hh] at t2; simp at t2; omega
  have hodd : zdY.f s (bx (tr (dx N))) (((dx N).length : Int) - 1 - G) (n : Int) = some (decide (N / 10 ^ ((dx N).length - n) % 2 = 1)) := by
   rcases List.eq_nil_or_concat A with hh | ⟨A', c', hh⟩
   ·exact absurd hh hA0
   ·rw [List.concat_eq_append] at hh
    have := zoT s (A := A') (B := d :: B) (c := c') hDall (((dx N).length : Int) - 1 - G) (by omega) (by rw [t1, hh]; simp)
    rw [← hh] at this
    have hl2 : n = A'.length + 1 := by rw [← t2, hh]; simp
    rw [hl2, this, ← hl2, ← t3, zcT]
  have htk : (tr (dx N)).take n = A := by rw [← t2]; exact zqx t1
  have hv : zk ((tr (dx N)).take n) 0 = N / 10 ^ ((dx N).length - n) := by rw [htk, ← t3, zcT]
  have hmore := zoE s hDall e' hb (by omega) (x := ((dx N).length : Int) - 1 - G) (by omega) h1 (by omega)
  have hless := zoc s (d := tr (dx N)) (by omega) (((dx N).length : Int) - 1 - G) (n := n) (by omega)
  rw [hv] at hmore
  rw [htk] at hless
  unfold srt
  generalize hc : hlf (N % 10 ^ ((dx N).length - n)) (10 ^ ((dx N).length - n)) = c at hrest ⊢
  have hcr : c = -1 ∨ c = 0 ∨ c = 1 := hc ▸ zjG _ _
  generalize hqq : N / 10 ^ ((dx N).length - n) = q at hmore hodd hq t3 ⊢
  have hlq : (dx q).length = n := by rw [t3, t2]
  obtain ⟨u1, u2⟩ := zju hlq hq
  have exx : ((dx N).length : Int) - 1 - G = ((dx N).length : Int) - G - n + ((dx q).length : Int) - 1 := by rw [hlq]; omega
  have exu : ((dx N).length : Int) - 1 - G + ((dx (q + 1)).length : Int) - n = ((dx N).length : Int) - G - n + ((dx (q + 1)).length : Int) - 1 := by omega
  rw [exu] at hmore
  rw [← t3] at hless
  have i1 := zjM h s hq (by omega) (x := ((dx N).length : Int) - G - n) (by omega) w
  rw [← exx] at i1
  have i2 := zjM h s (q := q + 1) (Nat.succ_ne_zero q) (by omega) (x := ((dx N).length : Int) - G - n) (by omega) w
  have hp1 : Ev (fun k => zam.f k s (bx (tr (dx q))) (((dx N).length : Int) - 1 - G)) (bx (zbp s q (((dx N).length : Int) - G - n))) := by
   obtain ⟨b2, r2, e2, hb2⟩ := zbh hq
   obtain ⟨r3, e3⟩ := zc9 e2 hb2
   have hl3 := zdH (dx q)
   have := zhF s e3 (x := ((dx N).length : Int) - 1 - G) (by omega) (by omega) (by omega)
   unfold zbp
   rw [← exx]
   exact this
  have hp2 : Ev (fun k => zam.f k s (bx (tr (dx (q + 1)))) (((dx N).length : Int) - G - n + ((dx (q + 1)).length : Int) - 1)) (bx (zbp s (q + 1) (((dx N).length : Int) - G - n))) := by
   obtain ⟨b2, r2, e2, hb2⟩ := zbh (n := q + 1) (Nat.succ_ne_zero q)
   obtain ⟨r3, e3⟩ := zc9 e2 hb2
   have hl3 := zdH (dx (q + 1))
   exact zhF s e3 (by omega) (by omega) (by omega)
  generalize hx : ((dx N).length : Int) - G - n + ((dx (q + 1)).length : Int) - 1 = xu at hmore i2 hp2
  generalize hP : ((dx N).length : Int) - 1 - G = P at *
  have j5 : ∀ (a b : Bool) {r : ByteArray}, (a = true → r = bx (zbp s q (((dx N).length : Int) - G - n))) → (a = false → b = true → r = bx (zbp s (q + 1) (((dx N).length : Int) - G - n))) →
    (a = false → b = false → r = bx (srt f w s N G j (n + 1))) →
    Ev (fun k => zx.j5 k s (bx (tr (dx N))) P f w (n : Int) s (bx (tr (dx q))) P s (bx (tr (dx (q + 1)))) xu a b) (r, 0) := by
   intro a b r ha hb' hc'
   refine zf ?_; simp only [zx.j5]
   cases a with
   | true => rw [ha rfl]; exact zd rfl (Ev.bind hp1 (Ev.now _))
   | false =>
    refine ze (by simp) ?_
    cases b with
    | true => rw [hb' rfl rfl]; exact zd rfl (Ev.bind hp2 (Ev.now _))
    | false =>
     rw [hc' rfl rfl, w64 (n := (n : Int) + 1) (by omega) (by omega)]
     exact ze (by simp) ih
  refine zf ?_; simp only [zx.l0]
  refine zd (by omega) (Ev.bind hless (Ev.bind hmore (Ev.bind i1 (Ev.bind i2 ?_))))
  dsimp only
  by_cases ca : (zt f 1 s q (((dx N).length : Int) - G - n)).1 = w
  ·rw [decide_eq_true ca]
   refine zd rfl ?_
   by_cases cb : (zt f 1 s (q + 1) (((dx N).length : Int) - G - n)).1 = w
   ·rw [decide_eq_true cb]
    refine zf ?_; simp only [zx.j3]
    refine zd trivial (zi hrest ?_)
    rw [zq9]
    rcases hcr with rfl | rfl | rfl
    ·refine zd (by decide) (j5 _ _ (fun _ => ?_) (fun hh => by cases hh) (fun hh => by cases hh))
     rw [if_pos ⟨ca, fun hh => by revert hh; simp⟩]
    ·generalize decide (q % 2 = 1) = o at hodd ⊢
     refine ze (by decide) (zd rfl (zi hodd ?_))
     cases o with
     | false => exact j5 _ _ (fun _ => by rw [if_pos ⟨ca, fun hh => absurd hh.2 (by decide)⟩]) (fun hh => by cases hh) (fun hh => by cases hh)
     | true => exact j5 _ _ (fun hh => by cases hh) (fun _ _ => by rw [if_neg (fun hh => hh.2 ⟨cb, by decide⟩), if_pos cb]) (fun _ hh => by cases hh)
    ·refine ze (by decide) (ze (by decide) (j5 _ _ (fun hh => by cases hh) (fun _ _ => ?_) (fun _ hh => by cases hh)))
     rw [if_neg (fun hh2 => hh2.2 ⟨cb, by simp⟩), if_pos cb]
   ·rw [decide_eq_false cb]
    refine zf ?_; simp only [zx.j3]
    refine ze (by simp) (j5 _ _ (fun _ => ?_) (fun hh => by cases hh) (fun hh => by cases hh))
    rw [if_pos ⟨ca, fun hh => cb hh.1⟩]
  ·rw [decide_eq_false ca]
   refine ze (by simp) ?_
   refine zf ?_; simp only [zx.j3]
   refine ze (by simp) (j5 _ _ (fun hh => by cases hh) (fun _ hh => ?_) (fun _ hh => ?_))
   ·rw [if_neg (fun hh2 => ca hh2.1), if_pos (of_decide_eq_true hh)]
   ·rw [if_neg (fun hh2 => ca hh2.1), if_neg (of_decide_eq_false hh)]
def soS (f : Int) (w : Nat) : List UInt8 := if zbj f w = true then nmT f w else srt f (w : Int) (zm f w) (nN f w) (nG f w) ((tr (dx (nN f w))).length - 1) 1
theorem zmd {f : Int} (h : isF f) {w : Nat} (hw : w < 2 * sg f) : Ev (fun k => zx.f k f (w : Int)) (bx (soS f w), 0) := by
 unfold zx.f soS
 refine Ev.bind (zoJ h hw) ?_
 by_cases hn : zbj f w = true
 ·rw [if_pos hn]
  refine zd hn ?_
  refine zf ?_; simp only [zx.j0]
  exact zd trivial (Ev.now _)
 ·rw [if_neg hn]
  obtain ⟨c5, c4, c1⟩ := zjJ (by simpa using hn)
  have hf := zjB h c5 c4
  obtain ⟨hN, hl, hg⟩ := zhy h c1 hf
  obtain ⟨b, r, e, hb⟩ := zbh hN
  obtain ⟨r', e'⟩ := zc9 e hb
  have hp : 1 ≤ (tr (dx (nN f w))).length := by rw [e']; simp
  refine ze hn ?_
  rw [show decide (¬ (0 : Int) = 0) = false from rfl]
  refine zf ?_; simp only [zx.j0]
  refine ze (by simp) (Ev.bind (zm7 h hw c1 hf) ?_)
  exact zlg h (zm f w) hN hl hg (w : Int) ((tr (dx (nN f w))).length - 1) 1 (by omega) (by omega)
theorem zmb {f : Int} (h : isF f) {w : Nat} (hw : ¬ w < 2 * sg f) : Ev (fun k => zx.f k f (w : Int)) (⟨#[]⟩, 6) := by
 unfold zx.f
 refine Ev.bind (zoH h hw) (ze (by simp) ?_)
 refine zf ?_; simp only [zx.j0]
 exact zd rfl (Ev.now _)
theorem zmc {f : Int} (h : ¬ isF f) (w : Int) : Ev (fun k => zx.f k f w) (⟨#[]⟩, 4) := by
 unfold zx.f
 refine Ev.bind (zoI h w) (ze (by simp) ?_)
 refine zf ?_; simp only [zx.j0]
 exact zd rfl (Ev.now _)
theorem zm4 {f : Int} (h : isF f) (s : Bool) (n : Nat) (x : Int) : (zt f 1 s n x).1 = (zt f 1 false n x).1 + (sgn f s : Nat) := zqb h s 0
theorem zic {f : Int} (h : isF f) {w : Nat} (hw : w < 2 * sg f) (n : Nat) (x : Int) : (zt f 1 (zm f w) n x).1 = (w : Int) ↔ (zt f 1 false n x).1 = ((w % sg f : Nat) : Int) := by
 have h1 := zm4 h (zm f w) n x
 have h2 := zlR h hw
 omega
theorem znD {f : Int} (h : isF f) {w : Nat} (hw : w < 2 * sg f) (c1 : cls f w ≠ 1) (c4 : cls f w < 4) : (zt f 1 false (nN f w) (-(nG f w : Int))).1 = ((w % sg f : Nat) : Int) := by
 have W := zec h c1 c4
 have h1 := zp7 h (m := 1) hw c1 c4
 rw [W.eq, V_D] at h1
 have h2 := zm3 (m := 1) h (zm f w) W.ne (we f w)
 rw [h1] at h2
 exact (zic h hw _ _).1 (by rw [show nN f w = exN (dz f w) (we f w) from rfl, show nG f w = exG (we f w) from rfl, h2])
theorem zoo {q n : Nat} (h : q < 10 ^ n) : q + 1 < 10 ^ (n + 1) := by rw [Nat.pow_succ]; omega
theorem zk3 (s : Bool) (l : List Int) (e0 : Int) {q : Nat} (hq : q ≠ 0) {n : Nat} (hl : (dx q).length ≤ n + 1) (hn : n ≤ 900) {x : Int} (h1 : -1099 < x + (n : Int) - 1) (h2 : x + (n : Int) - 1 < 1000) (h3 : n ≤ (dx q).length) : Ev (fun k => zn.j7 k s l e0 x (D q)) (bx (zbp s q x)) := by
 refine zf ?_; simp only [zn.j7]
 exact Ev.bind (zqe s hq (by omega) (by omega) (by omega)) (Ev.now _)
theorem zk4 {f : Int} (h : isF f) {w : Nat} (hw : w < 2 * sg f) {z : Nat} {e : Int} (P : Pn z e) (hl : (dx (exN z e)).length ≤ 800) (hg : exG e ≤ 1074) (hex : (zt f 1 false (exN z e) (-(exG e : Int))).1 = ((w % sg f : Nat) : Int)) : ∀ (j n : Nat), 1 ≤ n → n + j = (tr (dx (exN z e))).length →
  Ev (fun k => zn.l0 k f (zm f w) (D z) e false (D z) e ((w % sg f : Nat) : Int) (((dx (exN z e)).length : Int) - 1 - (exG e : Int)) (n : Int)) (bx (srt f (w : Int) (zm f w) (exN z e) (exG e) j n)) := by
 intro j n h1 hj
 have hN := zcw P.ne e
 have hpos := zdt hN
 have htl := zdH (dx (exN z e))
 have hx : wrap64 (wrap64 (((dx (exN z e)).length : Int) - 1 - (exG e : Int) - (n : Int)) + 1) = ((dx (exN z e)).length : Int) - (exG e : Int) - (n : Int) := by
  rw [w64 (n := ((dx (exN z e)).length : Int) - 1 - (exG e : Int) - (n : Int)) (by omega) (by omega), w64 (by omega) (by omega)]; omega
 have hB := zlU P (x := ((dx (exN z e)).length : Int) - (exG e : Int) - (n : Int)) (by omega) (by omega)
 have hH := znQ P (x := ((dx (exN z e)).length : Int) - (exG e : Int) - (n : Int)) (by omega) (by omega)
 obtain ⟨b1, b2, b3⟩ := zmx (z := z) (e := e) n (by omega)
 obtain ⟨q1, q2⟩ := zo7 hN h1 (by omega)
 obtain ⟨u1, u2⟩ := zju q1 q2
 have hlq := zlX (Nat.le_of_eq q1) (by omega)
 rw [b1] at hH hB
 have hH' := hH hlq
 rw [b3] at hH'
 clear hH
 have ha := zfr (zI (exN z e / 10 ^ ((dx (exN z e)).length - n))) (zI 1) (by omega) (by rw [zdd]; simp)
 rw [V_D, V_D, zdd] at ha
 have d1 := ziw h (m := 1) (by decide) false q2 (p := n) (by omega) (by have := zdZ (exN z e / 10 ^ ((dx (exN z e)).length - n)); rw [q1] at this; exact this) (((dx (exN z e)).length : Int) - (exG e : Int) - (n : Int))
 have d2 := ziw h (m := 1) (by decide) false (n := exN z e / 10 ^ ((dx (exN z e)).length - n) + 1) (Nat.succ_ne_zero _) (p := n + 1) (by omega) (by
  have := zdZ (exN z e / 10 ^ ((dx (exN z e)).length - n)); rw [q1] at this
  exact zoo this) (((dx (exN z e)).length : Int) - (exG e : Int) - (n : Int))
 have hbit := zgi (zI (exN z e / 10 ^ ((dx (exN z e)).length - n))) (by omega) 0 (by omega)
 rw [V_D, Nat.pow_zero, Nat.div_one] at hbit
 have hDne : decide (((D (exN z e / 10 ^ ((dx (exN z e)).length - n))).length : Int) > 0) = true := by
  apply decide_eq_true
  have := zbP (exN z e / 10 ^ ((dx (exN z e)).length - n))
  rcases Nat.eq_zero_or_pos (D (exN z e / 10 ^ ((dx (exN z e)).length - n))).length with hh | hh
  ·rw [hh, Nat.pow_zero] at this; exact absurd (Nat.lt_one_iff.1 this) q2
  ·omega
 have hgo : ∀ {r : ByteArray}, (∀ (lost : Bool), decide (MM z e (((dx (exN z e)).length : Int) - (exG e : Int) - (n : Int)) % DD e (((dx (exN z e)).length : Int) - (exG e : Int) - (n : Int)) ≠ 0) = lost →
   Ev (fun k => zn.j2 k f (zm f w) (D z) e false (D z) e ((w % sg f : Nat) : Int) (((dx (exN z e)).length : Int) - 1 - (exG e : Int)) (n : Int) (((dx (exN z e)).length : Int) - (exG e : Int) - (n : Int)) (D (exN z e / 10 ^ ((dx (exN z e)).length - n))) (D (exN z e / 10 ^ ((dx (exN z e)).length - n) + 1))
    (decide ((zt f 1 false (exN z e / 10 ^ ((dx (exN z e)).length - n)) (((dx (exN z e)).length : Int) - (exG e : Int) - (n : Int))).1 = ((w % sg f : Nat) : Int)))
    (decide ((zt f 1 false (exN z e / 10 ^ ((dx (exN z e)).length - n) + 1) (((dx (exN z e)).length : Int) - (exG e : Int) - (n : Int))).1 = ((w % sg f : Nat) : Int)) && lost)) r) →
   Ev (fun k => zn.l0 k f (zm f w) (D z) e false (D z) e ((w % sg f : Nat) : Int) (((dx (exN z e)).length : Int) - 1 - (exG e : Int)) (n : Int)) r := by
  intro r hr
  have hr := hr _ rfl
  generalize decide (MM z e _ % DD e _ ≠ 0) = lost at hr hB
  refine zf ?_; simp only [zn.l0]
  rw [hx]
  refine Ev.bind hB (Ev.bind ha (Ev.bind d1 (Ev.bind d2 ?_)))
  dsimp only
  rw [hDne]
  have j1 : ∀ a : Bool, decide ((zt f 1 false (exN z e / 10 ^ ((dx (exN z e)).length - n)) (((dx (exN z e)).length : Int) - (exG e : Int) - (n : Int))).1 = ((w % sg f : Nat) : Int)) = a →
    Ev (fun k => zn.j1 k f (zm f w) (D z) e false (D z) e ((w % sg f : Nat) : Int) (((dx (exN z e)).length : Int) - 1 - (exG e : Int)) (n : Int) (((dx (exN z e)).length : Int) - (exG e : Int) - (n : Int)) (D (exN z e / 10 ^ ((dx (exN z e)).length - n))) lost (D (exN z e / 10 ^ ((dx (exN z e)).length - n) + 1)) (zt f 1 false (exN z e / 10 ^ ((dx (exN z e)).length - n) + 1) (((dx (exN z e)).length : Int) - (exG e : Int) - (n : Int))).1 a) r := by
   intro a ha
   rw [ha] at hr
   refine zf ?_; simp only [zn.j1]
   by_cases cb : (zt f 1 false (exN z e / 10 ^ ((dx (exN z e)).length - n) + 1) (((dx (exN z e)).length : Int) - (exG e : Int) - (n : Int))).1 = ((w % sg f : Nat) : Int)
   ·rw [decide_eq_true cb, Bool.true_and] at hr
    exact zd cb hr
   ·rw [decide_eq_false cb, Bool.false_and] at hr
    exact ze cb hr
  by_cases ca : (zt f 1 false (exN z e / 10 ^ ((dx (exN z e)).length - n)) (((dx (exN z e)).length : Int) - (exG e : Int) - (n : Int))).1 = ((w % sg f : Nat) : Int)
  ·exact zd ca (j1 true (decide_eq_true ca))
  ·exact ze ca (j1 false (decide_eq_false ca))
 clear hB d1 d2 ha
 have t1 : Ev (fun k => zn.j7 k (zm f w) (D z) e (((dx (exN z e)).length : Int) - (exG e : Int) - (n : Int)) (D (exN z e / 10 ^ ((dx (exN z e)).length - n)))) (bx (zbp (zm f w) (exN z e / 10 ^ ((dx (exN z e)).length - n)) (((dx (exN z e)).length : Int) - (exG e : Int) - (n : Int)))) := zk3 _ _ _ q2 (n := n) (by omega) (by omega) (by omega) (by omega) (by omega)
 have t2 : Ev (fun k => zn.j7 k (zm f w) (D z) e (((dx (exN z e)).length : Int) - (exG e : Int) - (n : Int)) (D (exN z e / 10 ^ ((dx (exN z e)).length - n) + 1))) (bx (zbp (zm f w) (exN z e / 10 ^ ((dx (exN z e)).length - n) + 1) (((dx (exN z e)).length : Int) - (exG e : Int) - (n : Int)))) := zk3 _ _ _ (Nat.succ_ne_zero _) (n := n) (by omega) (by omega) (by omega) (by omega) (by omega)
 have j6 : ∀ (u : Bool), Ev (fun k => zn.j6 k (zm f w) (D z) e (((dx (exN z e)).length : Int) - (exG e : Int) - (n : Int)) (D (exN z e / 10 ^ ((dx (exN z e)).length - n))) (D (exN z e / 10 ^ ((dx (exN z e)).length - n) + 1)) u) (bx (if u = true then zbp (zm f w) (exN z e / 10 ^ ((dx (exN z e)).length - n) + 1) (((dx (exN z e)).length : Int) - (exG e : Int) - (n : Int)) else zbp (zm f w) (exN z e / 10 ^ ((dx (exN z e)).length - n)) (((dx (exN z e)).length : Int) - (exG e : Int) - (n : Int)))) := by
  intro u
  refine zf ?_; simp only [zn.j6]
  cases u with
  | true => exact zd rfl t2
  | false => exact ze (by simp) t1
 match j, hj with
 | 0, hj =>
  have hz : exN z e % 10 ^ ((dx (exN z e)).length - n) = 0 := by
   have hd := (zfX hN (List.take_append_drop n (dx (exN z e))).symm (fun hh => by
    have := congrArg List.length hh
    rw [List.length_take] at this
    simp only [List.length_nil] at this; omega)).2
   rw [List.length_drop] at hd
   rw [hd]
   have hdd := zg5 (zcv (exN z e)) (List.take_append_drop n (dx (exN z e))).symm
   rw [List.length_take] at hdd
   by_cases hx : zk ((dx (exN z e)).drop n) 0 = 0
   ·exact hx
   ·exact absurd (hdd.1 hx) (by omega)
  have hlow : (zt f 1 false (exN z e / 10 ^ ((dx (exN z e)).length - n)) (((dx (exN z e)).length : Int) - (exG e : Int) - (n : Int))).1 = ((w % sg f : Nat) : Int) := by
   have hsh := zjl (m := 1) h false q2 ((dx (exN z e)).length - n) (-(exG e : Int))
   rw [Nat.div_mul_cancel (Nat.dvd_of_mod_eq_zero hz)] at hsh
   rw [show ((dx (exN z e)).length : Int) - (exG e : Int) - (n : Int) = -(exG e : Int) + (((dx (exN z e)).length - n : Nat) : Int) by omega, ← hsh, hex]
  refine hgo fun lost hlost => ?_
  have : lost = false := by rw [← hlost]; exact decide_eq_false (fun hh => b2.1 hh hz)
  subst this
  rw [decide_eq_true hlow, Bool.and_false]
  have hfin := j6 false
  rw [if_neg (by simp)] at hfin
  have hres : srt f (w : Int) (zm f w) (exN z e) (exG e) 0 n = zbp (zm f w) (exN z e / 10 ^ ((dx (exN z e)).length - n)) (((dx (exN z e)).length : Int) - (exG e : Int) - (n : Int)) := by
   unfold srt zbp
   rw [q1, zo5 hN h1 (by omega) (by omega), show ((dx (exN z e)).length : Int) - (exG e : Int) - (n : Int) + (n : Int) - 1 = ((dx (exN z e)).length : Int) - 1 - (exG e : Int) by omega]
  rw [hres]
  refine zf ?_; simp only [zn.j2]
  refine ze (by simp) (zd trivial ?_)
  refine zf ?_; simp only [zn.j5]
  exact ze (by simp) hfin
 | j + 1, hj =>
  have ih := zk4 h hw P hl hg hex j (n + 1) (by omega) (by omega)
  have ct : n < (tr (dx (exN z e))).length := by omega
  have hne := (b2.2 (by
   obtain ⟨_, _, _, _, _, _, _, hh⟩ := qgn hN h1 ct
   exact hh))
  refine hgo fun lost hlost => ?_
  have : lost = true := by rw [← hlost]; exact decide_eq_true hne
  subst this
  rw [Bool.and_true]
  have s1 := zic h hw (exN z e / 10 ^ ((dx (exN z e)).length - n)) (((dx (exN z e)).length : Int) - (exG e : Int) - (n : Int))
  have s2 := zic h hw (exN z e / 10 ^ ((dx (exN z e)).length - n) + 1) (((dx (exN z e)).length : Int) - (exG e : Int) - (n : Int))
  unfold srt
  have hcr := zjG (exN z e % 10 ^ ((dx (exN z e)).length - n)) (10 ^ ((dx (exN z e)).length - n))
  generalize hlf (exN z e % 10 ^ ((dx (exN z e)).length - n)) (10 ^ ((dx (exN z e)).length - n)) = c at hH' hcr ⊢
  rw [decide_eq_decide.2 s1.symm, decide_eq_decide.2 s2.symm]
  by_cases ca : (zt f 1 (zm f w) (exN z e / 10 ^ ((dx (exN z e)).length - n)) (((dx (exN z e)).length : Int) - (exG e : Int) - (n : Int))).1 = (w : Int)
  ·rw [decide_eq_true ca]
   by_cases cb : (zt f 1 (zm f w) (exN z e / 10 ^ ((dx (exN z e)).length - n) + 1) (((dx (exN z e)).length : Int) - (exG e : Int) - (n : Int))).1 = (w : Int)
   ·rw [decide_eq_true cb]
    refine zf ?_; simp only [zn.j2]
    refine ze (by simp) (zd trivial ?_)
    refine zf ?_; simp only [zn.j5]
    refine zd trivial (Ev.bind hH' ?_)
    rcases hcr with rfl | rfl | rfl
    ·have := j6 false
     rw [if_neg (by simp)] at this
     rw [if_pos ⟨ca, fun hh => absurd hh.2 (by simp [upS])⟩]
     exact ze (by decide) (ze (by decide) this)
    ·refine ze (by decide) (zd rfl (zi hbit ?_))
     have e0 : decide (((exN z e / 10 ^ ((dx (exN z e)).length - n) % 2 : Nat) : Int) = 1) = decide (exN z e / 10 ^ ((dx (exN z e)).length - n) % 2 = 1) := decide_eq_decide.2 (by omega)
     rw [e0]
     generalize decide (exN z e / 10 ^ ((dx (exN z e)).length - n) % 2 = 1) = o
     have := j6 o
     cases o with
     | false =>
      rw [if_neg (by simp)] at this
      rw [if_pos ⟨ca, fun hh => absurd hh.2 (by simp [upS])⟩]
      exact this
     | true =>
      rw [if_pos rfl] at this
      rw [if_neg (fun hh => hh.2 ⟨cb, by simp [upS]⟩), if_pos cb]
      exact this
    ·have := j6 true
     rw [if_pos rfl] at this
     rw [if_neg (fun hh => hh.2 ⟨cb, by simp [upS]⟩), if_pos cb]
     exact zd (by decide) this
   ·rw [decide_eq_false cb]
    have := j6 false
    rw [if_neg (by simp)] at this
    rw [if_pos ⟨ca, fun hh => cb hh.1⟩]
    refine zf ?_; simp only [zn.j2]
    refine ze (by simp) (zd trivial ?_)
    refine zf ?_; simp only [zn.j5]
    exact ze (by simp) this
  ·rw [decide_eq_false ca, if_neg (fun hh => ca hh.1)]
   by_cases cb : (zt f 1 (zm f w) (exN z e / 10 ^ ((dx (exN z e)).length - n) + 1) (((dx (exN z e)).length : Int) - (exG e : Int) - (n : Int))).1 = (w : Int)
   ·rw [decide_eq_true cb, if_pos cb]
    have := j6 true
    rw [if_pos rfl] at this
    refine zf ?_; simp only [zn.j2]
    refine zd rfl (ze (by simp) (ze (by simp) ?_))
    refine zf ?_; simp only [zn.j5]
    exact ze (by simp) this
   ·rw [decide_eq_false cb, if_neg cb]
    refine zf ?_; simp only [zn.j2]
    refine zd rfl (zd rfl ?_)
    rw [w64 (n := (n : Int) + 1) (by omega) (by omega)]
    exact ih
termination_by j => j
theorem zpF {f : Int} (h : isF f) {w : Nat} (hw : w < 2 * sg f) : Ev (fun k => zn.f k f (w : Int)) (bx (soS f w)) := by
 unfold zn.f soS
 refine Ev.bind (zpx h w) ?_
 by_cases hnm : zbj f w = true
 ·rw [if_pos hnm]
  exact zd hnm (Ev.now _)
 rw [if_neg hnm]
 obtain ⟨c5, c4, c1⟩ := zjJ (by simpa using hnm)
 have hf := zjB h c5 c4
 have P := zrd h c1 hf
 obtain ⟨hN, hl, hg⟩ := zhy h c1 hf
 have hex := znD h hw c1 hf
 obtain ⟨b, r, e, hb⟩ := zbh hN
 obtain ⟨r', e'⟩ := zc9 e hb
 have hp : 1 ≤ (tr (dx (nN f w))).length := by rw [e']; simp
 have hsg := zkI h w false
 rw [show sgn f false = 0 from rfl, Nat.add_zero] at hsg
 refine ze hnm (Ev.bind (zqg h c1 hf) (zi (a := (false, D (dz f w), we f w)) rfl (zi hsg (Ev.bind (zl5 P) ?_))))
 exact zk4 h hw P hl hg hex _ 1 (by omega) (by show 1 + ((tr (dx (nN f w))).length - 1) = (tr (dx (nN f w))).length; omega)
theorem zlY (f w : Int) (hw : IntKind.u64.min ≤ w ∧ w ≤ IntKind.u64.max) : Ev (fun k => ze2.f k f w) true := by
 obtain ⟨w, rfl, hlt⟩ := zq3 hw
 unfold ze2.f
 by_cases h : isF f
 rotate_left
 ·have ho := znh (f := f) (m := 1) (by rw [zjD h]; decide) [(w : Int)]
  rw [zjD h] at ho
  refine Ev.bind (zmc h _) (Ev.bind ho ?_)
  exact zd (by simp) (zd rfl (zd rfl zg2))
 have ho := zni h (m := 1) (by decide) hlt
 by_cases hg : w < 2 * sg f
 ·rw [if_pos hg] at ho
  exact Ev.bind (zmd h hg) (Ev.bind ho (ze (by simp) (Ev.bind (zpF h hg) (zd rfl (zd rfl zg2)))))
 ·rw [if_neg hg] at ho
  exact Ev.bind (zmb h hg) (Ev.bind ho (zd (by simp) (zd rfl (zd rfl zg2))))
end Go.Proofs.YtnkpmjhlkmlmbaaGreatDoor.Eng.K
