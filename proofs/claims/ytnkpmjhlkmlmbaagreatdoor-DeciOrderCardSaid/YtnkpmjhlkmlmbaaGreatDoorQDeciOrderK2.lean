import Derived.Test.YtnkpmjhlkmlmbaaGreatDoorQDeciOrderK1
import Derived.Lib.Atoi
set_option linter.unusedVariables false
set_option linter.unusedSimpArgs false
namespace Go.Proofs.YtnkpmjhlkmlmbaaGreatDoor.Eng.K
open Go.RowKit Go.Proofs.YtnkpmjhlkmlmbaaGreatDoor.Eng
def pvA : Nat → List Int → Nat
 | a, [] => a
 | a, c :: l => pvA (10 * a + (c - 48).toNat) l
theorem zf0 : ∀ (l : List Int) (a : Nat), pvA a l = a * 10 ^ l.length + pvA 0 l
 | [], a => by simp [pvA]
 | c :: l, a => by
  rw [pvA, pvA, zf0 l (10 * a + (c - 48).toNat), zf0 l (10 * 0 + (c - 48).toNat), List.length_cons, Nat.pow_succ]
  grind
theorem zlW (l m : List Int) (a : Nat) : pvA a (l ++ m) = pvA (pvA a l) m := by
 induction l generalizing a with
 | nil => rfl
 | cons c l ih => simp [pvA, ih]
def pv (l : List Int) : Nat := pvA 0 l
theorem zdu (l m : List Int) : pv (l ++ m) = pv l * 10 ^ m.length + pv m := by
 unfold pv; rw [zlW, zf0]
theorem zlY (l : List Int) (c : Int) : pv (l ++ [c]) = 10 * pv l + (c - 48).toNat := by
 rw [zdu]; simp [pv, pvA]; omega
def zaw (l : List Int) : Prop := ∀ x ∈ l, 48 ≤ x ∧ x ≤ 57
instance (l : List Int) : Decidable (zaw l) := inferInstanceAs (Decidable (∀ x ∈ l, 48 ≤ x ∧ x ≤ 57))
theorem zf1 {l : List Int} (h : zaw l) : pv l < 10 ^ l.length := by
 induction l with
 | nil => simp [pv, pvA]
 | cons c l ih =>
  have h1 := h c (by simp)
  have h2 := ih (fun x hx => h x (by simp [hx]))
  have e : pv (c :: l) = (c - 48).toNat * 10 ^ l.length + pv l := by
   have := zdu [c] l
   simpa [pv, pvA] using this
  rw [e, List.length_cons, Nat.pow_succ]
  have h3 : (c - 48).toNat * 10 ^ l.length ≤ 9 * 10 ^ l.length := Nat.mul_le_mul_right _ (by omega)
  omega
theorem zlZ (l : List Int) (n : Nat) : pv (l.take n) ≤ pv l := by
 have h := zdu (l.take n) (l.drop n)
 rw [List.take_append_drop] at h
 have : pv (l.take n) * 1 ≤ pv (l.take n) * 10 ^ (l.drop n).length := Nat.mul_le_mul_left _ (Nat.one_le_pow _ _ (by omega))
 omega
def isT (l : List Int) : Bool := decide (zaw l) && (decide (l.length = 1) || decide (1 < l.length) && decide (l.getD 0 0 ≠ 48))
theorem zjA {l : List Int} (h : Dg l) (k : l = [] ∨ 4294967296 ^ (l.length - 1) ≤ V l) : Nm l := by
 rw [zfm h]
 rcases k with k | k
 ·exact .inl k
 ·by_cases e : l = []
  ·exact .inl e
  ·right
   intro h0
   have hl : l.length ≠ 0 := fun e' => e (List.eq_nil_of_length_eq_zero e')
   have h1 := zdL (l := l) (n := l.length - 1) (by omega)
   rw [Nat.sub_add_cancel (by omega), List.take_length, h0] at h1
   have h2 := zdK h (n := l.length - 1) (by omega)
   simp at h1
   omega
def zS : List Int → Nat → Nat → List Int
 | [], _, c => if c = 0 then [] else [((c : Nat) : Int)]
 | x :: l, t, c => (((x.toNat * t + c) % 4294967296 : Nat) : Int) :: zS l t ((x.toNat * t + c) / 4294967296)
theorem zfO {x t c : Nat} (hx : x < 4294967296) (hc : c < t) : (x * t + c) / 4294967296 < t := by
 apply (Nat.div_lt_iff_lt_mul (by omega)).2
 have h1 : x * t ≤ 4294967295 * t := Nat.mul_le_mul_right _ (by omega)
 omega
theorem zlf {l : List Int} (h : Dg l) {t c : Nat} (hc : c < t) (ht : t < 4294967296) : V (zS l t c) = V l * t + c ∧ Dg (zS l t c) := by
 induction l generalizing c with
 | nil =>
  unfold zS
  split
  ·subst c; exact ⟨by simp, Dg.nil⟩
  ·exact ⟨by simp, Dg.cons (by omega) (by omega) Dg.nil⟩
 | cons x l ih =>
  have hx := h.head
  have hb := zfO (x := x.toNat) (by omega) hc
  have := ih h.tail hb
  refine ⟨?_, Dg.cons (by omega) (by omega) this.2⟩
  rw [zS, zt, this.1, zt, Nat.add_mul, Nat.mul_add, Nat.mul_assoc]
  generalize x.toNat * t = p
  generalize V l * t = q
  rw [Int.toNat_natCast]
  omega
theorem zhI {n t c : Nat} (hc : c < t) (ht : t < 4294967296) : zS (D n) t c = D (n * t + c) := by
 have h := zlf (zW n) hc ht
 rw [V_D] at h
 have hlen : ∀ (l : List Int) (c : Nat), zS l t c = [] ∨ (zS l t c).length = l.length ∨ ∃ m d, zS l t c = m ++ [d] ∧ d ≠ 0 := by
  intro l
  induction l with
  | nil =>
   intro c
   unfold zS
   split
   ·exact .inl rfl
   ·exact .inr (.inr ⟨[], _, rfl, by omega⟩)
  | cons x l ih =>
   intro c
   rw [zS]
   rcases ih ((x.toNat * t + c) / 4294967296) with h | h | ⟨m, d, h, hd⟩
   ·rw [h]
    cases l with
    | nil => exact .inr (.inl rfl)
    | cons y l => simp [zS] at h
   ·exact .inr (.inl (by simp [h]))
   ·exact .inr (.inr ⟨_ :: m, d, by rw [h]; rfl, hd⟩)
 have key : Nm (zS (D n) t c) := by
  rcases hlen (D n) c with e | e | ⟨m, d, e, hd⟩
  ·rw [e]; exact zcL
  ·by_cases hn : n = 0
   ·subst hn
    rw [zC] at e
    have e2 : zS (D 0) t c = [] := by rw [zC]; exact List.eq_nil_of_length_eq_zero e
    rw [e2]; exact zcL
   ·apply zjA h.2
    right
    rw [e, h.1]
    have := zfi hn
    have h2 : n * 1 ≤ n * t := Nat.mul_le_mul_left _ (by omega)
    omega
  ·have hg := h.2
   rw [e] at hg ⊢
   have := hg d (by simp)
   exact zdI hg.left (by omega) this.2
 rw [← key, h.1]
theorem uu {x t c : Int} (hx : 0 ≤ x ∧ x < 4294967296) (ht : 0 ≤ t ∧ t < 4294967296) (hc : 0 ≤ c ∧ c < 4294967296) : IntKind.u64.wrap (c + IntKind.u64.wrap (IntKind.u64.wrap x * t)) = x * t + c := by
 have hp := zd3 hx ht
 rw [u64 hx.1 (by omega), u64 hp.1 (by omega), u64 (by omega) (by omega)]; omega
theorem zlx (x : Int) (t c : Nat) (hx : 0 ≤ x) : x * (t : Int) + (c : Int) = ((x.toNat * t + c : Nat) : Int) := by
 obtain ⟨X, rfl⟩ := Int.eq_ofNat_of_zero_le hx
 simp
theorem nd (a : Nat) : ((a : Nat) : Int) % 4294967296 = ((a % 4294967296 : Nat) : Int) ∧ ((a : Nat) : Int) / 4294967296 = ((a / 4294967296 : Nat) : Int) := by omega
section
variable (s : ByteArray)
theorem zhZ (at' t : Nat) (ht : t < 4294967296) {res : List Int × Int} (full : List Int) (hf : full.length < 1000000000) : ∀ (l done : List Int) (c : Nat), c < t → Dg l → done.length + l.length < 1000000000 → full = done ++ zS l t c →
  (Ev (fun k => if (full.length : Int) > 4096 then some ([], 3) else zn.l1 k s full (at' : Int)) res) →
  Ev (fun k => zn.l3 k s (done ++ l) at' t c ((done.length + l.length : Nat) : Int) done.length) res
 | [], done, c, hc, hg, hl, hfull, H => by
  have hj : Ev (fun k => zn.j10 k s full (at' : Int)) res := by
   refine zf ?_
   simp only [zn.j10]
   exact H
  refine zf ?_
  simp only [zn.l3]
  refine ze (by simp) ?_
  rw [List.append_nil]
  by_cases h0 : c = 0
  ·have e : full = done := by rw [hfull]; simp [zS, h0]
   rw [e] at hj
   exact ze (by omega) hj
  ·have e : full = done ++ [((c : Nat) : Int) % 4294967296] := by
    rw [hfull]; simp [zS, h0]; omega
   rw [e] at hj
   exact zd (by omega) (zd (by simp at hl ⊢; omega) hj)
 | x :: l, done, c, hc, hg, hl, hfull, H => by
  have hx := hg.head
  have hb := zfO (x := x.toNat) (by omega) hc
  have hu := uu hx (t := (t : Int)) (by omega) (c := (c : Int)) (by omega)
  rw [zlx x t c hx.1] at hu
  have hn := nd (x.toNat * t + c)
  have hr : rd (done ++ x :: l) (done.length : Int) = x := zU rfl
  refine zf ?_
  simp only [zn.l3, hr, hu, hn.1, hn.2, zbq rfl, zK (n := done.length) (by omega)]
  clear hu hn
  refine zd (by simp; omega) (zd (by omega) (zd (by simp; omega) (zd (by omega) (zd (by simp; omega) ?_))))
  have := zhZ at' t ht full hf l (done ++ [((((x.toNat * t + c) % 4294967296 : Nat)) : Int)]) _ hb hg.tail (by simp at hl ⊢; omega) (by rw [hfull, zS]; simp) H
  rw [List.length_append, List.length_singleton] at this
  have e : done.length + (x :: l).length = done.length + 1 + l.length := by simp; omega
  rw [e]; exact this
omit s in
theorem zbH (s : ByteArray) : (qcC s).length = s.size := by unfold qcC; rw [List.length_map, Array.length_toList]; rfl
theorem zde (i : Nat) : bt s (i : Int) = (qcC s).getD i 0 := by
 rw [zgU, Int.toNat_natCast]
 have e : qcC s = (tl s).map fun b => (b.toNat : Int) := rfl
 rw [e, List.getD_eq_getElem?_getD, List.getD_eq_getElem?_getD, List.getElem?_map]
 cases (tl s)[i]? <;> rfl
theorem zhY (hd : zaw (qcC s)) (n next : Nat) (hn : next ≤ s.size) (hs : s.size < 1000000000000) {res : List Int × Int} (hln : (D n).length < 100000000)
  (H : ∀ t c, t < 4294967296 → c < t → t = t → Ev (fun k => zn.l3 k s (D n) next t c ((D n).length : Int) 0) res → True) :
  ∀ (d i t c : Nat), i + d = next → t * 10 ^ d ≤ 1000000000 → c < t →
  Ev (fun k => zn.l3 k s (D n) next ((t * 10 ^ d : Nat) : Int) ((c * 10 ^ d + pv (((qcC s).drop i).take d) : Nat) : Int) ((D n).length : Int) 0) res →
  Ev (fun k => zn.l2 k s (D n) i next t c) res
 | 0, i, t, c, hi, ht, hc, h => by
  refine zf ?_
  simp only [zn.l2]
  refine ze (by omega) ?_
  rw [show next = i by omega] at h
  simpa [pv, pvA] using h
 | d + 1, i, t, c, hi, ht, hc, h => by
  have hlen : (qcC s).length = s.size := zbH s
  have hget : (qcC s).drop i = (qcC s).getD i 0 :: (qcC s).drop (i + 1) := by
   rw [List.drop_eq_getElem_cons (by omega)]; simp [show i < (qcC s).length by omega]
  have hdi := hd ((qcC s).getD i 0) (by
   have : i < (qcC s).length := by omega
   rw [List.getD_eq_getElem?_getD, List.getElem?_eq_getElem this]; exact List.getElem_mem this)
  generalize hx : (qcC s).getD i 0 = x at hget hdi
  have hp : 1 ≤ 10 ^ d := Nat.one_le_pow _ _ (by omega)
  have ht10 : t * 10 * 10 ^ d = t * 10 ^ (d + 1) := by rw [Nat.pow_succ, Nat.mul_assoc, Nat.mul_comm 10]
  have ht9 : t * 10 ≤ 1000000000 := by
   have : t * 10 * 1 ≤ t * 10 * 10 ^ d := Nat.mul_le_mul_left _ hp
   omega
  refine zf ?_
  simp only [zn.l2, zK (n := i) (by omega), zde, hx]
  refine zd (by omega) (zd (by omega) (zd (by omega) ?_))
  have e1 : IntKind.u64.wrap ((t : Int) * 10) = ((t * 10 : Nat) : Int) := by rw [u64 (by omega) (by omega)]; omega
  have e2 : IntKind.u64.wrap (IntKind.u64.wrap (10 * (c : Int)) + IntKind.u64.wrap ((x - 48) % 256)) = ((10 * c + (x - 48).toNat : Nat) : Int) := by
   rw [u64 (n := 10 * (c : Int)) (by omega) (by omega), u64 (n := (x - 48) % 256) (by omega) (by omega), u64 (by omega) (by omega)]; omega
  rw [e1, e2]
  clear e1 e2
  refine zhY hd n next hn hs hln H d (i + 1) (t * 10) (10 * c + (x - 48).toNat) (by omega) (by omega) (by omega) ?_
  rw [hget, List.take_succ_cons] at h
  have e3 : c * 10 ^ (d + 1) + pv (x :: ((qcC s).drop (i + 1)).take d) = (10 * c + (x - 48).toNat) * 10 ^ d + pv (((qcC s).drop (i + 1)).take d) := by
   have hq := zdu [x] (((qcC s).drop (i + 1)).take d)
   have hl : (((qcC s).drop (i + 1)).take d).length = d := by rw [List.length_take, List.length_drop]; omega
   rw [hl] at hq
   have hq1 : pv [x] = (x - 48).toNat := by simp [pv, pvA]
   rw [hq1] at hq
   rw [List.singleton_append] at hq
   rw [hq, Nat.pow_succ, Nat.add_mul, Nat.mul_comm 10 c, Nat.mul_assoc, Nat.mul_comm (10 ^ d) 10, Nat.add_assoc]
  rw [e3, ← ht10] at h
  exact h
theorem zmS (l : List Int) (i d : Nat) : l.take (i + d) = l.take i ++ (l.drop i).take d := by
 rw [List.take_add]
theorem zlO (hd : zaw (qcC s)) (hs : s.size < 100000000) : ∀ (r i : Nat), i + r = s.size → (D (pv ((qcC s).take i))).length ≤ 4096 → Ev (fun k => zn.l1 k s (D (pv ((qcC s).take i))) i) (zz (pv (qcC s))) := by
 intro r
 induction r using Nat.strongRecOn with
 | _ r ih =>
  intro i hi hl
  have hlen : (qcC s).length = s.size := zbH s
  refine zf ?_
  simp only [zn.l1]
  by_cases c : r = 0
  ·refine ze (by omega) (zg (Ev.now _) ?_)
   have e : (qcC s).take i = qcC s := List.take_of_length_le (by omega)
   rw [e] at hl ⊢
   unfold zz; rw [if_neg (by omega)]
  ·refine zd (by omega) ?_
   have chunk : ∀ d, 0 < d → d ≤ 9 → d ≤ r → Ev (fun k => zn.j7 k s (D (pv ((qcC s).take i))) i ((i + d : Nat) : Int)) (zz (pv (qcC s))) := by
    intro d h0 h9 hr
    refine zf ?_
    simp only [zn.j7]
    have hp9 : 1 * 10 ^ d ≤ 1000000000 := by
     have : 10 ^ d ≤ 10 ^ 9 := Nat.pow_le_pow_right (by omega) h9
     omega
    have hlc : (((qcC s).drop i).take d).length = d := by rw [List.length_take, List.length_drop]; omega
    have hpl : pv (((qcC s).drop i).take d) < 10 ^ d := by
     have := zf1 (l := ((qcC s).drop i).take d) (fun x hx => hd x (List.mem_of_mem_drop (List.mem_of_mem_take hx)))
     rwa [hlc] at this
    refine zhY s hd _ (i + d) (by omega) (by omega) (by omega) (fun _ _ _ _ _ _ => trivial) d i 1 0 rfl hp9 (by omega) ?_
    rw [Nat.one_mul, Nat.zero_mul, Nat.zero_add]
    have e : pv ((qcC s).take (i + d)) = pv ((qcC s).take i) * 10 ^ d + pv (((qcC s).drop i).take d) := by
     rw [zmS, zdu, hlc]
    have hD := zhI (n := pv ((qcC s).take i)) hpl (by omega)
    rw [← e] at hD
    have hDl : (D (pv ((qcC s).take (i + d)))).length < 1000000000 := by
     have h1 := zbN (pv ((qcC s).take i))
     have h2 : pv ((qcC s).take (i + d)) < 4294967296 ^ ((D (pv ((qcC s).take i))).length + 1) := by
      rw [e, Nat.pow_succ]
      have h3 : (pv ((qcC s).take i) + 1) * 10 ^ d ≤ 4294967296 ^ (D (pv ((qcC s).take i))).length * 4294967296 := Nat.mul_le_mul h1 (by omega)
      rw [Nat.add_mul] at h3
      omega
     have := zch h2
     omega
    have := zhZ s (i + d) (10 ^ d) (by omega) (res := zz (pv (qcC s))) (D (pv ((qcC s).take (i + d)))) hDl (D (pv ((qcC s).take i))) [] (pv (((qcC s).drop i).take d)) hpl (zW _) (by simp; omega) (by rw [hD]; rfl) ?_
    ·simpa using this
    ·by_cases c2 : (D (pv ((qcC s).take (i + d)))).length > 4096
     ·refine zd (by omega) (zg (Ev.now _) ?_)
      have := zc8 (zlZ (qcC s) (i + d))
      unfold zz; rw [if_pos (by omega)]
     ·exact ze (by omega) (ih (r - d) (by omega) (i + d) (by omega) (by omega))
   have e9 : mn (s.size : Int) (wrap64 ((i : Int) + 9)) = ((i + min r 9 : Nat) : Int) := by
    have : wrap64 ((i : Int) + 9) = (i : Int) + 9 := by unfold wrap64; omega
    rw [this]; unfold mn; split <;> omega
   have j3 := chunk (min r 9) (by omega) (by omega) (by omega)
   rw [e9]
   clear e9
   have em : Int.tmod (s.size : Int) 9 = ((s.size % 9 : Nat) : Int) := ze9 s.size 9
   by_cases c1 : i = 0
   ·refine zd (by omega) ?_
    rw [em]
    by_cases c2 : s.size % 9 = 0
    ·exact ze (by omega) j3
    ·refine zd (by omega) ?_
     have := chunk (s.size % 9) (by omega) (by omega) (by omega)
     have e : ((i + s.size % 9 : Nat) : Int) = ((s.size % 9 : Nat) : Int) := by omega
     rw [e] at this; exact this
   ·exact ze (by omega) j3
theorem zfJ {l : List Int} {i : Nat} (h : i < l.length) : l.getD i 0 ∈ l := by
 rw [List.getD_eq_getElem?_getD, List.getElem?_eq_getElem h]; exact List.getElem_mem h
theorem zhX (hs : s.size < 100000000) : ∀ (r i : Nat), i + r = s.size → (∀ j, j < i → 48 ≤ (qcC s).getD j 0 ∧ (qcC s).getD j 0 ≤ 57) → Ev (fun k => zn.l0 k s s.size i) (if zaw (qcC s) then zz (pv (qcC s)) else ([], 12))
 | 0, i, hi, hj => by
  have hlen : (qcC s).length = s.size := zbH s
  have hd : zaw (qcC s) := by
   intro x hx
   obtain ⟨j, hj', rfl⟩ := List.getElem_of_mem hx
   have := hj j (by omega)
   simpa [hj'] using this
  refine zf ?_
  simp only [zn.l0]
  refine ze (by omega) ?_
  rw [if_pos hd]
  have := zlO s hd hs s.size 0 (by omega) (by simp [pv, pvA, zC])
  simpa [pv, pvA, zC] using this
 | r + 1, i, hi, hj => by
  have hlen : (qcC s).length = s.size := zbH s
  have hm := zfJ (l := qcC s) (i := i) (by omega)
  refine zf ?_
  simp only [zn.l0, zde, zK (n := i) (by omega)]
  refine zd (by omega) (zd (by omega) (zd (by omega) ?_))
  by_cases c1 : (qcC s).getD i 0 < 48
  ·refine zd c1 (zg (Ev.now _) ?_)
   rw [if_neg]; intro hd; have := hd _ hm; omega
  ·refine ze c1 (zd (by omega) (zd (by omega) ?_))
   by_cases c2 : (qcC s).getD i 0 > 57
   ·refine zd c2 (zg (Ev.now _) ?_)
    rw [if_neg]; intro hd; have := hd _ hm; omega
   ·refine ze c2 (zhX hs r (i + 1) (by omega) ?_)
    intro j hj'
    by_cases e : j = i
    ·subst e; omega
    ·exact hj j (by omega)
def za7 (l : List Int) : List Int × Int := if isT l then zz (pv l) else ([], 12)
theorem zlq (hs : s.size < 100000000) : Ev (fun k => zn.f k s) (za7 (qcC s)) := by
 have hlen : (qcC s).length = s.size := zbH s
 have yes : (isT (qcC s) = decide (zaw (qcC s))) → Ev (fun k => zn.l0 k s (s.size : Int) 0) (za7 (qcC s)) := by
  intro h
  have := zhX s hs s.size 0 (by omega) (fun j hj => by omega)
  refine zg this ?_
  unfold za7; rw [h]
  simp only [decide_eq_true_eq]
 unfold zn.f
 by_cases c0 : s.size = 0
 ·have hn : s = (⟨#[]⟩ : ByteArray) := ze8.1 (List.eq_nil_of_length_eq_zero (by rw [zc4]; exact c0))
  refine zd hn ?_
  have : isT (qcC s) = false := by unfold isT; simp [hlen, c0]
  unfold za7; rw [this]; exact Ev.now _
 ·refine ze (fun h => c0 (by rw [h]; rfl)) ?_
  by_cases c1 : s.size > 1
  ·refine zd (by omega) (zd (by omega) ?_)
   have e : bt s 0 = (qcC s).getD 0 0 := zde s 0
   rw [e]
   by_cases c2 : (qcC s).getD 0 0 = 48
   ·refine zd c2 ?_
    have : isT (qcC s) = false := by unfold isT; rw [hlen, c2]; simp; omega
    unfold za7; rw [this]; exact Ev.now _
   ·refine ze c2 (yes ?_)
    unfold isT; rw [hlen, decide_eq_true c1, decide_eq_true c2]; simp
  ·refine ze (by omega) (yes ?_)
   unfold isT; rw [hlen]; simp [show s.size = 1 by omega]
end
section
variable (s : ByteArray)
theorem ziG (i : Nat) (hi : i < 1000000000) {res : List Int × Int} (full : List Int) : ∀ (l done : List Int) (c : Nat), c < 10 → Dg l → done.length + l.length < 1000000000 → full = done ++ zS l 10 c →
  (Ev (fun k => zO.l0 k s full ((i + 1 : Nat) : Int)) res) →
  Ev (fun k => zO.l1 k s (done ++ l) i c done.length) res
 | [], done, c, hc, hg, hl, hfull, H => by
  refine zf ?_
  simp only [zO.l1, zK (n := i) (by omega)]
  refine ze (by simp) ?_
  rw [List.append_nil]
  by_cases h0 : c = 0
  ·have e : full = done := by rw [hfull]; simp [zS, h0]
   rw [e] at H
   exact ze (by omega) H
  ·have e : full = done ++ [((c : Nat) : Int) % 4294967296] := by
    rw [hfull]; simp [zS, h0]; omega
   rw [e] at H
   exact zd (by omega) (zd (by simp at hl ⊢; omega) H)
 | x :: l, done, c, hc, hg, hl, hfull, H => by
  have hx := hg.head
  have hb := zfO (x := x.toNat) (by omega) hc
  have hu : IntKind.u64.wrap ((c : Int) + IntKind.u64.wrap (10 * IntKind.u64.wrap x)) = ((x.toNat * 10 + c : Nat) : Int) := by
   rw [u64 (n := x) (by omega) (by omega), u64 (n := 10 * x) (by omega) (by omega), u64 (by omega) (by omega)]; omega
  have hn := nd (x.toNat * 10 + c)
  have hr : rd (done ++ x :: l) (done.length : Int) = x := zU rfl
  refine zf ?_
  simp only [zO.l1, hr, hu, hn.1, hn.2, zbq rfl, zK (n := done.length) (by simp at hl; omega)]
  clear hu hn
  refine zd (by simp; omega) (zd (by omega) (zd (by simp; omega) (zd (by omega) (zd (by simp; omega) ?_))))
  have := ziG i hi full l (done ++ [((((x.toNat * 10 + c) % 4294967296 : Nat)) : Int)]) _ hb hg.tail (by simp at hl ⊢; omega) (by rw [hfull, zS]; simp) H
  rw [List.length_append, List.length_singleton] at this
  exact this
theorem ziF (hd : zaw (qcC s)) (hs : s.size < 10000000) : ∀ (r i : Nat), i + r = s.size → Ev (fun k => zO.l0 k s (D (pv ((qcC s).take i))) i) (zz (pv (qcC s)))
 | 0, i, hi => by
  have hlen : (qcC s).length = s.size := zbH s
  have e : (qcC s).take i = qcC s := List.take_of_length_le (by omega)
  refine zf ?_
  simp only [zO.l0]
  refine ze (by omega) ?_
  rw [e]
  unfold zz
  by_cases c : (D (pv (qcC s))).length > 4096
  ·rw [if_pos c]; exact zd (by omega) (Ev.now _)
  ·rw [if_neg c]; exact ze (by omega) (Ev.now _)
 | r + 1, i, hi => by
  have hlen : (qcC s).length = s.size := zbH s
  have hm := hd _ (zfJ (l := qcC s) (i := i) (by omega))
  refine zf ?_
  simp only [zO.l0, zde]
  refine zd (by omega) (zd (by omega) (zd (by omega) ?_))
  have hb : IntKind.u64.wrap (((qcC s).getD i 0 - 48) % 256) = (((qcC s).getD i 0 - 48).toNat : Int) := by rw [u64 (by omega) (by omega)]; omega
  have hb' : ((qcC s).getD i 0 - 48) % 256 = (((qcC s).getD i 0 - 48).toNat : Int) := by omega
  rw [hb]
  have hl : (D (pv ((qcC s).take i))).length < 100000000 := by
   have h1 := zf1 (l := (qcC s).take i) (fun x hx => hd x (List.mem_of_mem_take hx))
   have h2 : ((qcC s).take i).length = i := by rw [List.length_take]; omega
   rw [h2] at h1
   have h3 : (10 : Nat) ^ i ≤ 4294967296 ^ i := Nat.pow_le_pow_left (by omega) i
   have := zch (Nat.lt_of_lt_of_le h1 h3)
   omega
  have hmd := zhI (n := pv ((qcC s).take i)) (t := 10) (c := ((qcC s).getD i 0 - 48).toNat) (by omega) (by omega)
  have hv : pv ((qcC s).take (i + 1)) = pv ((qcC s).take i) * 10 + ((qcC s).getD i 0 - 48).toNat := by
   rw [List.take_succ_eq_append_getElem (by omega), zlY, Nat.mul_comm]
   simp [show i < (qcC s).length by omega]
  have := ziG s i (by omega) (res := zz (pv (qcC s))) (D (pv ((qcC s).take (i + 1)))) (D (pv ((qcC s).take i))) [] _ (show ((qcC s).getD i 0 - 48).toNat < 10 by omega) (zW _) (by simp; omega) (by rw [hmd, hv]; rfl) (ziF hd hs r (i + 1) (by omega))
  simpa using this
theorem ziy (hs : s.size < 1000000000000000) : ∀ (r i : Nat), i + r = s.size → (∀ j, j < i → 48 ≤ (qcC s).getD j 0 ∧ (qcC s).getD j 0 ≤ 57) → Ev (fun k => zbj.l0 k s i) (isT (qcC s))
 | 0, i, hi, hj => by
  have hlen : (qcC s).length = s.size := zbH s
  have hd : zaw (qcC s) := by
   intro x hx
   obtain ⟨j, hj', rfl⟩ := List.getElem_of_mem hx
   have := hj j (by omega)
   simpa [hj'] using this
  refine zf ?_
  simp only [zbj.l0]
  refine ze (by omega) ?_
  unfold isT
  rw [hlen, decide_eq_true hd, Bool.true_and]
  by_cases c1 : s.size = 1
  ·refine zd (by omega) (zg (Ev.now _) ?_)
   simp [c1]
  ·refine ze (by omega) ?_
   by_cases c2 : s.size > 1
   ·refine zd (by omega) (zd (by omega) (zg (Ev.now _) ?_))
    have e : bt s 0 = (qcC s).getD 0 0 := zde s 0
    rw [e, decide_eq_false c1, decide_eq_true c2, Bool.false_or, Bool.true_and]
   ·refine ze (by omega) (zg (Ev.now _) ?_)
    rw [decide_eq_false c1, decide_eq_false c2]; rfl
 | r + 1, i, hi, hj => by
  have hlen : (qcC s).length = s.size := zbH s
  have hm := zfJ (l := qcC s) (i := i) (by omega)
  have no : ¬ zaw (qcC s) → isT (qcC s) = false := by intro h; unfold isT; rw [decide_eq_false h]; rfl
  refine zf ?_
  simp only [zbj.l0, zde, zK (n := i) (by omega)]
  refine zd (by omega) (zd (by omega) (zd (by omega) ?_))
  by_cases c1 : (qcC s).getD i 0 < 48
  ·refine zd c1 (zg (Ev.now _) ?_)
   exact (no (fun hd => by have := hd _ hm; omega)).symm
  ·refine ze c1 (zd (by omega) (zd (by omega) ?_))
   by_cases c2 : (qcC s).getD i 0 > 57
   ·refine zd c2 (zg (Ev.now _) ?_)
    exact (no (fun hd => by have := hd _ hm; omega)).symm
   ·refine ze c2 (ziy hs r (i + 1) (by omega) ?_)
    intro j hj'
    by_cases e : j = i
    ·subst e; omega
    ·exact hj j (by omega)
end
theorem zlX {c : Int} {l : List Int} : pv (c :: l) = (c - 48).toNat * 10 ^ l.length + pv l := by
 have := zdu [c] l
 simpa [pv, pvA] using this
theorem zh7 {l : List Int} (hd : zaw l) (h0 : l.getD 0 0 ≠ 48) (hl : l ≠ []) : 10 ^ (l.length - 1) ≤ pv l := by
 cases l with
 | nil => exact absurd rfl hl
 | cons c l =>
  have hc := hd c (by simp)
  have h1 : c ≠ 48 := by simpa using h0
  rw [zlX]
  have : 1 * 10 ^ l.length ≤ (c - 48).toNat * 10 ^ l.length := Nat.mul_le_mul_right _ (by omega)
  simp; omega
def zi4 (a b : Nat) : Bool := Nat.ble (2 ^ a) (10 ^ b)
theorem zmV : zi4 131072 39457 = true := by decide +kernel
theorem zk8 {l : List Int} (h : isT l = true) (hl : 39457 < l.length) : zz (pv l) = ([], 3) := by
 unfold isT at h
 simp only [Bool.and_eq_true, Bool.or_eq_true, decide_eq_true_eq] at h
 obtain ⟨hd, h | h⟩ := h
 ·omega
 ·have h1 := zh7 hd h.2 (fun e => by rw [e] at hl; simp at hl)
  have key : ∀ a b, a = 131072 → b = 39457 → zi4 a b = true → zz (pv l) = ([], 3) := by
   intro a b ha hb hab'
   have hab : 2 ^ a ≤ 10 ^ b := Nat.le_of_ble_eq_true hab'
   have h3 : 10 ^ b ≤ 10 ^ (l.length - 1) := Nat.pow_le_pow_right (by omega) (by omega)
   exact zjd (e := a) (by omega) (Nat.le_trans hab (Nat.le_trans h3 h1))
  exact key 131072 39457 rfl rfl zmV
theorem zea (s : ByteArray) (hs : s.size < 1000000000000000) : Ev (fun k => zO.f k s) (za7 (qcC s)) := by
 have hlen : (qcC s).length = s.size := zbH s
 unfold zO.f za7
 refine Ev.bind (?_ : Ev (fun k => zbj.f k s) (isT (qcC s))) ?_
 ·exact ziy s (by omega) s.size 0 (by omega) (fun j hj => by omega)
 ·by_cases c : isT (qcC s) = true
  ·refine ze (by rw [c]; simp) ?_
   rw [if_pos c]
   by_cases c2 : s.size > 39457
   ·refine zd (by omega) (zg (Ev.now _) ?_)
    exact (zk8 c (by omega)).symm
   ·have hd : zaw (qcC s) := by
     unfold isT at c; simp only [Bool.and_eq_true, decide_eq_true_eq] at c; exact c.1
    refine ze (by omega) ?_
    have := ziF s hd (by omega) s.size 0 (by omega)
    simpa [pv, pvA, zC] using this
  ·refine zd (by simpa using c) (zg (Ev.now _) ?_)
   rw [if_neg c]
theorem zhN (A Bl : List Int) (i : Nat) (x : Int) (hx : 0 ≤ x ∧ x < 4294967296) (hB : Dg Bl) (hl : A.length < 1000000000) (hlb : Bl.length < 1000000000) (hi : i < A.length) (res : List Int) : ∀ (b done r pb : List Int) (c : Int), Bl = pb ++ b → done.length = i + pb.length → b.length < r.length → Dg r → 0 ≤ c ∧ c < 4294967296 →
  Ev (fun k => zF.l0 k Bl (done ++ z8 x b r c) A A.length ((i + 1 : Nat) : Int)) res →
  Ev (fun k => zF.l1 k Bl (done ++ r) i x c A A.length i Bl Bl.length pb.length) res
 | [], done, r, pb, c, he, hd, hr, hg, hc, H => by
  obtain ⟨y, r, rfl⟩ : ∃ y r', r = y :: r' := by
   cases r with
   | nil => simp at hr
   | cons y r' => exact ⟨y, r', rfl⟩
  have hlen : Bl.length = pb.length := by rw [he]; simp
  refine zf ?_
  have e : wrap64 ((i : Int) + (Bl.length : Int)) = ((i + Bl.length : Nat) : Int) := by unfold wrap64; omega
  simp only [zF.l1, e, zK (n := i) (by omega)]
  clear e
  refine ze (by omega) (zd (by omega) (zd (by simp; omega) ?_))
  have hs : (done ++ y :: r).set (((i + Bl.length : Nat) : Int)).toNat (c % 4294967296) = done ++ z8 x [] (y :: r) c := by
   rw [zbq (by omega)]; simp [z8]; omega
  rw [hs]; exact H
 | y :: b, done, r, pb, c, he, hd, hr, hg, hc, H => by
  obtain ⟨o, r, rfl⟩ : ∃ y r', r = y :: r' := by
   cases r with
   | nil => simp at hr
   | cons y r' => exact ⟨y, r', rfl⟩
  have hlen : Bl.length = pb.length + 1 + b.length := by rw [he]; simp; omega
  have hy : 0 ≤ y ∧ y < 4294967296 := by rw [he] at hB; exact hB.right.head
  have ho := hg.head
  have hp := zd3 hx hy
  refine zf ?_
  have e : wrap64 ((i : Int) + (pb.length : Int)) = ((done.length : Nat) : Int) := by unfold wrap64; omega
  simp only [zF.l1, e, zK (n := pb.length) (by omega)]
  clear e
  refine zd (by omega) (zd (by omega) (zd (by omega) (zd (by omega) (zd (by simp; omega) (zd (by omega) (zd (by simp; omega) ?_))))))
  have h1 : rd Bl (pb.length : Int) = y := by rw [he]; exact zU rfl
  have h2 : rd (done ++ o :: r) (done.length : Int) = o := zU rfl
  rw [h1, h2, zbq rfl, u64 hx.1 (by omega), u64 hy.1 (by omega), u64 ho.1 (by omega), u64 (n := x * y) hp.1 (by omega), u64 (n := x * y + o) (by omega) (by omega), u64 (n := x * y + o + c) (by omega) (by omega)]
  have := zhN A Bl i x hx hB hl hlb hi res b (done ++ [(x * y + o + c) % 4294967296]) r (pb ++ [y]) ((x * y + o + c) / 4294967296) (by rw [he]; simp) (by simp [hd]; omega) (by simpa using hr) hg.tail (by omega) (by simpa [z8] using H)
  simpa using this
theorem zhM (A Bl : List Int) (hA : Dg A) (hB : Dg Bl) (hl : A.length < 1000000000) (hlb : Bl.length < 1000000000) : ∀ (a done r pa : List Int), A = pa ++ a → done.length = pa.length → Dg done → Dg r → r.length = Bl.length + a.length → r.drop Bl.length = List.replicate a.length 0 →
  Ev (fun k => zF.l0 k Bl (done ++ r) A A.length done.length) (D (V (done ++ zbQ a Bl r)))
 | [], done, r, pa, he, hd, hg, hr, hrl, hz => by
  have hlen : A.length = done.length := by rw [he, hd]; simp
  refine zf ?_
  simp only [zF.l0]
  refine ze (by omega) ?_
  refine Ev.bind (zb9 (hg.app hr) (by simp; simp at hrl; omega)) ?_
  exact Ev.now _
 | x :: a, done, r, pa, he, hd, hg, hr, hrl, hz => by
  have hlen : A.length = done.length + 1 + a.length := by rw [he, hd]; simp; omega
  have hx : 0 ≤ x ∧ x < 4294967296 := by rw [he] at hA; exact hA.right.head
  have hrr := zgf hx Bl r 0 a.length hB hr (by omega) (by simpa using hz)
  refine zf ?_
  simp only [zF.l0]
  refine zd (by omega) (zd (by omega) (zd (by omega) ?_))
  have h1 : rd A (done.length : Int) = x := by rw [he]; exact zU (by omega)
  rw [h1]
  refine zhN A Bl done.length x hx hB hl hlb (by omega) _ Bl done r [] 0 rfl rfl (by simp at hrl; omega) hr (by omega) ?_
  obtain ⟨r0, r', e⟩ : ∃ r0 r', z8 x Bl r 0 = r0 :: r' := by
   cases h : z8 x Bl r 0 with
   | nil =>
    have hl := hrr.2.2.2
    rw [h] at hl
    simp at hrl hl; omega
   | cons r0 r' => exact ⟨r0, r', rfl⟩
  rw [e] at hrr
  have := zhM A Bl hA hB hl hlb a (done ++ [r0]) r' (pa ++ [x]) (by rw [he]; simp) (by simp [hd]) (hg.app (Dg.cons hrr.2.1.head.1 hrr.2.1.head.2 Dg.nil)) hrr.2.1.tail (by have := hrr.2.2.2; simp at this hrl; omega) (by simpa using hrr.2.2.1)
  rw [List.length_append, List.length_singleton, List.append_assoc] at this
  have e2 : done ++ zbQ (x :: a) Bl r = done ++ [r0] ++ zbQ a Bl r' := by simp [zbQ, e]
  rw [e, e2]; simpa using this
theorem zfV {a b : List Int} (ha : Dg a) (hb : Dg b) (la : a.length < 1000000000) (lb : b.length < 1000000000) : Ev (fun k => zF.f k a b) (D (V a * V b)) := by
 unfold zF.f
 have e : wrap64 ((a.length : Int) + (b.length : Int)) = ((a.length + b.length : Nat) : Int) := by unfold wrap64; omega
 simp only [e]
 clear e
 refine zd (by omega) (zd (by omega) ?_)
 have := zhM a b ha hb la lb a [] (List.replicate (a.length + b.length) 0) [] rfl rfl Dg.nil (Dg.zeros _) (by simp; omega) (by simp)
 refine zg this ?_
 have h2 := zhL a b (List.replicate (a.length + b.length) 0) ha hb (Dg.zeros _) (by simp)
 simp [h2.1, zex]
theorem zlp {a b : List Int} (ha : Nm a) (hb : Nm b) (la : a.length ≤ 4096) (lb : b.length ≤ 4096) : Ev (fun k => zcx.f k a b) (zz (V a * V b)) := by
 have h1 : may a = true := zbP.2 ⟨la, ha⟩
 have h2 : may b = true := zbP.2 ⟨lb, hb⟩
 have tail : Ev (fun k => (zF.f k a b).bind fun t => (zaV.f t).bind fun bt => some (bt.1, bt.2)) (zz (V a * V b)) := by
  refine Ev.bind (zfV ha.dg hb.dg (by omega) (by omega)) ?_
  exact zl (zls _) (Ev.now _)
 unfold zcx.f
 refine Ev.bind (zgP ha.dg hb.dg (by omega) (by omega)) ?_
 refine ze (by simp [h1, h2]) ?_
 by_cases c1 : a.length > 0
 ·refine zd (by omega) ?_
  by_cases c2 : b.length > 0
  ·refine zd (by omega) ?_
   have e : wrap64 (wrap64 ((a.length : Int) + (b.length : Int)) - 1) = ((a.length + b.length - 1 : Nat) : Int) := by unfold wrap64; omega
   rw [e]
   clear e
   by_cases c3 : a.length + b.length - 1 > 4096
   ·refine zd (by omega) (zg (Ev.now _) ?_)
    have p1 := zfj ha (fun e => by subst e; simp at c1)
    have p2 := zfj hb (fun e => by subst e; simp at c2)
    have p3 := Nat.mul_le_mul p1 p2
    rw [← Nat.pow_add] at p3
    have p4 : (D (V a * V b)).length > 4096 := by
     apply Nat.lt_of_not_le
     intro k
     have p5 := zbN (V a * V b)
     have p6 := Nat.pow_lt_pow_iff_right (a := 4294967296) (by omega) |>.1 (Nat.lt_of_le_of_lt p3 p5)
     omega
    unfold zz; rw [if_pos p4]
   ·exact ze (by omega) tail
  ·exact ze (by omega) tail
 ·exact ze (by omega) tail
theorem zfw {n : Nat} (h : (D n).length ≤ 4096) : zz n = (D n, 0) := by
 unfold zz; rw [if_neg (by omega)]
theorem zet : D 1 = [1] := by
 have h2 : Nm [1] := by have := zdI Dg.nil (d := 1) (by omega) (by omega); simpa using this
 exact h2
theorem zhS (n : Nat) (h : n < 9223372036854775808) : (BitVec.ofInt 64 (n : Int)).toNat = n := by
 rw [BitVec.ofInt_natCast, BitVec.toNat_ofNat]; exact Nat.mod_eq_of_lt (by omega)
theorem zjY (n : Nat) (h : n < 9223372036854775808) : Go.bits .and .i64 (n : Int) 1 = ((n % 2 : Nat) : Int) := by
 show IntKind.i64.wrap ((BitVec.ofInt 64 (n : Int) &&& BitVec.ofInt 64 ((1 : Nat) : Int)).toNat : Int) = _
 rw [BitVec.toNat_and, zhS n h, zhS 1 (by omega), Nat.and_one_is_mod, IntKind.wrap_i64]
 omega
theorem zmG (n i : Nat) (h : i ≤ 64) : shr .i64 (n : Int) (i : Int) = ((n / 2 ^ i : Nat) : Int) := by
 unfold shr
 have e : min (i : Int).toNat IntKind.i64.bits = i := by rw [Int.toNat_natCast]; exact Nat.min_eq_left h
 rw [e]; simp
theorem zfZ {b n : Nat} (h : 1 ≤ b) : 1 ≤ b ^ n := Nat.one_le_pow _ _ h
theorem ze3 {b m n : Nat} (h : 1 ≤ b) (k : m ≤ n) : b ^ m ≤ b ^ n := Nat.pow_le_pow_right h k
theorem zkS (n i : Nat) : n / 2 ^ i = 2 * (n / 2 ^ (i + 1)) + n / 2 ^ i % 2 := by
 have : n / 2 ^ (i + 1) = n / 2 ^ i / 2 := by rw [Nat.pow_succ, Nat.div_div_eq_div_mul]
 rw [this]; omega
theorem zmK {m : Nat} (h : m ≠ 0) : 2 * (D m).length - 1 ≤ (D (m * m)).length := by
 have h1 := zfi h
 have h2 := Nat.mul_le_mul h1 h1
 rw [← Nat.pow_add] at h2
 apply Nat.le_of_not_lt
 intro k
 have h3 := zbN (m * m)
 have h4 : (4294967296 : Nat) ^ (D (m * m)).length ≤ 4294967296 ^ ((D m).length - 1 + ((D m).length - 1)) := Nat.pow_le_pow_right (by omega) (by omega)
 omega
theorem zng {L : Nat} (h : L ≤ 4096) : wrap64 (wrap64 (2 * (L : Int)) - 1) = 2 * (L : Int) - 1 := by unfold wrap64; omega
theorem zmL {p : Nat} (h : (D p).length ≤ 4096) : (D (p * p)).length ≤ 8192 := by
 have h1 := zbN p
 have h2 := Nat.mul_lt_mul'' h1 h1
 rw [← Nat.pow_add] at h2
 have := zch h2
 omega
theorem zj1 {x : Int} (h : 0 ≤ x ∧ x < 18446744073709551616) : Ev (fun k => zdc.f k x) ((bl x.toNat : Nat) : Int) := by
 unfold zdc.f
 exact Ev.bind (zdY h) (Ev.now _)
theorem zlV {b n i p q T t : Nat} (hbl : Dg [((b : Nat) : Int)]) (hi : i < 64) (hs : Go.bits .and .i64 (shr .i64 (n : Int) (i : Int)) 1 = ((t % 2 : Nat) : Int)) (hp : p ≠ 0) (hl : (D p).length ≤ 4096) (hpT : p * p ≤ T) (hqT : q ≤ T)
  (h1 : t % 2 = 1 → p * p * b = q) (h0 : t % 2 ≠ 1 → p * p = q) (ih : (D q).length ≤ 4096 → Ev (fun k => zB.l0 k (b : Int) (n : Int) (D q) ((i : Int) - 1)) (zz T)) :
  Ev (fun k => zB.l0 k (b : Int) (n : Int) (D p) (i : Int)) (zz T) := by
 have hsl := zmK hp
 have hss := zmL hl
 refine zf ?_
 simp only [zB.l0, zng hl, hs]
 clear hs
 refine zd (by omega) ?_
 by_cases c1 : 2 * (D p).length > 4097
 ·refine zd (by omega) (zg (Ev.now _) ?_)
  exact (zfv (m := p * p) (by omega) hpT).symm
 ·refine ze (by omega) (Ev.bind (zfV (zW _) (zW _) (by omega) (by omega)) ?_)
  rw [V_D]
  refine zd (by omega) ?_
  have next : Ev (fun k => zB.j4 k (b : Int) (n : Int) (D q) (i : Int)) (zz T) := by
   refine zf ?_
   simp only [zB.j4, zcf (n := i) (by omega)]
   by_cases c2 : (D q).length > 4096
   ·refine zd (by omega) (zg (Ev.now _) ?_)
    exact (zfv c2 hqT).symm
   ·exact ze (by omega) (ih (by omega))
  by_cases c3 : t % 2 = 1
  ·refine zd (by omega) (Ev.bind (zfV (zW _) hbl (by omega) (by simp)) ?_)
   have hv : V (D (p * p)) * V [((b : Nat) : Int)] = q := by
    rw [V_D, ← h1 c3]
    simp only [zt, zaa, Int.toNat_natCast, Nat.mul_zero, Nat.add_zero]
   rw [hv]; exact next
  ·refine ze (by omega) ?_
   rw [h0 c3]; exact next
theorem zh5 {b : Nat} (hb : 1 ≤ b ∧ b < 4294967296) (hbl : Dg [((b : Nat) : Int)]) {n : Nat} (hn : n < 9223372036854775808) : ∀ (i : Nat), i ≤ 64 → (D (b ^ (n / 2 ^ i))).length ≤ 4096 → Ev (fun k => zB.l0 k (b : Int) (n : Int) (D (b ^ (n / 2 ^ i))) ((i : Int) - 1)) (zz (b ^ n))
 | 0, hi, hl => by
  refine zf ?_
  simp only [zB.l0]
  refine ze (by decide) (zg (Ev.now _) ?_)
  rw [Nat.pow_zero, Nat.div_one] at hl ⊢
  exact (zfw hl).symm
 | i + 1, hi, hl => by
  have e0 : ((i + 1 : Nat) : Int) - 1 = (i : Int) := by rw [Int.natCast_add]; exact Int.add_sub_cancel _ _
  have hh := zkS n i
  have hle : n / 2 ^ i ≤ n := Nat.div_le_self _ _
  have hm : b ^ (n / 2 ^ (i + 1)) ≠ 0 := Nat.ne_of_gt (zfZ hb.1)
  have hsq : b ^ (n / 2 ^ (i + 1)) * b ^ (n / 2 ^ (i + 1)) = b ^ (2 * (n / 2 ^ (i + 1))) := by rw [← Nat.pow_add, Nat.two_mul]
  have hle2 : 2 * (n / 2 ^ (i + 1)) ≤ n / 2 ^ i := by rw [hh]; exact Nat.le_add_right _ _
  have hbit : Go.bits .and .i64 (shr .i64 (n : Int) (i : Int)) 1 = ((n / 2 ^ i % 2 : Nat) : Int) := by
   rw [zmG n i (Nat.le_of_lt hi), zjY _ (Nat.lt_of_le_of_lt hle hn)]
  rw [e0]
  refine zlV (q := b ^ (n / 2 ^ i)) hbl hi hbit hm hl ?_ (ze3 hb.1 hle) ?_ ?_ (fun h => zh5 hb hbl hn i (Nat.le_of_lt hi) h)
  ·rw [hsq]; exact ze3 hb.1 (Nat.le_trans hle2 hle)
  ·intro c; rw [hsq, ← Nat.pow_succ]; congr 1; rw [c] at hh; exact hh.symm
  ·intro c
   have c' : n / 2 ^ i % 2 = 0 := (Nat.mod_two_eq_zero_or_one _).resolve_right c
   rw [hsq]; congr 1; rw [c'] at hh; exact hh.symm
theorem zhP {b n : Nat} (hb : b < 4294967296) (hn : n < 9223372036854775808) : Ev (fun k => zB.f k (b : Int) (n : Int)) (zz (b ^ n)) := by
 have h1 : Nm [1] := by rw [← zet]; exact zG 1
 have one : ∀ z, z = true → b ^ n = 1 → Ev (fun k => zB.j0 k (b : Int) (n : Int) z) (zz (b ^ n)) := by
  rintro z rfl e
  refine zf ?_
  simp only [zB.j0]
  refine zd trivial (Ev.bind (zfU (by omega) (by omega)) (zg (Ev.now _) ?_))
  rw [e]
  exact (zfw (n := 1) (by rw [zet]; simp)).symm
 unfold zB.f
 refine ze (by omega) ?_
 by_cases c0 : n = 0
 ·refine zd (by omega) (one true rfl (by subst c0; simp))
 ·refine ze (by omega) ?_
  by_cases c1 : b = 1
  ·refine one _ (by subst c1; rfl) (by subst c1; simp)
  ·have e : decide ((b : Int) = 1) = false := decide_eq_false (by omega)
   rw [e]
   refine zf ?_
   simp only [zB.j0]
   refine ze (by simp) ?_
   by_cases c2 : b = 0
   ·refine zd (by omega) (zg (Ev.now _) ?_)
    subst c2
    rw [Nat.zero_pow (by omega), zfw (by rw [zC]; simp), zC]
   ·refine ze (by omega) ?_
    by_cases c3 : n > 131072
    ·refine zd (by omega) (zg (Ev.now _) ?_)
     have p1 : 2 ^ n ≤ b ^ n := Nat.pow_le_pow_left (by omega) n
     exact (zjd (by omega) p1).symm
    ·refine ze (by omega) (Ev.bind (zfU (by omega) (by omega)) ?_)
     rw [u64 (by omega) (by omega)]
     refine Ev.bind (zj1 (by omega)) ?_
     have hbl : bl n ≤ 63 := zI (by omega)
     rw [Int.toNat_natCast, zcf (by omega)]
     have := zh5 (b := b) (by omega) (Dg.cons (by omega) (by omega) Dg.nil) hn (bl n) (by omega)
     rw [Nat.div_eq_of_lt (zZ n), Nat.pow_zero] at this
     exact this (by rw [zet]; simp)
theorem zi3 (n : Nat) (h : n < 9223372036854775808) : wrap64 (Int.tdiv (n : Int) 2) = ((n / 2 : Nat) : Int) := by
 rw [Int.tdiv_eq_ediv_of_nonneg (by omega), zap (by omega) (by omega)]; omega
theorem zmX (n : Nat) : Int.tmod (n : Int) 2 = ((n % 2 : Nat) : Int) := by
 rw [Int.tmod_eq_emod_of_nonneg (by omega)]; omega
theorem zmt {M K : Nat} (hK : K < 100000000) (hM : M < 4294967296 ^ K) : ∀ (n : Nat), n < 9223372036854775808 → ∀ (out sq : Nat) (o s : Nat), out ≤ o → sq ≤ s → 1 ≤ o → 1 ≤ s → (0 < n → s ≤ M) → o * s ^ n ≤ M → s < 4294967296 ^ K →
  Ev (fun k => zag.l0 k (n : Int) (D out) (D sq)) (D (out * sq ^ n)) := by
 intro n
 induction n using Nat.strongRecOn with
 | _ n ih =>
  intro hn out sq o s ho hs h1 h2 hsM hT hs9
  have lenM : ∀ {x : Nat}, x ≤ M → (D x).length < 100000000 := by
   intro x hx
   have := zch (Nat.lt_of_le_of_lt hx hM)
   omega
  have hoM : out ≤ M := by
   have : o * 1 ≤ o * s ^ n := Nat.mul_le_mul_left _ (zfZ h2)
   omega
  have hls : (D sq).length < 100000000 := by have := zch (Nat.lt_of_le_of_lt hs hs9); omega
  refine zf ?_
  simp only [zag.l0, zi3 n hn, zmX]
  by_cases c : n = 0
  ·subst c
   refine ze (by omega) (zg (Ev.now _) ?_)
   simp
  ·refine zd (by omega) ?_
   have hsM' := hsM (by omega)
   have hsq : sq ^ n = (sq * sq) ^ (n / 2) * sq ^ (n % 2) := by
    rw [← Nat.pow_two, ← Nat.pow_mul, ← Nat.pow_add]; congr 1; omega
   have hsp : s ^ n = (s * s) ^ (n / 2) * s ^ (n % 2) := by
    rw [← Nat.pow_two, ← Nat.pow_mul, ← Nat.pow_add]; congr 1; omega
   have hss : 0 < n / 2 → s * s ≤ M := by
    intro h
    have h3 : s ^ 2 ≤ s ^ n := ze3 h2 (by omega)
    have h4 : 1 * s ^ n ≤ o * s ^ n := Nat.mul_le_mul_right _ h1
    rw [Nat.pow_two] at h3
    omega
   have go : ∀ (out' o' : Nat), out' ≤ o' → 1 ≤ o' → o' * (s * s) ^ (n / 2) ≤ M → out' * (sq * sq) ^ (n / 2) = out * sq ^ n → (D out').length < 100000000 →
     Ev (fun k => zag.j1 k (n : Int) (D out') (D sq)) (D (out * sq ^ n)) := by
    intro out' o' k1 k2 k3 k4 k5
    refine zf ?_
    simp only [zag.j1, zi3 n hn]
    by_cases c2 : 0 < n / 2
    ·refine zd (by omega) (Ev.bind (zga (zW _) (zW _) hls hls) ?_)
     rw [V_D]
     have := ih (n / 2) (by omega) (by omega) out' (sq * sq) o' (s * s) k1 (Nat.mul_le_mul hs hs) k2 (Nat.mul_le_mul h2 h2) (fun _ => hss c2) k3 (Nat.lt_of_le_of_lt (hss c2) hM)
     rwa [k4] at this
    ·refine ze (by omega) ?_
     have e : n / 2 = 0 := by omega
     rw [e] at k3 k4 ⊢
     have := ih 0 (by omega) (by omega) out' sq o' s k1 hs k2 h2 (fun h => absurd h (by omega)) (by simpa using k3) hs9
     rwa [Nat.pow_zero, ← Nat.pow_zero (sq * sq), k4] at this
   by_cases c1 : n % 2 = 1
   ·refine zd (by omega) (Ev.bind (zga (zW _) (zW _) (lenM hoM) hls) ?_)
    rw [V_D, V_D]
    have k3 : o * s * (s * s) ^ (n / 2) ≤ M := by
     rw [hsp, c1, Nat.pow_one] at hT
     have : o * s * (s * s) ^ (n / 2) = o * ((s * s) ^ (n / 2) * s) := by rw [Nat.mul_assoc, Nat.mul_comm s]
     omega
    refine go (out * sq) (o * s) (Nat.mul_le_mul ho hs) (Nat.mul_le_mul h1 h2) k3 ?_ ?_
    ·rw [hsq, c1, Nat.pow_one, Nat.mul_assoc, Nat.mul_comm sq]
    ·apply lenM
     have : o * s * 1 ≤ o * s * (s * s) ^ (n / 2) := Nat.mul_le_mul_left _ (zfZ (Nat.mul_le_mul h2 h2))
     have := Nat.mul_le_mul ho hs
     omega
   ·refine ze (by omega) ?_
    have c1' : n % 2 = 0 := by omega
    refine go out o ho h1 ?_ ?_ (lenM hoM)
    ·rw [hsp, c1', Nat.pow_zero, Nat.mul_one] at hT; exact hT
    ·rw [hsq, c1', Nat.pow_zero, Nat.mul_one]
theorem zmg {b n : Nat} (hb : b < 4294967296) (hn : n < 9223372036854775808) {K : Nat} (hK : K < 100000000) (hK1 : 1 ≤ K) (h : (max 1 b) ^ n < 4294967296 ^ K) : Ev (fun k => zag.f k (b : Int) (n : Int)) (D (b ^ n)) := by
 unfold zag.f
 rw [u64 (by omega) (by omega)]
 refine Ev.bind (ziu (by omega) (by omega)) ?_
 rw [Int.toNat_natCast]
 have hs : max 1 b < 4294967296 ^ K := Nat.lt_of_lt_of_le (show max 1 b < 4294967296 ^ 1 by omega) (Nat.pow_le_pow_right (by omega) hK1)
 have := zmt (M := max 1 b ^ n) hK h n hn 1 b 1 (max 1 b) (by omega) (by omega) (by omega) (by omega) ?_ (by omega) hs
 ·rw [zet, Nat.one_mul] at this; exact this
 ·intro h0
  have h1 : max 1 b ^ 1 ≤ max 1 b ^ n := ze3 (by omega) h0
  rwa [Nat.pow_one] at h1
theorem zdN (b : Bool) : bN b < 2 := by cases b <;> decide
theorem zez (b : Bool) : bN b = 0 ↔ b = false := by cases b <;> decide
def stk (Q : Nat) (b : Bool) : Nat := 2 * Q + bN b
theorem zeA {Q : Nat} (h : Q ≠ 0) (b : Bool) : bl (stk Q b) = bl Q + 1 := by
 have hb := zdN b
 have : stk Q b / 2 ^ 1 = Q := by unfold stk; omega
 have h2 := zbG (stk Q b) 1
 rw [this] at h2
 have h3 := zbu h
 have h4 : bl (stk Q b) ≠ 0 := fun e => by rw [e] at h2; omega
 omega
theorem zj4 {H r j : Nat} (h : H ≠ 0) (hr : r < 2 ^ j) : bl (H * 2 ^ j + r) = bl H + j := by
 have h1 : (H * 2 ^ j + r) / 2 ^ j = H := by
  rw [Nat.mul_comm, Nat.mul_add_div (zh j), Nat.div_eq_of_lt hr, Nat.add_zero]
 have h2 := zbG (H * 2 ^ j + r) j
 rw [h1] at h2
 have := zbu h
 omega
theorem ziC {f m : Int} (h : isF f) (s : Bool) {H r j : Nat} (hH : pr f + 1 ≤ bl H) (hr : r < 2 ^ j) (e : Int) : zu f m s (H * 2 ^ j + r) e = zu f m s (stk H (decide (r ≠ 0))) (e + j - 1) := by
 have hpr := zQ h
 have h0 : H ≠ 0 := fun c => by rw [c, za0] at hH; omega
 have hb1 := zj4 h0 hr
 have hb2 := zeA h0 (decide (r ≠ 0))
 rw [← ze6, ← ze6]
 have hT : e + j - 1 + (bl (stk H (decide (r ≠ 0))) : Nat) = e + (bl (H * 2 ^ j + r) : Nat) := by omega
 rw [hT]
 refine zge fun E hE => ?_
 obtain ⟨d, hd⟩ : ∃ d : Nat, (E - e).toNat = d + j ∧ 1 ≤ d := ⟨(E - e).toNat - j, by omega, by omega⟩
 have e1 : (e - E).toNat = 0 := by omega
 have e2 : (e + j - 1 - E).toNat = 0 := by omega
 have e3 : (E - (e + j - 1)).toNat = d + 1 := by omega
 unfold R exR stk
 rw [e1, e2, e3, hd.1, Nat.pow_zero, Nat.mul_one, Nat.mul_one]
 exact ⟨ziB m s hr hd.2, decide_eq_decide.2 (zhp hr)⟩
theorem zkO (X Y j : Nat) (hY : 0 < Y) : ∃ r, r < 2 ^ j ∧ X * 2 ^ j / Y = X / Y * 2 ^ j + r ∧ (X % Y = 0 ↔ r = 0 ∧ X * 2 ^ j % Y = 0) := by
 have h1 := Nat.div_add_mod X Y
 have h2 := Nat.mod_lt X hY
 have e : X * 2 ^ j = Y * (X / Y * 2 ^ j) + X % Y * 2 ^ j := by
  conv => lhs; rw [← h1, Nat.add_mul, Nat.mul_assoc]
 refine ⟨X % Y * 2 ^ j / Y, ?_, ?_, ?_⟩
 ·rw [Nat.div_lt_iff_lt_mul hY, Nat.mul_comm]
  exact Nat.mul_lt_mul_of_pos_left h2 (zh j)
 ·rw [e, Nat.mul_add_div hY]
 ·rw [e, Nat.mul_add_mod]
  constructor
  ·intro c; rw [c]; simp
  ·intro ⟨c1, c2⟩
   have h3 := Nat.div_add_mod (X % Y * 2 ^ j) Y
   rw [c1, c2] at h3
   have h4 : X % Y * 2 ^ j = 0 := by rw [← h3]; simp
   rcases Nat.mul_eq_zero.1 h4 with h5 | h5
   ·exact h5
   ·have := zh j; omega
theorem ziI {f m : Int} (h : isF f) (s : Bool) {A B N : Nat} (hB : 0 < B) (hn : pr f + 1 ≤ bl (A * 2 ^ N / B)) (e : Int) (j : Nat) :
  zu f m s (stk (A * 2 ^ (N + j) / B) (decide (A * 2 ^ (N + j) % B ≠ 0))) (e - (N + j : Nat) - 1) = zu f m s (stk (A * 2 ^ N / B) (decide (A * 2 ^ N % B ≠ 0))) (e - N - 1) := by
 obtain ⟨r, hr, hq, hz⟩ := zkO (A * 2 ^ N) B j hB
 rw [Nat.pow_add, ← Nat.mul_assoc]
 rw [hq]
 have hb := zdN (decide (A * 2 ^ N * 2 ^ j % B ≠ 0))
 have hs : stk (A * 2 ^ N / B * 2 ^ j + r) (decide (A * 2 ^ N * 2 ^ j % B ≠ 0)) = A * 2 ^ N / B * 2 ^ (j + 1) + (2 * r + bN (decide (A * 2 ^ N * 2 ^ j % B ≠ 0))) := by
  unfold stk
  rw [Nat.pow_succ, ← Nat.mul_assoc]; omega
 rw [hs, ziC h s hn (by rw [Nat.pow_succ]; omega)]
 have hd : decide (2 * r + bN (decide (A * 2 ^ N * 2 ^ j % B ≠ 0)) ≠ 0) = decide (A * 2 ^ N % B ≠ 0) := by
  apply decide_eq_decide.2
  have := zez (decide (A * 2 ^ N * 2 ^ j % B ≠ 0))
  have h3 : bN (decide (A * 2 ^ N * 2 ^ j % B ≠ 0)) = 0 ↔ A * 2 ^ N * 2 ^ j % B = 0 := by rw [this]; simp
  constructor
  ·intro c c2
   have := hz.1 c2
   exact c (by rw [h3.2 this.2, this.1])
  ·intro c c2
   exact c (hz.2 ⟨by omega, h3.1 (by omega)⟩)
 rw [hd]
 congr 1
 omega
def rq (f m : Int) (s : Bool) (A B : Nat) (e : Int) : Int × Int :=
 zu f m s (stk (A * 2 ^ (bl B + 64) / B) (decide (A * 2 ^ (bl B + 64) % B ≠ 0))) (e - (bl B + 64 : Nat) - 1)
theorem zed {A B : Nat} (hA : A ≠ 0) (hB : 0 < B) : 64 + 1 ≤ bl (A * 2 ^ (bl B + 64) / B) := by
 have := (zh8 hA (Nat.ne_of_gt hB) (bl B + 64) (by omega)).1
 have := zbu hA
 omega
theorem zee {f m : Int} (h : isF f) (s : Bool) {A B : Nat} (hA : A ≠ 0) (hB : 0 < B) (e : Int) (N : Nat) (hn : pr f + 1 ≤ bl (A * 2 ^ N / B)) :
  zu f m s (stk (A * 2 ^ N / B) (decide (A * 2 ^ N % B ≠ 0))) (e - N - 1) = rq f m s A B e := by
 have hpr := zQ h
 have hfb := zaJ h
 have hb := zed hA hB
 unfold rq
 have h1 := ziI (m := m) h s hB hn e (bl B + 64)
 have h2 := ziI (m := m) h s (A := A) (N := bl B + 64) hB (by omega) e N
 rw [← h1, ← h2, Nat.add_comm N]
theorem zmw {f m : Int} (h : isF f) (s : Bool) {A B c : Nat} (hA : A ≠ 0) (hB : 0 < B) (hc : 0 < c) (e : Int) : rq f m s (A * c) (B * c) e = rq f m s A B e := by
 have hAc : A * c ≠ 0 := Nat.mul_ne_zero hA (by omega)
 have hBc : 0 < B * c := Nat.mul_pos hB hc
 have hpr := zQ h
 have hfb := zaJ h
 have hb := zed hAc hBc
 have e1 : A * c * 2 ^ (bl (B * c) + 64) = A * 2 ^ (bl (B * c) + 64) * c := Nat.mul_right_comm _ _ _
 have e2 : A * c * 2 ^ (bl (B * c) + 64) / (B * c) = A * 2 ^ (bl (B * c) + 64) / B := by rw [e1, Nat.mul_div_mul_right _ _ hc]
 have e3 : A * c * 2 ^ (bl (B * c) + 64) % (B * c) = A * 2 ^ (bl (B * c) + 64) % B * c := by rw [e1, Nat.mul_mod_mul_right]
 rw [e2] at hb
 rw [← zee h s hA hB e (bl (B * c) + 64) (by omega)]
 unfold rq
 rw [e2, e3]
 have hd : decide (A * 2 ^ (bl (B * c) + 64) % B * c ≠ 0) = decide (A * 2 ^ (bl (B * c) + 64) % B ≠ 0) := by
  apply decide_eq_decide.2
  rw [Ne, Nat.mul_eq_zero]
  omega
 rw [hd]
theorem zgg {f m : Int} (h : isF f) (s : Bool) {A B : Nat} (hA : A ≠ 0) (hB : 0 < B) (e : Int) (j : Nat) : rq f m s (A * 2 ^ j) B e = rq f m s A B (e + j) := by
 have hAj : A * 2 ^ j ≠ 0 := Nat.mul_ne_zero hA (Nat.ne_of_gt (zh j))
 have hpr := zQ h
 have hfb := zaJ h
 have hb := zed hAj hB
 have e1 : A * 2 ^ j * 2 ^ (bl B + 64) = A * 2 ^ (bl B + 64 + j) := by rw [Nat.mul_assoc, ← Nat.pow_add, Nat.add_comm j]
 rw [e1] at hb
 rw [← zee h s hA hB (e + j) (bl B + 64 + j) (by omega)]
 have e2 : e + (j : Int) - ((bl B + 64 + j : Nat) : Int) - 1 = e - ((bl B + 64 : Nat) : Int) - 1 := by omega
 rw [e2]
 unfold rq
 rw [e1]
theorem zmN {f m : Int} (s : Bool) {A : Nat} (hA : A ≠ 0) (e : Int) (N : Nat) : zu f m s (stk (A * 2 ^ N / 1) (decide (A * 2 ^ N % 1 ≠ 0))) (e - N - 1) = zu f m s A e := by
 have e2 : stk (A * 2 ^ N / 1) (decide (A * 2 ^ N % 1 ≠ 0)) = A * 2 ^ (N + 1) := by
  have e3 : bN (decide (A * 2 ^ N % 1 ≠ 0)) = 0 := by rw [zez, decide_eq_false_iff_not]; simp [Nat.mod_one]
  unfold stk
  rw [e3, Nat.div_one, Nat.pow_succ, Nat.add_zero, ← Nat.mul_assoc A, Nat.mul_comm 2]
 rw [e2, ziE f m s hA]
 congr 1
 omega
theorem zmy {f m : Int} (h : isF f) (s : Bool) {A : Nat} (hA : A ≠ 0) (e : Int) : rq f m s A 1 e = zu f m s A e := zmN s hA e (bl 1 + 64)
theorem zmv {f m : Int} (h : isF f) (s : Bool) {A B : Nat} (hB : 0 < B) {e : Int} {k : Nat} (hk : B * 2 ^ k ≤ A) (he : wd f ≤ e + k) : rq f m s A B e = ((zcW f m s : Int), 20) := by
 have hA : A ≠ 0 := fun c => by have := Nat.mul_pos hB (zh k); omega
 have hQ : 2 ^ (k + (bl B + 64)) ≤ A * 2 ^ (bl B + 64) / B := by
  rw [Nat.le_div_iff_mul_le hB, Nat.pow_add, Nat.mul_right_comm, Nat.mul_comm (2 ^ k)]
  exact Nat.mul_le_mul_right _ hk
 have hQ0 : A * 2 ^ (bl B + 64) / B ≠ 0 := Nat.ne_of_gt (Nat.lt_of_lt_of_le (zh _) hQ)
 have hbl := zar hQ
 have h2 := zaZ (v := 1) (by omega) (k + (bl B + 64))
 rw [Nat.one_mul, show bl 1 = 1 by decide] at h2
 have hst := zeA hQ0 (decide (A * 2 ^ (bl B + 64) % B ≠ 0))
 unfold rq
 refine zms h (fun c => ?_) ?_
 ·rw [c, za0] at hst; omega
 ·omega
theorem zmx {f m : Int} (h : isF f) (s : Bool) {A B : Nat} (hA : A ≠ 0) (hB : 0 < B) {e : Int} {k : Nat} (hk : A * 2 ^ k < B) (he : e - k < lo f) :
  rq f m s A B e = zu f m s 1 (lo f - 2) := by
 have hQ : A * 2 ^ (bl B + 64) / B < 2 ^ (bl B + 64 - k) := by
  have hkB : k < bl B := by
   have h1 := zZ B
   have h2 : 1 * 2 ^ k ≤ A * 2 ^ k := Nat.mul_le_mul_right _ (by omega)
   exact (Nat.pow_lt_pow_iff_right (by omega)).1 (show 2 ^ k < 2 ^ bl B by omega)
  rw [Nat.div_lt_iff_lt_mul hB]
  have e1 : A * 2 ^ (bl B + 64) = 2 ^ (bl B + 64 - k) * (A * 2 ^ k) := by
   rw [Nat.mul_left_comm, ← Nat.pow_add, show bl B + 64 - k + k = bl B + 64 by omega]
  rw [e1]
  exact Nat.mul_lt_mul_of_pos_left hk (zh _)
 have hb := zed hA hB
 have hQ0 : A * 2 ^ (bl B + 64) / B ≠ 0 := fun c => by rw [c, za0] at hb; omega
 have h2 := zI hQ
 have hst := zeA hQ0 (decide (A * 2 ^ (bl B + 64) % B ≠ 0))
 have hs0 : stk (A * 2 ^ (bl B + 64) / B) (decide (A * 2 ^ (bl B + 64) % B ≠ 0)) ≠ 0 := fun c => by rw [c, za0] at hst; omega
 unfold rq
 rw [ziD h hs0 (by omega), ziD h (by omega) (by rw [show bl 1 = 1 by decide]; omega)]
theorem zlG {f m : Int} (h : isF f) (hm : isM m) {s s' : Bool} {l l' : List Int} {e e' : Int} (hd : My s l e) (hd' : My s' l' e') : Ev (fun k => zN.f k f m [(s, l, e), (s', l', e')]) ((pr f : Int), lo f, wd f, 0) := by
 unfold zN.f
 unfold isM at hm
 refine zl (zfI h) ?_; try dsimp only
 refine ze (by simp) (ze (by omega) (ze (by omega) ?_))
 have e1 : wrap64 (0 + 1) = 1 := by rw [zap (by omega) (by omega)]; rfl
 have e2 : wrap64 (1 + 1) = 2 := by rw [zap (by omega) (by omega)]; rfl
 have el : (([(s, l, e), (s', l', e')] : List (Bool × List Int × Int)).length : Int) = 2 := rfl
 have r0 : rdT [.b, .is .u32, .i .i64] [(s, l, e), (s', l', e')] 0 = (s, l, e) := rfl
 have r1 : rdT [.b, .is .u32, .i .i64] [(s, l, e), (s', l', e')] 1 = (s', l', e') := rfl
 refine zf ?_
 simp only [zN.l0, el, e1, r0]
 refine zd (by decide) (zd (by decide) (zd (by decide) ?_))
 refine zl (zct hd) ?_; try dsimp only
 refine ze (by simp) (zf ?_)
 simp only [zN.l0, el, e2, r1]
 refine zd (by decide) (zd (by decide) (zd (by decide) ?_))
 refine zl (zct hd') ?_; try dsimp only
 refine ze (by simp) (zf ?_)
 simp only [zN.l0]
 exact ze (by decide) (Ev.now _)
theorem zkT {n j : Nat} (h : bl n + j = 64) : zJ n = n * 2 ^ j ∧ za6 n = false := by
 unfold zJ za6
 have e1 : 64 - bl n = j := by omega
 have e2 : bl n - 64 = 0 := by omega
 rw [e1, e2, Nat.pow_zero, Nat.div_one, Nat.mod_one]
 exact ⟨rfl, rfl⟩
def qN (A B : Nat) : Nat := 65 + bl B - bl A
def qC (A B : Nat) : Nat := bl (A * 2 ^ qN A B / B) - 64
def qH (A B : Nat) : Nat := A * 2 ^ qN A B / B / 2 ^ qC A B
def qL (A B : Nat) : Bool := decide (A * 2 ^ qN A B / B % 2 ^ qC A B ≠ 0) || decide (A * 2 ^ qN A B % B ≠ 0)
theorem zf2 {A B : Nat} (hA : A ≠ 0) (hB : B ≠ 0) : 65 ≤ bl (A * 2 ^ qN A B / B) ∧ bl (A * 2 ^ qN A B / B) ≤ bl A + 66 ∧ bl (qH A B) = 64 := by
 have h1 : qN A B = 65 + bl B - bl A := rfl
 have h2 : qC A B = bl (A * 2 ^ qN A B / B) - 64 := rfl
 have := zh8 hA hB (qN A B) (by omega)
 have hp := zbu hA
 have hd : bl (qH A B) = bl (A * 2 ^ qN A B / B) - qC A B := zbG _ _
 refine ⟨by omega, by omega, by omega⟩
theorem zlg {x c n : Nat} (l : Bool) (hx : bl x ≤ 33000) (hc : c = bl x - 64) (h64 : 64 ≤ bl x) (hn : n ≤ 1000000) : Ev (fun k => zb6.f k false (D x) (0 - (n : Int)) l 64) ((mk ((x / 2 ^ c : Nat) : Int) (0 - (n : Int) + (c : Int))).1, (mk ((x / 2 ^ c : Nat) : Int) (0 - (n : Int) + (c : Int))).2.1, (mk ((x / 2 ^ c : Nat) : Int) (0 - (n : Int) + (c : Int))).2.2, (decide (x % 2 ^ c ≠ 0) || l), 0) := by
 have lx := zaT (x := x) (k := 2100) (by omega)
 have hl := zdt (zG x) (by omega)
 have hs2 := ze0 (zG x) (by omega) (-(c : Int))
 rw [V_D] at hl hs2
 rw [zgj (by omega) (by omega)] at hs2
 have hm := zdn false (zG (x / 2 ^ c)) (by
  have h1 := zbG x c
  have := zaT (x := x / 2 ^ c) (k := 2100) (by omega)
  omega) (0 - (n : Int) + (c : Int))
 rw [V_D, zdq (by omega) (by have := zbG x c; omega)] at hm
 rw [show sv false (x / 2 ^ c) = ((x / 2 ^ c : Nat) : Int) from rfl] at hm
 have w4 : mx 0 (wrap64 (((bl x : Nat) : Int) - 64)) = (c : Int) := by
  rw [zeX, zdH (by omega) (by omega) (by omega) (by omega)]; omega
 have w5 : wrap64 (-(c : Int)) = -(c : Int) := zfb (by omega) (by omega)
 have w6 : wrap64 (0 - (n : Int) + (c : Int)) = 0 - (n : Int) + (c : Int) := zbX (by omega) (by omega) (by omega) (by omega)
 unfold zb6.f
 refine Ev.bind (hl) ?_; try dsimp only
 rw [w4, w5, w6]
 clear w4 w5 w6
 refine Ev.bind (hs2) ?_; try dsimp only
 refine Ev.bind (hm) ?_; try dsimp only
 refine ze (by unfold ok3; simp) ?_
 by_cases c1 : x % 2 ^ c ≠ 0
 ·refine zd (decide_eq_true c1) (zg (Ev.now _) ?_)
  rw [decide_eq_true c1, Bool.true_or]; rfl
 ·refine ze (by simpa using c1) (zg (Ev.now _) ?_)
  rw [decide_eq_false c1, Bool.false_or]; rfl
theorem znr {n x y : Nat} (hn : n = 65 + x - y) (h1 : x ≤ 1000000) (h2 : y ≤ 1000000) : mx 0 (wrap64 (wrap64 (wrap64 (64 + 1) + (x : Int)) - (y : Int))) = (n : Int) := by
 have e : wrap64 (wrap64 (wrap64 (64 + 1) + (x : Int)) - (y : Int)) = 65 + (x : Int) - (y : Int) := by unfold wrap64; omega
 rw [zeX, e]
 clear e
 omega
theorem zns {n : Nat} (h : n ≤ 1000000) : wrap64 (wrap64 (0 - 0) - (n : Int)) = 0 - (n : Int) := by unfold wrap64; omega
theorem zkC {la lb : List Int} (ha : Nm la) (hb : Nm lb) (ma : My false la 0) (mb : My false lb 0) (A0 : V la ≠ 0) (B0 : V lb ≠ 0) (l1 : bl (V la) ≤ 32000) (l2 : bl (V lb) ≤ 32000) :
  Ev (fun k => zbw.f k false la 0 false lb 0 64) ((mk (qH (V la) (V lb)) (0 - (qN (V la) (V lb) : Nat) + (qC (V la) (V lb) : Nat))).1, (mk (qH (V la) (V lb)) (0 - (qN (V la) (V lb) : Nat) + (qC (V la) (V lb) : Nat))).2.1, (mk (qH (V la) (V lb)) (0 - (qN (V la) (V lb) : Nat) + (qC (V la) (V lb) : Nat))).2.2, qL (V la) (V lb), 0) := by
 have lla := ma.len
 have llb := mb.len
 have ane : la ≠ [] := fun h => A0 (by rw [h]; rfl)
 have lne : lb ≠ [] := fun h => B0 (by rw [h]; rfl)
 have hN : qN (V la) (V lb) = 65 + bl (V lb) - bl (V la) := rfl
 have hC : qC (V la) (V lb) = bl (V la * 2 ^ qN (V la) (V lb) / V lb) - 64 := rfl
 have hH : qH (V la) (V lb) = V la * 2 ^ qN (V la) (V lb) / V lb / 2 ^ qC (V la) (V lb) := rfl
 have hL : qL (V la) (V lb) = (decide (V la * 2 ^ qN (V la) (V lb) / V lb % 2 ^ qC (V la) (V lb) ≠ 0) || decide (V la * 2 ^ qN (V la) (V lb) % V lb ≠ 0)) := rfl
 obtain ⟨b1, b2, b3⟩ := zf2 A0 B0
 have hs := ze0 ha lla (qN (V la) (V lb) : Nat)
 rw [zgk (by omega)] at hs
 have hup := zfu (V la) (qN (V la) (V lb))
 have hll := zaT (x := V la * 2 ^ qN (V la) (V lb)) (k := 2100) (by omega)
 have hq := zlr (zG (V la * 2 ^ qN (V la) (V lb))) hb (by omega) llb
 rw [V_D] at hq
 unfold zf3 at hq
 rw [if_neg B0] at hq
 have hn6 : qN (V la) (V lb) ≤ 1000000 := by omega
 have w2 : wrap64 (131072 - ((bl (V la) : Nat) : Int)) = 131072 - ((bl (V la) : Nat) : Int) := zdH (by omega) (by omega) (by omega) (by omega)
 have w3 := zns hn6
 have w1 := znr hN (Nat.le_trans l2 (by decide)) (Nat.le_trans l1 (by decide))
 unfold zbw.f
 refine Ev.bind (zhn ma mb) ?_; try dsimp only
 refine ze (by simp) ?_
 rw [show decide ((64 : Int) < 1) = false from rfl]
 refine zf ?_
 simp only [zbw.j0]
 refine ze (by simp) ?_
 have ask : zdT.f 64 = some 0 := rfl
 refine zl (ask) ?_; try dsimp only
 refine ze (by simp) (ze (fun h => lne (zbR.1 h)) (ze (fun h => ane (zbR.1 h)) ?_))
 refine Ev.bind (zdt hb llb) ?_; try dsimp only
 refine Ev.bind (zdt ha lla) ?_; try dsimp only
 refine Ev.bind (zdt ha lla) ?_; try dsimp only
 rw [w1, w2, w3]
 clear w1 w2 w3
 refine ze (by omega) ?_
 refine Ev.bind (hs) ?_; try dsimp only
 refine Ev.bind (hq) ?_; try dsimp only
 rw [hL, hH]
 generalize qN (V la) (V lb) = n at *
 generalize qC (V la) (V lb) = c at *
 have hdz : decide (((D (V la * 2 ^ n % V lb)).length : Int) > 0) = decide (V la * 2 ^ n % V lb ≠ 0) := by
  generalize V la * 2 ^ n % V lb = y
  exact decide_eq_decide.2 (by
   constructor
   ·intro h h2; rw [h2, zC] at h; simp at h
   ·intro h
    have : (D y) ≠ [] := fun h2 => h (by rw [← V_D y, h2]; rfl)
    exact zfL this)
 rw [hdz]
 clear hdz
 have hlen := zar (Nat.div_le_self (V la * 2 ^ n) (V lb))
 generalize V la * 2 ^ n % V lb = y at *
 generalize V la * 2 ^ n / V lb = x at *
 have hmd := zlg (x := x) (c := c) (n := n) (decide (y ≠ 0)) (by omega) hC (by omega) (by omega)
 refine Ev.bind (hmd) ?_; try dsimp only
 exact Ev.now _
theorem zk9 (x y : Nat) : (decide (x ≠ 0) || decide (y ≠ 0)) = decide (2 * x + bN (decide (y ≠ 0)) ≠ 0) := by
 by_cases c1 : x = 0
 ·subst c1
  by_cases c2 : y = 0
  ·subst c2; rfl
  ·have e : decide (y ≠ 0) = true := decide_eq_true c2
   rw [e]; rfl
 ·have e : decide (x ≠ 0) = true := decide_eq_true c1
  rw [e, Bool.true_or]
  exact (decide_eq_true (by omega)).symm
theorem zl0 {f m : Int} (h : isF f) (s : Bool) {A B : Nat} (hA : A ≠ 0) (hB : B ≠ 0) (e : Int) :
  zu f m s (stk (qH A B) (qL A B)) (e - (qN A B : Nat) + (qC A B : Nat) - 1) = rq f m s A B e := by
 have hpr := zQ h
 have hfb := zaJ h
 obtain ⟨b1, b2, b3⟩ := zf2 hA hB
 have hn := zee (m := m) h s hA (Nat.pos_of_ne_zero hB) e (qN A B) (by omega)
 rw [← hn]
 have hH : qH A B = A * 2 ^ qN A B / B / 2 ^ qC A B := rfl
 have hL : qL A B = (decide (A * 2 ^ qN A B / B % 2 ^ qC A B ≠ 0) || decide (A * 2 ^ qN A B % B ≠ 0)) := rfl
 rw [hL]
 rw [hH] at b3 ⊢
 generalize qN A B = n at *
 generalize qC A B = c at *
 generalize A * 2 ^ n % B = y at *
 generalize A * 2 ^ n / B = x at *
 have hr := Nat.mod_lt x (zh c)
 have hx := Nat.div_add_mod x (2 ^ c)
 have hb := zdN (decide (y ≠ 0))
 have hs : stk x (decide (y ≠ 0)) = x / 2 ^ c * 2 ^ (c + 1) + (2 * (x % 2 ^ c) + bN (decide (y ≠ 0))) := by
  unfold stk
  conv => lhs; rw [← hx]
  rw [Nat.pow_succ, Nat.mul_comm (2 ^ c), ← Nat.mul_assoc]; omega
 rw [hs, ziC h s (by omega) (by rw [Nat.pow_succ]; omega)]
 have hd := zk9 (x % 2 ^ c) y
 rw [hd]
 congr 1
 omega
theorem zjL {f m : Int} (h : isF f) (s : Bool) {H : Nat} (hH : bl H = 64) (T : Int) (b : Bool) : zcb f m s T (UP m s H T b) (XP H T b) = zu f m s (stk H b) (T - 65) := by
 have hpr := zQ h
 have hfb := zaJ h
 have h0 : H ≠ 0 := fun c => by rw [c, za0] at hH; omega
 have hb := zeA h0 b
 rw [← ze6]
 have hT : T - 65 + (bl (stk H b) : Nat) = T := by omega
 rw [hT]
 refine zge fun E hE => ?_
 unfold UP XP R exR stk
 have e1 : (T - 65 - E).toNat = 0 := by omega
 have e2 : (E - (T - 65)).toNat = (E - T + 64).toNat + 1 := by omega
 rw [e1, e2, Nat.pow_zero, Nat.mul_one]
 exact ⟨rfl, rfl⟩
theorem zjC {f m : Int} (h : isF f) (hm : isM m) {sa sb : Bool} {la lb : List Int} {ea eb : Int} (ha : My sa la ea) (hb : My sb lb eb) (A0 : V la ≠ 0) (B0 : V lb ≠ 0) (l1 : bl (V la) ≤ 32000) (l2 : bl (V lb) ≤ 32000) :
    Ev (fun k => zbp.f k f m sa la ea sb lb eb) ((rq f m (decide (¬ sa = sb)) (V la) (V lb) (ea - eb)).1, (rq f m (decide (¬ sa = sb)) (V la) (V lb) (ea - eb)).2, 0) := by
  have ma : My false la 0 := ⟨⟨ha.dy.nm, fun h => ⟨rfl, rfl⟩, ha.dy.odd⟩, ha.len, by omega, by omega⟩
  have mb : My false lb 0 := ⟨⟨hb.dy.nm, fun h => ⟨rfl, rfl⟩, hb.dy.odd⟩, hb.len, by omega, by omega⟩
  have h1 := ha.lo
  have h2 := ha.hi
  have h3 := hb.lo
  have h4 := hb.hi
  have hq := zkC ha.dy.nm hb.dy.nm ma mb A0 B0 l1 l2
  have hr := zl0 (m := m) h (decide (¬ sa = sb)) A0 B0 (ea - eb)
  obtain ⟨b1, b2, b3⟩ := zf2 A0 B0
  have hN : qN (V la) (V lb) = 65 + bl (V lb) - bl (V la) := rfl
  have hC : qC (V la) (V lb) = bl (V la * 2 ^ qN (V la) (V lb) / V lb) - 64 := rfl
  rw [← hr]
  clear hr
  generalize qN (V la) (V lb) = n at *
  generalize qC (V la) (V lb) = c at *
  generalize qH (V la) (V lb) = H at *
  generalize qL (V la) (V lb) = L at *
  have H0 : (H : Int) ≠ 0 := fun h => by have : H = 0 := by omega
                                         rw [this, za0] at b3; omega
  obtain ⟨j, j1, j2, j3, j4⟩ := zb8 H0 (0 - (n : Int) + (c : Int))
  rw [Int.natAbs_natCast] at j1
  have hj : bl (V (mk (H : Int) (0 - (n : Int) + (c : Int))).2.1) + j = 64 := by
    have := zaZ j4 j
    rw [← j1] at this; omega
  have hd := zbY (H : Int) (0 - (n : Int) + (c : Int))
  generalize (mk (H : Int) (0 - (n : Int) + (c : Int))) = g at *
  obtain ⟨g1, g2, g3⟩ := g
  dsimp only at *
  have hl := hd.nm.len
  have hlb := zaT (x := V g2) (k := 2) (by omega)
  have hmy : My g1 g2 g3 := ⟨hd, by omega, by omega, by omega⟩
  have hp := zh1 hmy j4
  obtain ⟨k1, k2⟩ := zkT hj
  rw [k1, k2, ← j1] at hp
  have hT : ∀ b, zcb f m (decide (¬ sa = sb)) (g3 + (bl (V g2) : Nat) + (ea - eb)) (UP m (decide (¬ sa = sb)) H (g3 + (bl (V g2) : Nat) + (ea - eb)) b) (XP H (g3 + (bl (V g2) : Nat) + (ea - eb)) b) = zu f m (decide (¬ sa = sb)) (stk H b) (ea - eb - (n : Int) + (c : Int) - 1) := by
    intro b
    rw [zjL h _ b3]
    congr 1
    omega
  have HH : 2 ^ 63 ≤ H ∧ H < 2 ^ 64 := by
    have hne : H ≠ 0 := fun h => H0 (by omega)
    have u1 := zcO hne
    have u2 := zZ H
    rw [b3] at u1 u2
    exact ⟨u1, u2⟩
  have w1 : wrap64 (ea - eb) = ea - eb := zdH (by omega) (by omega) (by omega) (by omega)
  have w2 : wrap64 (g3 + ((bl (V g2) : Nat) : Int) + (ea - eb)) = g3 + ((bl (V g2) : Nat) : Int) + (ea - eb) := zbX (by omega) (by omega) (by omega) (by omega)
  have hw := fun b => zh3 h hm (decide (¬ sa = sb)) HH (T := g3 + (bl (V g2) : Nat) + (ea - eb)) b (by omega) (by omega)
  have last : ∀ b : Bool, Ev (fun k => zbp.j1 k f m sa la ea sb lb eb (pr f : Int) (lo f) (wd f) (decide (¬ sa = sb)) (H : Int) (g3 + ((bl (V g2) : Nat) : Int)) b) ((zu f m (decide (¬ sa = sb)) (stk H b) (ea - eb - (n : Int) + (c : Int) - 1)).1, (zu f m (decide (¬ sa = sb)) (stk H b) (ea - eb - (n : Int) + (c : Int) - 1)).2, 0) := by
    intro b
    refine zf ?_
    simp only [zbp.j1, w1, w2]
    refine Ev.bind (hw b) ?_
    rw [hT b]
    exact Ev.now _
  clear w1 w2
  unfold zbp.f
  refine Ev.bind (zlG h hm ha hb) ?_; try dsimp only
  refine ze (by simp) ?_
  refine Ev.bind (zfF hb) ?_; try dsimp only
  refine ze (by rw [zdy B0]; split <;> omega) ?_
  refine Ev.bind (zfF ha) ?_; try dsimp only
  refine ze (by rw [zdy A0]; split <;> omega) ?_
  refine Ev.bind (hq) ?_; try dsimp only
  refine Ev.bind (hp) ?_; try dsimp only
  refine ze (by simp) ?_
  exact last L
theorem zkB {sa sb : Bool} {la lb : List Int} {ea eb : Int} (ha : My sa la ea) (hb : My sb lb eb) (hl : bl (V la) + bl (V lb) ≤ 131000) (h1 : -16000000 ≤ ea + eb) (h2 : ea + eb ≤ 16000000) : Ev (fun k => zcT.f k sa la ea sb lb eb) (ok3 (mk (sv sa (V la) * sv sb (V lb)) (ea + eb))) := by
 have a1 := ha.lo
 have a2 := ha.hi
 have b1 := hb.lo
 have b2 := hb.hi
 have hbl := zft (V la) (V lb)
 have hlen := zaT (x := V la * V lb) (k := 4096) (by omega)
 have e : wrap64 (ea + eb) = ea + eb := zbX (by omega) (by omega) (by omega) (by omega)
 have m1 := zlp ha.dy.nm hb.dy.nm ha.len hb.len
 rw [zdO (by omega)] at m1
 have k1 := zdn (sa != sb) (zG (V la * V lb)) (by omega) (ea + eb)
 rw [V_D, zdq (by omega) (by omega), ← zgn] at k1
 have hne : (decide (¬ sa = sb)) = (sa != sb) := by cases sa <;> cases sb <;> rfl
 unfold zcT.f
 refine Ev.bind (zhn ha hb) ?_; try dsimp only
 refine ze (by simp) ?_
 refine Ev.bind (m1) ?_; try dsimp only
 refine ze (by simp) ?_
 rw [e, hne]
 clear e
 refine Ev.bind (k1) ?_; try dsimp only
 exact Ev.now _
theorem zd4 {z e : Int} (hb : bl z.natAbs ≤ 131072) (h1 : -16777216 ≤ e) (h2 : e + (bl z.natAbs : Nat) ≤ 16777216) : My (mk z e).1 (mk z e).2.1 (mk z e).2.2 := by
 have a1 := zd2 z e
 have a2 := zcu z e
 have e1 : (mk z e).2.2 = me z e := rfl
 exact ⟨zbY z e, by omega, by omega, by omega⟩
theorem zlk (za ea zb eb : Int) : mk (mz za ea * mz zb eb) (me za ea + me zb eb) = mk (za * zb) (ea + eb) := by
 by_cases c : za = 0
 ·subst c; rw [zd5, Int.zero_mul, Int.zero_mul]; rfl
 by_cases c2 : zb = 0
 ·subst c2; rw [zd5, Int.mul_zero, Int.mul_zero]; rfl
 obtain ⟨j, p1, p2, _, _⟩ := zcv c ea
 obtain ⟨i, q1, q2, _, _⟩ := zcv c2 eb
 have e3 : za * zb = mz za ea * mz zb eb * 2 ^ (j + i) := by
  conv => lhs; rw [p1, q1]
  rw [Int.pow_add, Int.mul_assoc, Int.mul_assoc]
  congr 1
  rw [Int.mul_left_comm]
 rw [e3, zdr, p2, q2]
 congr 1
 omega
theorem zew (z e : Int) : bl (V (mk z e).2.1) ≤ bl z.natAbs := by
 by_cases c : z = 0
 ·subst c; exact Nat.zero_le _
 ·obtain ⟨j, j1, _⟩ := zb8 c e
  rw [j1]
  have h := zfu (V (mk z e).2.1) j
  have hp : V (mk z e).2.1 ≤ V (mk z e).2.1 * 2 ^ j := Nat.le_mul_of_pos_right _ (zh j)
  exact zar hp
theorem zlN {za ea zb eb : Int} (hb : bl za.natAbs + bl zb.natAbs ≤ 131000) (h1 : -8000000 ≤ ea) (h2 : ea ≤ 7000000) (h3 : -8000000 ≤ eb) (h4 : eb ≤ 7000000) : Ev (fun k => zcT.f k (mk za ea).1 (mk za ea).2.1 (mk za ea).2.2 (mk zb eb).1 (mk zb eb).2.1 (mk zb eb).2.2) (ok3 (mk (za * zb) (ea + eb))) := by
 have a2 := zcu za ea
 have b2 := zcu zb eb
 have a3 := zew za ea
 have b3 := zew zb eb
 have e1 : (mk za ea).2.2 = me za ea := rfl
 have e2 : (mk zb eb).2.2 = me zb eb := rfl
 refine zg (zkB (zd4 (z := za) (e := ea) (by omega) (by omega) (by omega)) (zd4 (z := zb) (e := eb) (by omega) (by omega) (by omega)) (by omega) (by omega) (by omega)) ?_
 show ok3 (mk (mz za ea * mz zb eb) (me za ea + me zb eb)) = _
 rw [zlk]
theorem ziH {f m : Int} (h : isF f) (s : Bool) {A B : Nat} (hA : A ≠ 0) (hB : 0 < B) (e : Int) (j : Nat) : rq f m s A (B * 2 ^ j) e = rq f m s A B (e - j) := by
 have h1 := zgg (m := m) h s hA (Nat.mul_pos hB (zh j)) (e - j) j
 rw [show e - (j : Int) + j = e by omega] at h1
 rw [← h1, zmw h s hA hB (zh j)]
def zau (f m : Int) (s : Bool) (n : Nat) (x : Int) : Int × Int := rq f m s (n * 10 ^ x.toNat) (10 ^ (-x).toNat) 0
theorem zbD (n : Nat) : 0 < 10 ^ n := Nat.pow_pos (by omega)
theorem zhf {f m : Int} (h : isF f) (s : Bool) {n : Nat} (hn : n ≠ 0) {x : Int} (hx : 400 ≤ x) : zau f m s n x = ((zcW f m s : Int), 20) := by
 have hw := zdz h
 unfold zau
 obtain ⟨K, hK⟩ : ∃ K : Nat, K = 1024 := ⟨_, rfl⟩
 refine zmv h s (zbD _) (k := K) ?_ (by omega)
 have e1 : (-x).toNat = 0 := by omega
 rw [e1, Nat.pow_zero, Nat.one_mul]
 have h1 : 8 ^ x.toNat ≤ 10 ^ x.toNat := Nat.pow_le_pow_left (by omega) _
 have h2 : (2 : Nat) ^ K ≤ 2 ^ (3 * x.toNat) := Nat.pow_le_pow_right (by omega) (by omega)
 rw [Nat.pow_mul, show (2 : Nat) ^ 3 = 8 from rfl] at h2
 have h3 : 1 * 10 ^ x.toNat ≤ n * 10 ^ x.toNat := Nat.mul_le_mul_right _ (by omega)
 generalize (2 : Nat) ^ K = a at *
 generalize 8 ^ x.toNat = b at *
 omega
theorem zhg {f m : Int} (h : isF f) (s : Bool) {n p : Nat} (hn : n ≠ 0) (hb : n < 10 ^ p) {x : Int} (hx : x + p ≤ -500) : zau f m s n x = zu f m s 1 (lo f - 2) := by
 have hw := zby h
 have e1 : x.toNat = 0 := by omega
 unfold zau
 rw [e1, Nat.pow_zero, Nat.mul_one]
 obtain ⟨K, hK⟩ : ∃ K : Nat, K = 1080 := ⟨_, rfl⟩
 refine zmx h s hn (zbD _) (k := K) ?_ (by omega)
 obtain ⟨c, hc⟩ : ∃ c : Nat, (-x).toNat = p + c ∧ 500 ≤ c := ⟨(-x).toNat - p, by omega, by omega⟩
 rw [hc.1, Nat.pow_add]
 have h2 : (2 : Nat) ^ K ≤ 10 ^ c := by
  have h3 : (2 : Nat) ^ K ≤ 2 ^ (3 * c) := Nat.pow_le_pow_right (by omega) (by omega)
  rw [Nat.pow_mul] at h3
  exact Nat.le_trans h3 (Nat.pow_le_pow_left (by omega) _)
 exact Nat.mul_lt_mul_of_lt_of_le hb h2 (zbD c)
theorem zkm {f m : Int} (h : isF f) (s : Bool) {n p : Nat} (hn : n ≠ 0) (hb : n < 10 ^ p) {a b : Int} (ha : 400 ≤ a) (hB : b + p ≤ -500) (x : Int) : zau f m s n (if x > a then a else if x < b then b else x) = zau f m s n x := by
 by_cases c1 : x > a
 ·rw [if_pos c1, zhf h s hn ha, zhf h s hn (by omega)]
 ·rw [if_neg c1]
  by_cases c2 : x < b
  ·rw [if_pos c2, zhg h s hn hb hB, zhg h s hn hb (by omega)]
  ·rw [if_neg c2]
theorem zkn {f m : Int} (h : isF f) (s : Bool) {n : Nat} (hn : n ≠ 0) (X : Nat) : zu f m s (n * 5 ^ X) X = zau f m s n X := by
 have h5 : n * 5 ^ X ≠ 0 := Nat.mul_ne_zero hn (Nat.ne_of_gt (Nat.pow_pos (by omega)))
 have h1 := zgg (m := m) h s h5 (B := 1) (by omega) 0 X
 rw [Int.zero_add] at h1
 unfold zau
 rw [← zmy h s h5, ← h1, Nat.mul_assoc, ← Nat.mul_pow]
 have e1 : (X : Int).toNat = X := Int.toNat_natCast X
 have e2 : (-(X : Int)).toNat = 0 := by omega
 rw [e1, e2]
theorem zkl {f m : Int} (h : isF f) (s : Bool) {n : Nat} (hn : n ≠ 0) (Y : Nat) : rq f m s n (5 ^ Y) (-(Y : Int)) = zau f m s n (-(Y : Int)) := by
 have h1 := ziH (m := m) h s hn (B := 5 ^ Y) (Nat.pow_pos (by omega)) 0 Y
 rw [← Nat.mul_pow, Int.zero_sub] at h1
 unfold zau
 rw [← h1]
 have e1 : (-(Y : Int)).toNat = 0 := by omega
 have e2 : (-(-(Y : Int))).toNat = Y := by omega
 rw [e1, e2, Nat.pow_zero, Nat.mul_one]
theorem zjH {f m : Int} (h : isF f) (hm : isM m) (s : Bool) {n : Nat} (hn : n ≠ 0) {e : Int} (hb : bl n ≤ 100000) (h1 : -1000000 ≤ e) (h2 : e ≤ 1000000) : Ev (fun k => zc1.f k f m (mk (sv s n) e).1 (mk (sv s n) e).2.1 (mk (sv s n) e).2.2) ((zu f m s n e).1, (zu f m s n e).2, 0) := by
 have z0 : sv s n ≠ 0 := fun h => hn (zce.1 h)
 obtain ⟨j, j1, j2, j3, j4⟩ := zb8 z0 e
 have hm1 := zd4 (z := sv s n) (e := e) (by rw [zah]; omega) (by omega) (by rw [zah]; omega)
 have hr := zjG h hm hm1 j4
 rw [zdx hn] at j3
 rw [zah] at j1
 have e1 := ziE f m s j4 e j
 rw [← j1, ← j2] at e1
 have e2 : zu f m (mk (sv s n) e).1 (V (mk (sv s n) e).2.1) (mk (sv s n) e).2.2 = zu f m s n e := by rw [j3, ← e1]
 rwa [e2] at hr
theorem zh4 (n : Nat) : bl (5 ^ n) ≤ 3 * n + 1 := by
 refine zI ?_
 have h1 : 5 ^ n ≤ 8 ^ n := Nat.pow_le_pow_left (by omega) n
 rw [Nat.pow_succ, Nat.pow_mul]
 have : (2 : Nat) ^ 3 = 8 := rfl
 rw [this]
 have := Nat.pow_pos (n := n) (show 0 < 8 by omega)
 omega
theorem zcX (n : Nat) : bl (10 ^ n) ≤ 4 * n + 1 := by
 refine zI ?_
 have h1 : 10 ^ n ≤ 16 ^ n := Nat.pow_le_pow_left (by omega) n
 rw [Nat.pow_succ, Nat.pow_mul]
 have : (2 : Nat) ^ 4 = 16 := rfl
 rw [this]
 have := Nat.pow_pos (n := n) (show 0 < 16 by omega)
 omega
theorem zlz (s : Bool) : decide (¬ s = false) = s := by cases s <;> rfl
theorem zl1 {f m : Int} (h : isF f) (s : Bool) {n N : Nat} {e e' : Int} (hn : n ≠ 0) (hN : N ≠ 0) : rq f m s (V (mk (sv s n) e).2.1) (V (mk (N : Int) e').2.1) ((mk (sv s n) e).2.2 - (mk (N : Int) e').2.2) = rq f m s n N (e - e') := by
 have z0 : sv s n ≠ 0 := fun h => hn (zce.1 h)
 have z1 : (N : Int) ≠ 0 := by omega
 obtain ⟨j, j1, j2, j3, j4⟩ := zb8 z0 e
 obtain ⟨i, i1, i2, i3, i4⟩ := zb8 z1 e'
 rw [zah] at j1
 rw [Int.natAbs_natCast] at i1
 rw [i2, j2]
 have h1 := zgg (m := m) h s j4 (Nat.pos_of_ne_zero i4) (e - (e' + (i : Int))) j
 have h2 := ziH (m := m) h s hn (Nat.pos_of_ne_zero i4) (e - e') i
 rw [← j1] at h1
 rw [← i1] at h2
 rw [h2, show e - e' - (i : Int) = e - (e' + (i : Int)) by omega, h1]
 congr 1
 omega
theorem zko {f m : Int} (h : isF f) (hm : isM m) (s : Bool) {n : Nat} (hn : n ≠ 0) {p : Nat} (hp : p ≤ 1200) (hb : n < 10 ^ p) (x : Int) : Ev (fun k => zcs.f k f m s (D n) x) ((zau f m s n x).1, (zau f m s n x).2, 0) := by
 have hx := zkm (m := m) h s hn hb (a := 3000) (b := -3000) (by omega) (by omega) x
 have ex : mn 3000 (mx (-3000) x) = (if x > 3000 then 3000 else if x < -3000 then -3000 else x) := by unfold mn mx; split <;> split <;> split <;> (try split) <;> omega
 rw [← hx]
 unfold zcs.f
 rw [ex]
 have hr : -3000 ≤ (if x > 3000 then 3000 else if x < -3000 then -3000 else x) ∧ (if x > 3000 then 3000 else if x < -3000 then -3000 else x) ≤ 3000 := by split <;> (try split) <;> omega
 clear ex hx
 generalize (if x > 3000 then 3000 else if x < -3000 then -3000 else x) = y at *
 have hbn : bl n ≤ 4801 := by
  have h1 := zar (Nat.le_of_lt hb)
  have h2 := zcX p
  omega
 have lenn := zaT (x := n) (k := 200) (by omega)
 have hmk := zdn s (zG n) (by omega) y
 rw [V_D, zdq (by omega) (by omega)] at hmk
 refine Ev.bind (hmk) ?_; try dsimp only
 by_cases c : y ≥ 0
 ·refine zd c ?_
  obtain ⟨Y, rfl⟩ := Int.eq_ofNat_of_zero_le c
  have b5 := zh4 Y
  have l5 := zaT (x := 5 ^ Y) (k := 400) (by omega)
  have hpw := zhP (b := 5) (n := Y) (by omega) (by omega)
  rw [zdO (by omega)] at hpw
  have hm5 := zdn false (zG (5 ^ Y)) (by omega) 0
  rw [V_D, zdq (by omega) (by omega)] at hm5
  refine Ev.bind (hpw) ?_; try dsimp only
  refine Ev.bind (hm5) ?_; try dsimp only
  have hmul := zlN (za := sv s n) (ea := (Y : Int)) (zb := sv false (5 ^ Y)) (eb := 0) (by rw [zah, zah]; omega) (by omega) (by omega) (by omega) (by omega)
  rw [zgn, Bool.bne_false, Int.add_zero] at hmul
  have h50 : n * 5 ^ Y ≠ 0 := Nat.mul_ne_zero hn (Nat.ne_of_gt (Nat.pow_pos (by omega)))
  have hro := zjH h hm s h50 (e := (Y : Int)) (by have := zft n (5 ^ Y); omega) (by omega) (by omega)
  rw [zkn h s hn Y] at hro
  refine Ev.bind (hmul) ?_; try dsimp only
  refine Ev.bind (hro) ?_; try dsimp only
  exact Ev.now _
 ·refine ze c ?_
  obtain ⟨Y, hY⟩ : ∃ Y : Nat, y = -(Y : Int) := ⟨(-y).toNat, by omega⟩
  subst hY
  have b5 := zh4 Y
  have l5 := zaT (x := 5 ^ Y) (k := 400) (by omega)
  have hpw := zhP (b := 5) (n := Y) (by omega) (by omega)
  rw [zdO (by omega)] at hpw
  have hm5 := zdn false (zG (5 ^ Y)) (by omega) 0
  rw [V_D, zdq (by omega) (by omega)] at hm5
  rw [show wrap64 (-(-(Y : Int))) = (Y : Int) by rw [zfb (by omega) (by omega)]; omega]
  refine Ev.bind (hpw) ?_; try dsimp only
  refine Ev.bind (hm5) ?_; try dsimp only
  have z0 : sv s n ≠ 0 := fun h => hn (zce.1 h)
  have h50 : 5 ^ Y ≠ 0 := Nat.ne_of_gt (Nat.pow_pos (by omega))
  have z1 : sv false (5 ^ Y) ≠ 0 := fun h => h50 (zce.1 h)
  have m1 := zd4 (z := sv s n) (e := -(Y : Int)) (by rw [zah]; omega) (by omega) (by rw [zah]; omega)
  have m2 := zd4 (z := sv false (5 ^ Y)) (e := 0) (by rw [zah]; omega) (by omega) (by rw [zah]; omega)
  obtain ⟨j, j1, j2, j3, j4⟩ := zb8 z0 (-(Y : Int))
  obtain ⟨i, i1, i2, i3, i4⟩ := zb8 z1 0
  have v1 := zew (sv s n) (-(Y : Int))
  have v2 := zew (sv false (5 ^ Y)) 0
  rw [zah] at v1 v2
  have hq := zjC h hm m1 m2 j4 i4 (by omega) (by omega)
  have hsg : decide (¬ (mk (sv s n) (-(Y : Int))).1 = (mk (sv false (5 ^ Y)) 0).1) = s := by
   rw [j3, i3, zdx hn, zdx h50]; exact zlz s
  rw [hsg] at hq
  have hpt := zl1 (m := m) h s (e := -(Y : Int)) (e' := 0) hn h50
  rw [Int.sub_zero, zkl h s hn Y] at hpt
  rw [show sv false (5 ^ Y) = ((5 ^ Y : Nat) : Int) from rfl] at *
  rw [hpt] at hq
  refine Ev.bind (hq) ?_; try dsimp only
  exact Ev.now _
theorem zmi {Y : Nat} (hY : Y ≤ 1000000) : Ev (fun k => zdm.f k (Y : Int)) (mk ((10 ^ Y : Nat) : Int) 0) := by
 have b10 := zcX Y
 have l10 := zaT (x := 10 ^ Y) (k := 130000) (by omega)
 have hpw := zmg (b := 10) (n := Y) (by omega) (by omega) (K := Y + 1) (by omega) (by omega) (by
  rw [show max 1 10 = 10 from rfl]
  exact Nat.lt_of_lt_of_le (Nat.pow_lt_pow_right (by omega) (Nat.lt_succ_self Y)) (Nat.pow_le_pow_left (by omega) _))
 have hf := zcZ false (zG (10 ^ Y)) (by omega) (e := 0) (by omega) (by omega)
 rw [V_D] at hf
 unfold zdm.f
 refine Ev.bind (hpw) ?_; try dsimp only
 refine Ev.bind (hf) ?_; try dsimp only
 exact Ev.now _
def bx (l : List UInt8) : ByteArray := ⟨l.toArray⟩
theorem zaX (l : List UInt8) : tl (bx l) = l := rfl
theorem zak (l : List UInt8) : (bx l).size = l.length := by rw [zc5, zaX]
theorem zbh {l : List UInt8} : bx l = (⟨#[]⟩ : ByteArray) ↔ l = [] := by rw [← ze8, zaX]
theorem zdV {s : ByteArray} {A B C : List UInt8} (h : tl s = A ++ (B ++ C)) : s.extract A.length (A.length + B.length) = bx B := by
 apply zcG.1
 rw [zmW, zaX, h, ← List.append_assoc, List.take_append_of_le_length (by simp), List.take_of_length_le (by simp), List.drop_left]
theorem zdW {s : ByteArray} {A B : List UInt8} (h : tl s = A ++ B) : s.extract A.length s.size = bx B := by
 have hz := zV h
 have := zdV (s := s) (A := A) (B := B) (C := []) (by simpa using h)
 rw [hz]; exact this
def za9 (d : List UInt8) (x : Int) (l : List UInt8) : Option (List UInt8 × Int) :=
 if l = [] then some (d, x) else if l.head? = some 101 ∧ zaI l.tail = true then some (d, x + zdo l.tail) else none
def zbz (l : List UInt8) : Option (List UInt8 × Int) :=
 if l.takeWhile isD = [] then none
 else if (l.dropWhile isD).head? = some 46 then
  if (l.dropWhile isD).tail.takeWhile isD = [] then none
  else za9 (l.takeWhile isD ++ (l.dropWhile isD).tail.takeWhile isD) (-(((l.dropWhile isD).tail.takeWhile isD).length : Int)) ((l.dropWhile isD).tail.dropWhile isD)
 else za9 (l.takeWhile isD) 0 (l.dropWhile isD)
def zbc (f m : Int) (s : Bool) (n : Nat) (x : Int) : Int × Int × Int := if n = 0 then ((sgn f s : Int), 0, 0) else ((zau f m s n x).1, (zau f m s n x).2, 0)
def zkk (f m : Int) (s : Bool) : Option (List UInt8 × Int) → Int × Int × Int
 | some x => zbc f m s (zk x.1 0) x.2
 | none => (0, 0, 12)
def zfA (f m : Int) (s : Bool) (l : List UInt8) : Int × Int × Int :=
 if l = [105, 110, 102] then (((mo f * 2 ^ fb f + sgn f s : Nat) : Int), 0, 0) else zkk f m s (zbz l)
def zeG (f m : Int) (l : List UInt8) : Int × Int × Int :=
 if 1200 < l.length then (0, 0, 3) else if l = [110, 97, 110] then ((zeY f : Int), 0, 0) else zfA f m (zT l) (zaO l)
theorem zbL {b : UInt8} : isD b = true ↔ 48 ≤ (b.toNat : Int) ∧ (b.toNat : Int) ≤ 57 := by unfold isD; rw [decide_eq_true_iff]; omega
section
variable {s : ByteArray} (hs : s.size ≤ 1000000)
include hs
theorem ziN (A0 : List UInt8) : ∀ (B C : List UInt8), tl s = A0 ++ (C ++ B) →
  Ev (fun k => zaR.l0 k s ((A0.length + C.length : Nat) : Int) (A0.length : Int)) (bx (C ++ B.takeWhile isD), s, ((A0.length + (C ++ B.takeWhile isD).length : Nat) : Int))
 | [], C, he => by
  have hz := zV (A := A0 ++ C) (B := []) (by simpa using he)
  simp only [List.length_append, List.length_nil] at hz
  have hx := zdV (s := s) (A := A0) (B := C) (C := []) (by simpa using he)
  refine zf ?_; simp only [zaR.l0]
  refine ze (by omega) (zd (by omega) (zd (by omega) (zd (by omega) ?_)))
  rw [Int.toNat_natCast, Int.toNat_natCast, hx]
  exact zg (Ev.now _) (by simp)
 | b :: B, C, he => by
  have he2 : tl s = (A0 ++ C) ++ b :: B := by rw [he]; simp
  have hz := zV he2
  simp only [List.length_append, List.length_cons] at hz
  have hb := zaP he2
  rw [List.length_append] at hb
  have hx := zdV (s := s) (A := A0) (B := C) (C := b :: B) he
  have stop : Ev (fun k => (if 0 ≤ ((A0.length : Nat) : Int) then (if ((A0.length : Nat) : Int) ≤ ((A0.length + C.length : Nat) : Int) then (if ((A0.length + C.length : Nat) : Int) ≤ (s.size : Int) then (some (s.extract ((A0.length : Nat) : Int).toNat (((A0.length + C.length : Nat) : Int)).toNat, s, ((A0.length + C.length : Nat) : Int))) else (none)) else (none)) else (none))) (bx C, s, ((A0.length + C.length : Nat) : Int)) := by
   refine zd (by omega) (zd (by omega) (zd (by omega) ?_))
   rw [Int.toNat_natCast, Int.toNat_natCast, hx]
   exact Ev.now _
  refine zf ?_; simp only [zaR.l0]
  rw [hb]
  refine zd (by omega) (zd (by omega) (zd (by omega) ?_))
  by_cases c1 : 48 ≤ (b.toNat : Int)
  ·refine zd c1 (zd (by omega) (zd (by omega) ?_))
   by_cases c2 : (b.toNat : Int) ≤ 57
   ·refine zd c2 ?_
    have e1 : wrap64 (((A0.length + C.length : Nat) : Int) + 1) = ((A0.length + (C ++ [b]).length : Nat) : Int) := by
     rw [List.length_append, List.length_singleton, w64 (by omega) (by omega)]; omega
    rw [e1]
    clear e1
    have := ziN A0 B (C ++ [b]) (by rw [he]; simp)
    rw [List.append_assoc, List.singleton_append] at this
    rw [List.takeWhile_cons, zbL.2 ⟨c1, c2⟩]
    simpa using this
   ·refine ze c2 ?_
    have : isD b = false := by rw [Bool.eq_false_iff]; intro h; exact c2 (zbL.1 h).2
    rw [List.takeWhile_cons, this]
    simpa using stop
  ·refine ze c1 ?_
   have : isD b = false := by rw [Bool.eq_false_iff]; intro h; exact c1 (zbL.1 h).1
   rw [List.takeWhile_cons, this]
   simpa using stop
theorem zgh {A B : List UInt8} (he : tl s = A ++ B) : Ev (fun k => zaR.f k s (A.length : Int)) (bx (B.takeWhile isD), s, (((A ++ B.takeWhile isD).length : Nat) : Int)) := by
 unfold zaR.f
 have := ziN hs A B [] (by simpa using he)
 simpa using this
theorem zeh {A r : List UInt8} {x : UInt8} (he : tl s = A ++ x :: r) {c : ByteArray} (hc : x ∈ tl c) : Ev (fun k => zY.f k s (A.length : Int) c) ((x.toNat : Int), true, s, (((A ++ [x]).length : Nat) : Int)) := by
 have hz := zV he
 simp only [List.length_cons] at hz
 have hb := zaP he
 have hi : zcD.f c (x.toNat : Int) = some (Lib.indexByte (tl c) x) := by
  unfold zcD.f zbx.f
  have : ((x.toNat : Int)).toNat.toUInt8 = x := by rw [Int.toNat_natCast]; exact UInt8.ofNat_toNat
  rw [this]; rfl
 have h0 : decide (Lib.indexByte (tl c) x ≥ 0) = true := by
  rcases zht (tl c) x with ⟨_, h2⟩ | ⟨P, Q, _, _, h3⟩
  ·exact absurd hc h2
  ·rw [h3]; exact decide_eq_true (by omega)
 have e1 : wrap64 ((A.length : Int) + 1) = ((A.length + 1 : Nat) : Int) := by rw [w64 (by omega) (by omega)]; omega
 have e2 : wrap64 (((A.length + 1 : Nat) : Int) - 1) = (A.length : Int) := by clear e1; rw [w64 (by omega) (by omega)]; omega
 unfold zY.f
 rw [hb]
 refine zd (by omega) (zd (by omega) (zd (by omega) (zl hi ?_)))
 rw [h0]
 refine zf ?_; simp only [zY.j0]
 rw [e1, e2, hb]
 clear e1 e2
 refine zd trivial (zd (by omega) (zd (by omega) (zg (Ev.now _) ?_)))
 rw [List.length_append]; rfl
theorem zei {A B : List UInt8} (he : tl s = A ++ B) {c : ByteArray} (hc : ∀ x r, B = x :: r → x ∉ tl c) : Ev (fun k => zY.f k s (A.length : Int) c) (0, false, s, (A.length : Int)) := by
 have hs' := hs
 have hz := zV he
 have no : Ev (fun k => zY.j0 k s (A.length : Int) false) (0, false, s, (A.length : Int)) := by
  refine zf ?_; simp only [zY.j0]
  exact ze (by simp) (Ev.now _)
 unfold zY.f
 cases B with
 | nil =>
  simp only [List.length_nil] at hz
  exact ze (by omega) no
 | cons x r =>
  simp only [List.length_cons] at hz
  have hb := zaP he
  have hi : zcD.f c (x.toNat : Int) = some (Lib.indexByte (tl c) x) := by
   unfold zcD.f zbx.f
   have : ((x.toNat : Int)).toNat.toUInt8 = x := by rw [Int.toNat_natCast]; exact UInt8.ofNat_toNat
   rw [this]; rfl
  have h0 : decide (Lib.indexByte (tl c) x ≥ 0) = false := by
   rcases zht (tl c) x with ⟨h2, _⟩ | ⟨P, Q, h3, _, _⟩
   ·rw [h2]; rfl
   ·exact absurd (by rw [h3]; simp) (hc x r rfl)
  rw [hb]
  refine zd (by omega) (zd (by omega) (zd (by omega) (zl hi ?_)))
  rw [h0]
  exact no
end
theorem zhe : ∀ (l : List UInt8) (a : Nat), l.all isD = true → Lib.decFrom a l = some (zk l a)
 | [], a, _ => rfl
 | b :: l, a, h => by
  simp only [List.all_cons, Bool.and_eq_true] at h
  have hb := zbL.1 h.1
  unfold Lib.decFrom
  have hd : Lib.digitVal b = some (b.toNat - 48) := by unfold Lib.digitVal; rw [if_pos (by omega)]
  rw [hd]
  show Lib.decFrom (a * 10 + (b.toNat - 48)) l = _
  rw [zhe l _ h.2]
  show _ = some (zk l (10 * a + (b.toNat - 48)))
  rw [Nat.mul_comm]
theorem zj0 {l : List UInt8} (h : l.all isD = true) (h0 : l ≠ []) : Lib.atoi l = some ((zk l 0 : Nat) : Int) := by
 cases l with
 | nil => exact absurd rfl h0
 | cons b r =>
  have hb : isD b = true := by simp only [List.all_cons, Bool.and_eq_true] at h; exact h.1
  have hb := zbL.1 hb
  have n1 : (b == 45) = false := by rw [beq_eq_false_iff_ne]; intro h; rw [h] at hb; exact absurd hb.1 (by decide)
  have n2 : (b == 43) = false := by rw [beq_eq_false_iff_ne]; intro h; rw [h] at hb; exact absurd hb.1 (by decide)
  unfold Lib.atoi
  simp only [n1, n2, Bool.false_eq_true, if_false]
  have : Lib.decNat (b :: r) = some (zk (b :: r) 0) := by
   unfold Lib.decNat
   simp only [List.isEmpty_cons, Bool.false_eq_true, if_false]
   exact zhe _ 0 h
  rw [this]; rfl
theorem zhq (E : List UInt8) : (∃ r, E = 45 :: r ∧ zr E = r ∧ zb7 E = true) ∨ (∃ r, E = 43 :: r ∧ zr E = r ∧ zb7 E = false) ∨ ((∀ x r, E = x :: r → x ≠ 45 ∧ x ≠ 43) ∧ zr E = E ∧ zb7 E = false) := by
 cases E with
 | nil => exact .inr (.inr ⟨by simp, rfl, rfl⟩)
 | cons x r =>
  by_cases c1 : x = 45
  ·subst c1; exact .inl ⟨r, rfl, rfl, rfl⟩
  by_cases c2 : x = 43
  ·subst c2; exact .inr (.inl ⟨r, rfl, rfl, rfl⟩)
  obtain ⟨h1, h2⟩ := zkK (l := x :: r) (by simpa using c1) (by simpa using c2)
  refine .inr (.inr ⟨?_, h2, h1⟩)
  intro y t h
  rw [← (List.cons.inj h).1]
  exact ⟨c1, c2⟩
theorem zjc {l : List UInt8} {p : UInt8 → Bool} (h : l.dropWhile p = []) : l.all p = true ∧ l.takeWhile p = l := by
 have h1 := zbU p l
 rw [h, List.append_nil] at h1
 have h2 := zcH p l
 rw [h1] at h2
 exact ⟨h2, h1⟩
theorem zeO {l : List UInt8} {p : UInt8 → Bool} (h : l.all p = true) : l.dropWhile p = [] ∧ l.takeWhile p = l := by
 induction l with
 | nil => exact ⟨rfl, rfl⟩
 | cons a l ih =>
  simp only [List.all_cons, Bool.and_eq_true] at h
  obtain ⟨h1, h2⟩ := ih h.2
  simp [h.1, h1, h2]
def zfk (s : ByteArray) (o : Option (List UInt8 × Int)) (r : ByteArray × Int × Bool × ByteArray × Int) : Prop :=
 match o with
 | some (d, x) => r.1 = bx d ∧ r.2.1 = x ∧ r.2.2.1 = true
 | none => r.2.2.1 = false
theorem zhh {s : ByteArray} (hs : s.size ≤ 1000000) {A B d : List UInt8} (he : tl s = A ++ B) {x : Int} (hx : -1000000 ≤ x ∧ x ≤ 1000000) :
  ∃ r, Ev (fun k => zH.j2 k s (A.length : Int) (bx d) x) r ∧ zfk s (za9 d x B) r := by
 have hz := zV he
 have last : ∀ (a : Int) (y : Int), Ev (fun k => zH.j6 k s a (bx d) y) (bx d, y, decide (a = (s.size : Int)), s, a) := by
  intro a y
  refine zf ?_; simp only [zH.j6]
  exact Ev.now _
 by_cases c0 : B.head? = some 101
 ·obtain ⟨E, hB⟩ : ∃ E, B = 101 :: E := by
   cases B with
   | nil => simp at c0
   | cons y E => simp at c0; exact ⟨E, by rw [c0]⟩
  subst hB
  have he2 : tl s = (A ++ [101]) ++ E := by rw [he]; simp
  have ht := zeh hs he (c := (⟨#[101]⟩ : ByteArray)) (by simp [tl])
  have hT : za9 d x (101 :: E) = if zaI E = true then some (d, x + zdo E) else none := by
   unfold za9
   rw [if_neg (by simp)]
   simp
  rw [hT]
  obtain ⟨A2, b, ok, hA2, hsg, hbn⟩ : ∃ (A2 : List UInt8) (b : Int) (ok : Bool), tl s = A2 ++ zr E ∧ Ev (fun k => zY.f k s (((A ++ [101]).length : Nat) : Int) (⟨#[43, 45]⟩ : ByteArray)) (b, ok, s, (A2.length : Int)) ∧ (b = 45 ↔ zb7 E = true) := by
   rcases zhq E with ⟨r, h1, h2, h3⟩ | ⟨r, h1, h2, h3⟩ | ⟨h1, h2, h3⟩
   ·subst h1
    refine ⟨A ++ [101] ++ [45], 45, true, by rw [he2, h2]; simp, ?_, by simp [h3]⟩
    exact zeh hs he2 (c := (⟨#[43, 45]⟩ : ByteArray)) (by simp [tl])
   ·subst h1
    refine ⟨A ++ [101] ++ [43], 43, true, by rw [he2, h2]; simp, ?_, by simp [h3]⟩
    exact zeh hs he2 (c := (⟨#[43, 45]⟩ : ByteArray)) (by simp [tl])
   ·refine ⟨A ++ [101], 0, false, by rw [he2, h2], ?_, by simp [h3]⟩
    refine zei hs he2 (c := (⟨#[43, 45]⟩ : ByteArray)) ?_
    intro y t h
    have := h1 y t h
    simp [tl, this.1, this.2]
  have hd := zgh hs hA2
  have htw := zbU isD (zr E)
  have hz2 := zV (s := s) (A := A2 ++ (zr E).takeWhile isD) (B := (zr E).dropWhile isD) (by rw [hA2, List.append_assoc, htw])
  by_cases k1 : (zr E).takeWhile isD = []
  ·have hno : zaI E = false := by
    unfold zaI
    by_cases c : zr E = []
    ·simp [c]
    ·cases hE : zr E with
     | nil => exact absurd hE c
     | cons y t =>
      rw [hE] at k1
      have : isD y = false := by
       by_cases hy : isD y = true
       ·rw [List.takeWhile_cons, hy] at k1; simp at k1
       ·simpa using hy
      simp [this]
   rw [if_neg (by rw [hno]; simp)]
   refine ⟨((⟨#[]⟩ : ByteArray), 0, false, s, (((A2 ++ (zr E).takeWhile isD).length : Nat) : Int)), ?_, rfl⟩
   refine zf ?_; simp only [zH.j2]
   refine Ev.bind (ht) ?_; try dsimp only
   refine zd rfl ?_
   refine Ev.bind (hsg) ?_; try dsimp only
   refine Ev.bind (hd) ?_; try dsimp only
   exact zd (zbh.2 k1) (Ev.now _)
  by_cases k2 : 6 < ((zr E).takeWhile isD).length
  ·have hno : zaI E = false := by
    unfold zaI
    have h1 := congrArg List.length htw
    rw [List.length_append] at h1
    have : decide ((zr E).length ≤ 6) = false := decide_eq_false (by omega)
    rw [this]; simp
   rw [if_neg (by rw [hno]; simp)]
   refine ⟨((⟨#[]⟩ : ByteArray), 0, false, s, (((A2 ++ (zr E).takeWhile isD).length : Nat) : Int)), ?_, rfl⟩
   refine zf ?_; simp only [zH.j2]
   refine Ev.bind (ht) ?_; try dsimp only
   refine zd rfl ?_
   refine Ev.bind (hsg) ?_; try dsimp only
   refine Ev.bind (hd) ?_; try dsimp only
   refine ze (fun h => k1 (zbh.1 h)) (zd ?_ (Ev.now _))
   rw [zak]; omega
  ·have hat := zj0 (zcH isD (zr E)) k1
   have hv := zeM (zcH isD (zr E)) (by omega)
   have hsc : zbe.f (bx ((zr E).takeWhile isD)) = some ((zk ((zr E).takeWhile isD) 0 : Nat) : Int) := by
    unfold zbe.f
    rw [if_pos (by rw [zak]; omega)]
    exact hat
   have main : ∃ y : Int, Ev (fun k => zH.j2 k s (A.length : Int) (bx d) x) (bx d, y, decide ((((A2 ++ (zr E).takeWhile isD).length : Nat) : Int) = (s.size : Int)), s, (((A2 ++ (zr E).takeWhile isD).length : Nat) : Int)) ∧ (zaI E = true → y = x + zdo E) := by
    refine ⟨x + (if zb7 E = true then -((zk ((zr E).takeWhile isD) 0 : Nat) : Int) else ((zk ((zr E).takeWhile isD) 0 : Nat) : Int)), ?_, ?_⟩
    ·refine zf ?_; simp only [zH.j2]
     refine Ev.bind (ht) ?_; try dsimp only
     refine zd rfl ?_
     refine Ev.bind (hsg) ?_; try dsimp only
     refine Ev.bind (hd) ?_; try dsimp only
     refine ze (fun h => k1 (zbh.1 h)) (ze (by rw [zak]; omega) ?_)
     refine zl (hsc) ?_; try dsimp only
     by_cases c : b = 45
     ·rw [if_pos (hbn.1 c)]
      refine zd c ?_
      have w : wrap64 (x + wrap64 (-((zk ((zr E).takeWhile isD) 0 : Nat) : Int))) = x + -((zk ((zr E).takeWhile isD) 0 : Nat) : Int) := by
       rw [zfb (by omega) (by omega), zbX (by omega) (by omega) (by omega) (by omega)]
      rw [w]
      exact last _ _
     ·rw [if_neg (fun h => c (hbn.2 h))]
      refine ze c ?_
      rw [zbX (by omega) (by omega) (by omega) (by omega)]
      exact last _ _
    ·intro hok
     unfold zaI at hok
     simp only [Bool.and_eq_true, decide_eq_true_eq] at hok
     rw [(zeO hok.2).2]
     rfl
   obtain ⟨y, hy, hyv⟩ := main
   refine ⟨_, hy, ?_⟩
   by_cases hok : zaI E = true
   ·rw [if_pos hok]
    refine ⟨rfl, hyv hok, ?_⟩
    unfold zaI at hok
    simp only [Bool.and_eq_true, decide_eq_true_eq] at hok
    rw [(zeO hok.2).1, List.length_nil] at hz2
    exact decide_eq_true (by omega)
   ·rw [if_neg hok]
    refine decide_eq_false ?_
    intro h
    have h3 : (zr E).dropWhile isD = [] := List.eq_nil_of_length_eq_zero (by omega)
    obtain ⟨h4, h5⟩ := zjc h3
    refine hok ?_
    unfold zaI
    rw [h5] at k1 k2
    rw [h4, decide_eq_true (show zr E ≠ [] from k1), decide_eq_true (show (zr E).length ≤ 6 by omega)]; rfl
 ·have ht := zei hs he (c := (⟨#[101]⟩ : ByteArray)) (by intro y t h; rw [h] at c0; simpa [tl] using c0)
  refine ⟨(bx d, x, decide ((A.length : Int) = (s.size : Int)), s, (A.length : Int)), ?_, ?_⟩
  ·refine zf ?_; simp only [zH.j2]
   refine Ev.bind (ht) ?_; try dsimp only
   exact ze (by simp) (last _ _)
  ·unfold za9
   by_cases c1 : B = []
   ·rw [if_pos c1]
    subst c1
    exact ⟨rfl, rfl, decide_eq_true (by rw [List.length_nil] at hz; omega)⟩
   ·rw [if_neg c1, if_neg (fun h => c0 h.1)]
    have : 0 < B.length := by cases B with | nil => exact absurd rfl c1 | cons _ _ => simp
    exact decide_eq_false (by omega)
theorem zkp {s : ByteArray} (hs : s.size ≤ 1000000) {A B : List UInt8} (he : tl s = A ++ B) :
  ∃ r, Ev (fun k => zH.f k s (A.length : Int)) r ∧ zfk s (zbz B) r := by
 have hz := zV he
 have hd := zgh hs he
 have htw := zbU isD B
 unfold zbz
 by_cases c0 : B.takeWhile isD = []
 ·rw [if_pos c0]
  refine ⟨((⟨#[]⟩ : ByteArray), 0, false, s, (((A ++ B.takeWhile isD).length : Nat) : Int)), ?_, rfl⟩
  unfold zH.f
  refine Ev.bind (hd) ?_; try dsimp only
  exact zd (zbh.2 c0) (Ev.now _)
 rw [if_neg c0]
 have he2 : tl s = (A ++ B.takeWhile isD) ++ B.dropWhile isD := by rw [he, List.append_assoc, htw]
 have hz2 := zV he2
 by_cases c1 : (B.dropWhile isD).head? = some 46
 ·rw [if_pos c1]
  obtain ⟨r, hr⟩ : ∃ r, B.dropWhile isD = 46 :: r := by
   cases hB : B.dropWhile isD with
   | nil => rw [hB] at c1; simp at c1
   | cons y E => rw [hB] at c1; simp at c1; exact ⟨E, by rw [c1]⟩
  rw [hr] at he2 ⊢
  have ht := zeh hs he2 (c := (⟨#[46]⟩ : ByteArray)) (by simp [tl])
  have he3 : tl s = (A ++ B.takeWhile isD ++ [46]) ++ r := by rw [he2]; simp
  have hz3 := zV he3
  have hd2 := zgh hs he3
  have htw2 := zbU isD r
  have hl2 := congrArg List.length htw2
  rw [List.length_append] at hl2
  simp only [List.length_append, List.length_singleton] at hz3
  show ∃ r_1, _ ∧ zfk s (if r.takeWhile isD = [] then none else za9 (B.takeWhile isD ++ r.takeWhile isD) (-((r.takeWhile isD).length : Int)) (r.dropWhile isD)) r_1
  by_cases c2 : r.takeWhile isD = []
  ·rw [if_pos c2]
   refine ⟨((⟨#[]⟩ : ByteArray), 0, false, s, (((A ++ B.takeWhile isD ++ [46] ++ r.takeWhile isD).length : Nat) : Int)), ?_, rfl⟩
   unfold zH.f
   refine Ev.bind (hd) ?_; try dsimp only
   refine ze (fun h => c0 (zbh.1 h)) ?_
   refine Ev.bind (ht) ?_; try dsimp only
   refine zd rfl ?_
   refine Ev.bind (hd2) ?_; try dsimp only
   exact zd (zbh.2 c2) (Ev.now _)
  rw [if_neg c2]
  have he4 : tl s = (A ++ B.takeWhile isD ++ [46] ++ r.takeWhile isD) ++ r.dropWhile isD := by rw [he3]; simp [htw2]
  obtain ⟨q, hq, hok⟩ := zhh hs he4 (d := B.takeWhile isD ++ r.takeWhile isD) (x := -((r.takeWhile isD).length : Int)) (by omega)
  refine ⟨q, ?_, hok⟩
  unfold zH.f
  refine Ev.bind (hd) ?_; try dsimp only
  refine ze (fun h => c0 (zbh.1 h)) ?_
  refine Ev.bind (ht) ?_; try dsimp only
  refine zd rfl ?_
  refine Ev.bind (hd2) ?_; try dsimp only
  refine ze (fun h => c2 (zbh.1 h)) (zd (by rw [zak, zak]; omega) ?_)
  have e1 : bx (B.takeWhile isD) ++ bx (r.takeWhile isD) = bx (B.takeWhile isD ++ r.takeWhile isD) := zcG.1 (by rw [zi5, zaX, zaX, zaX])
  rw [e1, zak, zfb (by omega) (by omega)]
  exact hq
 ·rw [if_neg c1]
  have ht := zei hs he2 (c := (⟨#[46]⟩ : ByteArray)) (by intro y t h; rw [h] at c1; simpa [tl] using c1)
  obtain ⟨q, hq, hok⟩ := zhh hs he2 (d := B.takeWhile isD) (x := 0) (by omega)
  refine ⟨q, ?_, hok⟩
  unfold zH.f
  refine Ev.bind (hd) ?_; try dsimp only
  refine ze (fun h => c0 (zbh.1 h)) ?_
  refine Ev.bind (ht) ?_; try dsimp only
  exact ze (by simp) hq
theorem zdd (l : List UInt8) : qcC (bx l) = l.map fun b => (b.toNat : Int) := rfl
theorem zh6 : ∀ (l : List UInt8) (a : Nat), pvA a (l.map fun b => (b.toNat : Int)) = zk l a
 | [], a => rfl
 | b :: l, a => by
  have e : ((b.toNat : Int) - 48).toNat = b.toNat - 48 := by omega
  rw [List.map_cons, pvA, e, zh6 l]
  rfl
theorem ze4 (l : List UInt8) : pv (qcC (bx l)) = zk l 0 := zh6 l 0
theorem zdR {l : List UInt8} (h : l.all isD = true) : zaw (qcC (bx l)) := by
 intro x hx
 rw [zdd, List.mem_map] at hx
 obtain ⟨b, hb, rfl⟩ := hx
 exact zbL.1 (List.all_eq_true.1 h b hb)
theorem zeN {l : List UInt8} (h : l.all isD = true) : zk l 0 < 10 ^ l.length := by
 have := zf1 (zdR h)
 rw [ze4, zdd, List.length_map] at this
 exact this
def tz0 (l : List UInt8) : List UInt8 := l.dropWhile (· == 48)
theorem zfE (l : List UInt8) : zk (tz0 l) 0 = zk l 0 := by
 induction l with
 | nil => rfl
 | cons b l ih =>
  unfold tz0 at *
  by_cases c : b = 48
  ·subst c; rw [List.dropWhile_cons]; simp only [beq_self_eq_true, if_true]; rw [ih]; rfl
  ·rw [List.dropWhile_cons, if_neg (by simpa using c)]
theorem zje {l : List UInt8} (h : l.all isD = true) : (tz0 l).all isD = true := by
 induction l with
 | nil => rfl
 | cons b l ih =>
  have h' := h
  simp only [List.all_cons, Bool.and_eq_true] at h
  unfold tz0 at *
  by_cases c : b = 48
  ·subst c; rw [List.dropWhile_cons]; simpa using ih h.2
  ·rw [List.dropWhile_cons, if_neg (by simpa using c)]; exact h'
theorem zm1 (l : List UInt8) : (tz0 l).length ≤ l.length := by
 have h := congrArg List.length (zbU (· == 48) l)
 rw [List.length_append] at h
 unfold tz0; omega
theorem zjf {l : List UInt8} {b : UInt8} {r : List UInt8} (h : tz0 l = b :: r) : b ≠ 48 := by
 have := zkA _ l h
 simpa using this
theorem zkX {l : List UInt8} {b : UInt8} {r : List UInt8} (h : l.all isD = true) (e : tz0 l = b :: r) : isT (qcC (bx (b :: r))) = true := by
 have h1 := zje h
 rw [e] at h1
 have h2 := zjf e
 have hd : decide (zaw (qcC (bx (b :: r)))) = true := decide_eq_true (zdR h1)
 unfold isT
 rw [hd, zdd]
 have h3 : (b.toNat : Int) ≠ 48 := fun c => h2 (UInt8.toNat_inj.1 (by show _ = 48; omega))
 cases r with
 | nil => rfl
 | cons c t => simp [h3]
theorem zgt {l : List UInt8} (h : l.all isD = true) : tz0 l = [] ↔ zk l 0 = 0 := by
 constructor
 ·intro e; rw [← zfE, e]; rfl
 ·intro e
  cases ht : tz0 l with
  | nil => rfl
  | cons b r =>
   have h1 := zje h
   have h2 := zjf ht
   have h3 := zfE l
   rw [ht] at h1 h3
   have h4 := zh7 (l := qcC (bx (b :: r))) (zdR h1) (by
    rw [zdd]; show ((b.toNat : Int)) ≠ 48
    exact fun c => h2 (UInt8.toNat_inj.1 (by show _ = 48; omega))) (by rw [zdd]; simp)
   rw [ze4] at h4
   have := zbD ((qcC (bx (b :: r))).length - 1)
   omega
theorem zlP {l : List UInt8} (h : l.all isD = true) (hl : l.length ≤ 1200) (h0 : zk l 0 ≠ 0) : za7 (qcC (bx (tz0 l))) = (D (zk l 0), 0) := by
 cases ht : tz0 l with
 | nil => exact absurd ((zgt h).1 ht) h0
 | cons b r =>
  have h3 := zfE l
  rw [ht] at h3
  unfold za7
  rw [if_pos (zkX h ht), ze4, h3, zdO]
  have h5 := zar (Nat.le_of_lt (zeN h))
  have h6 := zcX l.length
  omega
theorem zja : ∀ (l : List UInt8), l.length ≤ 1000000 → Ev (fun k => zbr.l0 k (bx l) 48) (bx (tz0 l))
 | [], _ => by
  refine zf ?_; simp only [zbr.l0]
  exact ze (by decide) (Ev.now _)
 | b :: l, hl => by
  have hz := zak (b :: l)
  simp only [List.length_cons] at hz hl
  have hb := zaP (s := bx (b :: l)) (A := []) (B := l) (b := b) (by rw [zaX]; rfl)
  rw [List.length_nil, show ((0 : Nat) : Int) = 0 from rfl] at hb
  refine zf ?_; simp only [zbr.l0]
  rw [hb]
  refine zd (by omega) (zd (by omega) ?_)
  by_cases c : b = 48
  ·subst c
   refine zd rfl (zd (by decide) (zd (by omega) ?_))
   have hx := zdW (s := bx (48 :: l)) (A := [48]) (B := l) (by rw [zaX]; rfl)
   have e1 : (1 : Int).toNat = ([48] : List UInt8).length := rfl
   rw [e1, hx]
   have ih := zja l (by omega)
   have e2 : tz0 (48 :: l) = tz0 l := by unfold tz0; rw [List.dropWhile_cons]; simp
   rw [e2]
   exact ih
  ·refine ze (fun h => c (UInt8.toNat_inj.1 (by show _ = 48; omega))) ?_
   have e2 : tz0 (b :: l) = b :: l := by unfold tz0; rw [List.dropWhile_cons, if_neg (by simpa using c)]
   rw [e2]
   exact Ev.now _
theorem zmZ {l : List UInt8} (hl : l.length ≤ 1000000) : Ev (fun k => zbA.f k (bx l) (⟨#[48]⟩ : ByteArray)) (bx (tz0 l)) := by
 unfold zbA.f
 by_cases c : l = []
 ·subst c
  exact zd rfl (Ev.now _)
 ·refine ze (fun h => c (zbh.1 h)) (ze (by decide) (zd (by decide) (zd (by decide) ?_)))
  have e : decide (bt (⟨#[48]⟩ : ByteArray) 0 < 128) = true := by decide
  have e2 : bt (⟨#[48]⟩ : ByteArray) 0 = 48 := by decide
  rw [e]
  refine zf ?_; simp only [zbA.j2]
  rw [e2]
  refine zd trivial (zd (by decide) ?_)
  unfold zbr.f
  exact Ev.bind (zja l hl) (Ev.now _)
theorem zkJ {E : List UInt8} (h : zaI E = true) : -1000000 < zdo E ∧ zdo E < 1000000 := by
 unfold zaI at h
 simp only [Bool.and_eq_true, decide_eq_true_eq] at h
 have := zeM h.2 h.1.2
 unfold zdo
 split <;> omega
theorem zi2 {d : List UInt8} {x : Int} {l : List UInt8} {y : List UInt8 × Int} (h : za9 d x l = some y) : y.1 = d ∧ x - 1000000 < y.2 ∧ y.2 < x + 1000000 := by
 unfold za9 at h
 split at h
 ·cases h; exact ⟨rfl, by omega, by omega⟩
 ·split at h
  ·rename_i h2
   cases h
   have := zkJ h2.2
   exact ⟨rfl, by omega, by omega⟩
  ·cases h
theorem ziq {l : List UInt8} {y : List UInt8 × Int} (h : zbz l = some y) : y.1.all isD = true ∧ y.1 ≠ [] ∧ y.1.length ≤ l.length ∧ -(l.length : Int) - 1000000 < y.2 ∧ y.2 < 1000000 := by
 have h1 := congrArg List.length (zbU isD l)
 rw [List.length_append] at h1
 unfold zbz at h
 split at h
 ·cases h
 rename_i c0
 split at h
 ·rename_i c1
  obtain ⟨r, hr⟩ : ∃ r, l.dropWhile isD = 46 :: r := by
   cases hB : l.dropWhile isD with
   | nil => rw [hB] at c1; simp at c1
   | cons y E => rw [hB] at c1; simp at c1; exact ⟨E, by rw [c1]⟩
  rw [hr] at h h1
  rw [List.tail_cons] at h
  simp only [List.length_cons] at h1
  have h2 := congrArg List.length (zbU isD r)
  rw [List.length_append] at h2
  split at h
  ·cases h
  obtain ⟨h3, h4, h5⟩ := zi2 h
  rw [h3]
  refine ⟨by rw [List.all_append, zcH, zcH]; rfl, fun h => c0 (List.append_eq_nil_iff.1 h).1, ?_, by omega, by omega⟩
  rw [List.length_append]; omega
 ·obtain ⟨h3, h4, h5⟩ := zi2 h
  rw [h3]
  exact ⟨zcH _ _, c0, by omega, by omega, by omega⟩
theorem zgE {f m : Int} (h : isF f) (hm : isM m) (s : ByteArray) : Ev (fun k => zbK.f k f m s) (zeG f m (tl s)) := by
 unfold zbK.f zeG
 refine Ev.bind (zgD h hm false) (ze (by simp) ?_)
 by_cases c0 : 1200 < (tl s).length
 ·rw [if_pos c0]
  exact zd (by rw [zc5]; omega) (Ev.now _)
 rw [if_neg c0]
 refine ze (by rw [zc5]; omega) ?_
 by_cases c1 : s = (⟨#[110, 97, 110]⟩ : ByteArray)
 ·rw [if_pos (by rw [c1]; rfl)]
  exact zd c1 (Ev.bind (znm h) (Ev.now _))
 rw [if_neg (fun h => c1 (zcG.1 (by rw [h]; rfl)))]
 refine ze c1 ?_
 have hs : s.size ≤ 1200 := by rw [zc5]; omega
 obtain ⟨A, b, hA, ht⟩ : ∃ (A : List UInt8) (b : Int), tl s = A ++ zaO (tl s) ∧ Ev (fun k => zY.f k s 0 (⟨#[45]⟩ : ByteArray)) (b, zT (tl s), s, (A.length : Int)) := by
  cases hl : tl s with
  | nil =>
   refine ⟨[], 0, rfl, ?_⟩
   exact zei (A := []) (B := []) (by omega) (by rw [hl]; rfl) (by simp)
  | cons x r =>
   by_cases c2 : x = 45
   ·subst c2
    refine ⟨[45], 45, rfl, ?_⟩
    exact zeh (A := []) (r := r) (x := 45) (by omega) (by rw [hl]; rfl) (by simp [tl])
   ·have n1 : zT (x :: r) = false := by
     unfold zT; split
     ·rename_i h; exact absurd (List.cons.inj h).1 c2
     ·rfl
    have n2 : zaO (x :: r) = x :: r := by
     unfold zaO; split
     ·rename_i h; exact absurd (List.cons.inj h).1 c2
     ·rfl
    rw [n1, n2]
    refine ⟨[], 0, rfl, ?_⟩
    exact zei (A := []) (B := x :: r) (by omega) (by rw [hl]; rfl) (by intro y t h; rw [← (List.cons.inj h).1]; simpa [tl] using c2)
 refine Ev.bind (ht) ?_; try dsimp only
 have hz := zV hA
 refine zd (by omega) (zd (by omega) ?_)
 rw [Int.toNat_natCast, zdW hA]
 unfold zfA
 by_cases c2 : zaO (tl s) = [105, 110, 102]
 ·rw [if_pos c2]
  exact zd (by rw [c2]; rfl) (Ev.bind (zjs h _) (Ev.now _))
 rw [if_neg c2]
 refine ze (fun h => c2 (zcG.2 h)) ?_
 obtain ⟨q, hq, hok⟩ := zkp (by omega) hA
 refine Ev.bind (hq) ?_; try dsimp only
 cases ho : zbz (zaO (tl s)) with
 | none =>
  rw [ho] at hok
  have hok : q.2.2.1 = false := hok
  rw [hok]
  exact zd rfl (Ev.now _)
 | some y =>
  rw [ho] at hok
  obtain ⟨k1, k2, k3⟩ : q.1 = bx y.1 ∧ q.2.1 = y.2 ∧ q.2.2.1 = true := hok
  obtain ⟨b1, b2, b3, b4, b5⟩ := ziq ho
  rw [k1, k2, k3]
  refine ze (by simp) ?_
  have hl : y.1.length ≤ 1200 := by omega
  refine Ev.bind (zmZ (l := y.1) (by omega)) ?_; try dsimp only
  show Ev _ (zbc f m (zT (tl s)) (zk y.1 0) y.2)
  unfold zbc
  by_cases c3 : zk y.1 0 = 0
  ·rw [if_pos c3]
   refine zd (zbh.2 ((zgt b1).2 c3)) ?_
   refine Ev.bind (zjt h _) ?_; try dsimp only
   exact Ev.now _
  ·rw [if_neg c3]
   refine ze (fun h => c3 ((zgt b1).1 (zbh.1 h))) ?_
   have hp := zlq (s := bx (tz0 y.1)) (by rw [zak]; have := zm1 y.1; omega)
   rw [zlP b1 hl c3] at hp
   refine Ev.bind (hp) ?_; try dsimp only
   have hr := zko h hm (zT (tl s)) c3 (p := y.1.length) hl (zeN b1) y.2
   refine Ev.bind (hr) ?_; try dsimp only
   exact Ev.now _
theorem zfM (A : List UInt8) (x : UInt8) : (A ++ [x]).length = A.length + 1 := by simp
theorem zfa {a b : Int} (h1 : -10000000000000000 ≤ a) (h2 : a ≤ 10000000000000000) (h3 : -10000000000000000 ≤ b) (h4 : b ≤ 10000000000000000) : wrap64 (a + b) = a + b := by unfold wrap64; omega
theorem zjr {E : Int} (h1 : -10000000000000000 ≤ E) (h2 : E ≤ 10000000000000000) : wrap64 (-E) = -E := by unfold wrap64; omega
theorem zic {s : ByteArray} (hs : s.size ≤ 1000000000000000) (at0 : Nat) : ∀ (B A : List UInt8) (n : Nat), tl s = A ++ B → A.length = at0 + n →
  Ev (fun k => za4.l0 k s (at0 : Int) (n : Int)) ((n + (B.takeWhile isD).length : Nat) : Int)
 | [], A, n, he, hA => by
  have hz := zV he
  simp only [List.length_nil] at hz
  refine zf ?_; simp only [za4.l0]
  rw [w64 (n := (at0 : Int) + (n : Int)) (by omega) (by omega)]
  exact ze (by omega) (zg (Ev.now _) (by simp))
 | b :: B, A, n, he, hA => by
  have hz := zV he
  simp only [List.length_cons] at hz
  have hb := zaP he
  refine zf ?_; simp only [za4.l0]
  have e1 : wrap64 ((at0 : Int) + (n : Int)) = (A.length : Int) := by rw [w64 (by omega) (by omega)]; omega
  rw [e1, hb]
  clear e1
  refine zd (by omega) (zd (by omega) (zd (by omega) ?_))
  by_cases c1 : 48 ≤ (b.toNat : Int)
  ·refine zd c1 (zd (by omega) (zd (by omega) ?_))
   by_cases c2 : (b.toNat : Int) ≤ 57
   ·refine zd c2 ?_
    have e2 : wrap64 ((n : Int) + 1) = ((n + 1 : Nat) : Int) := by rw [w64 (by omega) (by omega)]; omega
    rw [e2]
    clear e2
    refine zg (zic hs at0 B (A ++ [b]) (n + 1) (by rw [he]; simp) (by simp; omega)) ?_
    rw [List.takeWhile_cons, zbL.2 ⟨c1, c2⟩]
    simp only [if_true, List.length_cons]
    omega
   ·have : isD b = false := by rw [Bool.eq_false_iff]; intro h; exact c2 (zbL.1 h).2
    rw [List.takeWhile_cons, this]
    exact ze c2 (zg (Ev.now _) (by simp))
  ·have : isD b = false := by rw [Bool.eq_false_iff]; intro h; exact c1 (zbL.1 h).1
   rw [List.takeWhile_cons, this]
   exact ze (by omega) (zg (Ev.now _) (by simp))
theorem zf4 {s : ByteArray} (hs : s.size ≤ 1000000000000000) {A B : List UInt8} (he : tl s = A ++ B) : Ev (fun k => za4.f k s (A.length : Int)) ((B.takeWhile isD).length : Int) := by
 have := zic hs A.length B A 0 he rfl
 rw [Nat.zero_add] at this
 exact this
theorem zh0 {l : List UInt8} (h : isT (qcC (bx l)) = true) (hd : l.all isD = true) (hl : l.length ≤ 20000) : za7 (qcC (bx l)) = (D (zk l 0), 0) := by
 unfold za7
 rw [if_pos h, ze4, zdO]
 have h5 := zar (Nat.le_of_lt (zeN hd))
 have h6 := zcX l.length
 omega
theorem zif : ∀ (l : List UInt8), l.all isD = true → l ≠ [] → l.length ≤ 20000 → Ev (fun k => zX.l0 k (bx l)) (D (zk l 0))
 | [], _, h0, _ => absurd rfl h0
 | [b], hd, _, _ => by
  have hp := zea (bx [b]) (by rw [zak]; simp)
  rw [zh0 (by
   have hdg : decide (zaw (qcC (bx [b]))) = true := decide_eq_true (zdR hd)
   unfold isT; rw [hdg]; rfl) hd (by simp)] at hp
  refine zf ?_; simp only [zX.l0]
  refine ze (by rw [zak]; simp) ?_
  refine Ev.bind (hp) ?_; try dsimp only
  exact Ev.now _
 | b :: c :: l, hd, _, hl => by
  have hz := zak (b :: c :: l)
  simp only [List.length_cons] at hz hl
  have hb := zaP (s := bx (b :: c :: l)) (A := []) (B := c :: l) (b := b) (by rw [zaX]; rfl)
  rw [List.length_nil, show ((0 : Nat) : Int) = 0 from rfl] at hb
  refine zf ?_; simp only [zX.l0]
  rw [hb]
  refine zd (by omega) (zd (by omega) ?_)
  by_cases c0 : b = 48
  ·subst c0
   refine zd rfl (zd (by decide) (zd (by omega) ?_))
   have hx := zdW (s := bx (48 :: c :: l)) (A := [48]) (B := c :: l) (by rw [zaX]; rfl)
   have e1 : (1 : Int).toNat = ([48] : List UInt8).length := rfl
   rw [e1, hx]
   have hd' : (c :: l).all isD = true := by rw [List.all_cons, Bool.and_eq_true] at hd; exact hd.2
   have ih := zif (c :: l) hd' (by simp) (by simp only [List.length_cons]; omega)
   exact ih
  ·have hb3 : (b.toNat : Int) ≠ 48 := fun h => c0 (UInt8.toNat_inj.1 (by show _ = 48; omega))
   refine ze hb3 ?_
   have hp := zea (bx (b :: c :: l)) (by rw [hz]; omega)
   rw [zh0 (by
    have hdg : decide (zaw (qcC (bx (b :: c :: l)))) = true := decide_eq_true (zdR hd)
    unfold isT; rw [hdg, zdd]; simp [hb3]) hd (by simp only [List.length_cons]; omega)] at hp
   refine Ev.bind (hp) ?_; try dsimp only
   exact Ev.now _
theorem zf7 : ∀ (l : List UInt8), l.length ≤ 900000000000000 → ∃ r, Ev (fun k => zX.l0 k (bx l)) r
 | [], _ => by
  have hp := zea (bx []) (by rw [zak]; simp)
  refine ⟨(za7 (qcC (bx []))).1, ?_⟩
  refine zf ?_; simp only [zX.l0]
  refine ze (by rw [zak]; simp) (Ev.bind hp (Ev.now _))
 | [b], _ => by
  have hp := zea (bx [b]) (by rw [zak]; simp)
  refine ⟨(za7 (qcC (bx [b]))).1, ?_⟩
  refine zf ?_; simp only [zX.l0]
  refine ze (by rw [zak]; simp) (Ev.bind hp (Ev.now _))
 | b :: c :: l, hl => by
  have hz := zak (b :: c :: l)
  simp only [List.length_cons] at hz hl
  have hb := zaP (s := bx (b :: c :: l)) (A := []) (B := c :: l) (b := b) (by rw [zaX]; rfl)
  rw [List.length_nil, show ((0 : Nat) : Int) = 0 from rfl] at hb
  by_cases c0 : b = 48
  ·subst c0
   have hx := zdW (s := bx (48 :: c :: l)) (A := [48]) (B := c :: l) (by rw [zaX]; rfl)
   have e1 : (1 : Int).toNat = ([48] : List UInt8).length := rfl
   obtain ⟨r, ih⟩ := zf7 (c :: l) (by simp only [List.length_cons]; omega)
   refine ⟨r, ?_⟩
   refine zf ?_; simp only [zX.l0]
   rw [hb]
   refine zd (by omega) (zd (by omega) (zd rfl (zd (by decide) (zd (by omega) ?_))))
   rw [e1, hx]
   exact ih
  ·have hb3 : (b.toNat : Int) ≠ 48 := fun h => c0 (UInt8.toNat_inj.1 (by show _ = 48; omega))
   have hp := zea (bx (b :: c :: l)) (by rw [hz]; omega)
   refine ⟨(za7 (qcC (bx (b :: c :: l)))).1, ?_⟩
   refine zf ?_; simp only [zX.l0]
   rw [hb]
   exact zd (by omega) (zd (by omega) (ze hb3 (Ev.bind hp (Ev.now _))))
theorem zl2 {l : List UInt8} (hd : l.all isD = true) (h0 : l ≠ []) (hl : l.length ≤ 20000) : Ev (fun k => zX.f k (bx l)) (D (zk l 0)) := zif l hd h0 hl
section
variable {s : ByteArray} (hs : s.size ≤ 1000000000000000) (a : Bool) (b : ByteArray) (c : List Int) (d : Int)
include hs
theorem zid (g : Bool) (nm : ByteArray) (mg : List Int) {ex : Int} (hx : -1000000000000000 ≤ ex ∧ ex ≤ 1000000000000000) (low : Bool) : ∀ (B A C : List UInt8), tl s = A ++ B → C.all isD = true → C.length + B.length ≤ 6 → B.all isD = true →
  Ev (fun k => zm.l0 k s a b c d g nm mg ex low ((zk C 0 : Nat) : Int) (A.length : Int)) (g, nm, mg, ex + (if low = true then -((zk (C ++ B) 0 : Nat) : Int) else ((zk (C ++ B) 0 : Nat) : Int)), true)
 | [], A, C, he, hC, hl, hB => by
  have hz := zV he
  simp only [List.length_nil] at hz hl
  have hv := zeM hC (by omega)
  have j15 : ∀ y : Int, -1000000 ≤ y → y ≤ 1000000 → Ev (fun k => zm.j15 k a b c d g nm mg ex y) (g, nm, mg, ex + y, true) := by
   intro y h1 h2
   refine zf ?_; simp only [zm.j15]
   rw [zfa (by omega) (by omega) (by omega) (by omega)]
   exact Ev.now _
  refine zf ?_; simp only [zm.l0]
  refine ze (by omega) ?_
  rw [List.append_nil]
  cases low
  ·exact ze (by simp) (j15 _ (by omega) (by omega))
  ·refine zd rfl ?_
   rw [zjr (by omega) (by omega)]
   exact j15 _ (by omega) (by omega)
 | x :: B, A, C, he, hC, hl, hB => by
  have hz := zV he
  simp only [List.length_cons] at hz hl
  have hb := zaP he
  have hv := zeM hC (by omega)
  rw [List.all_cons, Bool.and_eq_true] at hB
  have hxd := zbL.1 hB.1
  refine zf ?_; simp only [zm.l0]
  rw [hb]
  refine zd (by omega) (zd (by omega) (zd (by omega) ?_))
  have e1 : wrap64 ((A.length : Int) + 1) = ((A ++ [x]).length : Int) := by rw [List.length_append, List.length_singleton, w64 (by omega) (by omega)]; omega
  have e2 : wrap64 (wrap64 (10 * ((zk C 0 : Nat) : Int)) + wrap64 (((x.toNat : Int) - 48) % 256)) = ((zk (C ++ [x]) 0 : Nat) : Int) := by
   have h3 : zk (C ++ [x]) 0 = 10 * zk C 0 + (x.toNat - 48) := by rw [zky]; rfl
   rw [h3]
   clear e1
   generalize zk C 0 = v at *
   rw [w64 (n := 10 * (v : Int)) (by omega) (by omega), w64 (n := ((x.toNat : Int) - 48) % 256) (by omega) (by omega), w64 (by omega) (by omega)]
   omega
  rw [e1, e2]
  clear e1 e2
  have ih := zid g nm mg hx low B (A ++ [x]) (C ++ [x]) (by rw [he]; simp) (by rw [List.all_append, hC]; simp [hB.1]) (by simp; omega) hB.2
  rw [List.append_assoc, List.singleton_append] at ih
  exact ih
theorem zf5 (g : Bool) (nm : ByteArray) (mg : List Int) {ex : Int} (hx : -1000000000000000 ≤ ex ∧ ex ≤ 1000000000000000) (low : Bool) {A B : List UInt8} (he : tl s = A ++ B) :
  Ev (fun k => zm.j11 k s a b c d g nm mg ex (A.length : Int) low) (if B ≠ [] ∧ B.length ≤ 6 ∧ B.all isD = true then (g, nm, mg, ex + (if low = true then -((zk B 0 : Nat) : Int) else ((zk B 0 : Nat) : Int)), true) else rF) := by
 have hz := zV he
 have hl := congrArg List.length (zbU isD B)
 rw [List.length_append] at hl
 refine zf ?_; simp only [zm.j11]
 refine Ev.bind (zf4 (by omega) he) ?_; try dsimp only
 by_cases c1 : B.takeWhile isD = []
 ·refine zd (by rw [c1]; rfl) (zg (Ev.now _) ?_)
  rw [if_neg]; rfl
  rintro ⟨k1, k2, k3⟩
  rw [(zeO k3).2] at c1
  exact k1 c1
 have hp : 0 < (B.takeWhile isD).length := by cases h : B.takeWhile isD with | nil => exact absurd h c1 | cons _ _ => simp
 refine ze (by omega) ?_
 by_cases c2 : (B.takeWhile isD).length > 6
 ·refine zd (by omega) (zg (Ev.now _) ?_)
  rw [if_neg]; rfl
  rintro ⟨k1, k2, k3⟩
  omega
 refine ze (by omega) ?_
 have w : wrap64 ((A.length : Int) + ((B.takeWhile isD).length : Int)) = (A.length : Int) + ((B.takeWhile isD).length : Int) := zfa (by omega) (by omega) (by omega) (by omega)
 rw [w]
 clear w
 by_cases c3 : B.dropWhile isD = []
 ·obtain ⟨k1, k2⟩ := zjc c3
  rw [k2] at c1 c2 hp ⊢
  refine ze (by omega) ?_
  rw [if_pos ⟨c1, by omega, k1⟩]
  have := zid hs a b c d g nm mg hx low B A [] he rfl (by simp; omega) k1
  exact this
 ·have hq : 0 < (B.dropWhile isD).length := by cases h : B.dropWhile isD with | nil => exact absurd h c3 | cons _ _ => simp
  refine zd (by omega) (zg (Ev.now _) ?_)
  rw [if_neg]; rfl
  rintro ⟨k1, k2, k3⟩
  exact c3 (zeO k3).1
theorem zie (g : Bool) (nm : ByteArray) (m0 : List Int) {ex : Int} (hx : -1000000000000000 ≤ ex ∧ ex ≤ 1000000000000000) (num : List UInt8 → List Int) {A B dd : List UInt8} (he : tl s = A ++ B) (hn : Ev (fun k => zX.f k (bx dd)) (num dd)) :
  Ev (fun k => zm.j7 k s a b c d g nm m0 ex (A.length : Int) (bx dd)) (match za9 dd ex B with | some y => (g, nm, num y.1, y.2, true) | none => rF) := by
 have hz := zV he
 refine zf ?_; simp only [zm.j7]
 refine Ev.bind (hn) ?_; try dsimp only
 cases B with
 | nil =>
  rw [List.length_nil] at hz
  refine zd (by omega) (zg (Ev.now _) ?_)
  rfl
 | cons x E =>
  rw [List.length_cons] at hz
  have hb := zaP he
  refine ze (by omega) (zd (by omega) (zd (by omega) ?_))
  rw [hb]
  by_cases c1 : x = 101
  ·subst c1
   refine ze (by decide) ?_
   have w : wrap64 ((A.length : Int) + 1) = (((A ++ [101]).length : Nat) : Int) := by rw [List.length_append, List.length_singleton, w64 (by omega) (by omega)]; omega
   rw [w]
   clear w
   have he2 : tl s = (A ++ [101]) ++ E := by rw [he]; simp
   have hz2 := zV he2
   have hT : (match za9 dd ex (101 :: E) with | some y => (g, nm, num y.1, y.2, true) | none => rF) = if zr E ≠ [] ∧ (zr E).length ≤ 6 ∧ (zr E).all isD = true then (g, nm, num dd, ex + (if zb7 E = true then -((zk (zr E) 0 : Nat) : Int) else ((zk (zr E) 0 : Nat) : Int)), true) else rF := by
    have hok : zaI E = true ↔ (zr E ≠ [] ∧ (zr E).length ≤ 6 ∧ (zr E).all isD = true) := by
     unfold zaI
     simp only [Bool.and_eq_true, decide_eq_true_eq]
     constructor
     ·rintro ⟨⟨h1, h2⟩, h3⟩; exact ⟨h1, h2, h3⟩
     ·rintro ⟨h1, h2, h3⟩; exact ⟨⟨h1, h2⟩, h3⟩
    unfold za9
    rw [if_neg (by simp)]
    by_cases k : zaI E = true
    ·rw [if_pos ⟨rfl, k⟩, if_pos (hok.1 k)]; rfl
    ·rw [if_neg (fun h => k h.2), if_neg (fun h => k (hok.2 h))]
   rw [hT]
   rcases zhq E with ⟨r, k1, k2, k3⟩ | ⟨r, k1, k2, k3⟩ | ⟨k1, k2, k3⟩
   ·subst k1
    rw [List.length_cons] at hz2
    have hb2 := zaP he2
    have w2 : wrap64 ((((A ++ [101]).length : Nat) : Int) + 1) = (((A ++ [101] ++ [45]).length : Nat) : Int) := by rw [zfM (A ++ [101]), w64 (by omega) (by omega)]; omega
    refine zd (by omega) (zd (by omega) (zd (by omega) ?_))
    rw [hb2]
    refine zd rfl ?_
    refine zf ?_; simp only [zm.j10]
    rw [w2, hb2]
    clear w2
    refine zd trivial (zd (by omega) (zd (by omega) ?_))
    have hj := zf5 hs a b c d g nm (num dd) hx true (A := A ++ [101] ++ [45]) (B := r) (by rw [he2]; simp)
    rw [k2, k3]
    exact hj
   ·subst k1
    rw [List.length_cons] at hz2
    have hb2 := zaP he2
    have w2 : wrap64 ((((A ++ [101]).length : Nat) : Int) + 1) = (((A ++ [101] ++ [43]).length : Nat) : Int) := by rw [zfM (A ++ [101]), w64 (by omega) (by omega)]; omega
    refine zd (by omega) (zd (by omega) (zd (by omega) ?_))
    rw [hb2]
    refine ze (by decide) (zd (by omega) (zd (by omega) ?_))
    refine zf ?_; simp only [zm.j10]
    rw [w2, hb2]
    clear w2
    refine zd (by decide) (zd (by omega) (zd (by omega) ?_))
    have hj := zf5 hs a b c d g nm (num dd) hx false (A := A ++ [101] ++ [43]) (B := r) (by rw [he2]; simp)
    rw [k2, k3]
    exact hj
   ·have hj := zf5 hs a b c d g nm (num dd) hx false (A := A ++ [101]) (B := E) he2
    have last : Ev (fun k => zm.j10 k s a b c d g nm (num dd) ex (((A ++ [101]).length : Nat) : Int) false false) (if E ≠ [] ∧ E.length ≤ 6 ∧ E.all isD = true then (g, nm, num dd, ex + (if false = true then -((zk E 0 : Nat) : Int) else ((zk E 0 : Nat) : Int)), true) else rF) := by
     refine zf ?_; simp only [zm.j10]
     exact ze (by simp) hj
    rw [k2, k3]
    cases E with
    | nil =>
     rw [List.length_nil] at hz2
     exact ze (by omega) last
    | cons y r =>
     rw [List.length_cons] at hz2
     obtain ⟨n1, n2⟩ := k1 y r rfl
     have hb2 := zaP he2
     refine zd (by omega) (zd (by omega) (zd (by omega) ?_))
     rw [hb2]
     refine ze (fun h => n1 (UInt8.toNat_inj.1 (by show _ = 45; omega))) (zd (by omega) (zd (by omega) ?_))
     rw [show decide ((y.toNat : Int) = 43) = false from decide_eq_false (fun h => n2 (UInt8.toNat_inj.1 (by show _ = 43; omega)))]
     exact last
  ·refine zd (fun h => c1 (UInt8.toNat_inj.1 (by show _ = 101; omega))) (zg (Ev.now _) ?_)
   unfold za9
   rw [if_neg (by simp), if_neg (by simp [c1])]
   rfl
theorem zf6 (num : List UInt8 → List Int) (hnum : ∀ dd : List UInt8, dd.all isD = true → dd ≠ [] → dd.length ≤ s.size → Ev (fun k => zX.f k (bx dd)) (num dd)) (g : Bool) {A B : List UInt8} (he : tl s = A ++ B) :
  Ev (fun k => zm.j2 k s a b c d g (⟨#[]⟩ : ByteArray) ([] : List Int) 0 (A.length : Int)) (if B = [105, 110, 102] then (g, (⟨#[105, 110, 102]⟩ : ByteArray), [], 0, true) else match zbz B with | some y => (g, (⟨#[]⟩ : ByteArray), num y.1, y.2, true) | none => rF) := by
 have hz := zV he
 have htw := zbU isD B
 have hl := congrArg List.length htw
 rw [List.length_append] at hl
 refine zf ?_; simp only [zm.j2]
 refine zd (by omega) (zd (by omega) ?_)
 rw [Int.toNat_natCast, zdW he]
 by_cases c0 : B = [105, 110, 102]
 ·rw [if_pos c0]
  exact zd (by rw [c0]; rfl) (Ev.now _)
 rw [if_neg c0]
 refine ze (fun h => c0 (zcG.2 h)) ?_
 refine Ev.bind (zf4 (by omega) he) ?_; try dsimp only
 unfold zbz
 by_cases c1 : B.takeWhile isD = []
 ·rw [if_pos c1]
  exact zd (by rw [c1]; rfl) (Ev.now _)
 rw [if_neg c1]
 have hp : 0 < (B.takeWhile isD).length := by cases h : B.takeWhile isD with | nil => exact absurd h c1 | cons _ _ => simp
 have w : wrap64 ((A.length : Int) + ((B.takeWhile isD).length : Int)) = (((A ++ B.takeWhile isD).length : Nat) : Int) := by rw [List.length_append, zfa (by omega) (by omega) (by omega) (by omega)]; omega
 rw [w]
 clear w
 have he2 : tl s = (A ++ B.takeWhile isD) ++ B.dropWhile isD := by rw [he, List.append_assoc, htw]
 have hz2 := zV he2
 have hlA : (A ++ B.takeWhile isD).length = A.length + (B.takeWhile isD).length := List.length_append
 refine ze (by omega) (zd (by omega) (zd (by omega) (zd (by omega) ?_)))
 have hx : s.extract A.length ((((A ++ B.takeWhile isD).length : Nat) : Int)).toNat = bx (B.takeWhile isD) := by
  rw [Int.toNat_natCast, hlA]
  exact zdV (C := B.dropWhile isD) (by rw [htw]; exact he)
 rw [hx]
 clear hx
 have hall := zcH isD B
 by_cases c2 : (B.dropWhile isD).head? = some 46
 ·rw [if_pos c2]
  obtain ⟨r, hr⟩ : ∃ r, B.dropWhile isD = 46 :: r := by
   cases hB : B.dropWhile isD with
   | nil => rw [hB] at c2; simp at c2
   | cons y E => rw [hB] at c2; simp at c2; exact ⟨E, by rw [c2]⟩
  rw [hr] at he2 hz2 hl ⊢
  rw [List.length_cons] at hz2
  have hb := zaP he2
  refine zd (by omega) (zd (by omega) (zd (by omega) ?_))
  rw [hb]
  rw [List.tail_cons]
  rw [show decide ((((46 : UInt8).toNat : Nat) : Int) = 46) = true from rfl]
  have he3 : tl s = (A ++ B.takeWhile isD ++ [46]) ++ r := by rw [he2]; simp
  have htw2 := zbU isD r
  have hl2 := congrArg List.length htw2
  rw [List.length_append] at hl2
  have hz3 := zV he3
  have w : wrap64 ((((A ++ B.takeWhile isD).length : Nat) : Int) + 1) = (((A ++ B.takeWhile isD ++ [46]).length : Nat) : Int) := by rw [zfM (A ++ B.takeWhile isD), w64 (by omega) (by omega)]; omega
  refine zf ?_; simp only [zm.j5]
  rw [w]
  clear w
  refine zd trivial ?_
  refine Ev.bind (zf4 (by omega) he3) ?_; try dsimp only
  by_cases c3 : r.takeWhile isD = []
  ·rw [if_pos c3]
   exact zd (by rw [c3]; rfl) (Ev.now _)
  rw [if_neg c3]
  have hp2 : 0 < (r.takeWhile isD).length := by cases h : r.takeWhile isD with | nil => exact absurd h c3 | cons _ _ => simp
  have he4 : tl s = (A ++ B.takeWhile isD ++ [46] ++ r.takeWhile isD) ++ r.dropWhile isD := by rw [he3, List.append_assoc _ (r.takeWhile isD), htw2]
  have hlA2 : (A ++ B.takeWhile isD ++ [46] ++ r.takeWhile isD).length = (A ++ B.takeWhile isD ++ [46]).length + (r.takeWhile isD).length := List.length_append
  have w : wrap64 ((((A ++ B.takeWhile isD ++ [46]).length : Nat) : Int) + ((r.takeWhile isD).length : Int)) = (((A ++ B.takeWhile isD ++ [46] ++ r.takeWhile isD).length : Nat) : Int) := by rw [hlA2, zfa (by omega) (by omega) (by omega) (by omega)]; omega
  rw [w]
  clear w
  have hx : s.extract ((((A ++ B.takeWhile isD ++ [46]).length : Nat) : Int)).toNat ((((A ++ B.takeWhile isD ++ [46] ++ r.takeWhile isD).length : Nat) : Int)).toNat = bx (r.takeWhile isD) := by
   rw [Int.toNat_natCast, Int.toNat_natCast, hlA2]
   exact zdV (C := r.dropWhile isD) (by rw [htw2]; exact he3)
  rw [hx]
  clear hx
  have hz4 := zV he4
  refine ze (by omega) (zd (by omega) (zd (by omega) (zd (by omega) (zd (by rw [zak, zak]; omega) ?_))))
  have e1 : bx (B.takeWhile isD) ++ bx (r.takeWhile isD) = bx (B.takeWhile isD ++ r.takeWhile isD) := zcG.1 (by rw [zi5, zaX, zaX, zaX])
  rw [e1, zjr (by omega) (by omega)]
  exact zie hs a b c d g (⟨#[]⟩ : ByteArray) [] (by omega) num he4 (hnum _ (by rw [List.all_append, hall, zcH]; rfl) (fun h => c1 (List.append_eq_nil_iff.1 h).1) (by rw [List.length_append]; omega))
 ·rw [if_neg c2]
  have hj := zie hs a b c d g (⟨#[]⟩ : ByteArray) [] (ex := 0) (by omega) num he2 (hnum _ hall c1 (by omega))
  have last : Ev (fun k => zm.j5 k s a b c d g (⟨#[]⟩ : ByteArray) ([] : List Int) 0 (((A ++ B.takeWhile isD).length : Nat) : Int) (bx (B.takeWhile isD)) false) (match za9 (B.takeWhile isD) 0 (B.dropWhile isD) with | some y => (g, (⟨#[]⟩ : ByteArray), num y.1, y.2, true) | none => rF) := by
   refine zf ?_; simp only [zm.j5]
   exact ze (by simp) hj
  cases hB : B.dropWhile isD with
  | nil =>
   rw [hB] at hz2 last
   rw [List.length_nil] at hz2
   exact ze (by omega) last
  | cons y r =>
   rw [hB] at he2 hz2 last c2
   rw [List.length_cons] at hz2
   have hb := zaP he2
   refine zd (by omega) (zd (by omega) (zd (by omega) ?_))
   rw [hb]
   rw [show decide ((y.toNat : Int) = 46) = false from decide_eq_false (fun h => c2 (by rw [List.head?_cons, UInt8.toNat_inj.1 (show y.toNat = (46 : UInt8).toNat from (by show _ = 46; omega))]))]
   exact last
end
def r8S (g : Bool) (l : List UInt8) : RT := if l = [105, 110, 102] then (g, (⟨#[105, 110, 102]⟩ : ByteArray), [], 0, true) else match zbz l with | some y => (g, (⟨#[]⟩ : ByteArray), D (zk y.1 0), y.2, true) | none => rF
def zca (l : List UInt8) : RT := if l = [110, 97, 110] then (false, ⟨#[110, 97, 110]⟩, [], 0, true) else r8S (zT l) (zaO l)
def r8T (num : List UInt8 → List Int) (g : Bool) (l : List UInt8) : RT := if l = [105, 110, 102] then (g, (⟨#[105, 110, 102]⟩ : ByteArray), [], 0, true) else match zbz l with | some y => (g, (⟨#[]⟩ : ByteArray), num y.1, y.2, true) | none => rF
def r8R (num : List UInt8 → List Int) (l : List UInt8) : RT := if l = [110, 97, 110] then (false, ⟨#[110, 97, 110]⟩, [], 0, true) else r8T num (zT l) (zaO l)
theorem zib {s : ByteArray} (hs : s.size ≤ 1000000000000000) (num : List UInt8 → List Int) (hnum : ∀ dd : List UInt8, dd.all isD = true → dd ≠ [] → dd.length ≤ s.size → Ev (fun k => zX.f k (bx dd)) (num dd)) : Ev (fun k => zm.f k s) (r8R num (tl s)) := by
 unfold zm.f r8R
 by_cases c1 : s = (⟨#[110, 97, 110]⟩ : ByteArray)
 ·rw [if_pos (by rw [c1]; rfl)]
  exact zd c1 (Ev.now _)
 rw [if_neg (fun h => c1 (zcG.1 (by rw [h]; rfl)))]
 refine ze c1 ?_
 cases hl : tl s with
 | nil =>
  have hz : s.size = 0 := by rw [zc5, hl]; rfl
  refine ze (by omega) ?_
  exact zf6 hs false ⟨#[]⟩ [] 0 num hnum false (A := []) (B := []) (by rw [hl]; rfl)
 | cons x r =>
  have hz : s.size = r.length + 1 := by rw [zc5, hl]; rfl
  refine zd (by omega) (zd (by omega) ?_)
  have hb : bt s 0 = (x.toNat : Int) := zaP (A := []) (B := r) (by rw [hl]; rfl)
  rw [hb]
  by_cases c2 : x = 45
  ·subst c2
   refine zd rfl ?_
   exact zf6 hs false ⟨#[]⟩ [] 0 num hnum true (A := [45]) (B := r) (by rw [hl]; rfl)
  ·refine ze (fun h => c2 (UInt8.toNat_inj.1 (by show _ = 45; omega))) ?_
   have n1 : zT (x :: r) = false := by
    unfold zT; split
    ·rename_i h; exact absurd (List.cons.inj h).1 c2
    ·rfl
   have n2 : zaO (x :: r) = x :: r := by
    unfold zaO; split
    ·rename_i h; exact absurd (List.cons.inj h).1 c2
    ·rfl
   rw [n1, n2]
   exact zf6 hs false ⟨#[]⟩ [] 0 num hnum false (A := []) (B := x :: r) (by rw [hl]; rfl)
theorem zia {s : ByteArray} (hs : s.size ≤ 1200) : Ev (fun k => zm.f k s) (zca (tl s)) :=
 zib (by omega) (fun l => D (zk l 0)) fun dd h1 h2 h3 => zl2 h1 h2 (by omega)
theorem zh9 {s : ByteArray} (hs : s.size ≤ 900000000000000) : ∃ r, Ev (fun k => zm.f k s) r := by
 classical
 refine ⟨_, zib (by omega) (fun l => if h : l.length ≤ 900000000000000 then (zf7 l h).choose else []) fun dd h1 h2 h3 => ?_⟩
 rw [dif_pos (by omega)]
 unfold zX.f
 exact (zf7 dd (by omega)).choose_spec
open Go.RowKit Go.Proofs Go.Proofs.YtnkpmjhlkmlmbaaGreatDoor.Eng
set_option maxRecDepth 100000
theorem zkr (k : Nat) : zP.f (k + 140) 2 4591870180066957722 = some ((⟨#[48, 46, 49]⟩ : ByteArray), 0) := by kernel_rfl
theorem zks (k : Nat) : zbK.f (k + 60) 1 1 (⟨#[49, 54, 55, 55, 55, 50, 49, 55]⟩ : ByteArray) = some (1266679808, 16, 0) := by kernel_rfl
theorem zkt : Ev (fun k => zas.f k) true := by
 unfold zas.f
 refine Ev.bind (zho zkr) (Ev.bind (zho zks) ?_)
 exact zd rfl (zd rfl (zd rfl (zd rfl (zg (Ev.now _) (by simp)))))
theorem zbl : Ev (fun k => (zas.f k).bind fun t => some t) true := Ev.bind zkt (Ev.now _)
theorem zku {f m : Int} (h : fmE f m ≠ 0) (l : List Int) : Ev (fun k => zba.f k f m l) (fmE f m) := by
 unfold zba.f
 unfold fmE at *
 refine zl (zii f) ?_
 by_cases c : isF f
 ·rw [if_pos c] at h ⊢
  have hm : ¬ isM m := fun k => h (by rw [if_pos k])
  rw [if_neg hm, decide_eq_true c]
  refine ze (by simp) (zl (zih m) ?_)
  rw [decide_eq_false hm]
  exact zd rfl (Ev.now _)
 ·rw [if_neg c, decide_eq_false c]
  exact zd rfl (Ev.now _)
theorem zfC {f m : Int} (h : isF f) (hm : isM m) : Ev (fun k => zba.f k f m []) 0 := by
 unfold zba.f
 refine zl (zii f) ?_
 rw [decide_eq_true h]
 refine ze (by simp) (zl (zih m) ?_)
 rw [decide_eq_true hm]
 refine ze (by simp) ?_
 refine zf ?_; simp only [zba.l0]
 exact ze (by simp) (Ev.now _)
theorem zkM {f m : Int} (h : fmE f m = 0) : isF f ∧ isM m := by
 unfold fmE at h
 by_cases c : isF f
 ·rw [if_pos c] at h
  by_cases c2 : isM m
  ·exact ⟨c, c2⟩
  ·rw [if_neg c2] at h; omega
 ·rw [if_neg c] at h; omega
theorem znv {a b : UInt8} (h : (a.toNat : Int) = (b.toNat : Int)) : a = b := UInt8.toNat_inj.1 (by omega)
theorem znt {b : UInt8} {r : List UInt8} (h : (b :: r).all isD = true) : isD b = true ∧ r.all isD = true := by
 simpa only [List.all_cons, Bool.and_eq_true] using h
theorem zkF (f : Int) {n : Nat} (h : n ≠ 0) (e : Int) (j : Nat) : zaH f (n * 2 ^ j) e = zaH f n (e + j) := by
 unfold zaH
 rw [zhH h, Nat.pow_add, Nat.mul_div_mul_right _ _ (zh j)]
 congr 1; omega
theorem zkD {f : Int} (h : isF f) {q : Nat} {u : Int} (hu : lo f ≤ u) (hq : q ≤ 2 ^ pr f) (hn : u = lo f ∨ 2 ^ fb f ≤ q) (h0 : q ≠ 0) : zaH f q u = (u - lo f).toNat * 2 ^ fb f + q := by
 have hpr := zQ h
 have hp := zh (fb f)
 have hs : 2 ^ pr f = 2 ^ fb f * 2 := by rw [hpr, Nat.pow_succ]
 by_cases c : q = 2 ^ pr f
 ·have hb : bl (2 ^ fb f) = fb f + 1 := by
   have := zaZ (v := 1) (by omega) (fb f)
   rw [Nat.one_mul, show bl 1 = 1 by decide] at this
   omega
  have e1 : zq f (2 ^ fb f) (u + 1) = u + 1 := by unfold zq; rw [hb, hpr]; omega
  rw [c, hs, ← Nat.pow_one 2, Nat.pow_one, show 2 ^ fb f * 2 = 2 ^ fb f * 2 ^ 1 from rfl, zkF f (by omega), zfG (by omega) (by rw [show u + ((1 : Nat) : Int) = u + 1 from rfl, e1]; omega), show u + ((1 : Nat) : Int) = u + 1 from rfl, e1, show (u + 1 - (u + 1)).toNat = 0 by omega, Nat.pow_zero, Nat.mul_one,
   show (u + 1 - lo f).toNat = (u - lo f).toNat + 1 by omega, Nat.add_mul, show 2 ^ fb f * 2 ^ 1 = 2 ^ fb f * 2 from rfl]
  omega
 ·have hlt : q < 2 ^ pr f := by omega
  have hb : bl q ≤ pr f := zI hlt
  have e1 : zq f q u = u := by
   unfold zq
   rcases hn with hn | hn
   ·omega
   ·have := zar hn
    have h2 := zaZ (v := 1) (by omega) (fb f)
    rw [Nat.one_mul, show bl 1 = 1 by decide] at h2
    omega
  rw [zfG h0 (by omega), e1, show (u - u).toNat = 0 by omega, Nat.pow_zero, Nat.mul_one]
theorem znb (m : Int) (s o : Bool) {x y p : Nat} (h : x ≤ y) (hy : y < p) (kx : 2 * x % p ≠ 0 ↔ x ≠ 0 ∧ 2 * x ≠ p) (ky : 2 * y % p ≠ 0 ↔ y ≠ 0 ∧ 2 * y ≠ p) :
  upB m s o (decide (p ≤ 2 * x)) (decide (2 * x % p ≠ 0)) = true → upB m s o (decide (p ≤ 2 * y)) (decide (2 * y % p ≠ 0)) = true := by
 unfold upB
 by_cases c1 : m = 1
 ·rw [if_pos c1, if_pos c1]
  simp only [Bool.and_eq_true, Bool.or_eq_true, decide_eq_true_eq, kx, ky]
  rintro ⟨g1, g2⟩
  refine ⟨by omega, ?_⟩
  by_cases c2 : 2 * y = p
  ·exact .inr (g2.resolve_left (by omega))
  ·exact .inl (by omega)
 rw [if_neg c1, if_neg c1]
 by_cases c2 : m = 2
 ·rw [if_pos c2, if_pos c2]
  simp only [decide_eq_true_eq]
  omega
 rw [if_neg c2, if_neg c2]
 by_cases c4 : m = 4
 ·rw [if_pos c4, if_pos c4]
  simp only [Bool.and_eq_true, Bool.or_eq_true, decide_eq_true_eq, kx, ky]
  rintro ⟨g1, g2⟩
  exact ⟨g1, by omega⟩
 rw [if_neg c4, if_neg c4]
 by_cases c5 : m = 5
 ·rw [if_pos c5, if_pos c5]
  simp only [Bool.and_eq_true, Bool.or_eq_true, decide_eq_true_eq, kx, ky]
  rintro ⟨g1, g2⟩
  exact ⟨g1, by omega⟩
 rw [if_neg c5, if_neg c5]
 exact id
theorem zmo (m : Int) (s : Bool) {a b k : Nat} (h : a ≤ b) : rnd m s a k ≤ rnd m s b k := by
 have hp := zh k
 have h1 : a / 2 ^ k ≤ b / 2 ^ k := Nat.div_le_div_right h
 unfold rnd
 by_cases c : a / 2 ^ k = b / 2 ^ k
 ·have h2 : a % 2 ^ k ≤ b % 2 ^ k := by
   have ea := Nat.div_add_mod a (2 ^ k)
   have eb := Nat.div_add_mod b (2 ^ k)
   rw [c] at ea
   omega
  have h3 := Nat.mod_lt b hp
  rw [c]
  suffices hh : upB m s (decide (b / 2 ^ k % 2 = 1)) (decide (2 ^ k ≤ 2 * (a % 2 ^ k))) (decide (2 * (a % 2 ^ k) % 2 ^ k ≠ 0)) = true → upB m s (decide (b / 2 ^ k % 2 = 1)) (decide (2 ^ k ≤ 2 * (b % 2 ^ k))) (decide (2 * (b % 2 ^ k) % 2 ^ k ≠ 0)) = true by
   split
   ·rename_i hu; rw [if_pos (hh hu)]; omega
   ·split <;> omega
  have key : ∀ r, r < 2 ^ k → (2 * r % 2 ^ k ≠ 0 ↔ r ≠ 0 ∧ 2 * r ≠ 2 ^ k) := by
   intro r hr
   by_cases c1 : 2 * r < 2 ^ k
   ·rw [Nat.mod_eq_of_lt c1]; omega
   ·rw [Nat.mod_eq_sub_mod (by omega), Nat.mod_eq_of_lt (by omega)]; omega
  have ka := key (a % 2 ^ k) (by omega)
  have kb := key (b % 2 ^ k) h3
  exact znb m s _ h2 h3 ka kb
 ·have h2 : a / 2 ^ k < b / 2 ^ k := by omega
  split <;> split <;> omega
def zd7 (f m : Int) (s : Bool) : Nat := if inw m s = true then mo f * 2 ^ fb f - 1 else mo f * 2 ^ fb f
def zbI (f m : Int) (s : Bool) (n : Nat) (e : Int) : Nat :=
 if (bl (R m s n e (zj f n e)) : Int) + zj f n e > wd f then zd7 f m s
 else if R m s n e (zj f n e) = 0 then 0 else zaH f (R m s n e (zj f n e)) (zj f n e)
theorem zeb (f m : Int) (s : Bool) (n : Nat) (e : Int) : (zu f m s n e).1 = ((zbI f m s n e + sgn f s : Nat) : Int) := by
 unfold zu zbI
 dsimp only
 by_cases c : (bl (R m s n e (zj f n e)) : Int) + zj f n e > wd f
 ·rw [if_pos c, if_pos c]; rfl
 ·rw [if_neg c, if_neg c]
def zck (f m : Int) (s : Bool) (n : Nat) (e : Int) : Nat := (zj f n e - lo f).toNat * 2 ^ fb f + R m s n e (zj f n e)
theorem zgu {f m : Int} (h : isF f) (s : Bool) {n : Nat} (hn : n ≠ 0) (e : Int) : lo f ≤ zj f n e ∧ R m s n e (zj f n e) ≤ 2 ^ pr f ∧ (zj f n e = lo f ∨ 2 ^ fb f ≤ R m s n e (zj f n e)) := by
 have hpr := zQ h
 refine ⟨by unfold zj; omega, zjE (p := pr f) (by unfold zj; omega), ?_⟩
 by_cases c : zj f n e = lo f
 ·exact .inl c
 ·right
  have hu : zj f n e = e + (bl n : Nat) - (pr f : Nat) := by unfold zj at c ⊢; omega
  obtain ⟨h1, _⟩ := zfo (m := m) (s := s) (e := e) hn (E := zj f n e) (by omega)
  have h2 : R m s n e (zj f n e) ≠ 0 := by
   intro hz
   rw [hz, za0] at h1
   omega
  have h3 := zcO h2
  exact Nat.le_trans (Nat.pow_le_pow_right (by omega) (by omega)) h3
theorem zg9 {f m : Int} (h : isF f) (s : Bool) {n : Nat} (hn : n ≠ 0) (e : Int) : zbI f m s n e = if mo f * 2 ^ fb f ≤ zck f m s n e then zd7 f m s else zck f m s n e := by
 obtain ⟨h1, h2, h3⟩ := zgu (m := m) h s hn e
 have hpr := zQ h
 have hro := zfH h
 have hmo := zcV h
 have hp := zh (fb f)
 have hs : 2 ^ pr f = 2 * 2 ^ fb f := by rw [hpr, Nat.pow_succ]; omega
 have hiff : (bl (R m s n e (zj f n e)) : Int) + zj f n e > wd f ↔ mo f * 2 ^ fb f ≤ zck f m s n e := by
  unfold zck
  obtain ⟨u, hu⟩ : ∃ u, u = zj f n e := ⟨_, rfl⟩
  obtain ⟨q, hq⟩ : ∃ q, q = R m s n e u := ⟨_, rfl⟩
  rw [← hu] at h1 h2 h3 ⊢
  rw [← hq] at h2 h3 ⊢
  obtain ⟨d, hd⟩ : ∃ d, d = (u - lo f).toNat := ⟨_, rfl⟩
  rw [← hd]
  have hud : u = lo f + (d : Int) := by omega
  by_cases c : q = 2 ^ pr f
  ·have hb : bl q = pr f + 1 := by
    have := zaZ (v := 1) (by omega) (pr f)
    rw [Nat.one_mul, show bl 1 = 1 by decide] at this
    rw [c]; omega
   rw [hb, c, hs]
   have : d * 2 ^ fb f + 2 * 2 ^ fb f = (d + 2) * 2 ^ fb f := by rw [Nat.add_mul]
   rw [this, Nat.mul_le_mul_right_iff hp]
   omega
  ·have hlt : q < 2 * 2 ^ fb f := by omega
   have hb : bl q ≤ pr f := zI (by omega)
   rcases h3 with h3 | h3
   ·have : d = 0 := by omega
    subst this
    have h5 : 2 * 2 ^ fb f ≤ mo f * 2 ^ fb f := Nat.mul_le_mul_right _ (by omega)
    constructor
    ·intro; omega
    ·intro; omega
   ·have h4 := zar h3
    have h5 := zaZ (v := 1) (by omega) (fb f)
    rw [Nat.one_mul, show bl 1 = 1 by decide] at h5
    have hb2 : bl q = pr f := by omega
    rw [hb2]
    constructor
    ·intro hh
     have h6 : (mo f - 1) * 2 ^ fb f ≤ d * 2 ^ fb f := Nat.mul_le_mul_right _ (by omega)
     have h7 : mo f * 2 ^ fb f = (mo f - 1) * 2 ^ fb f + 2 ^ fb f := by
      rw [← Nat.succ_mul]; congr 1; omega
     omega
    ·intro hh
     apply Int.lt_of_not_ge
     intro hc
     have h6 : d * 2 ^ fb f ≤ (mo f - 2) * 2 ^ fb f := Nat.mul_le_mul_right _ (by omega)
     have h7 : mo f * 2 ^ fb f = (mo f - 2) * 2 ^ fb f + 2 * 2 ^ fb f := by
      rw [← Nat.add_mul]; congr 1; omega
     omega
 unfold zbI
 by_cases c : (bl (R m s n e (zj f n e)) : Int) + zj f n e > wd f
 ·rw [if_pos c, if_pos (hiff.1 c)]
 ·rw [if_neg c, if_neg (fun hh => c (hiff.2 hh))]
  by_cases c0 : R m s n e (zj f n e) = 0
  ·rw [if_pos c0]
   have : zj f n e = lo f := h3.resolve_right (by omega)
   unfold zck
   rw [c0, this, show (lo f - lo f).toNat = 0 by omega, Nat.zero_mul]
  ·rw [if_neg c0, zkD h h1 h2 h3 c0]; rfl
theorem zke {f m : Int} (h : isF f) (s : Bool) {n n' : Nat} (hn : n ≠ 0) (hle : n ≤ n') (e : Int) : zck f m s n e ≤ zck f m s n' e := by
 obtain ⟨h1, h2, h3⟩ := zgu (m := m) h s hn e
 obtain ⟨k1, k2, k3⟩ := zgu (m := m) h s (n := n') (by omega) e
 have hpr := zQ h
 have hs : 2 ^ pr f = 2 * 2 ^ fb f := by rw [hpr, Nat.pow_succ]; omega
 have hb := zar hle
 have hu : zj f n e ≤ zj f n' e := by unfold zj; omega
 unfold zck
 by_cases c : zj f n e = zj f n' e
 ·rw [← c]
  have : R m s n e (zj f n e) ≤ R m s n' e (zj f n e) := by
   unfold R
   exact zmo m s (Nat.mul_le_mul_right _ hle)
  omega
 ·have k4 := k3.resolve_left (by omega)
  have e1 : ((zj f n e - lo f).toNat + 1) * 2 ^ fb f ≤ (zj f n' e - lo f).toNat * 2 ^ fb f := Nat.mul_le_mul_right _ (by omega)
  rw [Nat.add_mul] at e1
  omega
theorem zha {f m : Int} (h : isF f) (s : Bool) {n n' : Nat} (hn : n ≠ 0) (hle : n ≤ n') (e : Int) : zbI f m s n e ≤ zbI f m s n' e ∧ zbI f m s n' e ≤ mo f * 2 ^ fb f := by
 have h1 := zke (m := m) h s hn hle e
 rw [zg9 h s hn, zg9 h s (n := n') (by omega)]
 have hm : zd7 f m s ≤ mo f * 2 ^ fb f ∧ mo f * 2 ^ fb f - 1 ≤ zd7 f m s := by unfold zd7; split <;> omega
 constructor
 ·split <;> split <;> omega
 ·split <;> omega
theorem zmM {A B A' B' : Nat} (hB : 0 < B) (hB' : 0 < B') (hx : A * B' ≤ A' * B) : stk (A / B) (decide (A % B ≠ 0)) ≤ stk (A' / B') (decide (A' % B' ≠ 0)) := by
 have ea := Nat.div_add_mod A B
 have ea' := Nat.div_add_mod A' B'
 have hl' := Nat.mod_lt A' hB'
 have hq : A / B ≤ A' / B' := by
  rw [Nat.le_div_iff_mul_le hB']
  have h1 : A / B * B * B' ≤ A * B' := Nat.mul_le_mul_right _ (Nat.div_mul_le_self A B)
  have h2 : A / B * B' * B ≤ A' * B := by
   rw [Nat.mul_assoc, Nat.mul_comm B' B, ← Nat.mul_assoc]; omega
  exact Nat.le_of_mul_le_mul_right h2 hB
 unfold stk
 have hb1 := zdN (decide (A % B ≠ 0))
 have hb2 := zdN (decide (A' % B' ≠ 0))
 by_cases c : A / B = A' / B'
 ·by_cases c0 : A % B = 0
  ·have : bN (decide (A % B ≠ 0)) = 0 := by rw [zez]; exact decide_eq_false (by simpa using c0)
   omega
  ·have c1 : A' % B' ≠ 0 := by
    intro hz
    rw [hz, Nat.add_zero] at ea'
    rw [← ea, ← ea', ← c, Nat.add_mul] at hx
    have h3 : B * (A / B) * B' = B' * (A / B) * B := by
     rw [Nat.mul_comm B, Nat.mul_assoc, Nat.mul_comm B B', ← Nat.mul_assoc, Nat.mul_comm (A / B) B']
    rw [h3] at hx
    have h4 : 0 < A % B * B' := Nat.mul_pos (by omega) hB'
    omega
   have : bN (decide (A' % B' ≠ 0)) = 1 := by
    have : bN (decide (A' % B' ≠ 0)) ≠ 0 := fun hz => by
     rw [zez] at hz
     exact absurd (of_decide_eq_false hz) (by simpa using c1)
    omega
   omega
 ·omega
theorem zmu {f m : Int} (h : isF f) (s : Bool) {A B A' B' : Nat} (hA : A ≠ 0) (hA' : A' ≠ 0) (hB : 0 < B) (hB' : 0 < B') (hx : A * B' ≤ A' * B) (e : Int) :
  ∃ c c' : Nat, (rq f m s A B e).1 = ((c + sgn f s : Nat) : Int) ∧ (rq f m s A' B' e).1 = ((c' + sgn f s : Nat) : Int) ∧ c ≤ c' ∧ c' ≤ mo f * 2 ^ fb f := by
 obtain ⟨N, hN⟩ : ∃ N, N = max (bl B + 64) (bl B' + 64) := ⟨_, rfl⟩
 have bits : ∀ {A B : Nat}, A ≠ 0 → 0 < B → bl B + 64 ≤ N → pr f + 1 ≤ bl (A * 2 ^ N / B) ∧ A * 2 ^ N / B ≠ 0 := by
  intro A B hA hB hle
  have h1 := zed hA hB
  have h2 : A * 2 ^ (bl B + 64) / B ≤ A * 2 ^ N / B := Nat.div_le_div_right (Nat.mul_le_mul_left _ (Nat.pow_le_pow_right (by omega) hle))
  have h3 := zar h2
  have h4 : pr f ≤ 53 := by rcases h with rfl | rfl <;> decide
  refine ⟨by omega, fun hz => ?_⟩
  rw [hz, za0] at h3
  omega
 have b1 := bits hA hB (by omega)
 have b2 := bits hA' hB' (by omega)
 have hm := zmM (A := A * 2 ^ N) (A' := A' * 2 ^ N) hB hB' (by
  rw [Nat.mul_right_comm, Nat.mul_right_comm A']
  exact Nat.mul_le_mul_right _ hx)
 have hne : stk (A * 2 ^ N / B) (decide (A * 2 ^ N % B ≠ 0)) ≠ 0 := by unfold stk; omega
 obtain ⟨g1, g2⟩ := zha (m := m) h s hne hm (e - N - 1)
 exact ⟨_, _, by rw [← zee h s hA hB e N b1.1, zeb], by rw [← zee h s hA' hB' e N b2.1, zeb], g1, g2⟩
theorem znu {a : Int} {c : Int} (h : 0 < c) : (a * c).sign = a.sign := by
 rw [Int.sign_mul, Int.sign_eq_one_of_pos h, Int.mul_one]
def zbC (f : Int) (w : Nat) : Int := if zae f w = true then -((w % sg f : Nat) : Int) else ((w % sg f : Nat) : Int)
theorem zhb {f m : Int} (s : Bool) {n : Nat} (hn : n ≠ 0) (e : Int) (j : Nat) : zbI f m s (n * 2 ^ j) e = zbI f m s n (e + j) := by
 have h1 := zmr (f := f) (m := m) (s := s) (n := n * 2 ^ j) (n' := n) (e := e) (e' := e + j) (Nat.mul_ne_zero hn (Nat.ne_of_gt (zh j))) hn (by rw [← zgo, zdr])
 have h2 := congrArg Prod.fst h1
 rw [zeb, zeb] at h2
 omega
theorem zhc {f : Int} (h : isF f) {w : Nat} (c1 : cls f w ≠ 1) (c4 : cls f w < 4) : zbI f 1 false (zo f w) (wex f w) = w % sg f := by
 obtain ⟨b1, b2, b3⟩ := znp h c1 c4
 have e := congrArg Prod.fst (zmq (m := 1) h false (zeC h c1 c4) b1 b2 b3)
 rw [zeb, zkH h c1 c4] at e
 dsimp only at e
 omega
theorem zlh {f : Int} (h : isF f) {a b : Nat} (a1 : cls f a ≠ 1) (a4 : cls f a < 4) (b1 : cls f b ≠ 1) (b4 : cls f b < 4)
  (hle : zo f a * 2 ^ (wex f a - min (wex f a) (wex f b)).toNat ≤ zo f b * 2 ^ (wex f b - min (wex f a) (wex f b)).toNat) : a % sg f ≤ b % sg f := by
 have na := zeC h a1 a4
 have nb := zeC h b1 b4
 have hm := (zha (m := 1) h false (Nat.mul_ne_zero na (Nat.ne_of_gt (zh _))) hle (min (wex f a) (wex f b))).1
 rw [zhb false na, zhb false nb, show min (wex f a) (wex f b) + (((wex f a - min (wex f a) (wex f b)).toNat : Nat) : Int) = wex f a by omega, show min (wex f a) (wex f b) + (((wex f b - min (wex f a) (wex f b)).toNat : Nat) : Int) = wex f b by omega, zhc h a1 a4, zhc h b1 b4] at hm
 exact hm
theorem zmA {f : Int} {a b : Nat} (e : a % sg f = b % sg f) : zo f a = zo f b ∧ wex f a = wex f b := by
 have e1 : zx f a = zx f b := by unfold zx; rw [e]
 have e2 : zai f a = zai f b := by unfold zai; rw [e]
 unfold zo wex
 rw [e1, e2]
 exact ⟨rfl, rfl⟩
theorem zfg {f : Int} {a : Nat} (e : a % sg f = 0) : zo f a = 0 := by
 have e1 : zx f a = 0 := by unfold zx; rw [e]; simp
 have e2 : zai f a = 0 := by unfold zai; rw [e]; simp
 unfold zo
 rw [if_pos e1, e2]
theorem zg0 {f : Int} {a : Nat} (e : cls f a = 1) : a % sg f = 0 := by
 unfold cls at e
 split at e
 ·assumption
 ·split at e
  ·omega
  ·split at e
   ·omega
   ·split at e <;> omega
theorem zjQ {f : Int} (h : isF f) {a b : Nat} (a4 : cls f a < 4) (b4 : cls f b < 4) (hle : zbC f a ≤ zbC f b) :
  ¬ zal (sv (zae f a) (zo f a)) (wex f a) (sv (zae f b) (zo f b)) (wex f b) > 0 := by
 rw [zg2]
 unfold al
 rw [zgo, zgo]
 intro hc
 have hc := Int.sign_pos_iff.1 hc
 have key : ∀ {x y : Nat}, cls f x < 4 → cls f y < 4 → zo f y * 2 ^ (wex f y - min (wex f x) (wex f y)).toNat < zo f x * 2 ^ (wex f x - min (wex f x) (wex f y)).toNat → y % sg f < x % sg f := by
  intro x y x4 y4 hlt
  have hx0 : zo f x ≠ 0 := fun hz => by rw [hz, Nat.zero_mul] at hlt; omega
  have x1 : cls f x ≠ 1 := fun hz => hx0 (zfg (zg0 hz))
  have hx1 : x % sg f ≠ 0 := fun hz => hx0 (zfg hz)
  by_cases y1 : cls f y = 1
  ·have := zg0 y1; omega
  ·have hm := zlh h y1 y4 x1 x4 (by rw [Int.min_comm]; omega)
   have hne : y % sg f ≠ x % sg f := fun he => by
    obtain ⟨e1, e2⟩ := zmA (f := f) he
    rw [e1, e2] at hlt
    omega
   omega
 have hmin := Int.min_comm (wex f a) (wex f b)
 unfold zbC at hle
 cases sa : zae f a <;> cases sb : zae f b <;> rw [sa, sb] at hc hle <;> simp only [sv, Bool.false_eq_true, if_false, if_true] at hc hle
 ·have := key a4 b4 (by omega); omega
 ·have z1 : a % sg f = 0 := by omega
  have z2 : b % sg f = 0 := by omega
  rw [zfg z1, zfg z2] at hc
  simp at hc
 ·omega
 ·have := key (x := b) (y := a) b4 a4 (by rw [← hmin]; omega); omega
theorem zeQ {f : Int} (h : isF f) : 0 < mo f * 2 ^ fb f ∧ mo f * 2 ^ fb f < sg f := by
 have := zdX h
 have := zh (fb f)
 have := zcV h
 exact ⟨Nat.mul_pos (by omega) (zh _), by omega⟩
theorem zi0 {f : Int} (h : isF f) (s : Bool) : zbC f (mo f * 2 ^ fb f + sgn f s) = if s = true then -((mo f * 2 ^ fb f : Nat) : Int) else ((mo f * 2 ^ fb f : Nat) : Int) := by
 have hi := zeQ h
 unfold zbC
 rw [ziW h hi.2]
 have e : zae f (mo f * 2 ^ fb f + sgn f s) = s := by
  unfold zae sgn
  cases s
  ·rw [if_neg (by simp)]; exact decide_eq_false (by omega)
  ·rw [if_pos rfl]; exact decide_eq_true (by omega)
 rw [e]
theorem zgZ {f : Int} (h : isF f) {w : Nat} (c5 : cls f w ≠ 5) : w % sg f ≤ mo f * 2 ^ fb f ∧ (w % sg f = mo f * 2 ^ fb f ↔ ¬ cls f w < 4) := by
 have hi := zeQ h
 have h2 := zh (fb f)
 have h3 : 2 ^ fb f ≤ mo f * 2 ^ fb f := Nat.le_mul_of_pos_left _ (by have := zcV h; omega)
 unfold cls at c5 ⊢
 split
 ·omega
 ·split
  ·omega
  ·split
   ·omega
   ·split
    ·omega
    ·rename_i a1 a2 a3 a4
     rw [if_neg a1, if_neg a2, if_neg a3, if_neg a4] at c5
     exact absurd rfl c5
theorem zjP {f : Int} (h : isF f) {a b : Nat} (ha : a < 2 * sg f) (hb : b < 2 * sg f) (na : cls f a ≠ 5) (nb : cls f b ≠ 5) (hle : zbC f a ≤ zbC f b) : Ev (fun k => zcP.f k f (a : Int) (b : Int)) false := by
 have hi := zeQ h
 obtain ⟨ta, ta2⟩ := zgZ h na
 obtain ⟨tb, tb2⟩ := zgZ h nb
 have sgn0 : sgn f false = 0 := rfl
 unfold zcP.f
 by_cases c0 : a = b
 ·exact zd (by omega) (Ev.now _)
 refine ze (by omega) (zl (ze5 h false) ?_)
 by_cases c1 : b = mo f * 2 ^ fb f + sgn f false
 ·exact zd (by rw [← c1]) (Ev.now _)
 refine ze (by omega) (zl (ze5 h true) ?_)
 by_cases c2 : a = mo f * 2 ^ fb f + sgn f true
 ·exact zd (by rw [← c2]) (Ev.now _)
 refine ze (by omega) (zl (ze5 h false) ?_)
 have wa := zjp h ha
 have wb := zjp h hb
 have c3 : a ≠ mo f * 2 ^ fb f + sgn f false := by
  intro e
  have e1 := zi0 h false
  rw [← e, if_neg (by simp)] at e1
  rw [e1] at hle
  unfold zbC at hle
  cases sb : zae f b
  ·rw [sb, if_neg (by simp)] at hle
   rw [sb] at wb
   exact c1 (by omega)
  ·rw [sb, if_pos rfl] at hle; omega
 refine ze (by omega) (zl (ze5 h true) ?_)
 have c4 : b ≠ mo f * 2 ^ fb f + sgn f true := by
  intro e
  have e1 := zi0 h true
  rw [← e, if_pos rfl] at e1
  rw [e1] at hle
  unfold zbC at hle
  cases sa : zae f a
  ·rw [sa, if_neg (by simp)] at hle; omega
  ·rw [sa, if_pos rfl] at hle
   rw [sa] at wa
   exact c2 (by omega)
 have fa : cls f a < 4 := by
  apply Int.lt_of_not_ge
  intro hc
  have := ta2.2 (by omega)
  rw [this] at wa
  cases sa : zae f a
  ·rw [sa] at wa; exact c3 wa.symm
  ·rw [sa] at wa; exact c2 wa.symm
 have fb' : cls f b < 4 := by
  apply Int.lt_of_not_ge
  intro hc
  have := tb2.2 (by omega)
  rw [this] at wb
  cases sb : zae f b
  ·rw [sb] at wb; exact c1 wb.symm
  ·rw [sb] at wb; exact c4 wb.symm
 have rg : ∀ w : Nat, Rg (sv (zae f w) (zo f w)) (wex f w) := fun w => by
  have h1 := zgy h w
  have h2 := zjq h w
  have h3 : pr f ≤ 53 := by rcases h with rfl | rfl <;> decide
  exact ⟨by rw [zah]; omega, by omega, by omega⟩
 refine ze (by omega) (Ev.bind (zil h a) (Ev.bind (zil h b) (Ev.bind (zig (rg a) (rg b)) (zg (Ev.now _) ?_))))
 exact decide_eq_false (zjQ h fa fb' hle)
theorem zlU {n n' a b a' b' : Nat} (e : a + b' = a' + b) (h : n * 10 ^ a ≤ n' * 10 ^ b) : n * 10 ^ a' ≤ n' * 10 ^ b' := by
 have h1 : n * 10 ^ a * 10 ^ b' ≤ n' * 10 ^ b * 10 ^ b' := Nat.mul_le_mul_right _ h
 rw [Nat.mul_assoc, ← Nat.pow_add, e, Nat.pow_add, ← Nat.mul_assoc, Nat.mul_right_comm n'] at h1
 exact Nat.le_of_mul_le_mul_right h1 (zbD b)
theorem zfB {f m : Int} (h : isF f) (s : Bool) {n n' : Nat} (hn : n ≠ 0) (hn' : n' ≠ 0) {x x' : Int} {a b : Nat} (hx : (a : Int) - b = x - x') (hle : n * 10 ^ a ≤ n' * 10 ^ b) :
  ∃ c c' : Nat, (zau f m s n x).1 = ((c + sgn f s : Nat) : Int) ∧ (zau f m s n' x').1 = ((c' + sgn f s : Nat) : Int) ∧ c ≤ c' ∧ c' ≤ mo f * 2 ^ fb f := by
 have h1 := zlU (a' := x.toNat + (-x').toNat) (b' := x'.toNat + (-x).toNat) (by omega) hle
 rw [Nat.pow_add, Nat.pow_add, ← Nat.mul_assoc, ← Nat.mul_assoc] at h1
 exact zmu (m := m) h s (Nat.mul_ne_zero hn (Nat.ne_of_gt (zbD _))) (Nat.mul_ne_zero hn' (Nat.ne_of_gt (zbD _))) (zbD _) (zbD _) h1 0
theorem ziZ {f : Int} (h : isF f) (s : Bool) {c : Nat} (hc : c ≤ mo f * 2 ^ fb f) : zbC f (c + sgn f s) = (if s = true then -(c : Int) else (c : Int)) ∧ c + sgn f s < 2 * sg f ∧ cls f (c + sgn f s) ≠ 5 := by
 have hi := zeQ h
 have hm := ziW h (x := c) (by omega) s
 have e : zae f (c + sgn f s) = s := by
  unfold zae sgn
  cases s
  ·rw [if_neg (by simp)]; exact decide_eq_false (by omega)
  ·rw [if_pos rfl]; exact decide_eq_true (by omega)
 refine ⟨?_, ?_, ?_⟩
 ·unfold zbC
  rw [hm, e]
 ·unfold sgn; split <;> omega
 ·unfold cls
  rw [hm]
  split
  ·omega
  ·split
   ·omega
   ·split
    ·omega
    ·split <;> omega
theorem zeE {f m : Int} (h : isF f) (s : Bool) (n : Nat) (x : Int) : ∃ c : Nat, c ≤ mo f * 2 ^ fb f ∧ (zbc f m s n x).1 = ((c + sgn f s : Nat) : Int) ∧ (zbc f m s n x).2.2 = 0 ∧ (n = 0 → c = 0) := by
 unfold zbc
 by_cases c0 : n = 0
 ·rw [if_pos c0]
  exact ⟨0, Nat.zero_le _, by simp, rfl, fun _ => rfl⟩
 ·rw [if_neg c0]
  obtain ⟨c, c', p1, _, p3, p4⟩ := zfB (m := m) h s c0 c0 (x := x) (x' := x) (a := 0) (b := 0) (by omega) (Nat.le_refl _)
  exact ⟨c, by omega, p1, rfl, fun hh => absurd hh c0⟩
theorem zeF {f m : Int} {s : Bool} {n : Nat} (hn : n ≠ 0) (x : Int) : (zbc f m s n x).1 = (zau f m s n x).1 := by unfold zbc; rw [if_neg hn]
theorem zlM {f m : Int} (h : isF f) {s s' : Bool} {n n' : Nat} {x x' : Int} {a b : Nat} (hx : (a : Int) - b = x - x') (hle : sv s n * 10 ^ a ≤ sv s' n' * 10 ^ b) :
  ∃ c c' : Nat, (zbc f m s n x).1 = ((c + sgn f s : Nat) : Int) ∧ (zbc f m s' n' x').1 = ((c' + sgn f s' : Nat) : Int) ∧ c ≤ mo f * 2 ^ fb f ∧ c' ≤ mo f * 2 ^ fb f ∧ (if s = true then -(c : Int) else (c : Int)) ≤ (if s' = true then -(c' : Int) else (c' : Int)) := by
 obtain ⟨c, c1, c2, _, c3⟩ := zeE (m := m) h s n x
 obtain ⟨c', d1, d2, _, d3⟩ := zeE (m := m) h s' n' x'
 have ta := zbD a
 have tb := zbD b
 have ea : ∀ t : Nat, ((t * 10 ^ a : Nat) : Int) = (t : Int) * 10 ^ a := fun t => by push_cast; rfl
 have eb : ∀ t : Nat, ((t * 10 ^ b : Nat) : Int) = (t : Int) * 10 ^ b := fun t => by push_cast; rfl
 refine ⟨c, c', c2, d2, c1, d1, ?_⟩
 cases s <;> cases s' <;> simp only [sv, Bool.false_eq_true, if_false, if_true] at hle ⊢
 ·have hle' : n * 10 ^ a ≤ n' * 10 ^ b := by rw [← ea, ← eb] at hle; omega
  by_cases n0 : n = 0
  ·rw [c3 n0]; omega
  ·have n0' : n' ≠ 0 := fun hz => by
    rw [hz, Nat.zero_mul] at hle'
    have := Nat.mul_pos (Nat.pos_of_ne_zero n0) ta
    omega
   obtain ⟨k, k', p1, p2, p3, _⟩ := zfB (m := m) h false n0 n0' hx hle'
   rw [zeF n0, p1] at c2
   rw [zeF n0', p2] at d2
   omega
 ·have hz : n * 10 ^ a = 0 ∧ n' * 10 ^ b = 0 := by
   rw [Int.neg_mul, ← ea, ← eb] at hle
   omega
  have z1 : n = 0 := by rcases Nat.mul_eq_zero.1 hz.1 with hh | hh <;> omega
  have z2 : n' = 0 := by rcases Nat.mul_eq_zero.1 hz.2 with hh | hh <;> omega
  rw [c3 z1, d3 z2]; simp
 ·omega
 ·have hle' : n' * 10 ^ b ≤ n * 10 ^ a := by rw [Int.neg_mul, Int.neg_mul, ← ea, ← eb] at hle; omega
  by_cases n0 : n' = 0
  ·rw [d3 n0]; omega
  ·have n0' : n ≠ 0 := fun hz => by
    rw [hz, Nat.zero_mul] at hle'
    have := Nat.mul_pos (Nat.pos_of_ne_zero n0) tb
    omega
   obtain ⟨k, k', p1, p2, p3, _⟩ := zfB (m := m) h true n0 n0' (x := x') (x' := x) (by omega) hle'
   rw [zeF n0', p2] at c2
   rw [zeF n0, p1] at d2
   omega
theorem zgM {f m : Int} (h : isF f) {s s' : Bool} {n n' : Nat} {x x' : Int} {a b : Nat} (hx : (a : Int) - b = x - x') (hle : sv s n * 10 ^ a ≤ sv s' n' * 10 ^ b) :
  Ev (fun k => zcP.f k f (zbc f m s n x).1 (zbc f m s' n' x').1) false := by
 obtain ⟨c, c', p1, p2, p3, p4, p5⟩ := zlM (m := m) h hx hle
 obtain ⟨a1, a2, a3⟩ := ziZ h s p3
 obtain ⟨b1, b2, b3⟩ := ziZ h s' p4
 rw [p1, p2]
 exact zjP h a2 b2 a3 b3 (by rw [a1, b1]; exact p5)
theorem ziM (g : Bool) (nm : ByteArray) {n : Nat} (hn : bl n ≤ 1000) {x : Int} (h1 : -60 ≤ x) (h2 : x ≤ 60) : Ev (fun k => zcS.f k g nm (D n) x 60) (mk (sv g n * 10 ^ (x + 60).toNat) 0) := by
 have hl : (D n).length ≤ 100 := zaT (by omega)
 have hf := zcZ g (zG n) (by omega) (e := 0) (by omega) (by omega)
 rw [V_D] at hf
 have ht := zmi (Y := (x + 60).toNat) (by omega)
 have hb := zcX (x + 60).toNat
 have hm := zl5 (za := sv g n) (ea := 0) (zb := ((10 ^ (x + 60).toNat : Nat) : Int)) (eb := 0) ⟨by rw [zah]; omega, by omega, by omega⟩ ⟨by rw [Int.natAbs_natCast]; omega, by omega, by omega⟩
 have e1 : wrap64 (x + 60) = (((x + 60).toNat : Nat) : Int) := by rw [w64 (by omega) (by omega)]; omega
 unfold zcS.f
 rw [e1]
 refine Ev.bind hf (Ev.bind ht (Ev.bind hm (zg (Ev.now _) ?_)))
 rw [Int.add_zero, Int.natCast_pow]; rfl
theorem zir (l : List UInt8) : (zca l).2.1.size ≤ 3 := by
 unfold zca r8S
 split
 ·show (3 : Nat) ≤ 3; decide
 ·split
  ·show (3 : Nat) ≤ 3; decide
  ·split
   ·show (0 : Nat) ≤ 3; decide
   ·show (0 : Nat) ≤ 3; decide
theorem zis {f m : Int} {l : List UInt8} (hl : l.length ≤ 1200) (ok : (zca l).2.2.2.2 = true) (nm : (zca l).2.1 = ⟨#[]⟩) : ∃ y : List UInt8 × Int, zca l = (zT l, ⟨#[]⟩, D (zk y.1 0), y.2, true) ∧ zeG f m l = zbc f m (zT l) (zk y.1 0) y.2 ∧ zk y.1 0 < 10 ^ l.length := by
 unfold zca r8S at ok nm ⊢
 by_cases c1 : l = [110, 97, 110]
 ·rw [if_pos c1] at nm
  exact absurd (congrArg ByteArray.size nm) (show ¬ (3 : Nat) = 0 by decide)
 rw [if_neg c1] at ok nm ⊢
 by_cases c2 : zaO l = [105, 110, 102]
 ·rw [if_pos c2] at nm
  exact absurd (congrArg ByteArray.size nm) (show ¬ (3 : Nat) = 0 by decide)
 rw [if_neg c2] at ok nm ⊢
 cases hr : zbz (zaO l) with
 | none => rw [hr] at ok; cases ok
 | some y =>
  obtain ⟨y1, y2, y3, _⟩ := ziq hr
  have hb : (zaO l).length ≤ l.length := by
   cases l with
   | nil => exact Nat.le_refl _
   | cons c t =>
    by_cases hc : c = 45
    ·subst hc; show t.length ≤ t.length + 1; omega
    ·have : zaO (c :: t) = c :: t := by unfold zaO; split <;> simp_all
     rw [this]; exact Nat.le_refl _
  refine ⟨y, rfl, ?_, ?_⟩
  ·unfold zeG zfA
   rw [if_neg (by omega), if_neg c1, if_neg c2, hr]; rfl
  ·exact Nat.lt_of_lt_of_le (zeN y1) (Nat.pow_le_pow_right (by omega) (by omega))
theorem zjy (f m : Int) (a b : ByteArray) (ha : a.size ≤ 140737488355328) (hb : b.size ≤ 140737488355328) : Ev (fun k => zbv.f k f m a b) true := by
 unfold zbv.f
 obtain ⟨r, hr⟩ := zh9 (s := a) (by omega)
 obtain ⟨r', hr'⟩ := zh9 (s := b) (by omega)
 by_cases hf : fmE f m = 0
 rotate_left
 ·exact Ev.bind hr (Ev.bind hr' (Ev.bind (zku hf []) (zd (by simpa using hf) zbl)))
 obtain ⟨h, hm⟩ := zkM hf
 by_cases la : a.size > 60
 ·exact Ev.bind hr (Ev.bind hr' (Ev.bind (zfC h hm) (ze (by simp) (zd (by omega) zbl))))
 by_cases lb : b.size > 60
 ·exact Ev.bind hr (Ev.bind hr' (Ev.bind (zfC h hm) (ze (by simp) (ze (by omega) (zd (by omega) zbl)))))
 clear hr hr' r r'
 have hr := zia (s := a) (by omega)
 have hr' := zia (s := b) (by omega)
 have na := zir (tl a)
 have nb := zir (tl b)
 have pa := zgE h hm a
 have pb := zgE h hm b
 have va := zis (f := f) (m := m) (l := tl a) (by rw [zc4]; omega)
 have vb := zis (f := f) (m := m) (l := tl b) (by rw [zc4]; omega)
 rw [zc4] at va vb
 generalize zca (tl a) = r at hr na va
 generalize zca (tl b) = r' at hr' nb vb
 obtain ⟨g, nm, mg, ex, ok⟩ := r
 obtain ⟨g', nm', mg', ex', ok'⟩ := r'
 refine Ev.bind hr (Ev.bind hr' (Ev.bind (zfC h hm) (ze (by simp) (ze (by omega) (ze (by omega) ?_)))))
 dsimp only at na nb va vb ⊢
 cases ok with
 | false => exact zd rfl zbl
 | true =>
 cases ok' with
 | false => exact ze (by simp) (zd rfl zbl)
 | true =>
 refine ze (by simp) (ze (by simp) (zd (by omega) ?_))
 by_cases hnm : nm ++ nm' = ⟨#[]⟩
 rotate_left
 ·exact zd hnm zbl
 have hsz := congrArg ByteArray.size hnm
 rw [ByteArray.size_append] at hsz
 have hsz : nm.size + nm'.size = 0 := hsz
 have z1 : nm = ⟨#[]⟩ := ze8.1 (List.length_eq_zero_iff.1 (by rw [zc4]; omega))
 have z2 : nm' = ⟨#[]⟩ := ze8.1 (List.length_eq_zero_iff.1 (by rw [zc4]; omega))
 obtain ⟨y, y1, y2, y3⟩ := va rfl z1
 obtain ⟨y', y1', y2', y3'⟩ := vb rfl z2
 simp only [Prod.mk.injEq] at y1 y1'
 obtain ⟨rfl, rfl, rfl, rfl, _⟩ := y1
 obtain ⟨rfl, rfl, rfl, rfl, _⟩ := y1'
 refine ze (fun hh => hh hnm) ?_
 by_cases x1 : y.2 < -60
 ·exact zd x1 zbl
 refine ze x1 ?_
 by_cases x2 : y.2 > 60
 ·exact zd x2 zbl
 refine ze x2 ?_
 by_cases x3 : y'.2 < -60
 ·exact zd x3 zbl
 refine ze x3 ?_
 by_cases x4 : y'.2 > 60
 ·exact zd x4 zbl
 refine ze x4 ?_
 rw [y2] at pa
 rw [y2'] at pb
 have bn : ∀ {n k : Nat}, n < 10 ^ k → k ≤ 60 → bl n ≤ 1000 := by
  intro n k hn hk
  have h3 := zar (Nat.le_of_lt hn)
  have h5 := zcX k
  omega
 have sa := ziM (zT (tl a)) (⟨#[]⟩ : ByteArray) (bn y3 (by omega)) (x := y.2) (by omega) (by omega)
 have sb := ziM (zT (tl b)) (⟨#[]⟩ : ByteArray) (bn y3' (by omega)) (x := y'.2) (by omega) (by omega)
 obtain ⟨_, _, _, e1, _⟩ := zeE (m := m) h (zT (tl a)) (zk y.1 0) y.2
 obtain ⟨_, _, _, e2, _⟩ := zeE (m := m) h (zT (tl b)) (zk y'.1 0) y'.2
 have rg : ∀ {s : Bool} {n : Nat} {x : Int}, bl n ≤ 1000 → x ≤ 60 → Rg (sv s n * 10 ^ (x + 60).toNat) 0 := by
  intro s n x hn hx
  have e : sv s n * 10 ^ (x + 60).toNat = sv s (n * 10 ^ (x + 60).toNat) := by
   unfold sv
   split
   ·push_cast; rw [Int.neg_mul]
   ·push_cast; rfl
  have h3 := zft n (10 ^ (x + 60).toNat)
  have h5 := zcX (x + 60).toNat
  exact ⟨by rw [e, zah]; omega, by omega, by omega⟩
 have hc := zig (rg (s := zT (tl a)) (x := y.2) (bn y3 (by omega)) (by omega)) (rg (s := zT (tl b)) (x := y'.2) (bn y3' (by omega)) (by omega))
 rw [zkb] at hc
 refine Ev.bind pa (Ev.bind pb (ze (by rw [e1]; simp) (ze (by rw [e2]; simp) (Ev.bind sa (Ev.bind sb (Ev.bind hc ?_))))))
 by_cases cc : (sv (zT (tl a)) (zk y.1 0) * 10 ^ (y.2 + 60).toNat - sv (zT (tl b)) (zk y'.1 0) * 10 ^ (y'.2 + 60).toNat).sign > 0
 ·have hgt := Int.sign_pos_iff.1 cc
  refine zd cc ?_
  refine zf ?_; simp only [zbv.j4]
  exact Ev.bind (zgM (m := m) h (a := (y'.2 + 60).toNat) (b := (y.2 + 60).toNat) (by omega) (by omega)) (zd rfl zbl)
 ·have hle : ¬ 0 < (sv (zT (tl a)) (zk y.1 0) * 10 ^ (y.2 + 60).toNat - sv (zT (tl b)) (zk y'.1 0) * 10 ^ (y'.2 + 60).toNat) := fun hh => cc (Int.sign_pos_iff.2 hh)
  refine ze cc ?_
  refine zf ?_; simp only [zbv.j4]
  exact Ev.bind (zgM (m := m) h (a := (y.2 + 60).toNat) (b := (y'.2 + 60).toNat) (by omega) (by omega)) (zd rfl zbl)
end Go.Proofs.YtnkpmjhlkmlmbaaGreatDoor.Eng.K
