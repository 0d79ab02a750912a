import Derived.Test.YtnkpmjhlkmlmbaaGreatDoorQDeciTakenK1
import Derived.KernelRfl
import Derived.Lib.Atoi
set_option linter.unusedVariables false
set_option linter.unusedSimpArgs false
namespace Go.Proofs.YtnkpmjhlkmlmbaaGreatDoor.Eng.K
open Go.RowKit Go.Proofs Go.Proofs.YtnkpmjhlkmlmbaaGreatDoor.Eng
set_option maxRecDepth 100000
def zer : Nat → Nat → List UInt8
 | 0, _ => []
 | k + 1, n => (if n < 10 then [] else zer k (n / 10)) ++ [UInt8.ofNat (48 + n % 10)]
def dtx (n : Nat) : List UInt8 := zer 6 n
def etx (e : Int) : List UInt8 := (if e < 0 then [45] else []) ++ dtx e.natAbs
def zdU (o : Option ByteArray) (l : List UInt8) : Bool := match o with | some t => tl t == l | none => false
theorem zna {g : Nat → Option ByteArray} {l : List UInt8} {n : Nat} (h : ∀ k, zdU (g (k + n)) l = true) : ∃ t, Ev g t ∧ tl t = l := by
 have h0 := h 0
 unfold zdU at h0
 split at h0
 ·rename_i t ht
  have e0 : tl t = l := by simpa using h0
  refine ⟨t, ⟨n, fun k hk => ?_⟩, e0⟩
  have h1 := h (k - n)
  rw [Nat.sub_add_cancel hk] at h1
  unfold zdU at h1
  split at h1
  ·rename_i u hu
   have e1 : tl u = l := by simpa using h1
   rw [hu, zbm.1 (e1.trans e0.symm)]
  ·cases h1
 ·cases h0
def zcm (a : Int) (k : Nat) : Bool := (List.range 275).all (fun i => zdU (zct.f (k + 40) (a + (i : Int))) (etx (a + (i : Int))))
theorem znb (k : Nat) : zcm (-1100) k = true := by kernel_rfl
theorem znc (k : Nat) : zcm (-825) k = true := by kernel_rfl
theorem znd (k : Nat) : zcm (-550) k = true := by kernel_rfl
theorem zne (k : Nat) : zcm (-275) k = true := by kernel_rfl
theorem znf (k : Nat) : zcm (0) k = true := by kernel_rfl
theorem zng (k : Nat) : zcm (275) k = true := by kernel_rfl
theorem znh (k : Nat) : zcm (550) k = true := by kernel_rfl
theorem zni (k : Nat) : zcm (825) k = true := by kernel_rfl
theorem znj (k : Nat) {e : Int} (h1 : -1100 ≤ e) (h2 : e < 1100) : zdU (zct.f (k + 40) e) (etx e) = true := by
 have go : ∀ a, zcm a k = true → a ≤ e → e < a + 275 → zdU (zct.f (k + 40) e) (etx e) = true := by
  intro a h h3 h4
  have h := List.all_eq_true.1 h (e - a).toNat (List.mem_range.2 (by omega))
  have he : a + (((e - a).toNat : Nat) : Int) = e := by omega
  rw [he] at h
  exact h
 by_cases c0 : e < -825
 ·exact go _ (znb k) (by omega) (by omega)
 by_cases c1 : e < -550
 ·exact go _ (znc k) (by omega) (by omega)
 by_cases c2 : e < -275
 ·exact go _ (znd k) (by omega) (by omega)
 by_cases c3 : e < 0
 ·exact go _ (zne k) (by omega) (by omega)
 by_cases c4 : e < 275
 ·exact go _ (znf k) (by omega) (by omega)
 by_cases c5 : e < 550
 ·exact go _ (zng k) (by omega) (by omega)
 by_cases c6 : e < 825
 ·exact go _ (znh k) (by omega) (by omega)
 exact go _ (zni k) (by omega) (by omega)
theorem zmN : (List.range 2200).all (fun i => zas (etx ((i : Int) - 1100)) && decide (zbX (etx ((i : Int) - 1100)) = (i : Int) - 1100)) = true := by decide +kernel
theorem zln {e : Int} (h1 : -1100 ≤ e) (h2 : e < 1100) : ∃ t, Ev (fun k => zct.f k e) t ∧ tl t = etx e := by
 refine zna (n := 40) fun k => ?_
 exact znj k h1 h2
theorem zmI {e : Int} (h1 : -1100 ≤ e) (h2 : e < 1100) : zas (etx e) = true ∧ zbX (etx e) = e := by
 have h := List.all_eq_true.1 zmN (e + 1100).toNat (List.mem_range.2 (by omega))
 have he : (((e + 1100).toNat : Nat) : Int) - 1100 = e := by omega
 rw [he, Bool.and_eq_true, decide_eq_true_eq] at h
 exact h
theorem zkb (b : UInt8) : ∀ n, Lib.repeatL [b] n = List.replicate n b
 | 0 => rfl
 | n + 1 => by rw [Lib.repeatL, zkb b n]; rfl
def sgT (s : Bool) : List UInt8 := if s = true then [45] else []
theorem zhf (s : Bool) : (sgT s).length ≤ 1 := by unfold sgT; split <;> simp
structure Pr (f : Int) (w : Nat) : Prop where
 my : My (wv f w).1 (wv f w).2.1 (wv f w).2.2
 ne : V (wv f w).2.1 ≠ 0
 b : bl (V (wv f w).2.1) ≤ 53
 lo : -1074 ≤ (wv f w).2.2
 hi : (wv f w).2.2 + (bl (V (wv f w).2.1) : Nat) ≤ 1024
 s : (wv f w).1 = zj f w
theorem zoo {f : Int} (h : isF f) {w : Nat} (c1 : cls f w ≠ 1) (c4 : cls f w < 4) : Pr f w := by
 have W := zlh h c1 c4
 have hb := zqd h W c4
 have hpr : pr f ≤ 53 := by rcases h with rfl | rfl <;> decide
 have hWb := W.b
 have hft := zgz h c4
 have hwd : wd f ≤ 1024 := by rcases h with rfl | rfl <;> decide
 have hlo := zbg h
 have hWlo := W.lo
 have hWhi := W.hi
 refine ⟨⟨W.dy, ?_, by omega, by omega⟩, W.ne, by omega, by omega, by omega, W.s⟩
 have hl := W.dy.nm.len
 have h2 : V (wv f w).2.1 < 4294967296 ^ 2 := Nat.lt_of_lt_of_le (zR _) (Nat.le_trans (Nat.pow_le_pow_right (by omega) (by omega : bl (V (wv f w).2.1) ≤ 64)) (by decide))
 have h3 := zbq h2
 omega
theorem ziO {α : Type} {g : Nat → Option α} {r : α} {n : Nat} (h : ∀ k, g (k + n) = some r) : Ev g r := ⟨n, fun k hk => by have := h (k - n); rwa [Nat.sub_add_cancel hk] at this⟩
theorem znY {s : Bool} {x : UInt8} {r : List UInt8} (hx : x ≠ 45) : zcp (sgT s ++ x :: r) = s ∧ zce (sgT s ++ x :: r) = x :: r := by
 unfold sgT
 cases s with
 | true => exact ⟨rfl, rfl⟩
 | false =>
  simp only [Bool.false_eq_true, if_false, List.nil_append]
  constructor
  ·unfold zcp; split
   ·rename_i h; exact absurd (List.cons.inj h).1 hx
   ·rfl
  ·unfold zce; split
   ·rename_i h; exact absurd (List.cons.inj h).1 hx
   ·rfl
theorem zn0 {s : Bool} {x : UInt8} {r : List UInt8} (hx : x ≠ 110) : ¬ sgT s ++ x :: r = [110, 97, 110] := by
 unfold sgT
 cases s with
 | true => intro h; exact absurd (List.cons.inj h).1 (by decide)
 | false => intro h; exact absurd (List.cons.inj h).1 hx
theorem ziN (e : Int) : (etx e).length ≤ 7 := by
 have : ∀ k n, (zer k n).length ≤ k := by
  intro k
  induction k with
  | zero => intro n; simp [zer]
  | succ k ih => intro n; unfold zer; have := ih (n / 10); split <;> simp; omega
 unfold etx dtx
 have := this 6 e.natAbs
 split <;> simp <;> omega
theorem zoX {f m : Int} (h : isF f) {w : Nat} (hw : w < 2 * sg f) (c1 : cls f w ≠ 1) (c4 : cls f w < 4) : zq f m (wv f w).1 (V (wv f w).2.1) (wv f w).2.2 = ((w : Int), 0) := by
 have hn := zdK h c1 c4
 obtain ⟨a1, a2, a3⟩ := zdy (s := zj f w) hn
 obtain ⟨b1, b2, b3⟩ := zlf h c1 c4
 have e := zoU f m a3 (wex f w)
 have hwv : mk (sv (zj f w) (zm f w)) (wex f w) = wv f w := rfl
 rw [hwv, a1, a2, zke h (zj f w) hn b1 b2 b3, ziM h c1 c4, zhz h hw] at e
 exact e
theorem ziF (l : List UInt8) (n : Nat) : zh l n = n * 10 ^ l.length + zh l 0 := by
 induction l generalizing n with
 | nil => simp [zh]
 | cons a l ih =>
  have h : ∀ m, zh (a :: l) m = zh l (10 * m + (a.toNat - 48)) := fun m => rfl
  rw [h, h, ih, ih (10 * 0 + _), List.length_cons, Nat.pow_succ]
  grind
open Go.RowKit Go.Proofs.YtnkpmjhlkmlmbaaGreatDoor.Eng
theorem zlZ (xs : List Int) (h : ∀ x ∈ xs, 0 ≤ x ∧ x < 256) : qcB (qfL xs) = xs := by
 show (xs.map fun n : Int => UInt8.ofNat n.toNat).map (fun b : UInt8 => (b.toNat : Int)) = xs
 rw [List.map_map]
 have e : xs.map ((fun b : UInt8 => (b.toNat : Int)) ∘ fun n : Int => UInt8.ofNat n.toNat) = xs.map id := by
  apply List.map_congr_left
  intro x hx
  have := h x hx
  simp
  omega
 rw [e, List.map_id]
def dcl (n : Nat) : List Int := if h : n = 0 then [] else (48 + (n % 10 : Nat) : Int) :: dcl (n / 10)
termination_by n
decreasing_by omega
theorem zbD : dcl 0 = [] := by unfold dcl; simp
theorem zdg {n : Nat} (h : n ≠ 0) : dcl n = (48 + (n % 10 : Nat) : Int) :: dcl (n / 10) := by
 conv => lhs; unfold dcl
 simp [h]
def pd : Nat → Nat → List Int
 | 0, _ => []
 | j + 1, n => (48 + (n % 10 : Nat) : Int) :: pd j (n / 10)
theorem zjO : ∀ (j n : Nat), n < 10 ^ j → ∃ m, pd j n = dcl n ++ List.replicate m 48
  | 0, n, h => ⟨0, by have : n = 0 := by simpa using h
                      subst this; simp [pd, zbD]⟩
  | j + 1, n, h => by
    obtain ⟨m, hm⟩ := zjO j (n / 10) (by rw [Nat.pow_succ] at h; omega)
    by_cases h0 : n = 0
    · subst h0
      refine ⟨m + 1, ?_⟩
      have h1 : dcl (0 / 10) = [] := zbD
      rw [h1] at hm
      rw [pd, hm, zbD]; simp [List.replicate_succ]
    · exact ⟨m, by rw [pd, hm, zdg h0]; simp⟩
theorem zjN : ∀ (j n : Nat), n / 10 ^ j ≠ 0 → pd j (n % 10 ^ j) ++ dcl (n / 10 ^ j) = dcl n
 | 0, n, h => by simp [pd]
 | j + 1, n, h => by
  have e1 : n / 10 ^ (j + 1) = n / 10 / 10 ^ j := by rw [Nat.pow_succ, Nat.mul_comm, Nat.div_div_eq_div_mul]
  have e2 : n % 10 ^ (j + 1) % 10 = n % 10 := Nat.mod_mod_of_dvd _ ⟨10 ^ j, by rw [Nat.pow_succ, Nat.mul_comm]⟩
  have e3 : n % 10 ^ (j + 1) / 10 = n / 10 % 10 ^ j := by
   rw [Nat.pow_succ, Nat.mul_comm, Nat.mod_mul_right_div_self]
  have h0 : n ≠ 0 := by rintro rfl; simp at h
  rw [pd, e2, e3, e1, zdg h0, List.cons_append, zjN j (n / 10) (by rw [← e1]; exact h)]
theorem zmc : ∀ (n : Nat), ∀ x ∈ dcl n, 48 ≤ x ∧ x ≤ 57 := by
 intro n
 induction n using Nat.strongRecOn with
 | _ n ih =>
  intro x hx
  by_cases h : n = 0
  ·subst h; rw [zbD] at hx; simp at hx
  ·rw [zdg h] at hx
   rcases List.mem_cons.1 hx with rfl | hx
   ·omega
   ·exact ih _ (by omega) x hx
theorem zmb : ∀ (n : Nat), n ≠ 0 → ∃ l d, dcl n = l ++ [d] ∧ 48 < d ∧ d ≤ 57 := by
 intro n
 induction n using Nat.strongRecOn with
 | _ n ih =>
  intro h
  rw [zdg h]
  by_cases h1 : n / 10 = 0
  ·exact ⟨[], 48 + (n % 10 : Nat), by rw [h1, zbD]; simp, by omega, by omega⟩
  ·obtain ⟨l, d, e, hd⟩ := ih (n / 10) (by omega) h1
   exact ⟨_ :: l, d, by rw [e]; rfl, hd⟩
theorem zim : ∀ (j n : Nat), n < 10 ^ j → (dcl n).length ≤ j
  | 0, n, h => by have : n = 0 := by simpa using h
                  subst this; simp [zbD]
  | j + 1, n, h => by
    by_cases h0 : n = 0
    · subst h0; simp [zbD]
    · rw [zdg h0]
      have := zim j (n / 10) (by rw [Nat.pow_succ] at h; omega)
      simp; omega
def txt (n : Nat) : List Int := if n = 0 then [48] else (dcl n).reverse
theorem zk2 (n : Nat) : ∀ x ∈ txt n, 48 ≤ x ∧ x ≤ 57 := by
 intro x hx
 unfold txt at hx
 split at hx
 ·simp at hx; omega
 ·exact zmc n x (by simpa using hx)
theorem zgW : ∀ (j n : Nat), (pd j n).length = j
 | 0, _ => rfl
 | j + 1, n => by simp [pd, zgW j]
theorem zpq {n : Int} (h : 0 ≤ n ∧ n < 4294967296) : (Int.tdiv n 10) % 4294967296 = n / 10 := by
 rw [Int.tdiv_eq_ediv_of_nonneg h.1]; omega
theorem zpv {n : Int} (h : 0 ≤ n) : Int.tmod n 10 = n % 10 := Int.tmod_eq_emod_of_nonneg h
theorem zhZ {n : Nat} (h : n ≠ 0) : bl (n / 1000000000) + 1 ≤ bl n := by
 rw [zh1 h]
 have : n / 1000000000 ≤ n / 2 := by omega
 have := zaB this
 omega
def zbS (n : Nat) : List Int := if h : n = 0 then [] else pd 9 (n % 1000000000) ++ zbS (n / 1000000000)
termination_by n
decreasing_by omega
theorem zfh : zbS 0 = [] := by unfold zbS; simp
theorem zgf {n : Nat} (h : n ≠ 0) : zbS n = pd 9 (n % 1000000000) ++ zbS (n / 1000000000) := by
 conv => lhs; unfold zbS
 simp [h]
theorem zl4 : ∀ (n : Nat), ∃ m, zbS n = dcl n ++ List.replicate m 48 := by
 intro n
 induction n using Nat.strongRecOn with
 | _ n ih =>
  by_cases h : n = 0
  ·exact ⟨0, by subst h; rw [zfh, zbD]; rfl⟩
  ·rw [zgf h]
   by_cases h1 : n / 1000000000 = 0
   ·rw [h1, zfh, List.append_nil, Nat.mod_eq_of_lt (by omega)]
    exact zjO 9 n (by omega)
   ·obtain ⟨m, hm⟩ := ih (n / 1000000000) (by omega)
    refine ⟨m, ?_⟩
    have := zjN 9 n h1
    rw [hm, ← List.append_assoc]
    exact congrArg (· ++ List.replicate m 48) this
theorem zkN (q : List Int) {res : ByteArray × Int} : ∀ (j : Nat) (low : List Int) (r : Int), j ≤ 9 → 0 ≤ r ∧ r < 4294967296 → low.length + j < 1000000000000 → Ev (fun k => zv.l0 k q (low ++ pd j r.toNat)) res → Ev (fun k => zv.l1 k q low r ((9 - j : Nat) : Int)) res
 | 0, low, r, hj, hr, hl, H => by
  refine zf ?_
  simp only [zv.l1]
  refine ze (by omega) ?_
  simpa [pd] using H
 | j + 1, low, r, hj, hr, hl, H => by
  have e : wrap64 (((9 - (j + 1) : Nat) : Int) + 1) = ((9 - j : Nat) : Int) := by unfold wrap64; omega
  have e2 : (48 + Int.tmod r 10) % 4294967296 % 256 = 48 + ((r.toNat % 10 : Nat) : Int) := by rw [zpv hr.1]; omega
  refine zf ?_
  simp only [zv.l1, e, e2, zpq hr]
  clear e e2
  refine zd (by omega) (zd (by simp; omega) ?_)
  have hr10 : 0 ≤ r / 10 ∧ r / 10 < 4294967296 := by omega
  refine zkN q j _ _ (by omega) hr10 (by simp; omega) ?_
  have e3 : (r / 10).toNat = r.toNat / 10 := by omega
  rw [e3]
  simpa [pd] using H
theorem zps {res : ByteArray × Int} : ∀ (n : Nat) (low : List Int), low.length + 9 * bl n < 100000000000 → (D n).length < 1000000000 → Ev (fun k => zv.l2 k (low ++ zbS n)) res → Ev (fun k => zv.l0 k (D n) low) res := by
 intro n
 induction n using Nat.strongRecOn with
 | _ n ih =>
  intro low hl hd H
  refine zf ?_
  simp only [zv.l0]
  by_cases h : n = 0
  ·subst h
   rw [zfh, List.append_nil] at H
   refine ze ?_ H
   rw [zI]; simp
  ·refine zd ?_ ?_
   ·rw [zc5 h]; simp
   ·refine Ev.bind (zjy (zao n) hd (by omega)) ?_
    rw [V_D]
    have hb := zhZ h
    have hle : n / 1000000000 ≤ n := Nat.div_le_self _ _
    have hdl := zc4 hle
    have hm9 : 0 ≤ ((n % (1000000000 : Int).toNat : Nat) : Int) ∧ ((n % (1000000000 : Int).toNat : Nat) : Int) < 4294967296 := by
     rw [show (1000000000 : Int).toNat = 1000000000 from rfl]; omega
    refine zkN _ 9 low _ (by omega) hm9 (by omega) ?_
    refine ih (n / 1000000000) (by omega) _ ?_ (by omega) ?_
    ·rw [List.length_append, zgW]; omega
    ·rw [zgf h, ← List.append_assoc] at H
     exact H
theorem zpt : ∀ (m : Nat) (p s q : List Int), s.length = m → (p ++ s ++ q).length < 1000000000000 → Ev (fun k => zv.l3 k (p ++ s ++ q) p.length (((p.length + s.length : Nat) : Int) - 1)) (qfL (p ++ s.reverse ++ q), 0) := by
 intro m
 induction m using Nat.strongRecOn with
 | _ m ih =>
  intro p s q hs hl
  have hl2 : p.length + s.length + q.length < 1000000000000 := by simpa [Nat.add_assoc] using hl
  refine zf ?_
  simp only [zv.l3]
  match s, hs with
  | [], hs => exact ze (by simp; omega) (Ev.now _)
  | [x], hs => exact ze (by simp) (Ev.now _)
  | x :: y :: t, hs =>
   obtain ⟨u, z, hu⟩ : ∃ u z, y :: t = u ++ [z] := by
    rcases List.eq_nil_or_concat (y :: t) with h | ⟨u, z, h⟩
    ·simp at h
    ·exact ⟨u, z, by rw [h, List.concat_eq_append]⟩
   rw [hu] at hs hl2 ⊢
   have hul : u.length + 2 = m := by simpa using hs
   have hlen : (x :: (u ++ [z])).length = u.length + 2 := by simp
   rw [hlen] at hl2 ⊢
   have e0 : ((p.length + (u.length + 2) : Nat) : Int) - 1 = ((p.length + 1 + u.length : Nat) : Int) := by omega
   rw [e0]
   have hL : (p ++ x :: (u ++ [z]) ++ q).length = p.length + u.length + 2 + q.length := by simp; omega
   rw [hL]
   have r1 : rd (p ++ x :: (u ++ [z]) ++ q) ((p.length : Nat) : Int) = x := by
    rw [List.append_assoc, List.cons_append]; exact zP rfl
   have r2 : rd (p ++ x :: (u ++ [z]) ++ q) ((p.length + 1 + u.length : Nat) : Int) = z := by
    have : p ++ x :: (u ++ [z]) ++ q = (p ++ x :: u) ++ z :: q := by simp
    rw [this]; exact zP (by simp; omega)
   have s1 : (p ++ x :: (u ++ [z]) ++ q).set ((p.length : Nat) : Int).toNat z = p ++ z :: (u ++ [z]) ++ q := by
    rw [List.append_assoc, List.cons_append, zbi rfl]; simp
   have s2 : (p ++ z :: (u ++ [z]) ++ q).set ((p.length + 1 + u.length : Nat) : Int).toNat x = (p ++ [z]) ++ u ++ (x :: q) := by
    have : p ++ z :: (u ++ [z]) ++ q = (p ++ z :: u) ++ z :: q := by simp
    rw [this, zbi (by simp; omega)]; simp
   rw [r1, r2, s1, s2, z8 (n := p.length) (by omega), zbN (by omega)]
   refine zd (by omega) (zd (by omega) (zd (by omega) (zd (by omega) (zd (by omega) (zd (by omega) (zd (by omega) (zd (by omega) (zd (by simp; omega) ?_))))))))
   have := ih u.length (by omega) (p ++ [z]) u (x :: q) rfl (by simp; omega)
   rw [List.length_append, List.length_singleton] at this
   have e1 : ((p.length + 1 + u.length : Nat) : Int) - 1 = ((p.length + 1 + u.length : Nat) : Int) - 1 := rfl
   refine zg this ?_
   simp
theorem zkO {l : List Int} {d : Int} (hd : 48 < d) : ∀ (m : Nat), (l ++ [d]).length + m < 1000000000000 → Ev (fun k => zv.l2 k (l ++ [d] ++ List.replicate m 48)) (qfL (l ++ [d]).reverse, 0)
 | 0, hl => by
  simp only [List.replicate_zero, List.append_nil]
  have e : wrap64 (((l ++ [d]).length : Int) - 1) = (((l ++ [d]).length : Nat) : Int) - 1 := zbN (by omega)
  refine zf ?_
  simp only [zv.l2, e]
  clear e
  have hl1 : (l ++ [d]).length = l.length + 1 := by simp
  have hr : rd (l ++ [d]) (((l ++ [d]).length : Int) - 1) = d := zP (by omega)
  refine zd (by omega) (zd (by omega) (ze (by rw [hr]; omega) ?_))
  have := zpt _ [] (l ++ [d]) [] rfl (by simp; omega)
  simpa using this
 | m + 1, hl => by
  rw [List.replicate_succ', ← List.append_assoc]
  have hX : ((l ++ [d]) ++ List.replicate m 48).length = (l ++ [d]).length + m := by rw [List.length_append, List.length_replicate]
  generalize hx : (l ++ [d]) ++ List.replicate m 48 = X at hX
  have hXl : (X ++ [48]).length = X.length + 1 := by simp
  have e : wrap64 (((X ++ [48]).length : Int) - 1) = (X.length : Int) := by rw [hXl]; exact zhy (by omega)
  refine zf ?_
  simp only [zv.l2, e]
  clear e
  refine zd (by omega) (zd (by omega) (zd (zP rfl) (zd (by omega) (zd (by omega) ?_))))
  have ht : (X ++ [(48 : Int)]).take ((X.length : Int)).toNat = X := by simp
  rw [ht, ← hx]
  exact zkO hd m (by omega)
theorem zjv {a : List Int} (h : Nm a) (hl : a.length ≤ 4096) : Ev (fun k => zv.f k a) (qfL (txt (V a)), 0) := by
 unfold zv.f
 refine zk (zcn h.dg (by omega)) (ze (by rw [zbI.2 ⟨hl, h⟩]; simp) ?_)
 by_cases c : a.length = 0
 ·have : a = [] := List.eq_nil_of_length_eq_zero c
  subst this
  exact zd (by simp) (Ev.now _)
 ·refine ze (by omega) ?_
  have hne : a ≠ [] := fun e => c (by rw [e]; rfl)
  have h0 := zhO h hne
  have hb := zcc h.dg
  obtain ⟨l, d, e, hd⟩ := zmb (V a) h0
  obtain ⟨m, hm⟩ := zl4 (V a)
  have hml : (zbS (V a)).length < 100000000000 := by
   have : ∀ n, (zbS n).length ≤ 9 * bl n := by
    intro n
    induction n using Nat.strongRecOn with
    | _ n ih =>
     by_cases h : n = 0
     ·subst h; rw [zfh]; simp
     ·rw [zgf h, List.length_append, zgW]
      have := ih (n / 1000000000) (by omega)
      have := zhZ h
      omega
   have := this (V a)
   omega
  have key := zps (res := (qfL (txt (V a)), 0)) (V a) [] (by simp; omega) (by rw [h]; omega) ?_
  ·rwa [h] at key
  ·rw [List.nil_append, hm, e]
   have ht : txt (V a) = (l ++ [d]).reverse := by unfold txt; rw [if_neg h0, e]
   rw [ht]
   refine zkO hd.1 m ?_
   rw [hm, e, List.length_append, List.length_replicate] at hml
   omega
def pvA : Nat → List Int → Nat
 | a, [] => a
 | a, c :: l => pvA (10 * a + (c - 48).toNat) l
theorem zgZ : ∀ (l : List Int) (a : Nat), pvA a l = a * 10 ^ l.length + pvA 0 l
 | [], a => by simp [pvA]
 | c :: l, a => by
  rw [pvA, pvA, zgZ l (10 * a + (c - 48).toNat), zgZ l (10 * 0 + (c - 48).toNat), List.length_cons, Nat.pow_succ]
  grind
theorem zop (l m : List Int) (a : Nat) : pvA a (l ++ m) = pvA (pvA a l) m := by
 induction l generalizing a with
 | nil => rfl
 | cons c l ih => simp [pvA, ih]
def pv (l : List Int) : Nat := pvA 0 l
theorem zd0 (l m : List Int) : pv (l ++ m) = pv l * 10 ^ m.length + pv m := by
 unfold pv; rw [zop, zgZ]
theorem zjT (l : List Int) (c : Int) : pv (l ++ [c]) = 10 * pv l + (c - 48).toNat := by
 rw [zd0]; simp [pv, pvA]; omega
def zbf (l : List Int) : Prop := ∀ x ∈ l, 48 ≤ x ∧ x ≤ 57
instance (l : List Int) : Decidable (zbf l) := inferInstanceAs (Decidable (∀ x ∈ l, 48 ≤ x ∧ x ≤ 57))
theorem zjS {l : List Int} (h : zbf l) : pv l < 10 ^ l.length := by
 induction l with
 | nil => simp [pv, pvA]
 | cons c l ih =>
  have h1 := h c (by simp)
  have h2 := ih (fun x hx => h x (by simp [hx]))
  have e : pv (c :: l) = (c - 48).toNat * 10 ^ l.length + pv l := by
   have := zd0 [c] l
   simpa [pv, pvA] using this
  rw [e, List.length_cons, Nat.pow_succ]
  have h3 : (c - 48).toNat * 10 ^ l.length ≤ 9 * 10 ^ l.length := Nat.mul_le_mul_right _ (by omega)
  omega
theorem zos (l : List Int) (n : Nat) : pv (l.take n) ≤ pv l := by
 have h := zd0 (l.take n) (l.drop n)
 rw [List.take_append_drop] at h
 have : pv (l.take n) * 1 ≤ pv (l.take n) * 10 ^ (l.drop n).length := Nat.mul_le_mul_left _ (Nat.one_le_pow _ _ (by omega))
 omega
def isT (l : List Int) : Bool := decide (zbf l) && (decide (l.length = 1) || decide (1 < l.length) && decide (l.getD 0 0 ≠ 48))
theorem zlp {l : List Int} (h : Dg l) (k : l = [] ∨ 4294967296 ^ (l.length - 1) ≤ V l) : Nm l := by
 rw [zf2 h]
 rcases k with k | k
 ·exact .inl k
 ·by_cases e : l = []
  ·exact .inl e
  ·right
   intro h0
   have hl : l.length ≠ 0 := fun e' => e (List.eq_nil_of_length_eq_zero e')
   have h1 := ze8 (l := l) (n := l.length - 1) (by omega)
   rw [Nat.sub_add_cancel (by omega), List.take_length, h0] at h1
   have h2 := zeh h (n := l.length - 1) (by omega)
   simp at h1
   omega
def zak : List Int → Nat → Nat → List Int
 | [], _, c => if c = 0 then [] else [((c : Nat) : Int)]
 | x :: l, t, c => (((x.toNat * t + c) % 4294967296 : Nat) : Int) :: zak l t ((x.toNat * t + c) / 4294967296)
theorem zjk {x t c : Nat} (hx : x < 4294967296) (hc : c < t) : (x * t + c) / 4294967296 < t := by
 apply (Nat.div_lt_iff_lt_mul (by omega)).2
 have h1 : x * t ≤ 4294967295 * t := Nat.mul_le_mul_right _ (by omega)
 omega
theorem znD {l : List Int} (h : Dg l) {t c : Nat} (hc : c < t) (ht : t < 4294967296) : V (zak l t c) = V l * t + c ∧ Dg (zak l t c) := by
 induction l generalizing c with
 | nil =>
  unfold zak
  split
  ·subst c; exact ⟨by simp, Dg.nil⟩
  ·exact ⟨by simp, Dg.cons (by omega) (by omega) Dg.nil⟩
 | cons x l ih =>
  have hx := h.head
  have hb := zjk (x := x.toNat) (by omega) hc
  have := ih h.tail hb
  refine ⟨?_, Dg.cons (by omega) (by omega) this.2⟩
  rw [zak, zu, this.1, zu, Nat.add_mul, Nat.mul_add, Nat.mul_assoc]
  generalize x.toNat * t = p
  generalize V l * t = q
  rw [Int.toNat_natCast]
  omega
theorem znC {n t c : Nat} (hc : c < t) (ht : t < 4294967296) : zak (D n) t c = D (n * t + c) := by
 have h := znD (zao n) hc ht
 rw [V_D] at h
 have hlen : ∀ (l : List Int) (c : Nat), zak l t c = [] ∨ (zak l t c).length = l.length ∨ ∃ m d, zak l t c = m ++ [d] ∧ d ≠ 0 := by
  intro l
  induction l with
  | nil =>
   intro c
   unfold zak
   split
   ·exact .inl rfl
   ·exact .inr (.inr ⟨[], _, rfl, by omega⟩)
  | cons x l ih =>
   intro c
   rw [zak]
   rcases ih ((x.toNat * t + c) / 4294967296) with h | h | ⟨m, d, h, hd⟩
   ·rw [h]
    cases l with
    | nil => exact .inr (.inl rfl)
    | cons y l => simp [zak] at h
   ·exact .inr (.inl (by simp [h]))
   ·exact .inr (.inr ⟨_ :: m, d, by rw [h]; rfl, hd⟩)
 have key : Nm (zak (D n) t c) := by
  rcases hlen (D n) c with e | e | ⟨m, d, e, hd⟩
  ·rw [e]; exact zc6
  ·by_cases hn : n = 0
   ·subst hn
    rw [zI] at e
    have e2 : zak (D 0) t c = [] := by rw [zI]; exact List.eq_nil_of_length_eq_zero e
    rw [e2]; exact zc6
   ·apply zlp h.2
    right
    rw [e, h.1]
    have := zfX hn
    have h2 : n * 1 ≤ n * t := Nat.mul_le_mul_left _ (by omega)
    omega
  ·have hg := h.2
   rw [e] at hg ⊢
   have := hg d (by simp)
   exact zef hg.left (by omega) this.2
 rw [← key, h.1]
theorem uu {x t c : Int} (hx : 0 ≤ x ∧ x < 4294967296) (ht : 0 ≤ t ∧ t < 4294967296) (hc : 0 ≤ c ∧ c < 4294967296) : IntKind.u64.wrap (c + IntKind.u64.wrap (IntKind.u64.wrap x * t)) = x * t + c := by
 have hp := zgK hx ht
 rw [u64 hx.1 (by omega), u64 hp.1 (by omega), u64 (by omega) (by omega)]; omega
theorem znW (x : Int) (t c : Nat) (hx : 0 ≤ x) : x * (t : Int) + (c : Int) = ((x.toNat * t + c : Nat) : Int) := by
 obtain ⟨X, rfl⟩ := Int.eq_ofNat_of_zero_le hx
 simp
theorem nd (a : Nat) : ((a : Nat) : Int) % 4294967296 = ((a % 4294967296 : Nat) : Int) ∧ ((a : Nat) : Int) / 4294967296 = ((a / 4294967296 : Nat) : Int) := by omega
section
variable (s : ByteArray)
theorem zjJ (at' t : Nat) (ht : t < 4294967296) {res : List Int × Int} (full : List Int) (hf : full.length < 1000000000) : ∀ (l done : List Int) (c : Nat), c < t → Dg l → done.length + l.length < 1000000000 → full = done ++ zak l t c →
  (Ev (fun k => if (full.length : Int) > 4096 then some ([], 3) else zo.l1 k s full (at' : Int)) res) →
  Ev (fun k => zo.l3 k s (done ++ l) at' t c ((done.length + l.length : Nat) : Int) done.length) res
 | [], done, c, hc, hg, hl, hfull, H => by
  have hj : Ev (fun k => zo.j10 k s full (at' : Int)) res := by
   refine zf ?_
   simp only [zo.j10]
   exact H
  refine zf ?_
  simp only [zo.l3]
  refine ze (by simp) ?_
  rw [List.append_nil]
  by_cases h0 : c = 0
  ·have e : full = done := by rw [hfull]; simp [zak, h0]
   rw [e] at hj
   exact ze (by omega) hj
  ·have e : full = done ++ [((c : Nat) : Int) % 4294967296] := by
    rw [hfull]; simp [zak, h0]; omega
   rw [e] at hj
   exact zd (by omega) (zd (by simp at hl ⊢; omega) hj)
 | x :: l, done, c, hc, hg, hl, hfull, H => by
  have hx := hg.head
  have hb := zjk (x := x.toNat) (by omega) hc
  have hu := uu hx (t := (t : Int)) (by omega) (c := (c : Int)) (by omega)
  rw [znW x t c hx.1] at hu
  have hn := nd (x.toNat * t + c)
  have hr : rd (done ++ x :: l) (done.length : Int) = x := zP rfl
  refine zf ?_
  simp only [zo.l3, hr, hu, hn.1, hn.2, zbi rfl, z8 (n := done.length) (by omega)]
  clear hu hn
  refine zd (by simp; omega) (zd (by omega) (zd (by simp; omega) (zd (by omega) (zd (by simp; omega) ?_))))
  have := zjJ at' t ht full hf l (done ++ [((((x.toNat * t + c) % 4294967296 : Nat)) : Int)]) _ hb hg.tail (by simp at hl ⊢; omega) (by rw [hfull, zak]; simp) H
  rw [List.length_append, List.length_singleton] at this
  have e : done.length + (x :: l).length = done.length + 1 + l.length := by simp; omega
  rw [e]; exact this
omit s in
theorem zel (s : ByteArray) : (qcB s).length = s.size := by unfold qcB; rw [List.length_map, Array.length_toList]; rfl
theorem zgd (i : Nat) : bt s (i : Int) = (qcB s).getD i 0 := by
 rw [zh2, Int.toNat_natCast]
 have e : qcB s = (tl s).map fun b => (b.toNat : Int) := rfl
 rw [e, List.getD_eq_getElem?_getD, List.getD_eq_getElem?_getD, List.getElem?_map]
 cases (tl s)[i]? <;> rfl
theorem zjI (hd : zbf (qcB s)) (n next : Nat) (hn : next ≤ s.size) (hs : s.size < 1000000000000) {res : List Int × Int} (hln : (D n).length < 100000000)
  (H : ∀ t c, t < 4294967296 → c < t → t = t → Ev (fun k => zo.l3 k s (D n) next t c ((D n).length : Int) 0) res → True) :
  ∀ (d i t c : Nat), i + d = next → t * 10 ^ d ≤ 1000000000 → c < t →
  Ev (fun k => zo.l3 k s (D n) next ((t * 10 ^ d : Nat) : Int) ((c * 10 ^ d + pv (((qcB s).drop i).take d) : Nat) : Int) ((D n).length : Int) 0) res →
  Ev (fun k => zo.l2 k s (D n) i next t c) res
 | 0, i, t, c, hi, ht, hc, h => by
  refine zf ?_
  simp only [zo.l2]
  refine ze (by omega) ?_
  rw [show next = i by omega] at h
  simpa [pv, pvA] using h
 | d + 1, i, t, c, hi, ht, hc, h => by
  have hlen : (qcB s).length = s.size := zel s
  have hget : (qcB s).drop i = (qcB s).getD i 0 :: (qcB s).drop (i + 1) := by
   rw [List.drop_eq_getElem_cons (by omega)]; simp [show i < (qcB s).length by omega]
  have hdi := hd ((qcB s).getD i 0) (by
   have : i < (qcB s).length := by omega
   rw [List.getD_eq_getElem?_getD, List.getElem?_eq_getElem this]; exact List.getElem_mem this)
  generalize hx : (qcB s).getD i 0 = x at hget hdi
  have hp : 1 ≤ 10 ^ d := Nat.one_le_pow _ _ (by omega)
  have ht10 : t * 10 * 10 ^ d = t * 10 ^ (d + 1) := by rw [Nat.pow_succ, Nat.mul_assoc, Nat.mul_comm 10]
  have ht9 : t * 10 ≤ 1000000000 := by
   have : t * 10 * 1 ≤ t * 10 * 10 ^ d := Nat.mul_le_mul_left _ hp
   omega
  refine zf ?_
  simp only [zo.l2, z8 (n := i) (by omega), zgd, hx]
  refine zd (by omega) (zd (by omega) (zd (by omega) ?_))
  have e1 : IntKind.u64.wrap ((t : Int) * 10) = ((t * 10 : Nat) : Int) := by rw [u64 (by omega) (by omega)]; omega
  have e2 : IntKind.u64.wrap (IntKind.u64.wrap (10 * (c : Int)) + IntKind.u64.wrap ((x - 48) % 256)) = ((10 * c + (x - 48).toNat : Nat) : Int) := by
   rw [u64 (n := 10 * (c : Int)) (by omega) (by omega), u64 (n := (x - 48) % 256) (by omega) (by omega), u64 (by omega) (by omega)]; omega
  rw [e1, e2]
  clear e1 e2
  refine zjI hd n next hn hs hln H d (i + 1) (t * 10) (10 * c + (x - 48).toNat) (by omega) (by omega) (by omega) ?_
  rw [hget, List.take_succ_cons] at h
  have e3 : c * 10 ^ (d + 1) + pv (x :: ((qcB s).drop (i + 1)).take d) = (10 * c + (x - 48).toNat) * 10 ^ d + pv (((qcB s).drop (i + 1)).take d) := by
   have hq := zd0 [x] (((qcB s).drop (i + 1)).take d)
   have hl : (((qcB s).drop (i + 1)).take d).length = d := by rw [List.length_take, List.length_drop]; omega
   rw [hl] at hq
   have hq1 : pv [x] = (x - 48).toNat := by simp [pv, pvA]
   rw [hq1] at hq
   rw [List.singleton_append] at hq
   rw [hq, Nat.pow_succ, Nat.add_mul, Nat.mul_comm 10 c, Nat.mul_assoc, Nat.mul_comm (10 ^ d) 10, Nat.add_assoc]
  rw [e3, ← ht10] at h
  exact h
theorem zpo (l : List Int) (i d : Nat) : l.take (i + d) = l.take i ++ (l.drop i).take d := by
 rw [List.take_add]
theorem zoc (hd : zbf (qcB s)) (hs : s.size < 100000000) : ∀ (r i : Nat), i + r = s.size → (D (pv ((qcB s).take i))).length ≤ 4096 → Ev (fun k => zo.l1 k s (D (pv ((qcB s).take i))) i) (zL (pv (qcB s))) := by
 intro r
 induction r using Nat.strongRecOn with
 | _ r ih =>
  intro i hi hl
  have hlen : (qcB s).length = s.size := zel s
  refine zf ?_
  simp only [zo.l1]
  by_cases c : r = 0
  ·refine ze (by omega) (zg (Ev.now _) ?_)
   have e : (qcB s).take i = qcB s := List.take_of_length_le (by omega)
   rw [e] at hl ⊢
   unfold zL; rw [if_neg (by omega)]
  ·refine zd (by omega) ?_
   have chunk : ∀ d, 0 < d → d ≤ 9 → d ≤ r → Ev (fun k => zo.j7 k s (D (pv ((qcB s).take i))) i ((i + d : Nat) : Int)) (zL (pv (qcB s))) := by
    intro d h0 h9 hr
    refine zf ?_
    simp only [zo.j7]
    have hp9 : 1 * 10 ^ d ≤ 1000000000 := by
     have : 10 ^ d ≤ 10 ^ 9 := Nat.pow_le_pow_right (by omega) h9
     omega
    have hlc : (((qcB s).drop i).take d).length = d := by rw [List.length_take, List.length_drop]; omega
    have hpl : pv (((qcB s).drop i).take d) < 10 ^ d := by
     have := zjS (l := ((qcB s).drop i).take d) (fun x hx => hd x (List.mem_of_mem_drop (List.mem_of_mem_take hx)))
     rwa [hlc] at this
    refine zjI s hd _ (i + d) (by omega) (by omega) (by omega) (fun _ _ _ _ _ _ => trivial) d i 1 0 rfl hp9 (by omega) ?_
    rw [Nat.one_mul, Nat.zero_mul, Nat.zero_add]
    have e : pv ((qcB s).take (i + d)) = pv ((qcB s).take i) * 10 ^ d + pv (((qcB s).drop i).take d) := by
     rw [zpo, zd0, hlc]
    have hD := znC (n := pv ((qcB s).take i)) hpl (by omega)
    rw [← e] at hD
    have hDl : (D (pv ((qcB s).take (i + d)))).length < 1000000000 := by
     have h1 := zcR (pv ((qcB s).take i))
     have h2 : pv ((qcB s).take (i + d)) < 4294967296 ^ ((D (pv ((qcB s).take i))).length + 1) := by
      rw [e, Nat.pow_succ]
      have h3 : (pv ((qcB s).take i) + 1) * 10 ^ d ≤ 4294967296 ^ (D (pv ((qcB s).take i))).length * 4294967296 := Nat.mul_le_mul h1 (by omega)
      rw [Nat.add_mul] at h3
      omega
     have := zee h2
     omega
    have := zjJ s (i + d) (10 ^ d) (by omega) (res := zL (pv (qcB s))) (D (pv ((qcB s).take (i + d)))) hDl (D (pv ((qcB s).take i))) [] (pv (((qcB s).drop i).take d)) hpl (zao _) (by simp; omega) (by rw [hD]; rfl) ?_
    ·simpa using this
    ·by_cases c2 : (D (pv ((qcB s).take (i + d)))).length > 4096
     ·refine zd (by omega) (zg (Ev.now _) ?_)
      have := zc4 (zos (qcB s) (i + d))
      unfold zL; rw [if_pos (by omega)]
     ·exact ze (by omega) (ih (r - d) (by omega) (i + d) (by omega) (by omega))
   have e9 : mn (s.size : Int) (wrap64 ((i : Int) + 9)) = ((i + min r 9 : Nat) : Int) := by
    have : wrap64 ((i : Int) + 9) = (i : Int) + 9 := by unfold wrap64; omega
    rw [this]; unfold mn; split <;> omega
   have j3 := chunk (min r 9) (by omega) (by omega) (by omega)
   rw [e9]
   clear e9
   have em : Int.tmod (s.size : Int) 9 = ((s.size % 9 : Nat) : Int) := zfP s.size 9
   by_cases c1 : i = 0
   ·refine zd (by omega) ?_
    rw [em]
    by_cases c2 : s.size % 9 = 0
    ·exact ze (by omega) j3
    ·refine zd (by omega) ?_
     have := chunk (s.size % 9) (by omega) (by omega) (by omega)
     have e : ((i + s.size % 9 : Nat) : Int) = ((s.size % 9 : Nat) : Int) := by omega
     rw [e] at this; exact this
   ·exact ze (by omega) j3
theorem zmW {l : List Int} {i : Nat} (h : i < l.length) : l.getD i 0 ∈ l := by
 rw [List.getD_eq_getElem?_getD, List.getElem?_eq_getElem h]; exact List.getElem_mem h
theorem zjH (hs : s.size < 100000000) : ∀ (r i : Nat), i + r = s.size → (∀ j, j < i → 48 ≤ (qcB s).getD j 0 ∧ (qcB s).getD j 0 ≤ 57) → Ev (fun k => zo.l0 k s s.size i) (if zbf (qcB s) then zL (pv (qcB s)) else ([], 12))
 | 0, i, hi, hj => by
  have hlen : (qcB s).length = s.size := zel s
  have hd : zbf (qcB s) := by
   intro x hx
   obtain ⟨j, hj', rfl⟩ := List.getElem_of_mem hx
   have := hj j (by omega)
   simpa [hj'] using this
  refine zf ?_
  simp only [zo.l0]
  refine ze (by omega) ?_
  rw [if_pos hd]
  have := zoc s hd hs s.size 0 (by omega) (by simp [pv, pvA, zI])
  simpa [pv, pvA, zI] using this
 | r + 1, i, hi, hj => by
  have hlen : (qcB s).length = s.size := zel s
  have hm := zmW (l := qcB s) (i := i) (by omega)
  refine zf ?_
  simp only [zo.l0, zgd, z8 (n := i) (by omega)]
  refine zd (by omega) (zd (by omega) (zd (by omega) ?_))
  by_cases c1 : (qcB s).getD i 0 < 48
  ·refine zd c1 (zg (Ev.now _) ?_)
   rw [if_neg]; intro hd; have := hd _ hm; omega
  ·refine ze c1 (zd (by omega) (zd (by omega) ?_))
   by_cases c2 : (qcB s).getD i 0 > 57
   ·refine zd c2 (zg (Ev.now _) ?_)
    rw [if_neg]; intro hd; have := hd _ hm; omega
   ·refine ze c2 (zjH hs r (i + 1) (by omega) ?_)
    intro j hj'
    by_cases e : j = i
    ·subst e; omega
    ·exact hj j (by omega)
def zdn (l : List Int) : List Int × Int := if isT l then zL (pv l) else ([], 12)
theorem znQ (hs : s.size < 100000000) : Ev (fun k => zo.f k s) (zdn (qcB s)) := by
 have hlen : (qcB s).length = s.size := zel s
 have yes : (isT (qcB s) = decide (zbf (qcB s))) → Ev (fun k => zo.l0 k s (s.size : Int) 0) (zdn (qcB s)) := by
  intro h
  have := zjH s hs s.size 0 (by omega) (fun j hj => by omega)
  refine zg this ?_
  unfold zdn; rw [h]
  simp only [decide_eq_true_eq]
 unfold zo.f
 by_cases c0 : s.size = 0
 ·have hn : s = (⟨#[]⟩ : ByteArray) := zkR.1 (List.eq_nil_of_length_eq_zero (by rw [zkQ]; exact c0))
  refine zd hn ?_
  have : isT (qcB s) = false := by unfold isT; simp [hlen, c0]
  unfold zdn; rw [this]; exact Ev.now _
 ·refine ze (fun h => c0 (by rw [h]; rfl)) ?_
  by_cases c1 : s.size > 1
  ·refine zd (by omega) (zd (by omega) ?_)
   have e : bt s 0 = (qcB s).getD 0 0 := zgd s 0
   rw [e]
   by_cases c2 : (qcB s).getD 0 0 = 48
   ·refine zd c2 ?_
    have : isT (qcB s) = false := by unfold isT; rw [hlen, c2]; simp; omega
    unfold zdn; rw [this]; exact Ev.now _
   ·refine ze c2 (yes ?_)
    unfold isT; rw [hlen, decide_eq_true c1, decide_eq_true c2]; simp
  ·refine ze (by omega) (yes ?_)
   unfold isT; rw [hlen]; simp [show s.size = 1 by omega]
end
section
variable (s : ByteArray)
end
theorem zor {c : Int} {l : List Int} : pv (c :: l) = (c - 48).toNat * 10 ^ l.length + pv l := by
 have := zd0 [c] l
 simpa [pv, pvA] using this
theorem zg0 {l : List Int} (hd : zbf l) (h0 : l.getD 0 0 ≠ 48) (hl : l ≠ []) : 10 ^ (l.length - 1) ≤ pv l := by
 cases l with
 | nil => exact absurd rfl hl
 | cons c l =>
  have hc := hd c (by simp)
  have h1 : c ≠ 48 := by simpa using h0
  rw [zor]
  have : 1 * 10 ^ l.length ≤ (c - 48).toNat * 10 ^ l.length := Nat.mul_le_mul_right _ (by omega)
  simp; omega
theorem zoq : ∀ (n : Nat), pv (dcl n).reverse = n := by
 intro n
 induction n using Nat.strongRecOn with
 | _ n ih =>
  by_cases h : n = 0
  ·subst h; rw [zbD]; rfl
  ·rw [zdg h, List.reverse_cons, zjT, ih _ (by omega)]; omega
theorem zot (n : Nat) : pv (txt n) = n := by
 unfold txt
 split
 ·subst n; rfl
 ·exact zoq n
theorem zio {n : Nat} {c : Int} (hc : 48 ≤ c ∧ c ≤ 57) (h : n ≠ 0 ∨ c ≠ 48) : dcl (10 * n + (c - 48).toNat) = c :: dcl n := by
 rw [zdg (by omega)]
 congr 1
 ·omega
 ·congr 1; omega
theorem zin : ∀ (m : Nat) (l : List Int), l.length = m → zbf l → l.getD 0 0 ≠ 48 → dcl (pv l) = l.reverse
 | 0, l, hm, _, _ => by
  have : l = [] := List.eq_nil_of_length_eq_zero hm
  subst this; simp [pv, pvA, zbD]
 | m + 1, l, hm, hd, h0 => by
  rcases List.eq_nil_or_concat l with rfl | ⟨a, c, rfl⟩
  ·simp at hm
  rw [List.concat_eq_append] at hm hd h0 ⊢
  have hc := hd c (by simp)
  have hda : zbf a := fun x hx => hd x (by simp [hx])
  rw [zjT, List.reverse_append, List.reverse_singleton, List.singleton_append]
  by_cases ha : a = []
  ·subst ha
   have : c ≠ 48 := by simpa using h0
   rw [zio hc (.inr this)]; simp [pv, pvA, zbD]
  ·have h1 : a.getD 0 0 ≠ 48 := by
    cases a with
    | nil => exact absurd rfl ha
    | cons x a => simpa using h0
   have h2 := zg0 hda h1 ha
   have : 1 ≤ 10 ^ (a.length - 1) := Nat.one_le_pow _ _ (by omega)
   rw [zio hc (.inl (by omega)), zin m a (by simpa using hm) hda h1]
theorem zpD {l : List Int} (h : isT l = true) : txt (pv l) = l := by
 unfold isT at h
 simp only [Bool.and_eq_true, Bool.or_eq_true, decide_eq_true_eq] at h
 obtain ⟨hd, h⟩ := h
 by_cases h0 : l.getD 0 0 = 48
 ·have h1 : l.length = 1 := by
   rcases h with h | h
   ·exact h
   ·exact absurd h0 h.2
  match l, h1 with
  | [c], _ =>
   have : c = 48 := by simpa using h0
   subst this; rfl
 ·have hl : l ≠ [] := by rintro rfl; simp at h
  have h2 := zg0 hd h0 hl
  have h3 : 1 ≤ 10 ^ (l.length - 1) := Nat.one_le_pow _ _ (by omega)
  unfold txt
  rw [if_neg (by omega), zin _ l rfl hd h0, List.reverse_reverse]
theorem zl0 (n : Nat) : qcB (qfL (txt n)) = txt n := zlZ _ (fun x hx => by have := zk2 n x hx; omega)
theorem zpC {n k : Nat} (h : n < 10 ^ k) (hk : 1 ≤ k) : (txt n).length ≤ k := by
 unfold txt
 split
 ·simpa using hk
 ·have := zim k n h; simpa using this
theorem zjq (A Bl : List Int) (i : Nat) (x : Int) (hx : 0 ≤ x ∧ x < 4294967296) (hB : Dg Bl) (hl : A.length < 1000000000) (hlb : Bl.length < 1000000000) (hi : i < A.length) (res : List Int) : ∀ (b done r pb : List Int) (c : Int), Bl = pb ++ b → done.length = i + pb.length → b.length < r.length → Dg r → 0 ≤ c ∧ c < 4294967296 →
  Ev (fun k => zJ.l0 k Bl (done ++ z7 x b r c) A A.length ((i + 1 : Nat) : Int)) res →
  Ev (fun k => zJ.l1 k Bl (done ++ r) i x c A A.length i Bl Bl.length pb.length) res
 | [], done, r, pb, c, he, hd, hr, hg, hc, H => by
  obtain ⟨y, r, rfl⟩ : ∃ y r', r = y :: r' := by
   cases r with
   | nil => simp at hr
   | cons y r' => exact ⟨y, r', rfl⟩
  have hlen : Bl.length = pb.length := by rw [he]; simp
  refine zf ?_
  have e : wrap64 ((i : Int) + (Bl.length : Int)) = ((i + Bl.length : Nat) : Int) := by unfold wrap64; omega
  simp only [zJ.l1, e, z8 (n := i) (by omega)]
  clear e
  refine ze (by omega) (zd (by omega) (zd (by simp; omega) ?_))
  have hs : (done ++ y :: r).set (((i + Bl.length : Nat) : Int)).toNat (c % 4294967296) = done ++ z7 x [] (y :: r) c := by
   rw [zbi (by omega)]; simp [z7]; omega
  rw [hs]; exact H
 | y :: b, done, r, pb, c, he, hd, hr, hg, hc, H => by
  obtain ⟨o, r, rfl⟩ : ∃ y r', r = y :: r' := by
   cases r with
   | nil => simp at hr
   | cons y r' => exact ⟨y, r', rfl⟩
  have hlen : Bl.length = pb.length + 1 + b.length := by rw [he]; simp; omega
  have hy : 0 ≤ y ∧ y < 4294967296 := by rw [he] at hB; exact hB.right.head
  have ho := hg.head
  have hp := zgK hx hy
  refine zf ?_
  have e : wrap64 ((i : Int) + (pb.length : Int)) = ((done.length : Nat) : Int) := by unfold wrap64; omega
  simp only [zJ.l1, e, z8 (n := pb.length) (by omega)]
  clear e
  refine zd (by omega) (zd (by omega) (zd (by omega) (zd (by omega) (zd (by simp; omega) (zd (by omega) (zd (by simp; omega) ?_))))))
  have h1 : rd Bl (pb.length : Int) = y := by rw [he]; exact zP rfl
  have h2 : rd (done ++ o :: r) (done.length : Int) = o := zP rfl
  rw [h1, h2, zbi rfl, u64 hx.1 (by omega), u64 hy.1 (by omega), u64 ho.1 (by omega), u64 (n := x * y) hp.1 (by omega), u64 (n := x * y + o) (by omega) (by omega), u64 (n := x * y + o + c) (by omega) (by omega)]
  have := zjq A Bl i x hx hB hl hlb hi res b (done ++ [(x * y + o + c) % 4294967296]) r (pb ++ [y]) ((x * y + o + c) / 4294967296) (by rw [he]; simp) (by simp [hd]; omega) (by simpa using hr) hg.tail (by omega) (by simpa [z7] using H)
  simpa using this
theorem zjp (A Bl : List Int) (hA : Dg A) (hB : Dg Bl) (hl : A.length < 1000000000) (hlb : Bl.length < 1000000000) : ∀ (a done r pa : List Int), A = pa ++ a → done.length = pa.length → Dg done → Dg r → r.length = Bl.length + a.length → r.drop Bl.length = List.replicate a.length 0 →
  Ev (fun k => zJ.l0 k Bl (done ++ r) A A.length done.length) (D (V (done ++ zbZ a Bl r)))
 | [], done, r, pa, he, hd, hg, hr, hrl, hz => by
  have hlen : A.length = done.length := by rw [he, hd]; simp
  refine zf ?_
  simp only [zJ.l0]
  refine ze (by omega) ?_
  refine Ev.bind (zco (hg.app hr) (by simp; simp at hrl; omega)) ?_
  exact Ev.now _
 | x :: a, done, r, pa, he, hd, hg, hr, hrl, hz => by
  have hlen : A.length = done.length + 1 + a.length := by rw [he, hd]; simp; omega
  have hx : 0 ≤ x ∧ x < 4294967296 := by rw [he] at hA; exact hA.right.head
  have hrr := zhd hx Bl r 0 a.length hB hr (by omega) (by simpa using hz)
  refine zf ?_
  simp only [zJ.l0]
  refine zd (by omega) (zd (by omega) (zd (by omega) ?_))
  have h1 : rd A (done.length : Int) = x := by rw [he]; exact zP (by omega)
  rw [h1]
  refine zjq A Bl done.length x hx hB hl hlb (by omega) _ Bl done r [] 0 rfl rfl (by simp at hrl; omega) hr (by omega) ?_
  obtain ⟨r0, r', e⟩ : ∃ r0 r', z7 x Bl r 0 = r0 :: r' := by
   cases h : z7 x Bl r 0 with
   | nil =>
    have hl := hrr.2.2.2
    rw [h] at hl
    simp at hrl hl; omega
   | cons r0 r' => exact ⟨r0, r', rfl⟩
  rw [e] at hrr
  have := zjp A Bl hA hB hl hlb a (done ++ [r0]) r' (pa ++ [x]) (by rw [he]; simp) (by simp [hd]) (hg.app (Dg.cons hrr.2.1.head.1 hrr.2.1.head.2 Dg.nil)) hrr.2.1.tail (by have := hrr.2.2.2; simp at this hrl; omega) (by simpa using hrr.2.2.1)
  rw [List.length_append, List.length_singleton, List.append_assoc] at this
  have e2 : done ++ zbZ (x :: a) Bl r = done ++ [r0] ++ zbZ a Bl r' := by simp [zbZ, e]
  rw [e, e2]; simpa using this
theorem zgQ {a b : List Int} (ha : Dg a) (hb : Dg b) (la : a.length < 1000000000) (lb : b.length < 1000000000) : Ev (fun k => zJ.f k a b) (D (V a * V b)) := by
 unfold zJ.f
 have e : wrap64 ((a.length : Int) + (b.length : Int)) = ((a.length + b.length : Nat) : Int) := by unfold wrap64; omega
 simp only [e]
 clear e
 refine zd (by omega) (zd (by omega) ?_)
 have := zjp a b ha hb la lb a [] (List.replicate (a.length + b.length) 0) [] rfl rfl Dg.nil (Dg.zeros _) (by simp; omega) (by simp)
 refine zg this ?_
 have h2 := zjo a b (List.replicate (a.length + b.length) 0) ha hb (Dg.zeros _) (by simp)
 simp [h2.1, ze9]
theorem zju {a b : List Int} (ha : Nm a) (hb : Nm b) (la : a.length ≤ 4096) (lb : b.length ≤ 4096) : Ev (fun k => zcU.f k a b) (zL (V a * V b)) := by
 have h1 : may a = true := zbI.2 ⟨la, ha⟩
 have h2 : may b = true := zbI.2 ⟨lb, hb⟩
 have tail : Ev (fun k => (zJ.f k a b).bind fun t => (zaY.f t).bind fun bt => some (bt.1, bt.2)) (zL (V a * V b)) := by
  refine Ev.bind (zgQ ha.dg hb.dg (by omega) (by omega)) ?_
  exact zk (znS _) (Ev.now _)
 unfold zcU.f
 refine Ev.bind (zhU ha.dg hb.dg (by omega) (by omega)) ?_
 refine ze (by simp [h1, h2]) ?_
 by_cases c1 : a.length > 0
 ·refine zd (by omega) ?_
  by_cases c2 : b.length > 0
  ·refine zd (by omega) ?_
   have e : wrap64 (wrap64 ((a.length : Int) + (b.length : Int)) - 1) = ((a.length + b.length - 1 : Nat) : Int) := by unfold wrap64; omega
   rw [e]
   clear e
   by_cases c3 : a.length + b.length - 1 > 4096
   ·refine zd (by omega) (zg (Ev.now _) ?_)
    have p1 := zfY ha (fun e => by subst e; simp at c1)
    have p2 := zfY hb (fun e => by subst e; simp at c2)
    have p3 := Nat.mul_le_mul p1 p2
    rw [← Nat.pow_add] at p3
    have p4 : (D (V a * V b)).length > 4096 := by
     apply Nat.lt_of_not_le
     intro k
     have p5 := zcR (V a * V b)
     have p6 := Nat.pow_lt_pow_iff_right (a := 4294967296) (by omega) |>.1 (Nat.lt_of_le_of_lt p3 p5)
     omega
    unfold zL; rw [if_pos p4]
   ·exact ze (by omega) tail
  ·exact ze (by omega) tail
 ·exact ze (by omega) tail
theorem zek {n : Nat} (h : (D n).length ≤ 4096) : zL n = (D n, 0) := by
 unfold zL; rw [if_neg (by omega)]
theorem zfZ : D 1 = [1] := by
 have h2 : Nm [1] := by have := zef Dg.nil (d := 1) (by omega) (by omega); simpa using this
 exact h2
theorem zjA (n : Nat) (h : n < 9223372036854775808) : (BitVec.ofInt 64 (n : Int)).toNat = n := by
 rw [BitVec.ofInt_natCast, BitVec.toNat_ofNat]; exact Nat.mod_eq_of_lt (by omega)
theorem zlN (n : Nat) (h : n < 9223372036854775808) : Go.bits .and .i64 (n : Int) 1 = ((n % 2 : Nat) : Int) := by
 show IntKind.i64.wrap ((BitVec.ofInt 64 (n : Int) &&& BitVec.ofInt 64 ((1 : Nat) : Int)).toNat : Int) = _
 rw [BitVec.toNat_and, zjA n h, zjA 1 (by omega), Nat.and_one_is_mod, IntKind.wrap_i64]
 omega
theorem zo8 (n i : Nat) (h : i ≤ 64) : shr .i64 (n : Int) (i : Int) = ((n / 2 ^ i : Nat) : Int) := by
 unfold shr
 have e : min (i : Int).toNat IntKind.i64.bits = i := by rw [Int.toNat_natCast]; exact Nat.min_eq_left h
 rw [e]; simp
theorem zn5 {b n : Nat} (h : 1 ≤ b) : 1 ≤ b ^ n := Nat.one_le_pow _ _ h
theorem zjQ {b m n : Nat} (h : 1 ≤ b) (k : m ≤ n) : b ^ m ≤ b ^ n := Nat.pow_le_pow_right h k
theorem zm0 (n i : Nat) : n / 2 ^ i = 2 * (n / 2 ^ (i + 1)) + n / 2 ^ i % 2 := by
 have : n / 2 ^ (i + 1) = n / 2 ^ i / 2 := by rw [Nat.pow_succ, Nat.div_div_eq_div_mul]
 rw [this]; omega
theorem zpd {m : Nat} (h : m ≠ 0) : 2 * (D m).length - 1 ≤ (D (m * m)).length := by
 have h1 := zfX h
 have h2 := Nat.mul_le_mul h1 h1
 rw [← Nat.pow_add] at h2
 apply Nat.le_of_not_lt
 intro k
 have h3 := zcR (m * m)
 have h4 : (4294967296 : Nat) ^ (D (m * m)).length ≤ 4294967296 ^ ((D m).length - 1 + ((D m).length - 1)) := Nat.pow_le_pow_right (by omega) (by omega)
 omega
theorem zpY {L : Nat} (h : L ≤ 4096) : wrap64 (wrap64 (2 * (L : Int)) - 1) = 2 * (L : Int) - 1 := by unfold wrap64; omega
theorem zpe {p : Nat} (h : (D p).length ≤ 4096) : (D (p * p)).length ≤ 8192 := by
 have h1 := zcR p
 have h2 := Nat.mul_lt_mul'' h1 h1
 rw [← Nat.pow_add] at h2
 have := zee h2
 omega
theorem zlS {x : Int} (h : 0 ≤ x ∧ x < 18446744073709551616) : Ev (fun k => zdH.f k x) ((bl x.toNat : Nat) : Int) := by
 unfold zdH.f
 exact Ev.bind (zey h) (Ev.now _)
theorem zon {b n i p q T t : Nat} (hbl : Dg [((b : Nat) : Int)]) (hi : i < 64) (hs : Go.bits .and .i64 (shr .i64 (n : Int) (i : Int)) 1 = ((t % 2 : Nat) : Int)) (hp : p ≠ 0) (hl : (D p).length ≤ 4096) (hpT : p * p ≤ T) (hqT : q ≤ T)
  (h1 : t % 2 = 1 → p * p * b = q) (h0 : t % 2 ≠ 1 → p * p = q) (ih : (D q).length ≤ 4096 → Ev (fun k => zB.l0 k (b : Int) (n : Int) (D q) ((i : Int) - 1)) (zL T)) :
  Ev (fun k => zB.l0 k (b : Int) (n : Int) (D p) (i : Int)) (zL T) := by
 have hsl := zpd hp
 have hss := zpe hl
 refine zf ?_
 simp only [zB.l0, zpY hl, hs]
 clear hs
 refine zd (by omega) ?_
 by_cases c1 : 2 * (D p).length > 4097
 ·refine zd (by omega) (zg (Ev.now _) ?_)
  exact (zgc (m := p * p) (by omega) hpT).symm
 ·refine ze (by omega) (Ev.bind (zgQ (zao _) (zao _) (by omega) (by omega)) ?_)
  rw [V_D]
  refine zd (by omega) ?_
  have next : Ev (fun k => zB.j4 k (b : Int) (n : Int) (D q) (i : Int)) (zL T) := by
   refine zf ?_
   simp only [zB.j4, zbN (n := i) (by omega)]
   by_cases c2 : (D q).length > 4096
   ·refine zd (by omega) (zg (Ev.now _) ?_)
    exact (zgc c2 hqT).symm
   ·exact ze (by omega) (ih (by omega))
  by_cases c3 : t % 2 = 1
  ·refine zd (by omega) (Ev.bind (zgQ (zao _) hbl (by omega) (by simp)) ?_)
   have hv : V (D (p * p)) * V [((b : Nat) : Int)] = q := by
    rw [V_D, ← h1 c3]
    simp only [zu, zag, Int.toNat_natCast, Nat.mul_zero, Nat.add_zero]
   rw [hv]; exact next
  ·refine ze (by omega) ?_
   rw [h0 c3]; exact next
theorem zjR {b : Nat} (hb : 1 ≤ b ∧ b < 4294967296) (hbl : Dg [((b : Nat) : Int)]) {n : Nat} (hn : n < 9223372036854775808) : ∀ (i : Nat), i ≤ 64 → (D (b ^ (n / 2 ^ i))).length ≤ 4096 → Ev (fun k => zB.l0 k (b : Int) (n : Int) (D (b ^ (n / 2 ^ i))) ((i : Int) - 1)) (zL (b ^ n))
 | 0, hi, hl => by
  refine zf ?_
  simp only [zB.l0]
  refine ze (by decide) (zg (Ev.now _) ?_)
  rw [Nat.pow_zero, Nat.div_one] at hl ⊢
  exact (zek hl).symm
 | i + 1, hi, hl => by
  have e0 : ((i + 1 : Nat) : Int) - 1 = (i : Int) := by rw [Int.natCast_add]; exact Int.add_sub_cancel _ _
  have hh := zm0 n i
  have hle : n / 2 ^ i ≤ n := Nat.div_le_self _ _
  have hm : b ^ (n / 2 ^ (i + 1)) ≠ 0 := Nat.ne_of_gt (zn5 hb.1)
  have hsq : b ^ (n / 2 ^ (i + 1)) * b ^ (n / 2 ^ (i + 1)) = b ^ (2 * (n / 2 ^ (i + 1))) := by rw [← Nat.pow_add, Nat.two_mul]
  have hle2 : 2 * (n / 2 ^ (i + 1)) ≤ n / 2 ^ i := by rw [hh]; exact Nat.le_add_right _ _
  have hbit : Go.bits .and .i64 (shr .i64 (n : Int) (i : Int)) 1 = ((n / 2 ^ i % 2 : Nat) : Int) := by
   rw [zo8 n i (Nat.le_of_lt hi), zlN _ (Nat.lt_of_le_of_lt hle hn)]
  rw [e0]
  refine zon (q := b ^ (n / 2 ^ i)) hbl hi hbit hm hl ?_ (zjQ hb.1 hle) ?_ ?_ (fun h => zjR hb hbl hn i (Nat.le_of_lt hi) h)
  ·rw [hsq]; exact zjQ hb.1 (Nat.le_trans hle2 hle)
  ·intro c; rw [hsq, ← Nat.pow_succ]; congr 1; rw [c] at hh; exact hh.symm
  ·intro c
   have c' : n / 2 ^ i % 2 = 0 := (Nat.mod_two_eq_zero_or_one _).resolve_right c
   rw [hsq]; congr 1; rw [c'] at hh; exact hh.symm
theorem zgP {b n : Nat} (hb : b < 4294967296) (hn : n < 9223372036854775808) : Ev (fun k => zB.f k (b : Int) (n : Int)) (zL (b ^ n)) := by
 have h1 : Nm [1] := by rw [← zfZ]; exact zD 1
 have one : ∀ z, z = true → b ^ n = 1 → Ev (fun k => zB.j0 k (b : Int) (n : Int) z) (zL (b ^ n)) := by
  rintro z rfl e
  refine zf ?_
  simp only [zB.j0]
  refine zd trivial (Ev.bind (zeF (by omega) (by omega)) (zg (Ev.now _) ?_))
  rw [e]
  exact (zek (n := 1) (by rw [zfZ]; simp)).symm
 unfold zB.f
 refine ze (by omega) ?_
 by_cases c0 : n = 0
 ·refine zd (by omega) (one true rfl (by subst c0; simp))
 ·refine ze (by omega) ?_
  by_cases c1 : b = 1
  ·refine one _ (by subst c1; rfl) (by subst c1; simp)
  ·have e : decide ((b : Int) = 1) = false := decide_eq_false (by omega)
   rw [e]
   refine zf ?_
   simp only [zB.j0]
   refine ze (by simp) ?_
   by_cases c2 : b = 0
   ·refine zd (by omega) (zg (Ev.now _) ?_)
    subst c2
    rw [Nat.zero_pow (by omega), zek (by rw [zI]; simp), zI]
   ·refine ze (by omega) ?_
    by_cases c3 : n > 131072
    ·refine zd (by omega) (zg (Ev.now _) ?_)
     have p1 : 2 ^ n ≤ b ^ n := Nat.pow_le_pow_left (by omega) n
     exact (zpA (by omega) p1).symm
    ·refine ze (by omega) (Ev.bind (zeF (by omega) (by omega)) ?_)
     rw [u64 (by omega) (by omega)]
     refine Ev.bind (zlS (by omega)) ?_
     have hbl : bl n ≤ 63 := zK (by omega)
     rw [Int.toNat_natCast, zbN (by omega)]
     have := zjR (b := b) (by omega) (Dg.cons (by omega) (by omega) Dg.nil) hn (bl n) (by omega)
     rw [Nat.div_eq_of_lt (zR n), Nat.pow_zero] at this
     exact this (by rw [zfZ]; simp)
theorem zej (b : Bool) : bN b < 2 := by cases b <;> decide
theorem zfc (b : Bool) : bN b = 0 ↔ b = false := by cases b <;> decide
def stk (Q : Nat) (b : Bool) : Nat := 2 * Q + bN b
theorem zfd {Q : Nat} (h : Q ≠ 0) (b : Bool) : bl (stk Q b) = bl Q + 1 := by
 have hb := zej b
 have : stk Q b / 2 ^ 1 = Q := by unfold stk; omega
 have h2 := zbR (stk Q b) 1
 rw [this] at h2
 have h3 := zbc h
 have h4 : bl (stk Q b) ≠ 0 := fun e => by rw [e] at h2; omega
 omega
theorem zlV {H r j : Nat} (h : H ≠ 0) (hr : r < 2 ^ j) : bl (H * 2 ^ j + r) = bl H + j := by
 have h1 : (H * 2 ^ j + r) / 2 ^ j = H := by
  rw [Nat.mul_comm, Nat.mul_add_div (zi j), Nat.div_eq_of_lt hr, Nat.add_zero]
 have h2 := zbR (H * 2 ^ j + r) j
 rw [h1] at h2
 have := zbc h
 omega
theorem zkf {f m : Int} (h : isF f) (s : Bool) {H r j : Nat} (hH : pr f + 1 ≤ bl H) (hr : r < 2 ^ j) (e : Int) : zq f m s (H * 2 ^ j + r) e = zq f m s (stk H (decide (r ≠ 0))) (e + j - 1) := by
 have hpr := zS h
 have h0 : H ≠ 0 := fun c => by rw [c, za2] at hH; omega
 have hb1 := zlV h0 hr
 have hb2 := zfd h0 (decide (r ≠ 0))
 rw [← zfJ, ← zfJ]
 have hT : e + j - 1 + (bl (stk H (decide (r ≠ 0))) : Nat) = e + (bl (H * 2 ^ j + r) : Nat) := by omega
 rw [hT]
 refine zhb fun E hE => ?_
 obtain ⟨d, hd⟩ : ∃ d : Nat, (E - e).toNat = d + j ∧ 1 ≤ d := ⟨(E - e).toNat - j, by omega, by omega⟩
 have e1 : (e - E).toNat = 0 := by omega
 have e2 : (e + j - 1 - E).toNat = 0 := by omega
 have e3 : (E - (e + j - 1)).toNat = d + 1 := by omega
 unfold R exR stk
 rw [e1, e2, e3, hd.1, Nat.pow_zero, Nat.mul_one, Nat.mul_one]
 exact ⟨zkd m s hr hd.2, decide_eq_decide.2 (ziR hr)⟩
theorem zmT (X Y j : Nat) (hY : 0 < Y) : ∃ r, r < 2 ^ j ∧ X * 2 ^ j / Y = X / Y * 2 ^ j + r ∧ (X % Y = 0 ↔ r = 0 ∧ X * 2 ^ j % Y = 0) := by
 have h1 := Nat.div_add_mod X Y
 have h2 := Nat.mod_lt X hY
 have e : X * 2 ^ j = Y * (X / Y * 2 ^ j) + X % Y * 2 ^ j := by
  conv => lhs; rw [← h1, Nat.add_mul, Nat.mul_assoc]
 refine ⟨X % Y * 2 ^ j / Y, ?_, ?_, ?_⟩
 ·rw [Nat.div_lt_iff_lt_mul hY, Nat.mul_comm]
  exact Nat.mul_lt_mul_of_pos_left h2 (zi j)
 ·rw [e, Nat.mul_add_div hY]
 ·rw [e, Nat.mul_add_mod]
  constructor
  ·intro c; rw [c]; simp
  ·intro ⟨c1, c2⟩
   have h3 := Nat.div_add_mod (X % Y * 2 ^ j) Y
   rw [c1, c2] at h3
   have h4 : X % Y * 2 ^ j = 0 := by rw [← h3]; simp
   rcases Nat.mul_eq_zero.1 h4 with h5 | h5
   ·exact h5
   ·have := zi j; omega
theorem zki {f m : Int} (h : isF f) (s : Bool) {A B N : Nat} (hB : 0 < B) (hn : pr f + 1 ≤ bl (A * 2 ^ N / B)) (e : Int) (j : Nat) :
  zq f m s (stk (A * 2 ^ (N + j) / B) (decide (A * 2 ^ (N + j) % B ≠ 0))) (e - (N + j : Nat) - 1) = zq f m s (stk (A * 2 ^ N / B) (decide (A * 2 ^ N % B ≠ 0))) (e - N - 1) := by
 obtain ⟨r, hr, hq, hz⟩ := zmT (A * 2 ^ N) B j hB
 rw [Nat.pow_add, ← Nat.mul_assoc]
 rw [hq]
 have hb := zej (decide (A * 2 ^ N * 2 ^ j % B ≠ 0))
 have hs : stk (A * 2 ^ N / B * 2 ^ j + r) (decide (A * 2 ^ N * 2 ^ j % B ≠ 0)) = A * 2 ^ N / B * 2 ^ (j + 1) + (2 * r + bN (decide (A * 2 ^ N * 2 ^ j % B ≠ 0))) := by
  unfold stk
  rw [Nat.pow_succ, ← Nat.mul_assoc]; omega
 rw [hs, zkf h s hn (by rw [Nat.pow_succ]; omega)]
 have hd : decide (2 * r + bN (decide (A * 2 ^ N * 2 ^ j % B ≠ 0)) ≠ 0) = decide (A * 2 ^ N % B ≠ 0) := by
  apply decide_eq_decide.2
  have := zfc (decide (A * 2 ^ N * 2 ^ j % B ≠ 0))
  have h3 : bN (decide (A * 2 ^ N * 2 ^ j % B ≠ 0)) = 0 ↔ A * 2 ^ N * 2 ^ j % B = 0 := by rw [this]; simp
  constructor
  ·intro c c2
   have := hz.1 c2
   exact c (by rw [h3.2 this.2, this.1])
  ·intro c c2
   exact c (hz.2 ⟨by omega, h3.1 (by omega)⟩)
 rw [hd]
 congr 1
 omega
def rq (f m : Int) (s : Bool) (A B : Nat) (e : Int) : Int × Int :=
 zq f m s (stk (A * 2 ^ (bl B + 64) / B) (decide (A * 2 ^ (bl B + 64) % B ≠ 0))) (e - (bl B + 64 : Nat) - 1)
theorem zeP {A B : Nat} (hA : A ≠ 0) (hB : 0 < B) : 64 + 1 ≤ bl (A * 2 ^ (bl B + 64) / B) := by
 have := (zjU hA (Nat.ne_of_gt hB) (bl B + 64) (by omega)).1
 have := zbc hA
 omega
theorem zeQ {f m : Int} (h : isF f) (s : Bool) {A B : Nat} (hA : A ≠ 0) (hB : 0 < B) (e : Int) (N : Nat) (hn : pr f + 1 ≤ bl (A * 2 ^ N / B)) :
  zq f m s (stk (A * 2 ^ N / B) (decide (A * 2 ^ N % B ≠ 0))) (e - N - 1) = rq f m s A B e := by
 have hpr := zS h
 have hfb := zah h
 have hb := zeP hA hB
 unfold rq
 have h1 := zki (m := m) h s hB hn e (bl B + 64)
 have h2 := zki (m := m) h s (A := A) (N := bl B + 64) hB (by omega) e N
 rw [← h1, ← h2, Nat.add_comm N]
theorem zfK {f m : Int} (h : isF f) (s : Bool) {A B c : Nat} (hA : A ≠ 0) (hB : 0 < B) (hc : 0 < c) (e : Int) : rq f m s (A * c) (B * c) e = rq f m s A B e := by
 have hAc : A * c ≠ 0 := Nat.mul_ne_zero hA (by omega)
 have hBc : 0 < B * c := Nat.mul_pos hB hc
 have hpr := zS h
 have hfb := zah h
 have hb := zeP hAc hBc
 have e1 : A * c * 2 ^ (bl (B * c) + 64) = A * 2 ^ (bl (B * c) + 64) * c := Nat.mul_right_comm _ _ _
 have e2 : A * c * 2 ^ (bl (B * c) + 64) / (B * c) = A * 2 ^ (bl (B * c) + 64) / B := by rw [e1, Nat.mul_div_mul_right _ _ hc]
 have e3 : A * c * 2 ^ (bl (B * c) + 64) % (B * c) = A * 2 ^ (bl (B * c) + 64) % B * c := by rw [e1, Nat.mul_mod_mul_right]
 rw [e2] at hb
 rw [← zeQ h s hA hB e (bl (B * c) + 64) (by omega)]
 unfold rq
 rw [e2, e3]
 have hd : decide (A * 2 ^ (bl (B * c) + 64) % B * c ≠ 0) = decide (A * 2 ^ (bl (B * c) + 64) % B ≠ 0) := by
  apply decide_eq_decide.2
  rw [Ne, Nat.mul_eq_zero]
  omega
 rw [hd]
theorem zfL {f m : Int} (h : isF f) (s : Bool) {A B : Nat} (hA : A ≠ 0) (hB : 0 < B) (e : Int) (j : Nat) : rq f m s (A * 2 ^ j) B e = rq f m s A B (e + j) := by
 have hAj : A * 2 ^ j ≠ 0 := Nat.mul_ne_zero hA (Nat.ne_of_gt (zi j))
 have hpr := zS h
 have hfb := zah h
 have hb := zeP hAj hB
 have e1 : A * 2 ^ j * 2 ^ (bl B + 64) = A * 2 ^ (bl B + 64 + j) := by rw [Nat.mul_assoc, ← Nat.pow_add, Nat.add_comm j]
 rw [e1] at hb
 rw [← zeQ h s hA hB (e + j) (bl B + 64 + j) (by omega)]
 have e2 : e + (j : Int) - ((bl B + 64 + j : Nat) : Int) - 1 = e - ((bl B + 64 : Nat) : Int) - 1 := by omega
 rw [e2]
 unfold rq
 rw [e1]
theorem zpg {f m : Int} (s : Bool) {A : Nat} (hA : A ≠ 0) (e : Int) (N : Nat) : zq f m s (stk (A * 2 ^ N / 1) (decide (A * 2 ^ N % 1 ≠ 0))) (e - N - 1) = zq f m s A e := by
 have e2 : stk (A * 2 ^ N / 1) (decide (A * 2 ^ N % 1 ≠ 0)) = A * 2 ^ (N + 1) := by
  have e3 : bN (decide (A * 2 ^ N % 1 ≠ 0)) = 0 := by rw [zfc, decide_eq_false_iff_not]; simp [Nat.mod_one]
  unfold stk
  rw [e3, Nat.div_one, Nat.pow_succ, Nat.add_zero, ← Nat.mul_assoc A, Nat.mul_comm 2]
 rw [e2, zhc f m s hA]
 congr 1
 omega
theorem zkj {f m : Int} (h : isF f) (s : Bool) {A : Nat} (hA : A ≠ 0) (e : Int) : rq f m s A 1 e = zq f m s A e := zpg s hA e (bl 1 + 64)
theorem zo0 {f m : Int} (h : isF f) (s : Bool) {A B A' B' : Nat} (hA : A ≠ 0) (hA' : A' ≠ 0) (hB : 0 < B) (hB' : 0 < B') (hx : A * B' = A' * B) (e : Int) : rq f m s A B e = rq f m s A' B' e := by
 rw [← zfK h s hA hB hB' e, ← zfK h s hA' hB' hB e, hx, Nat.mul_comm B B']
theorem zoZ {f m : Int} (h : isF f) (s : Bool) {A B : Nat} (hB : 0 < B) {e : Int} {k : Nat} (hk : B * 2 ^ k ≤ A) (he : wd f ≤ e + k) : rq f m s A B e = ((zdm f m s : Int), 20) := by
 have hA : A ≠ 0 := fun c => by have := Nat.mul_pos hB (zi k); omega
 have hQ : 2 ^ (k + (bl B + 64)) ≤ A * 2 ^ (bl B + 64) / B := by
  rw [Nat.le_div_iff_mul_le hB, Nat.pow_add, Nat.mul_right_comm, Nat.mul_comm (2 ^ k)]
  exact Nat.mul_le_mul_right _ hk
 have hQ0 : A * 2 ^ (bl B + 64) / B ≠ 0 := Nat.ne_of_gt (Nat.lt_of_lt_of_le (zi _) hQ)
 have hbl := zaB hQ
 have h2 := zaP (v := 1) (by omega) (k + (bl B + 64))
 rw [Nat.one_mul, show bl 1 = 1 by decide] at h2
 have hst := zfd hQ0 (decide (A * 2 ^ (bl B + 64) % B ≠ 0))
 unfold rq
 refine zoW h (fun c => ?_) ?_
 ·rw [c, za2] at hst; omega
 ·omega
theorem zo1 {f m : Int} (h : isF f) (s : Bool) {A B : Nat} (hA : A ≠ 0) (hB : 0 < B) {e : Int} {k : Nat} (hk : A * 2 ^ k < B) (he : e - k < lo f) :
  rq f m s A B e = zq f m s 1 (lo f - 2) := by
 have hQ : A * 2 ^ (bl B + 64) / B < 2 ^ (bl B + 64 - k) := by
  have hkB : k < bl B := by
   have h1 := zR B
   have h2 : 1 * 2 ^ k ≤ A * 2 ^ k := Nat.mul_le_mul_right _ (by omega)
   exact (Nat.pow_lt_pow_iff_right (by omega)).1 (show 2 ^ k < 2 ^ bl B by omega)
  rw [Nat.div_lt_iff_lt_mul hB]
  have e1 : A * 2 ^ (bl B + 64) = 2 ^ (bl B + 64 - k) * (A * 2 ^ k) := by
   rw [Nat.mul_left_comm, ← Nat.pow_add, show bl B + 64 - k + k = bl B + 64 by omega]
  rw [e1]
  exact Nat.mul_lt_mul_of_pos_left hk (zi _)
 have hb := zeP hA hB
 have hQ0 : A * 2 ^ (bl B + 64) / B ≠ 0 := fun c => by rw [c, za2] at hb; omega
 have h2 := zK hQ
 have hst := zfd hQ0 (decide (A * 2 ^ (bl B + 64) % B ≠ 0))
 have hs0 : stk (A * 2 ^ (bl B + 64) / B) (decide (A * 2 ^ (bl B + 64) % B ≠ 0)) ≠ 0 := fun c => by rw [c, za2] at hst; omega
 unfold rq
 rw [zkg h hs0 (by omega), zkg h (by omega) (by rw [show bl 1 = 1 by decide]; omega)]
theorem zn8 {f m : Int} (h : isF f) (hm : isM m) {s s' : Bool} {l l' : List Int} {e e' : Int} (hd : My s l e) (hd' : My s' l' e') : Ev (fun k => zT.f k f m [(s, l, e), (s', l', e')]) ((pr f : Int), lo f, wd f, 0) := by
 unfold zT.f
 unfold isM at hm
 refine zk (zgB h) ?_; try dsimp only
 refine ze (by simp) (ze (by omega) (ze (by omega) ?_))
 have e1 : wrap64 (0 + 1) = 1 := by rw [zaf (by omega) (by omega)]; rfl
 have e2 : wrap64 (1 + 1) = 2 := by rw [zaf (by omega) (by omega)]; rfl
 have el : (([(s, l, e), (s', l', e')] : List (Bool × List Int × Int)).length : Int) = 2 := rfl
 have r0 : rdT [.b, .is .u32, .i .i64] [(s, l, e), (s', l', e')] 0 = (s, l, e) := rfl
 have r1 : rdT [.b, .is .u32, .i .i64] [(s, l, e), (s', l', e')] 1 = (s', l', e') := rfl
 refine zf ?_
 simp only [zT.l0, el, e1, r0]
 refine zd (by decide) (zd (by decide) (zd (by decide) ?_))
 refine zk (zcM hd) ?_; try dsimp only
 refine ze (by simp) (zf ?_)
 simp only [zT.l0, el, e2, r1]
 refine zd (by decide) (zd (by decide) (zd (by decide) ?_))
 refine zk (zcM hd') ?_; try dsimp only
 refine ze (by simp) (zf ?_)
 simp only [zT.l0]
 exact ze (by decide) (Ev.now _)
theorem zm1 {n j : Nat} (h : bl n + j = 64) : zO n = n * 2 ^ j ∧ zba n = false := by
 unfold zO zba
 have e1 : 64 - bl n = j := by omega
 have e2 : bl n - 64 = 0 := by omega
 rw [e1, e2, Nat.pow_zero, Nat.div_one, Nat.mod_one]
 exact ⟨rfl, rfl⟩
def qN (A B : Nat) : Nat := 65 + bl B - bl A
def qC (A B : Nat) : Nat := bl (A * 2 ^ qN A B / B) - 64
def qH (A B : Nat) : Nat := A * 2 ^ qN A B / B / 2 ^ qC A B
def qL (A B : Nat) : Bool := decide (A * 2 ^ qN A B / B % 2 ^ qC A B ≠ 0) || decide (A * 2 ^ qN A B % B ≠ 0)
theorem zg1 {A B : Nat} (hA : A ≠ 0) (hB : B ≠ 0) : 65 ≤ bl (A * 2 ^ qN A B / B) ∧ bl (A * 2 ^ qN A B / B) ≤ bl A + 66 ∧ bl (qH A B) = 64 := by
 have h1 : qN A B = 65 + bl B - bl A := rfl
 have h2 : qC A B = bl (A * 2 ^ qN A B / B) - 64 := rfl
 have := zjU hA hB (qN A B) (by omega)
 have hp := zbc hA
 have hd : bl (qH A B) = bl (A * 2 ^ qN A B / B) - qC A B := zbR _ _
 refine ⟨by omega, by omega, by omega⟩
theorem znE {x c n : Nat} (l : Bool) (hx : bl x ≤ 33000) (hc : c = bl x - 64) (h64 : 64 ≤ bl x) (hn : n ≤ 1000000) : Ev (fun k => zck.f k false (D x) (0 - (n : Int)) l 64) ((mk ((x / 2 ^ c : Nat) : Int) (0 - (n : Int) + (c : Int))).1, (mk ((x / 2 ^ c : Nat) : Int) (0 - (n : Int) + (c : Int))).2.1, (mk ((x / 2 ^ c : Nat) : Int) (0 - (n : Int) + (c : Int))).2.2, (decide (x % 2 ^ c ≠ 0) || l), 0) := by
 have lx := zaW (x := x) (k := 2100) (by omega)
 have hl := zdY (zD x) (by omega)
 have hs2 := zeG (zD x) (by omega) (-(c : Int))
 rw [V_D] at hl hs2
 rw [zhh (by omega) (by omega)] at hs2
 have hm := zcL false (zD (x / 2 ^ c)) (by
  have h1 := zbR x c
  have := zaW (x := x / 2 ^ c) (k := 2100) (by omega)
  omega) (0 - (n : Int) + (c : Int))
 rw [V_D, zcS (by omega) (by have := zbR x c; omega)] at hm
 rw [show sv false (x / 2 ^ c) = ((x / 2 ^ c : Nat) : Int) from rfl] at hm
 have w4 : mx 0 (wrap64 (((bl x : Nat) : Int) - 64)) = (c : Int) := by
  rw [zfz, zed (by omega) (by omega) (by omega) (by omega)]; omega
 have w5 : wrap64 (-(c : Int)) = -(c : Int) := zfT (by omega) (by omega)
 have w6 : wrap64 (0 - (n : Int) + (c : Int)) = 0 - (n : Int) + (c : Int) := zb9 (by omega) (by omega) (by omega) (by omega)
 unfold zck.f
 refine Ev.bind (hl) ?_; try dsimp only
 rw [w4, w5, w6]
 clear w4 w5 w6
 refine Ev.bind (hs2) ?_; try dsimp only
 refine Ev.bind (hm) ?_; try dsimp only
 refine ze (by unfold ok3; simp) ?_
 by_cases c1 : x % 2 ^ c ≠ 0
 ·refine zd (decide_eq_true c1) (zg (Ev.now _) ?_)
  rw [decide_eq_true c1, Bool.true_or]; rfl
 ·refine ze (by simpa using c1) (zg (Ev.now _) ?_)
  rw [decide_eq_false c1, Bool.false_or]; rfl
theorem zqc {n x y : Nat} (hn : n = 65 + x - y) (h1 : x ≤ 1000000) (h2 : y ≤ 1000000) : mx 0 (wrap64 (wrap64 (wrap64 (64 + 1) + (x : Int)) - (y : Int))) = (n : Int) := by
 have e : wrap64 (wrap64 (wrap64 (64 + 1) + (x : Int)) - (y : Int)) = 65 + (x : Int) - (y : Int) := by unfold wrap64; omega
 rw [zfz, e]
 clear e
 omega
theorem zqe {n : Nat} (h : n ≤ 1000000) : wrap64 (wrap64 (0 - 0) - (n : Int)) = 0 - (n : Int) := by unfold wrap64; omega
theorem zmD {la lb : List Int} (ha : Nm la) (hb : Nm lb) (ma : My false la 0) (mb : My false lb 0) (A0 : V la ≠ 0) (B0 : V lb ≠ 0) (l1 : bl (V la) ≤ 32000) (l2 : bl (V lb) ≤ 32000) :
  Ev (fun k => zbF.f k false la 0 false lb 0 64) ((mk (qH (V la) (V lb)) (0 - (qN (V la) (V lb) : Nat) + (qC (V la) (V lb) : Nat))).1, (mk (qH (V la) (V lb)) (0 - (qN (V la) (V lb) : Nat) + (qC (V la) (V lb) : Nat))).2.1, (mk (qH (V la) (V lb)) (0 - (qN (V la) (V lb) : Nat) + (qC (V la) (V lb) : Nat))).2.2, qL (V la) (V lb), 0) := by
 have lla := ma.len
 have llb := mb.len
 have ane : la ≠ [] := fun h => A0 (by rw [h]; rfl)
 have lne : lb ≠ [] := fun h => B0 (by rw [h]; rfl)
 have hN : qN (V la) (V lb) = 65 + bl (V lb) - bl (V la) := rfl
 have hC : qC (V la) (V lb) = bl (V la * 2 ^ qN (V la) (V lb) / V lb) - 64 := rfl
 have hH : qH (V la) (V lb) = V la * 2 ^ qN (V la) (V lb) / V lb / 2 ^ qC (V la) (V lb) := rfl
 have hL : qL (V la) (V lb) = (decide (V la * 2 ^ qN (V la) (V lb) / V lb % 2 ^ qC (V la) (V lb) ≠ 0) || decide (V la * 2 ^ qN (V la) (V lb) % V lb ≠ 0)) := rfl
 obtain ⟨b1, b2, b3⟩ := zg1 A0 B0
 have hs := zeG ha lla (qN (V la) (V lb) : Nat)
 rw [zhi (by omega)] at hs
 have hup := zfe (V la) (qN (V la) (V lb))
 have hll := zaW (x := V la * 2 ^ qN (V la) (V lb)) (k := 2100) (by omega)
 have hq := znR (zD (V la * 2 ^ qN (V la) (V lb))) hb (by omega) llb
 rw [V_D] at hq
 unfold zg2 at hq
 rw [if_neg B0] at hq
 have hn6 : qN (V la) (V lb) ≤ 1000000 := by omega
 have w2 : wrap64 (131072 - ((bl (V la) : Nat) : Int)) = 131072 - ((bl (V la) : Nat) : Int) := zed (by omega) (by omega) (by omega) (by omega)
 have w3 := zqe hn6
 have w1 := zqc hN (Nat.le_trans l2 (by decide)) (Nat.le_trans l1 (by decide))
 unfold zbF.f
 refine Ev.bind (ziL ma mb) ?_; try dsimp only
 refine ze (by simp) ?_
 rw [show decide ((64 : Int) < 1) = false from rfl]
 refine zf ?_
 simp only [zbF.j0]
 refine ze (by simp) ?_
 have ask : zeu.f 64 = some 0 := rfl
 refine zk (ask) ?_; try dsimp only
 refine ze (by simp) (ze (fun h => lne (zb1.1 h)) (ze (fun h => ane (zb1.1 h)) ?_))
 refine Ev.bind (zdY hb llb) ?_; try dsimp only
 refine Ev.bind (zdY ha lla) ?_; try dsimp only
 refine Ev.bind (zdY ha lla) ?_; try dsimp only
 rw [w1, w2, w3]
 clear w1 w2 w3
 refine ze (by omega) ?_
 refine Ev.bind (hs) ?_; try dsimp only
 refine Ev.bind (hq) ?_; try dsimp only
 rw [hL, hH]
 generalize qN (V la) (V lb) = n at *
 generalize qC (V la) (V lb) = c at *
 have hdz : decide (((D (V la * 2 ^ n % V lb)).length : Int) > 0) = decide (V la * 2 ^ n % V lb ≠ 0) := by
  generalize V la * 2 ^ n % V lb = y
  exact decide_eq_decide.2 (by
   constructor
   ·intro h h2; rw [h2, zI] at h; simp at h
   ·intro h
    have : (D y) ≠ [] := fun h2 => h (by rw [← V_D y, h2]; rfl)
    exact zgE this)
 rw [hdz]
 clear hdz
 have hlen := zaB (Nat.div_le_self (V la * 2 ^ n) (V lb))
 generalize V la * 2 ^ n % V lb = y at *
 generalize V la * 2 ^ n / V lb = x at *
 have hmd := znE (x := x) (c := c) (n := n) (decide (y ≠ 0)) (by omega) hC (by omega) (by omega)
 refine Ev.bind (hmd) ?_; try dsimp only
 exact Ev.now _
theorem znu (x y : Nat) : (decide (x ≠ 0) || decide (y ≠ 0)) = decide (2 * x + bN (decide (y ≠ 0)) ≠ 0) := by
 by_cases c1 : x = 0
 ·subst c1
  by_cases c2 : y = 0
  ·subst c2; rfl
  ·have e : decide (y ≠ 0) = true := decide_eq_true c2
   rw [e]; rfl
 ·have e : decide (x ≠ 0) = true := decide_eq_true c1
  rw [e, Bool.true_or]
  exact (decide_eq_true (by omega)).symm
theorem zou {f m : Int} (h : isF f) (s : Bool) {A B : Nat} (hA : A ≠ 0) (hB : B ≠ 0) (e : Int) :
  zq f m s (stk (qH A B) (qL A B)) (e - (qN A B : Nat) + (qC A B : Nat) - 1) = rq f m s A B e := by
 have hpr := zS h
 have hfb := zah h
 obtain ⟨b1, b2, b3⟩ := zg1 hA hB
 have hn := zeQ (m := m) h s hA (Nat.pos_of_ne_zero hB) e (qN A B) (by omega)
 rw [← hn]
 have hH : qH A B = A * 2 ^ qN A B / B / 2 ^ qC A B := rfl
 have hL : qL A B = (decide (A * 2 ^ qN A B / B % 2 ^ qC A B ≠ 0) || decide (A * 2 ^ qN A B % B ≠ 0)) := rfl
 rw [hL]
 rw [hH] at b3 ⊢
 generalize qN A B = n at *
 generalize qC A B = c at *
 generalize A * 2 ^ n % B = y at *
 generalize A * 2 ^ n / B = x at *
 have hr := Nat.mod_lt x (zi c)
 have hx := Nat.div_add_mod x (2 ^ c)
 have hb := zej (decide (y ≠ 0))
 have hs : stk x (decide (y ≠ 0)) = x / 2 ^ c * 2 ^ (c + 1) + (2 * (x % 2 ^ c) + bN (decide (y ≠ 0))) := by
  unfold stk
  conv => lhs; rw [← hx]
  rw [Nat.pow_succ, Nat.mul_comm (2 ^ c), ← Nat.mul_assoc]; omega
 rw [hs, zkf h s (by omega) (by rw [Nat.pow_succ]; omega)]
 have hd := znu (x % 2 ^ c) y
 rw [hd]
 congr 1
 omega
theorem zlB {f m : Int} (h : isF f) (s : Bool) {H : Nat} (hH : bl H = 64) (T : Int) (b : Bool) : zcq f m s T (UP m s H T b) (XP H T b) = zq f m s (stk H b) (T - 65) := by
 have hpr := zS h
 have hfb := zah h
 have h0 : H ≠ 0 := fun c => by rw [c, za2] at hH; omega
 have hb := zfd h0 b
 rw [← zfJ]
 have hT : T - 65 + (bl (stk H b) : Nat) = T := by omega
 rw [hT]
 refine zhb fun E hE => ?_
 unfold UP XP R exR stk
 have e1 : (T - 65 - E).toNat = 0 := by omega
 have e2 : (E - (T - 65)).toNat = (E - T + 64).toNat + 1 := by omega
 rw [e1, e2, Nat.pow_zero, Nat.mul_one]
 exact ⟨rfl, rfl⟩
theorem zlr {f m : Int} (h : isF f) (hm : isM m) {sa sb : Bool} {la lb : List Int} {ea eb : Int} (ha : My sa la ea) (hb : My sb lb eb) (A0 : V la ≠ 0) (B0 : V lb ≠ 0) (l1 : bl (V la) ≤ 32000) (l2 : bl (V lb) ≤ 32000) :
    Ev (fun k => zbx.f k f m sa la ea sb lb eb) ((rq f m (decide (¬ sa = sb)) (V la) (V lb) (ea - eb)).1, (rq f m (decide (¬ sa = sb)) (V la) (V lb) (ea - eb)).2, 0) := by
  have ma : My false la 0 := ⟨⟨ha.dy.nm, fun h => ⟨rfl, rfl⟩, ha.dy.odd⟩, ha.len, by omega, by omega⟩
  have mb : My false lb 0 := ⟨⟨hb.dy.nm, fun h => ⟨rfl, rfl⟩, hb.dy.odd⟩, hb.len, by omega, by omega⟩
  have h1 := ha.lo
  have h2 := ha.hi
  have h3 := hb.lo
  have h4 := hb.hi
  have hq := zmD ha.dy.nm hb.dy.nm ma mb A0 B0 l1 l2
  have hr := zou (m := m) h (decide (¬ sa = sb)) A0 B0 (ea - eb)
  obtain ⟨b1, b2, b3⟩ := zg1 A0 B0
  have hN : qN (V la) (V lb) = 65 + bl (V lb) - bl (V la) := rfl
  have hC : qC (V la) (V lb) = bl (V la * 2 ^ qN (V la) (V lb) / V lb) - 64 := rfl
  rw [← hr]
  clear hr
  generalize qN (V la) (V lb) = n at *
  generalize qC (V la) (V lb) = c at *
  generalize qH (V la) (V lb) = H at *
  generalize qL (V la) (V lb) = L at *
  have H0 : (H : Int) ≠ 0 := fun h => by have : H = 0 := by omega
                                         rw [this, za2] at b3; omega
  obtain ⟨j, j1, j2, j3, j4⟩ := zb0 H0 (0 - (n : Int) + (c : Int))
  rw [Int.natAbs_natCast] at j1
  have hj : bl (V (mk (H : Int) (0 - (n : Int) + (c : Int))).2.1) + j = 64 := by
    have := zaP j4 j
    rw [← j1] at this; omega
  have hd := zcx (H : Int) (0 - (n : Int) + (c : Int))
  generalize (mk (H : Int) (0 - (n : Int) + (c : Int))) = g at *
  obtain ⟨g1, g2, g3⟩ := g
  dsimp only at *
  have hl := hd.nm.len
  have hlb := zaW (x := V g2) (k := 2) (by omega)
  have hmy : My g1 g2 g3 := ⟨hd, by omega, by omega, by omega⟩
  have hp := zjK hmy j4
  obtain ⟨k1, k2⟩ := zm1 hj
  rw [k1, k2, ← j1] at hp
  have hT : ∀ b, zcq f m (decide (¬ sa = sb)) (g3 + (bl (V g2) : Nat) + (ea - eb)) (UP m (decide (¬ sa = sb)) H (g3 + (bl (V g2) : Nat) + (ea - eb)) b) (XP H (g3 + (bl (V g2) : Nat) + (ea - eb)) b) = zq f m (decide (¬ sa = sb)) (stk H b) (ea - eb - (n : Int) + (c : Int) - 1) := by
    intro b
    rw [zlB h _ b3]
    congr 1
    omega
  have HH : 2 ^ 63 ≤ H ∧ H < 2 ^ 64 := by
    have hne : H ≠ 0 := fun h => H0 (by omega)
    have u1 := zda hne
    have u2 := zR H
    rw [b3] at u1 u2
    exact ⟨u1, u2⟩
  have w1 : wrap64 (ea - eb) = ea - eb := zed (by omega) (by omega) (by omega) (by omega)
  have w2 : wrap64 (g3 + ((bl (V g2) : Nat) : Int) + (ea - eb)) = g3 + ((bl (V g2) : Nat) : Int) + (ea - eb) := zb9 (by omega) (by omega) (by omega) (by omega)
  have hw := fun b => zjM h hm (decide (¬ sa = sb)) HH (T := g3 + (bl (V g2) : Nat) + (ea - eb)) b (by omega) (by omega)
  have last : ∀ b : Bool, Ev (fun k => zbx.j1 k f m sa la ea sb lb eb (pr f : Int) (lo f) (wd f) (decide (¬ sa = sb)) (H : Int) (g3 + ((bl (V g2) : Nat) : Int)) b) ((zq f m (decide (¬ sa = sb)) (stk H b) (ea - eb - (n : Int) + (c : Int) - 1)).1, (zq f m (decide (¬ sa = sb)) (stk H b) (ea - eb - (n : Int) + (c : Int) - 1)).2, 0) := by
    intro b
    refine zf ?_
    simp only [zbx.j1, w1, w2]
    refine Ev.bind (hw b) ?_
    rw [hT b]
    exact Ev.now _
  clear w1 w2
  unfold zbx.f
  refine Ev.bind (zn8 h hm ha hb) ?_; try dsimp only
  refine ze (by simp) ?_
  refine Ev.bind (zgq hb) ?_; try dsimp only
  refine ze (by rw [zd3 B0]; split <;> omega) ?_
  refine Ev.bind (zgq ha) ?_; try dsimp only
  refine ze (by rw [zd3 A0]; split <;> omega) ?_
  refine Ev.bind (hq) ?_; try dsimp only
  refine Ev.bind (hp) ?_; try dsimp only
  refine ze (by simp) ?_
  exact last L
theorem zmC {sa sb : Bool} {la lb : List Int} {ea eb : Int} (ha : My sa la ea) (hb : My sb lb eb) (hl : bl (V la) + bl (V lb) ≤ 131000) (h1 : -16000000 ≤ ea + eb) (h2 : ea + eb ≤ 16000000) : Ev (fun k => zdj.f k sa la ea sb lb eb) (ok3 (mk (sv sa (V la) * sv sb (V lb)) (ea + eb))) := by
 have a1 := ha.lo
 have a2 := ha.hi
 have b1 := hb.lo
 have b2 := hb.hi
 have hbl := zgb (V la) (V lb)
 have hlen := zaW (x := V la * V lb) (k := 4096) (by omega)
 have e : wrap64 (ea + eb) = ea + eb := zb9 (by omega) (by omega) (by omega) (by omega)
 have m1 := zju ha.dy.nm hb.dy.nm ha.len hb.len
 rw [zff (by omega)] at m1
 have k1 := zcL (sa != sb) (zD (V la * V lb)) (by omega) (ea + eb)
 rw [V_D, zcS (by omega) (by omega), ← zkE] at k1
 have hne : (decide (¬ sa = sb)) = (sa != sb) := by cases sa <;> cases sb <;> rfl
 unfold zdj.f
 refine Ev.bind (ziL ha hb) ?_; try dsimp only
 refine ze (by simp) ?_
 refine Ev.bind (m1) ?_; try dsimp only
 refine ze (by simp) ?_
 rw [e, hne]
 clear e
 refine Ev.bind (k1) ?_; try dsimp only
 exact Ev.now _
theorem zeD {z e : Int} (hb : bl z.natAbs ≤ 131072) (h1 : -16777216 ≤ e) (h2 : e + (bl z.natAbs : Nat) ≤ 16777216) : My (mk z e).1 (mk z e).2.1 (mk z e).2.2 := by
 have a1 := zgI z e
 have a2 := zdW z e
 have e1 : (mk z e).2.2 = me z e := rfl
 exact ⟨zcx z e, by omega, by omega, by omega⟩
theorem znI (za ea zb eb : Int) : mk (mz za ea * mz zb eb) (me za ea + me zb eb) = mk (za * zb) (ea + eb) := by
 by_cases c : za = 0
 ·subst c; rw [zgM, Int.zero_mul, Int.zero_mul]; rfl
 by_cases c2 : zb = 0
 ·subst c2; rw [zgM, Int.mul_zero, Int.mul_zero]; rfl
 obtain ⟨j, p1, p2, _, _⟩ := zdX c ea
 obtain ⟨i, q1, q2, _, _⟩ := zdX c2 eb
 have e3 : za * zb = mz za ea * mz zb eb * 2 ^ (j + i) := by
  conv => lhs; rw [p1, q1]
  rw [Int.pow_add, Int.mul_assoc, Int.mul_assoc]
  congr 1
  rw [Int.mul_left_comm]
 rw [e3, zeC, p2, q2]
 congr 1
 omega
theorem ze7 (z e : Int) : bl (V (mk z e).2.1) ≤ bl z.natAbs := by
 by_cases c : z = 0
 ·subst c; exact Nat.zero_le _
 ·obtain ⟨j, j1, _⟩ := zb0 c e
  rw [j1]
  have h := zfe (V (mk z e).2.1) j
  have hp : V (mk z e).2.1 ≤ V (mk z e).2.1 * 2 ^ j := Nat.le_mul_of_pos_right _ (zi j)
  exact zaB hp
theorem zob {za ea zb eb : Int} (hb : bl za.natAbs + bl zb.natAbs ≤ 131000) (h1 : -8000000 ≤ ea) (h2 : ea ≤ 7000000) (h3 : -8000000 ≤ eb) (h4 : eb ≤ 7000000) : Ev (fun k => zdj.f k (mk za ea).1 (mk za ea).2.1 (mk za ea).2.2 (mk zb eb).1 (mk zb eb).2.1 (mk zb eb).2.2) (ok3 (mk (za * zb) (ea + eb))) := by
 have a2 := zdW za ea
 have b2 := zdW zb eb
 have a3 := ze7 za ea
 have b3 := ze7 zb eb
 have e1 : (mk za ea).2.2 = me za ea := rfl
 have e2 : (mk zb eb).2.2 = me zb eb := rfl
 refine zg (zmC (zeD (z := za) (e := ea) (by omega) (by omega) (by omega)) (zeD (z := zb) (e := eb) (by omega) (by omega) (by omega)) (by omega) (by omega) (by omega)) ?_
 show ok3 (mk (mz za ea * mz zb eb) (me za ea + me zb eb)) = _
 rw [znI]
theorem zkh {f m : Int} (h : isF f) (s : Bool) {A B : Nat} (hA : A ≠ 0) (hB : 0 < B) (e : Int) (j : Nat) : rq f m s A (B * 2 ^ j) e = rq f m s A B (e - j) := by
 have h1 := zfL (m := m) h s hA (Nat.mul_pos hB (zi j)) (e - j) j
 rw [show e - (j : Int) + j = e by omega] at h1
 rw [← h1, zfK h s hA hB (zi j)]
def zA (f m : Int) (s : Bool) (n : Nat) (x : Int) : Int × Int := rq f m s (n * 10 ^ x.toNat) (10 ^ (-x).toNat) 0
theorem zbM (n : Nat) : 0 < 10 ^ n := Nat.pow_pos (by omega)
theorem zir {f m : Int} (h : isF f) (s : Bool) {n : Nat} (hn : n ≠ 0) {x : Int} (hx : 400 ≤ x) : zA f m s n x = ((zdm f m s : Int), 20) := by
 have hw := zdz h
 unfold zA
 obtain ⟨K, hK⟩ : ∃ K : Nat, K = 1024 := ⟨_, rfl⟩
 refine zoZ h s (zbM _) (k := K) ?_ (by omega)
 have e1 : (-x).toNat = 0 := by omega
 rw [e1, Nat.pow_zero, Nat.one_mul]
 have h1 : 8 ^ x.toNat ≤ 10 ^ x.toNat := Nat.pow_le_pow_left (by omega) _
 have h2 : (2 : Nat) ^ K ≤ 2 ^ (3 * x.toNat) := Nat.pow_le_pow_right (by omega) (by omega)
 rw [Nat.pow_mul, show (2 : Nat) ^ 3 = 8 from rfl] at h2
 have h3 : 1 * 10 ^ x.toNat ≤ n * 10 ^ x.toNat := Nat.mul_le_mul_right _ (by omega)
 generalize (2 : Nat) ^ K = a at *
 generalize 8 ^ x.toNat = b at *
 omega
theorem zis {f m : Int} (h : isF f) (s : Bool) {n p : Nat} (hn : n ≠ 0) (hb : n < 10 ^ p) {x : Int} (hx : x + p ≤ -500) : zA f m s n x = zq f m s 1 (lo f - 2) := by
 have hw := zbg h
 have e1 : x.toNat = 0 := by omega
 unfold zA
 rw [e1, Nat.pow_zero, Nat.mul_one]
 obtain ⟨K, hK⟩ : ∃ K : Nat, K = 1080 := ⟨_, rfl⟩
 refine zo1 h s hn (zbM _) (k := K) ?_ (by omega)
 obtain ⟨c, hc⟩ : ∃ c : Nat, (-x).toNat = p + c ∧ 500 ≤ c := ⟨(-x).toNat - p, by omega, by omega⟩
 rw [hc.1, Nat.pow_add]
 have h2 : (2 : Nat) ^ K ≤ 10 ^ c := by
  have h3 : (2 : Nat) ^ K ≤ 2 ^ (3 * c) := Nat.pow_le_pow_right (by omega) (by omega)
  rw [Nat.pow_mul] at h3
  exact Nat.le_trans h3 (Nat.pow_le_pow_left (by omega) _)
 exact Nat.mul_lt_mul_of_lt_of_le hb h2 (zbM c)
theorem zmf {f m : Int} (h : isF f) (s : Bool) {n p : Nat} (hn : n ≠ 0) (hb : n < 10 ^ p) {a b : Int} (ha : 400 ≤ a) (hB : b + p ≤ -500) (x : Int) : zA f m s n (if x > a then a else if x < b then b else x) = zA f m s n x := by
 by_cases c1 : x > a
 ·rw [if_pos c1, zir h s hn ha, zir h s hn (by omega)]
 ·rw [if_neg c1]
  by_cases c2 : x < b
  ·rw [if_pos c2, zis h s hn hb hB, zis h s hn hb (by omega)]
  ·rw [if_neg c2]
theorem zmh {f m : Int} (h : isF f) (s : Bool) {n : Nat} (hn : n ≠ 0) (X : Nat) : zq f m s (n * 5 ^ X) X = zA f m s n X := by
 have h5 : n * 5 ^ X ≠ 0 := Nat.mul_ne_zero hn (Nat.ne_of_gt (Nat.pow_pos (by omega)))
 have h1 := zfL (m := m) h s h5 (B := 1) (by omega) 0 X
 rw [Int.zero_add] at h1
 unfold zA
 rw [← zkj h s h5, ← h1, Nat.mul_assoc, ← Nat.mul_pow]
 have e1 : (X : Int).toNat = X := Int.toNat_natCast X
 have e2 : (-(X : Int)).toNat = 0 := by omega
 rw [e1, e2]
theorem ziq {f m : Int} (h : isF f) (s : Bool) {n : Nat} (hn : n ≠ 0) (Y : Nat) : rq f m s n (5 ^ Y) (-(Y : Int)) = zA f m s n (-(Y : Int)) := by
 have h1 := zkh (m := m) h s hn (B := 5 ^ Y) (Nat.pow_pos (by omega)) 0 Y
 rw [← Nat.mul_pow, Int.zero_sub] at h1
 unfold zA
 rw [← h1]
 have e1 : (-(Y : Int)).toNat = 0 := by omega
 have e2 : (-(-(Y : Int))).toNat = Y := by omega
 rw [e1, e2, Nat.pow_zero, Nat.mul_one]
theorem zlw {f m : Int} (h : isF f) (hm : isM m) (s : Bool) {n : Nat} (hn : n ≠ 0) {e : Int} (hb : bl n ≤ 100000) (h1 : -1000000 ≤ e) (h2 : e ≤ 1000000) : Ev (fun k => zdr.f k f m (mk (sv s n) e).1 (mk (sv s n) e).2.1 (mk (sv s n) e).2.2) ((zq f m s n e).1, (zq f m s n e).2, 0) := by
 have z0 : sv s n ≠ 0 := fun h => hn (zcv.1 h)
 obtain ⟨j, j1, j2, j3, j4⟩ := zb0 z0 e
 have hm1 := zeD (z := sv s n) (e := e) (by rw [zay]; omega) (by omega) (by rw [zay]; omega)
 have hr := zlv h hm hm1 j4
 rw [zd2 hn] at j3
 rw [zay] at j1
 have e1 := zhc f m s j4 e j
 rw [← j1, ← j2] at e1
 have e2 : zq f m (mk (sv s n) e).1 (V (mk (sv s n) e).2.1) (mk (sv s n) e).2.2 = zq f m s n e := by rw [j3, ← e1]
 rwa [e2] at hr
theorem zfE (n : Nat) : bl (5 ^ n) ≤ 3 * n + 1 := by
 refine zK ?_
 have h1 : 5 ^ n ≤ 8 ^ n := Nat.pow_le_pow_left (by omega) n
 rw [Nat.pow_succ, Nat.pow_mul]
 have : (2 : Nat) ^ 3 = 8 := rfl
 rw [this]
 have := Nat.pow_pos (n := n) (show 0 < 8 by omega)
 omega
theorem zjP (n : Nat) : bl (10 ^ n) ≤ 4 * n + 1 := by
 refine zK ?_
 have h1 : 10 ^ n ≤ 16 ^ n := Nat.pow_le_pow_left (by omega) n
 rw [Nat.pow_succ, Nat.pow_mul]
 have : (2 : Nat) ^ 4 = 16 := rfl
 rw [this]
 have := Nat.pow_pos (n := n) (show 0 < 16 by omega)
 omega
theorem znX (s : Bool) : decide (¬ s = false) = s := by cases s <;> rfl
theorem zov {f m : Int} (h : isF f) (s : Bool) {n N : Nat} {e e' : Int} (hn : n ≠ 0) (hN : N ≠ 0) : rq f m s (V (mk (sv s n) e).2.1) (V (mk (N : Int) e').2.1) ((mk (sv s n) e).2.2 - (mk (N : Int) e').2.2) = rq f m s n N (e - e') := by
 have z0 : sv s n ≠ 0 := fun h => hn (zcv.1 h)
 have z1 : (N : Int) ≠ 0 := by omega
 obtain ⟨j, j1, j2, j3, j4⟩ := zb0 z0 e
 obtain ⟨i, i1, i2, i3, i4⟩ := zb0 z1 e'
 rw [zay] at j1
 rw [Int.natAbs_natCast] at i1
 rw [i2, j2]
 have h1 := zfL (m := m) h s j4 (Nat.pos_of_ne_zero i4) (e - (e' + (i : Int))) j
 have h2 := zkh (m := m) h s hn (Nat.pos_of_ne_zero i4) (e - e') i
 rw [← j1] at h1
 rw [← i1] at h2
 rw [h2, show e - e' - (i : Int) = e - (e' + (i : Int)) by omega, h1]
 congr 1
 omega
theorem zmm {f m : Int} (h : isF f) (hm : isM m) (s : Bool) {n : Nat} (hn : n ≠ 0) {p : Nat} (hp : p ≤ 1200) (hb : n < 10 ^ p) (x : Int) : Ev (fun k => zcI.f k f m s (D n) x) ((zA f m s n x).1, (zA f m s n x).2, 0) := by
 have hx := zmf (m := m) h s hn hb (a := 3000) (b := -3000) (by omega) (by omega) x
 have ex : mn 3000 (mx (-3000) x) = (if x > 3000 then 3000 else if x < -3000 then -3000 else x) := by unfold mn mx; split <;> split <;> split <;> (try split) <;> omega
 rw [← hx]
 unfold zcI.f
 rw [ex]
 have hr : -3000 ≤ (if x > 3000 then 3000 else if x < -3000 then -3000 else x) ∧ (if x > 3000 then 3000 else if x < -3000 then -3000 else x) ≤ 3000 := by split <;> (try split) <;> omega
 clear ex hx
 generalize (if x > 3000 then 3000 else if x < -3000 then -3000 else x) = y at *
 have hbn : bl n ≤ 4801 := by
  have h1 := zaB (Nat.le_of_lt hb)
  have h2 := zjP p
  omega
 have lenn := zaW (x := n) (k := 200) (by omega)
 have hmk := zcL s (zD n) (by omega) y
 rw [V_D, zcS (by omega) (by omega)] at hmk
 refine Ev.bind (hmk) ?_; try dsimp only
 by_cases c : y ≥ 0
 ·refine zd c ?_
  obtain ⟨Y, rfl⟩ := Int.eq_ofNat_of_zero_le c
  have b5 := zfE Y
  have l5 := zaW (x := 5 ^ Y) (k := 400) (by omega)
  have hpw := zgP (b := 5) (n := Y) (by omega) (by omega)
  rw [zff (by omega)] at hpw
  have hm5 := zcL false (zD (5 ^ Y)) (by omega) 0
  rw [V_D, zcS (by omega) (by omega)] at hm5
  refine Ev.bind (hpw) ?_; try dsimp only
  refine Ev.bind (hm5) ?_; try dsimp only
  have hmul := zob (za := sv s n) (ea := (Y : Int)) (zb := sv false (5 ^ Y)) (eb := 0) (by rw [zay, zay]; omega) (by omega) (by omega) (by omega) (by omega)
  rw [zkE, Bool.bne_false, Int.add_zero] at hmul
  have h50 : n * 5 ^ Y ≠ 0 := Nat.mul_ne_zero hn (Nat.ne_of_gt (Nat.pow_pos (by omega)))
  have hro := zlw h hm s h50 (e := (Y : Int)) (by have := zgb n (5 ^ Y); omega) (by omega) (by omega)
  rw [zmh h s hn Y] at hro
  refine Ev.bind (hmul) ?_; try dsimp only
  refine Ev.bind (hro) ?_; try dsimp only
  exact Ev.now _
 ·refine ze c ?_
  obtain ⟨Y, hY⟩ : ∃ Y : Nat, y = -(Y : Int) := ⟨(-y).toNat, by omega⟩
  subst hY
  have b5 := zfE Y
  have l5 := zaW (x := 5 ^ Y) (k := 400) (by omega)
  have hpw := zgP (b := 5) (n := Y) (by omega) (by omega)
  rw [zff (by omega)] at hpw
  have hm5 := zcL false (zD (5 ^ Y)) (by omega) 0
  rw [V_D, zcS (by omega) (by omega)] at hm5
  rw [show wrap64 (-(-(Y : Int))) = (Y : Int) by rw [zfT (by omega) (by omega)]; omega]
  refine Ev.bind (hpw) ?_; try dsimp only
  refine Ev.bind (hm5) ?_; try dsimp only
  have z0 : sv s n ≠ 0 := fun h => hn (zcv.1 h)
  have h50 : 5 ^ Y ≠ 0 := Nat.ne_of_gt (Nat.pow_pos (by omega))
  have z1 : sv false (5 ^ Y) ≠ 0 := fun h => h50 (zcv.1 h)
  have m1 := zeD (z := sv s n) (e := -(Y : Int)) (by rw [zay]; omega) (by omega) (by rw [zay]; omega)
  have m2 := zeD (z := sv false (5 ^ Y)) (e := 0) (by rw [zay]; omega) (by omega) (by rw [zay]; omega)
  obtain ⟨j, j1, j2, j3, j4⟩ := zb0 z0 (-(Y : Int))
  obtain ⟨i, i1, i2, i3, i4⟩ := zb0 z1 0
  have v1 := ze7 (sv s n) (-(Y : Int))
  have v2 := ze7 (sv false (5 ^ Y)) 0
  rw [zay] at v1 v2
  have hq := zlr h hm m1 m2 j4 i4 (by omega) (by omega)
  have hsg : decide (¬ (mk (sv s n) (-(Y : Int))).1 = (mk (sv false (5 ^ Y)) 0).1) = s := by
   rw [j3, i3, zd2 hn, zd2 h50]; exact znX s
  rw [hsg] at hq
  have hpt := zov (m := m) h s (e := -(Y : Int)) (e' := 0) hn h50
  rw [Int.sub_zero, ziq h s hn Y] at hpt
  rw [show sv false (5 ^ Y) = ((5 ^ Y : Nat) : Int) from rfl] at *
  rw [hpt] at hq
  refine Ev.bind (hq) ?_; try dsimp only
  exact Ev.now _
def bx (l : List UInt8) : ByteArray := ⟨l.toArray⟩
theorem zX (l : List UInt8) : tl (bx l) = l := rfl
theorem zl3 (s : ByteArray) : bx (tl s) = s := zbm.1 rfl
theorem zy (l : List UInt8) : (bx l).size = l.length := by rw [zeV, zX]
theorem zaQ {l : List UInt8} : bx l = (⟨#[]⟩ : ByteArray) ↔ l = [] := by rw [← zkR, zX]
theorem zgw {s : ByteArray} {A B C : List UInt8} (h : tl s = A ++ (B ++ C)) : s.extract A.length (A.length + B.length) = bx B := by
 apply zbm.1
 rw [zfO, zX, h, ← List.append_assoc, List.take_append_of_le_length (by simp), List.take_of_length_le (by simp), List.drop_left]
theorem ziT {s : ByteArray} {A B : List UInt8} (h : tl s = A ++ B) : s.extract A.length s.size = bx B := by
 have hz := zbj h
 have := zgw (s := s) (A := A) (B := B) (C := []) (by simpa using h)
 rw [hz]; exact this
def zaO (d : List UInt8) (x : Int) (l : List UInt8) : Option (List UInt8 × Int) :=
 if l = [] then some (d, x) else if l.head? = some 101 ∧ zas l.tail = true then some (d, x + zbX l.tail) else none
def zbw (l : List UInt8) : Option (List UInt8 × Int) :=
 if l.takeWhile isD = [] then none
 else if (l.dropWhile isD).head? = some 46 then
  if (l.dropWhile isD).tail.takeWhile isD = [] then none
  else zaO (l.takeWhile isD ++ (l.dropWhile isD).tail.takeWhile isD) (-(((l.dropWhile isD).tail.takeWhile isD).length : Int)) ((l.dropWhile isD).tail.dropWhile isD)
 else zaO (l.takeWhile isD) 0 (l.dropWhile isD)
def zen (f m : Int) (s : Bool) (n : Nat) (x : Int) : Int × Int × Int := if n = 0 then ((sgn f s : Int), 0, 0) else ((zA f m s n x).1, (zA f m s n x).2, 0)
def zmd (f m : Int) (s : Bool) : Option (List UInt8 × Int) → Int × Int × Int
 | some x => zen f m s (zh x.1 0) x.2
 | none => (0, 0, 12)
def zgi (f m : Int) (s : Bool) (l : List UInt8) : Int × Int × Int :=
 if l = [105, 110, 102] then (((mo f * 2 ^ fb f + sgn f s : Nat) : Int), 0, 0) else zmd f m s (zbw l)
def zdh (f m : Int) (l : List UInt8) : Int × Int × Int :=
 if 1200 < l.length then (0, 0, 3) else if l = [110, 97, 110] then ((zeE f : Int), 0, 0) else zgi f m (zcp l) (zce l)
theorem zcP {b : UInt8} : isD b = true ↔ 48 ≤ (b.toNat : Int) ∧ (b.toNat : Int) ≤ 57 := by unfold isD; rw [decide_eq_true_iff]; omega
section
variable {s : ByteArray} (hs : s.size ≤ 1000000)
include hs
theorem zkn (A0 : List UInt8) : ∀ (B C : List UInt8), tl s = A0 ++ (C ++ B) →
  Ev (fun k => zaU.l0 k s ((A0.length + C.length : Nat) : Int) (A0.length : Int)) (bx (C ++ B.takeWhile isD), s, ((A0.length + (C ++ B.takeWhile isD).length : Nat) : Int))
 | [], C, he => by
  have hz := zbj (A := A0 ++ C) (B := []) (by simpa using he)
  simp only [List.length_append, List.length_nil] at hz
  have hx := zgw (s := s) (A := A0) (B := C) (C := []) (by simpa using he)
  refine zf ?_; simp only [zaU.l0]
  refine ze (by omega) (zd (by omega) (zd (by omega) (zd (by omega) ?_)))
  rw [Int.toNat_natCast, Int.toNat_natCast, hx]
  exact zg (Ev.now _) (by simp)
 | b :: B, C, he => by
  have he2 : tl s = (A0 ++ C) ++ b :: B := by rw [he]; simp
  have hz := zbj he2
  simp only [List.length_append, List.length_cons] at hz
  have hb := zcf he2
  rw [List.length_append] at hb
  have hx := zgw (s := s) (A := A0) (B := C) (C := b :: B) he
  have stop : Ev (fun k => (if 0 ≤ ((A0.length : Nat) : Int) then (if ((A0.length : Nat) : Int) ≤ ((A0.length + C.length : Nat) : Int) then (if ((A0.length + C.length : Nat) : Int) ≤ (s.size : Int) then (some (s.extract ((A0.length : Nat) : Int).toNat (((A0.length + C.length : Nat) : Int)).toNat, s, ((A0.length + C.length : Nat) : Int))) else (none)) else (none)) else (none))) (bx C, s, ((A0.length + C.length : Nat) : Int)) := by
   refine zd (by omega) (zd (by omega) (zd (by omega) ?_))
   rw [Int.toNat_natCast, Int.toNat_natCast, hx]
   exact Ev.now _
  refine zf ?_; simp only [zaU.l0]
  rw [hb]
  refine zd (by omega) (zd (by omega) (zd (by omega) ?_))
  by_cases c1 : 48 ≤ (b.toNat : Int)
  ·refine zd c1 (zd (by omega) (zd (by omega) ?_))
   by_cases c2 : (b.toNat : Int) ≤ 57
   ·refine zd c2 ?_
    have e1 : wrap64 (((A0.length + C.length : Nat) : Int) + 1) = ((A0.length + (C ++ [b]).length : Nat) : Int) := by
     rw [List.length_append, List.length_singleton, w64 (by omega) (by omega)]; omega
    rw [e1]
    clear e1
    have := zkn A0 B (C ++ [b]) (by rw [he]; simp)
    rw [List.append_assoc, List.singleton_append] at this
    rw [List.takeWhile_cons, zcP.2 ⟨c1, c2⟩]
    simpa using this
   ·refine ze c2 ?_
    have : isD b = false := by rw [Bool.eq_false_iff]; intro h; exact c2 (zcP.1 h).2
    rw [List.takeWhile_cons, this]
    simpa using stop
  ·refine ze c1 ?_
   have : isD b = false := by rw [Bool.eq_false_iff]; intro h; exact c1 (zcP.1 h).1
   rw [List.takeWhile_cons, this]
   simpa using stop
theorem zhe {A B : List UInt8} (he : tl s = A ++ B) : Ev (fun k => zaU.f k s (A.length : Int)) (bx (B.takeWhile isD), s, (((A ++ B.takeWhile isD).length : Nat) : Int)) := by
 unfold zaU.f
 have := zkn hs A B [] (by simpa using he)
 simpa using this
theorem zeT {A r : List UInt8} {x : UInt8} (he : tl s = A ++ x :: r) {c : ByteArray} (hc : x ∈ tl c) : Ev (fun k => zZ.f k s (A.length : Int) c) ((x.toNat : Int), true, s, (((A ++ [x]).length : Nat) : Int)) := by
 have hz := zbj he
 simp only [List.length_cons] at hz
 have hb := zcf he
 have hi : zcX.f c (x.toNat : Int) = some (Lib.indexByte (tl c) x) := by
  unfold zcX.f zbG.f
  have : ((x.toNat : Int)).toNat.toUInt8 = x := by rw [Int.toNat_natCast]; exact UInt8.ofNat_toNat
  rw [this]; rfl
 have h0 : decide (Lib.indexByte (tl c) x ≥ 0) = true := by
  rcases zi2 (tl c) x with ⟨_, h2⟩ | ⟨P, Q, _, _, h3⟩
  ·exact absurd hc h2
  ·rw [h3]; exact decide_eq_true (by omega)
 have e1 : wrap64 ((A.length : Int) + 1) = ((A.length + 1 : Nat) : Int) := by rw [w64 (by omega) (by omega)]; omega
 have e2 : wrap64 (((A.length + 1 : Nat) : Int) - 1) = (A.length : Int) := by clear e1; rw [w64 (by omega) (by omega)]; omega
 unfold zZ.f
 rw [hb]
 refine zd (by omega) (zd (by omega) (zd (by omega) (zk hi ?_)))
 rw [h0]
 refine zf ?_; simp only [zZ.j0]
 rw [e1, e2, hb]
 clear e1 e2
 refine zd trivial (zd (by omega) (zd (by omega) (zg (Ev.now _) ?_)))
 rw [List.length_append]; rfl
theorem zeU {A B : List UInt8} (he : tl s = A ++ B) {c : ByteArray} (hc : ∀ x r, B = x :: r → x ∉ tl c) : Ev (fun k => zZ.f k s (A.length : Int) c) (0, false, s, (A.length : Int)) := by
 have hs' := hs
 have hz := zbj he
 have no : Ev (fun k => zZ.j0 k s (A.length : Int) false) (0, false, s, (A.length : Int)) := by
  refine zf ?_; simp only [zZ.j0]
  exact ze (by simp) (Ev.now _)
 unfold zZ.f
 cases B with
 | nil =>
  simp only [List.length_nil] at hz
  exact ze (by omega) no
 | cons x r =>
  simp only [List.length_cons] at hz
  have hb := zcf he
  have hi : zcX.f c (x.toNat : Int) = some (Lib.indexByte (tl c) x) := by
   unfold zcX.f zbG.f
   have : ((x.toNat : Int)).toNat.toUInt8 = x := by rw [Int.toNat_natCast]; exact UInt8.ofNat_toNat
   rw [this]; rfl
  have h0 : decide (Lib.indexByte (tl c) x ≥ 0) = false := by
   rcases zi2 (tl c) x with ⟨h2, _⟩ | ⟨P, Q, h3, _, _⟩
   ·rw [h2]; rfl
   ·exact absurd (by rw [h3]; simp) (hc x r rfl)
  rw [hb]
  refine zd (by omega) (zd (by omega) (zd (by omega) (zk hi ?_)))
  rw [h0]
  exact no
end
theorem zip : ∀ (l : List UInt8) (a : Nat), l.all isD = true → Lib.decFrom a l = some (zh l a)
 | [], a, _ => rfl
 | b :: l, a, h => by
  simp only [List.all_cons, Bool.and_eq_true] at h
  have hb := zcP.1 h.1
  unfold Lib.decFrom
  have hd : Lib.digitVal b = some (b.toNat - 48) := by unfold Lib.digitVal; rw [if_pos (by omega)]
  rw [hd]
  show Lib.decFrom (a * 10 + (b.toNat - 48)) l = _
  rw [zip l _ h.2]
  show _ = some (zh l (10 * a + (b.toNat - 48)))
  rw [Nat.mul_comm]
theorem zlR {l : List UInt8} (h : l.all isD = true) (h0 : l ≠ []) : Lib.atoi l = some ((zh l 0 : Nat) : Int) := by
 cases l with
 | nil => exact absurd rfl h0
 | cons b r =>
  have hb : isD b = true := by simp only [List.all_cons, Bool.and_eq_true] at h; exact h.1
  have hb := zcP.1 hb
  have n1 : (b == 45) = false := by rw [beq_eq_false_iff_ne]; intro h; rw [h] at hb; exact absurd hb.1 (by decide)
  have n2 : (b == 43) = false := by rw [beq_eq_false_iff_ne]; intro h; rw [h] at hb; exact absurd hb.1 (by decide)
  unfold Lib.atoi
  simp only [n1, n2, Bool.false_eq_true, if_false]
  have : Lib.decNat (b :: r) = some (zh (b :: r) 0) := by
   unfold Lib.decNat
   simp only [List.isEmpty_cons, Bool.false_eq_true, if_false]
   exact zip _ 0 h
  rw [this]; rfl
theorem zmP (E : List UInt8) : (∃ r, E = 45 :: r ∧ zw E = r ∧ zcN E = true) ∨ (∃ r, E = 43 :: r ∧ zw E = r ∧ zcN E = false) ∨ ((∀ x r, E = x :: r → x ≠ 45 ∧ x ≠ 43) ∧ zw E = E ∧ zcN E = false) := by
 cases E with
 | nil => exact .inr (.inr ⟨by simp, rfl, rfl⟩)
 | cons x r =>
  by_cases c1 : x = 45
  ·subst c1; exact .inl ⟨r, rfl, rfl, rfl⟩
  by_cases c2 : x = 43
  ·subst c2; exact .inr (.inl ⟨r, rfl, rfl, rfl⟩)
  obtain ⟨h1, h2⟩ := zmO (l := x :: r) (by simpa using c1) (by simpa using c2)
  refine .inr (.inr ⟨?_, h2, h1⟩)
  intro y t h
  rw [← (List.cons.inj h).1]
  exact ⟨c1, c2⟩
theorem zpz {l : List UInt8} {p : UInt8 → Bool} (h : l.dropWhile p = []) : l.all p = true ∧ l.takeWhile p = l := by
 have h1 := zdw p l
 rw [h, List.append_nil] at h1
 have h2 := zd4 p l
 rw [h1] at h2
 exact ⟨h2, h1⟩
theorem ziI {l : List UInt8} {p : UInt8 → Bool} (h : l.all p = true) : l.dropWhile p = [] ∧ l.takeWhile p = l := by
 induction l with
 | nil => exact ⟨rfl, rfl⟩
 | cons a l ih =>
  simp only [List.all_cons, Bool.and_eq_true] at h
  obtain ⟨h1, h2⟩ := ih h.2
  simp [h.1, h1, h2]
def zf0 (s : ByteArray) (o : Option (List UInt8 × Int)) (r : ByteArray × Int × Bool × ByteArray × Int) : Prop :=
 match o with
 | some (d, x) => r.1 = bx d ∧ r.2.1 = x ∧ r.2.2.1 = true
 | none => r.2.2.1 = false
theorem ziw {s : ByteArray} (hs : s.size ≤ 1000000) {A B d : List UInt8} (he : tl s = A ++ B) {x : Int} (hx : -1000000 ≤ x ∧ x ≤ 1000000) :
  ∃ r, Ev (fun k => zM.j2 k s (A.length : Int) (bx d) x) r ∧ zf0 s (zaO d x B) r := by
 have hz := zbj he
 have last : ∀ (a : Int) (y : Int), Ev (fun k => zM.j6 k s a (bx d) y) (bx d, y, decide (a = (s.size : Int)), s, a) := by
  intro a y
  refine zf ?_; simp only [zM.j6]
  exact Ev.now _
 by_cases c0 : B.head? = some 101
 ·obtain ⟨E, hB⟩ : ∃ E, B = 101 :: E := by
   cases B with
   | nil => simp at c0
   | cons y E => simp at c0; exact ⟨E, by rw [c0]⟩
  subst hB
  have he2 : tl s = (A ++ [101]) ++ E := by rw [he]; simp
  have ht := zeT hs he (c := (⟨#[101]⟩ : ByteArray)) (by simp [tl])
  have hT : zaO d x (101 :: E) = if zas E = true then some (d, x + zbX E) else none := by
   unfold zaO
   rw [if_neg (by simp)]
   simp
  rw [hT]
  obtain ⟨A2, b, ok, hA2, hsg, hbn⟩ : ∃ (A2 : List UInt8) (b : Int) (ok : Bool), tl s = A2 ++ zw E ∧ Ev (fun k => zZ.f k s (((A ++ [101]).length : Nat) : Int) (⟨#[43, 45]⟩ : ByteArray)) (b, ok, s, (A2.length : Int)) ∧ (b = 45 ↔ zcN E = true) := by
   rcases zmP E with ⟨r, h1, h2, h3⟩ | ⟨r, h1, h2, h3⟩ | ⟨h1, h2, h3⟩
   ·subst h1
    refine ⟨A ++ [101] ++ [45], 45, true, by rw [he2, h2]; simp, ?_, by simp [h3]⟩
    exact zeT hs he2 (c := (⟨#[43, 45]⟩ : ByteArray)) (by simp [tl])
   ·subst h1
    refine ⟨A ++ [101] ++ [43], 43, true, by rw [he2, h2]; simp, ?_, by simp [h3]⟩
    exact zeT hs he2 (c := (⟨#[43, 45]⟩ : ByteArray)) (by simp [tl])
   ·refine ⟨A ++ [101], 0, false, by rw [he2, h2], ?_, by simp [h3]⟩
    refine zeU hs he2 (c := (⟨#[43, 45]⟩ : ByteArray)) ?_
    intro y t h
    have := h1 y t h
    simp [tl, this.1, this.2]
  have hd := zhe hs hA2
  have htw := zdw isD (zw E)
  have hz2 := zbj (s := s) (A := A2 ++ (zw E).takeWhile isD) (B := (zw E).dropWhile isD) (by rw [hA2, List.append_assoc, htw])
  by_cases k1 : (zw E).takeWhile isD = []
  ·have hno : zas E = false := by
    unfold zas
    by_cases c : zw E = []
    ·simp [c]
    ·cases hE : zw E with
     | nil => exact absurd hE c
     | cons y t =>
      rw [hE] at k1
      have : isD y = false := by
       by_cases hy : isD y = true
       ·rw [List.takeWhile_cons, hy] at k1; simp at k1
       ·simpa using hy
      simp [this]
   rw [if_neg (by rw [hno]; simp)]
   refine ⟨((⟨#[]⟩ : ByteArray), 0, false, s, (((A2 ++ (zw E).takeWhile isD).length : Nat) : Int)), ?_, rfl⟩
   refine zf ?_; simp only [zM.j2]
   refine Ev.bind (ht) ?_; try dsimp only
   refine zd rfl ?_
   refine Ev.bind (hsg) ?_; try dsimp only
   refine Ev.bind (hd) ?_; try dsimp only
   exact zd (zaQ.2 k1) (Ev.now _)
  by_cases k2 : 6 < ((zw E).takeWhile isD).length
  ·have hno : zas E = false := by
    unfold zas
    have h1 := congrArg List.length htw
    rw [List.length_append] at h1
    have : decide ((zw E).length ≤ 6) = false := decide_eq_false (by omega)
    rw [this]; simp
   rw [if_neg (by rw [hno]; simp)]
   refine ⟨((⟨#[]⟩ : ByteArray), 0, false, s, (((A2 ++ (zw E).takeWhile isD).length : Nat) : Int)), ?_, rfl⟩
   refine zf ?_; simp only [zM.j2]
   refine Ev.bind (ht) ?_; try dsimp only
   refine zd rfl ?_
   refine Ev.bind (hsg) ?_; try dsimp only
   refine Ev.bind (hd) ?_; try dsimp only
   refine ze (fun h => k1 (zaQ.1 h)) (zd ?_ (Ev.now _))
   rw [zy]; omega
  ·have hat := zlR (zd4 isD (zw E)) k1
   have hv := ziG (zd4 isD (zw E)) (by omega)
   have hsc : zbk.f (bx ((zw E).takeWhile isD)) = some ((zh ((zw E).takeWhile isD) 0 : Nat) : Int) := by
    unfold zbk.f
    rw [if_pos (by rw [zy]; omega)]
    exact hat
   have main : ∃ y : Int, Ev (fun k => zM.j2 k s (A.length : Int) (bx d) x) (bx d, y, decide ((((A2 ++ (zw E).takeWhile isD).length : Nat) : Int) = (s.size : Int)), s, (((A2 ++ (zw E).takeWhile isD).length : Nat) : Int)) ∧ (zas E = true → y = x + zbX E) := by
    refine ⟨x + (if zcN E = true then -((zh ((zw E).takeWhile isD) 0 : Nat) : Int) else ((zh ((zw E).takeWhile isD) 0 : Nat) : Int)), ?_, ?_⟩
    ·refine zf ?_; simp only [zM.j2]
     refine Ev.bind (ht) ?_; try dsimp only
     refine zd rfl ?_
     refine Ev.bind (hsg) ?_; try dsimp only
     refine Ev.bind (hd) ?_; try dsimp only
     refine ze (fun h => k1 (zaQ.1 h)) (ze (by rw [zy]; omega) ?_)
     refine zk (hsc) ?_; try dsimp only
     by_cases c : b = 45
     ·rw [if_pos (hbn.1 c)]
      refine zd c ?_
      have w : wrap64 (x + wrap64 (-((zh ((zw E).takeWhile isD) 0 : Nat) : Int))) = x + -((zh ((zw E).takeWhile isD) 0 : Nat) : Int) := by
       rw [zfT (by omega) (by omega), zb9 (by omega) (by omega) (by omega) (by omega)]
      rw [w]
      exact last _ _
     ·rw [if_neg (fun h => c (hbn.2 h))]
      refine ze c ?_
      rw [zb9 (by omega) (by omega) (by omega) (by omega)]
      exact last _ _
    ·intro hok
     unfold zas at hok
     simp only [Bool.and_eq_true, decide_eq_true_eq] at hok
     rw [(ziI hok.2).2]
     rfl
   obtain ⟨y, hy, hyv⟩ := main
   refine ⟨_, hy, ?_⟩
   by_cases hok : zas E = true
   ·rw [if_pos hok]
    refine ⟨rfl, hyv hok, ?_⟩
    unfold zas at hok
    simp only [Bool.and_eq_true, decide_eq_true_eq] at hok
    rw [(ziI hok.2).1, List.length_nil] at hz2
    exact decide_eq_true (by omega)
   ·rw [if_neg hok]
    refine decide_eq_false ?_
    intro h
    have h3 : (zw E).dropWhile isD = [] := List.eq_nil_of_length_eq_zero (by omega)
    obtain ⟨h4, h5⟩ := zpz h3
    refine hok ?_
    unfold zas
    rw [h5] at k1 k2
    rw [h4, decide_eq_true (show zw E ≠ [] from k1), decide_eq_true (show (zw E).length ≤ 6 by omega)]; rfl
 ·have ht := zeU hs he (c := (⟨#[101]⟩ : ByteArray)) (by intro y t h; rw [h] at c0; simpa [tl] using c0)
  refine ⟨(bx d, x, decide ((A.length : Int) = (s.size : Int)), s, (A.length : Int)), ?_, ?_⟩
  ·refine zf ?_; simp only [zM.j2]
   refine Ev.bind (ht) ?_; try dsimp only
   exact ze (by simp) (last _ _)
  ·unfold zaO
   by_cases c1 : B = []
   ·rw [if_pos c1]
    subst c1
    exact ⟨rfl, rfl, decide_eq_true (by rw [List.length_nil] at hz; omega)⟩
   ·rw [if_neg c1, if_neg (fun h => c0 h.1)]
    have : 0 < B.length := by cases B with | nil => exact absurd rfl c1 | cons _ _ => simp
    exact decide_eq_false (by omega)
theorem zmn {s : ByteArray} (hs : s.size ≤ 1000000) {A B : List UInt8} (he : tl s = A ++ B) :
  ∃ r, Ev (fun k => zM.f k s (A.length : Int)) r ∧ zf0 s (zbw B) r := by
 have hz := zbj he
 have hd := zhe hs he
 have htw := zdw isD B
 unfold zbw
 by_cases c0 : B.takeWhile isD = []
 ·rw [if_pos c0]
  refine ⟨((⟨#[]⟩ : ByteArray), 0, false, s, (((A ++ B.takeWhile isD).length : Nat) : Int)), ?_, rfl⟩
  unfold zM.f
  refine Ev.bind (hd) ?_; try dsimp only
  exact zd (zaQ.2 c0) (Ev.now _)
 rw [if_neg c0]
 have he2 : tl s = (A ++ B.takeWhile isD) ++ B.dropWhile isD := by rw [he, List.append_assoc, htw]
 have hz2 := zbj he2
 by_cases c1 : (B.dropWhile isD).head? = some 46
 ·rw [if_pos c1]
  obtain ⟨r, hr⟩ : ∃ r, B.dropWhile isD = 46 :: r := by
   cases hB : B.dropWhile isD with
   | nil => rw [hB] at c1; simp at c1
   | cons y E => rw [hB] at c1; simp at c1; exact ⟨E, by rw [c1]⟩
  rw [hr] at he2 ⊢
  have ht := zeT hs he2 (c := (⟨#[46]⟩ : ByteArray)) (by simp [tl])
  have he3 : tl s = (A ++ B.takeWhile isD ++ [46]) ++ r := by rw [he2]; simp
  have hz3 := zbj he3
  have hd2 := zhe hs he3
  have htw2 := zdw isD r
  have hl2 := congrArg List.length htw2
  rw [List.length_append] at hl2
  simp only [List.length_append, List.length_singleton] at hz3
  show ∃ r_1, _ ∧ zf0 s (if r.takeWhile isD = [] then none else zaO (B.takeWhile isD ++ r.takeWhile isD) (-((r.takeWhile isD).length : Int)) (r.dropWhile isD)) r_1
  by_cases c2 : r.takeWhile isD = []
  ·rw [if_pos c2]
   refine ⟨((⟨#[]⟩ : ByteArray), 0, false, s, (((A ++ B.takeWhile isD ++ [46] ++ r.takeWhile isD).length : Nat) : Int)), ?_, rfl⟩
   unfold zM.f
   refine Ev.bind (hd) ?_; try dsimp only
   refine ze (fun h => c0 (zaQ.1 h)) ?_
   refine Ev.bind (ht) ?_; try dsimp only
   refine zd rfl ?_
   refine Ev.bind (hd2) ?_; try dsimp only
   exact zd (zaQ.2 c2) (Ev.now _)
  rw [if_neg c2]
  have he4 : tl s = (A ++ B.takeWhile isD ++ [46] ++ r.takeWhile isD) ++ r.dropWhile isD := by rw [he3]; simp [htw2]
  obtain ⟨q, hq, hok⟩ := ziw hs he4 (d := B.takeWhile isD ++ r.takeWhile isD) (x := -((r.takeWhile isD).length : Int)) (by omega)
  refine ⟨q, ?_, hok⟩
  unfold zM.f
  refine Ev.bind (hd) ?_; try dsimp only
  refine ze (fun h => c0 (zaQ.1 h)) ?_
  refine Ev.bind (ht) ?_; try dsimp only
  refine zd rfl ?_
  refine Ev.bind (hd2) ?_; try dsimp only
  refine ze (fun h => c2 (zaQ.1 h)) (zd (by rw [zy, zy]; omega) ?_)
  have e1 : bx (B.takeWhile isD) ++ bx (r.takeWhile isD) = bx (B.takeWhile isD ++ r.takeWhile isD) := zbm.1 (by rw [zkP, zX, zX, zX])
  rw [e1, zy, zfT (by omega) (by omega)]
  exact hq
 ·rw [if_neg c1]
  have ht := zeU hs he2 (c := (⟨#[46]⟩ : ByteArray)) (by intro y t h; rw [h] at c1; simpa [tl] using c1)
  obtain ⟨q, hq, hok⟩ := ziw hs he2 (d := B.takeWhile isD) (x := 0) (by omega)
  refine ⟨q, ?_, hok⟩
  unfold zM.f
  refine Ev.bind (hd) ?_; try dsimp only
  refine ze (fun h => c0 (zaQ.1 h)) ?_
  refine Ev.bind (ht) ?_; try dsimp only
  exact ze (by simp) hq
theorem zdb (l : List UInt8) : qcB (bx l) = l.map fun b => (b.toNat : Int) := rfl
theorem zgY : ∀ (l : List UInt8) (a : Nat), pvA a (l.map fun b => (b.toNat : Int)) = zh l a
 | [], a => rfl
 | b :: l, a => by
  have e : ((b.toNat : Int) - 48).toNat = b.toNat - 48 := by omega
  rw [List.map_cons, pvA, e, zgY l]
  rfl
theorem zfG (l : List UInt8) : pv (qcB (bx l)) = zh l 0 := zgY l 0
theorem zgk {l : List UInt8} (h : l.all isD = true) : zbf (qcB (bx l)) := by
 intro x hx
 rw [zdb, List.mem_map] at hx
 obtain ⟨b, hb, rfl⟩ := hx
 exact zcP.1 (List.all_eq_true.1 h b hb)
theorem zes {l : List UInt8} (h : l.all isD = true) : zh l 0 < 10 ^ l.length := by
 have := zjS (zgk h)
 rw [zfG, zdb, List.length_map] at this
 exact this
def tz0 (l : List UInt8) : List UInt8 := l.dropWhile (· == 48)
theorem zfm (l : List UInt8) : zh (tz0 l) 0 = zh l 0 := by
 induction l with
 | nil => rfl
 | cons b l ih =>
  unfold tz0 at *
  by_cases c : b = 48
  ·subst c; rw [List.dropWhile_cons]; simp only [beq_self_eq_true, if_true]; rw [ih]; rfl
  ·rw [List.dropWhile_cons, if_neg (by simpa using c)]
theorem zhs {l : List UInt8} (h : l.all isD = true) : (tz0 l).all isD = true := by
 induction l with
 | nil => rfl
 | cons b l ih =>
  have h' := h
  simp only [List.all_cons, Bool.and_eq_true] at h
  unfold tz0 at *
  by_cases c : b = 48
  ·subst c; rw [List.dropWhile_cons]; simpa using ih h.2
  ·rw [List.dropWhile_cons, if_neg (by simpa using c)]; exact h'
theorem zhu (l : List UInt8) : (tz0 l).length ≤ l.length := by
 have h := congrArg List.length (zdw (· == 48) l)
 rw [List.length_append] at h
 unfold tz0; omega
theorem zht {l : List UInt8} {b : UInt8} {r : List UInt8} (h : tz0 l = b :: r) : b ≠ 48 := by
 have := ziH _ l h
 simpa using this
theorem zi6 {l : List UInt8} {b : UInt8} {r : List UInt8} (h : l.all isD = true) (e : tz0 l = b :: r) : isT (qcB (bx (b :: r))) = true := by
 have h1 := zhs h
 rw [e] at h1
 have h2 := zht e
 have hd : decide (zbf (qcB (bx (b :: r)))) = true := decide_eq_true (zgk h1)
 unfold isT
 rw [hd, zdb]
 have h3 : (b.toNat : Int) ≠ 48 := fun c => h2 (UInt8.toNat_inj.1 (by show _ = 48; omega))
 cases r with
 | nil => rfl
 | cons c t => simp [h3]
theorem zfR {l : List UInt8} (h : l.all isD = true) : tz0 l = [] ↔ zh l 0 = 0 := by
 constructor
 ·intro e; rw [← zfm, e]; rfl
 ·intro e
  cases ht : tz0 l with
  | nil => rfl
  | cons b r =>
   have h1 := zhs h
   have h2 := zht ht
   have h3 := zfm l
   rw [ht] at h1 h3
   have h4 := zg0 (l := qcB (bx (b :: r))) (zgk h1) (by
    rw [zdb]; show ((b.toNat : Int)) ≠ 48
    exact fun c => h2 (UInt8.toNat_inj.1 (by show _ = 48; omega))) (by rw [zdb]; simp)
   rw [zfG] at h4
   have := zbM ((qcB (bx (b :: r))).length - 1)
   omega
theorem zod {l : List UInt8} (h : l.all isD = true) (hl : l.length ≤ 1200) (h0 : zh l 0 ≠ 0) : zdn (qcB (bx (tz0 l))) = (D (zh l 0), 0) := by
 cases ht : tz0 l with
 | nil => exact absurd ((zfR h).1 ht) h0
 | cons b r =>
  have h3 := zfm l
  rw [ht] at h3
  unfold zdn
  rw [if_pos (zi6 h ht), zfG, h3, zff]
  have h5 := zaB (Nat.le_of_lt (zes h))
  have h6 := zjP l.length
  omega
theorem zkY : ∀ (l : List UInt8), l.length ≤ 1000000 → Ev (fun k => zby.l0 k (bx l) 48) (bx (tz0 l))
 | [], _ => by
  refine zf ?_; simp only [zby.l0]
  exact ze (by decide) (Ev.now _)
 | b :: l, hl => by
  have hz := zy (b :: l)
  simp only [List.length_cons] at hz hl
  have hb := zcf (s := bx (b :: l)) (A := []) (B := l) (b := b) (by rw [zX]; rfl)
  rw [List.length_nil, show ((0 : Nat) : Int) = 0 from rfl] at hb
  refine zf ?_; simp only [zby.l0]
  rw [hb]
  refine zd (by omega) (zd (by omega) ?_)
  by_cases c : b = 48
  ·subst c
   refine zd rfl (zd (by decide) (zd (by omega) ?_))
   have hx := ziT (s := bx (48 :: l)) (A := [48]) (B := l) (by rw [zX]; rfl)
   have e1 : (1 : Int).toNat = ([48] : List UInt8).length := rfl
   rw [e1, hx]
   have ih := zkY l (by omega)
   have e2 : tz0 (48 :: l) = tz0 l := by unfold tz0; rw [List.dropWhile_cons]; simp
   rw [e2]
   exact ih
  ·refine ze (fun h => c (UInt8.toNat_inj.1 (by show _ = 48; omega))) ?_
   have e2 : tz0 (b :: l) = b :: l := by unfold tz0; rw [List.dropWhile_cons, if_neg (by simpa using c)]
   rw [e2]
   exact Ev.now _
theorem zpy {l : List UInt8} (hl : l.length ≤ 1000000) : Ev (fun k => zbK.f k (bx l) (⟨#[48]⟩ : ByteArray)) (bx (tz0 l)) := by
 unfold zbK.f
 by_cases c : l = []
 ·subst c
  exact zd rfl (Ev.now _)
 ·refine ze (fun h => c (zaQ.1 h)) (ze (by decide) (zd (by decide) (zd (by decide) ?_)))
  have e : decide (bt (⟨#[48]⟩ : ByteArray) 0 < 128) = true := by decide
  have e2 : bt (⟨#[48]⟩ : ByteArray) 0 = 48 := by decide
  rw [e]
  refine zf ?_; simp only [zbK.j2]
  rw [e2]
  refine zd trivial (zd (by decide) ?_)
  unfold zby.f
  exact Ev.bind (zkY l hl) (Ev.now _)
theorem zmM {E : List UInt8} (h : zas E = true) : -1000000 < zbX E ∧ zbX E < 1000000 := by
 unfold zas at h
 simp only [Bool.and_eq_true, decide_eq_true_eq] at h
 have := ziG h.2 h.1.2
 unfold zbX
 split <;> omega
theorem zkJ {d : List UInt8} {x : Int} {l : List UInt8} {y : List UInt8 × Int} (h : zaO d x l = some y) : y.1 = d ∧ x - 1000000 < y.2 ∧ y.2 < x + 1000000 := by
 unfold zaO at h
 split at h
 ·cases h; exact ⟨rfl, by omega, by omega⟩
 ·split at h
  ·rename_i h2
   cases h
   have := zmM h2.2
   exact ⟨rfl, by omega, by omega⟩
  ·cases h
theorem zoB {l : List UInt8} {y : List UInt8 × Int} (h : zbw l = some y) : y.1.all isD = true ∧ y.1 ≠ [] ∧ y.1.length ≤ l.length ∧ -(l.length : Int) - 1000000 < y.2 ∧ y.2 < 1000000 := by
 have h1 := congrArg List.length (zdw isD l)
 rw [List.length_append] at h1
 unfold zbw at h
 split at h
 ·cases h
 rename_i c0
 split at h
 ·rename_i c1
  obtain ⟨r, hr⟩ : ∃ r, l.dropWhile isD = 46 :: r := by
   cases hB : l.dropWhile isD with
   | nil => rw [hB] at c1; simp at c1
   | cons y E => rw [hB] at c1; simp at c1; exact ⟨E, by rw [c1]⟩
  rw [hr] at h h1
  rw [List.tail_cons] at h
  simp only [List.length_cons] at h1
  have h2 := congrArg List.length (zdw isD r)
  rw [List.length_append] at h2
  split at h
  ·cases h
  obtain ⟨h3, h4, h5⟩ := zkJ h
  rw [h3]
  refine ⟨by rw [List.all_append, zd4, zd4]; rfl, fun h => c0 (List.append_eq_nil_iff.1 h).1, ?_, by omega, by omega⟩
  rw [List.length_append]; omega
 ·obtain ⟨h3, h4, h5⟩ := zkJ h
  rw [h3]
  exact ⟨zd4 _ _, c0, by omega, by omega, by omega⟩
theorem zhI {f m : Int} (h : isF f) (hm : isM m) (s : ByteArray) : Ev (fun k => zbV.f k f m s) (zdh f m (tl s)) := by
 unfold zbV.f zdh
 refine Ev.bind (zf4 h hm false) (ze (by simp) ?_)
 by_cases c0 : 1200 < (tl s).length
 ·rw [if_pos c0]
  exact zd (by rw [zeV]; omega) (Ev.now _)
 rw [if_neg c0]
 refine ze (by rw [zeV]; omega) ?_
 by_cases c1 : s = (⟨#[110, 97, 110]⟩ : ByteArray)
 ·rw [if_pos (by rw [c1]; rfl)]
  exact zd c1 (Ev.bind (zp5 h) (Ev.now _))
 rw [if_neg (fun h => c1 (zbm.1 (by rw [h]; rfl)))]
 refine ze c1 ?_
 have hs : s.size ≤ 1200 := by rw [zeV]; omega
 obtain ⟨A, b, hA, ht⟩ : ∃ (A : List UInt8) (b : Int), tl s = A ++ zce (tl s) ∧ Ev (fun k => zZ.f k s 0 (⟨#[45]⟩ : ByteArray)) (b, zcp (tl s), s, (A.length : Int)) := by
  cases hl : tl s with
  | nil =>
   refine ⟨[], 0, rfl, ?_⟩
   exact zeU (A := []) (B := []) (by omega) (by rw [hl]; rfl) (by simp)
  | cons x r =>
   by_cases c2 : x = 45
   ·subst c2
    refine ⟨[45], 45, rfl, ?_⟩
    exact zeT (A := []) (r := r) (x := 45) (by omega) (by rw [hl]; rfl) (by simp [tl])
   ·have n1 : zcp (x :: r) = false := by
     unfold zcp; split
     ·rename_i h; exact absurd (List.cons.inj h).1 c2
     ·rfl
    have n2 : zce (x :: r) = x :: r := by
     unfold zce; split
     ·rename_i h; exact absurd (List.cons.inj h).1 c2
     ·rfl
    rw [n1, n2]
    refine ⟨[], 0, rfl, ?_⟩
    exact zeU (A := []) (B := x :: r) (by omega) (by rw [hl]; rfl) (by intro y t h; rw [← (List.cons.inj h).1]; simpa [tl] using c2)
 refine Ev.bind (ht) ?_; try dsimp only
 have hz := zbj hA
 refine zd (by omega) (zd (by omega) ?_)
 rw [Int.toNat_natCast, ziT hA]
 unfold zgi
 by_cases c2 : zce (tl s) = [105, 110, 102]
 ·rw [if_pos c2]
  exact zd (by rw [c2]; rfl) (Ev.bind (zld h _) (Ev.now _))
 rw [if_neg c2]
 refine ze (fun h => c2 (zbm.2 h)) ?_
 obtain ⟨q, hq, hok⟩ := zmn (by omega) hA
 refine Ev.bind (hq) ?_; try dsimp only
 cases ho : zbw (zce (tl s)) with
 | none =>
  rw [ho] at hok
  have hok : q.2.2.1 = false := hok
  rw [hok]
  exact zd rfl (Ev.now _)
 | some y =>
  rw [ho] at hok
  obtain ⟨k1, k2, k3⟩ : q.1 = bx y.1 ∧ q.2.1 = y.2 ∧ q.2.2.1 = true := hok
  obtain ⟨b1, b2, b3, b4, b5⟩ := zoB ho
  rw [k1, k2, k3]
  refine ze (by simp) ?_
  have hl : y.1.length ≤ 1200 := by omega
  refine Ev.bind (zpy (l := y.1) (by omega)) ?_; try dsimp only
  show Ev _ (zen f m (zcp (tl s)) (zh y.1 0) y.2)
  unfold zen
  by_cases c3 : zh y.1 0 = 0
  ·rw [if_pos c3]
   refine zd (zaQ.2 ((zfR b1).2 c3)) ?_
   refine Ev.bind (zle h _) ?_; try dsimp only
   exact Ev.now _
  ·rw [if_neg c3]
   refine ze (fun h => c3 ((zfR b1).1 (zaQ.1 h))) ?_
   have hp := znQ (s := bx (tz0 y.1)) (by rw [zy]; have := zhu y.1; omega)
   rw [zod b1 hl c3] at hp
   refine Ev.bind (hp) ?_; try dsimp only
   have hr := zmm h hm (zcp (tl s)) c3 (p := y.1.length) hl (zes b1) y.2
   refine Ev.bind (hr) ?_; try dsimp only
   exact Ev.now _
theorem zmq (k : Nat) : zU.f (k + 140) 2 4591870180066957722 = some ((⟨#[48, 46, 49]⟩ : ByteArray), 0) := by kernel_rfl
theorem zmr (k : Nat) : zbV.f (k + 60) 1 1 (⟨#[49, 54, 55, 55, 55, 50, 49, 55]⟩ : ByteArray) = some (1266679808, 16, 0) := by kernel_rfl
theorem zms : Ev (fun k => zbd.f k) true := by
 unfold zbd.f
 refine Ev.bind (ziO zmq) (Ev.bind (ziO zmr) ?_)
 exact zd rfl (zd rfl (zd rfl (zd rfl (zg (Ev.now _) (by simp)))))
theorem zcK : Ev (fun k => (zbd.f k).bind fun t => some t) true := Ev.bind zms (Ev.now _)
theorem zmt {f m : Int} (h : fmE f m ≠ 0) (l : List Int) : Ev (fun k => za3.f k f m l) (fmE f m) := by
 unfold za3.f
 unfold fmE at *
 refine zk (zg4 f) ?_
 by_cases c : isF f
 ·rw [if_pos c] at h ⊢
  have hm : ¬ isM m := fun k => h (by rw [if_pos k])
  rw [if_neg hm, decide_eq_true c]
  refine ze (by simp) (zk (zjW m) ?_)
  rw [decide_eq_false hm]
  exact zd rfl (Ev.now _)
 ·rw [if_neg c, decide_eq_false c]
  exact zd rfl (Ev.now _)
def dx (n : Nat) : List UInt8 := tl (qfL (txt n))
theorem zkB (n : Nat) : qfL (txt n) = bx (dx n) := (zl3 _).symm
theorem zfn (n : Nat) : (dx n).map (fun b => (b.toNat : Int)) = txt n := zl0 n
theorem za8 (n : Nat) : (dx n).all isD = true := by
 rw [List.all_eq_true]
 intro b hb
 have : ((b.toNat : Int)) ∈ txt n := by rw [← zfn]; exact List.mem_map.2 ⟨b, hb, rfl⟩
 exact zcP.2 (zk2 n _ this)
theorem zbW (n : Nat) : zh (dx n) 0 = n := by rw [← zgY, zfn]; exact zot n
theorem zkS {a b : UInt8} (h : (a.toNat : Int) = (b.toNat : Int)) : a = b := UInt8.toNat_inj.1 (by omega)
theorem zdT {l r : List UInt8} {b : UInt8} (h : l.all isD = true) (e : l = b :: r) (hb : b ≠ 48) : dx (zh l 0) = l := by
 have e1 : tz0 l = b :: r := by
  subst e
  unfold tz0
  rw [List.dropWhile_cons, if_neg (by simpa using hb)]
 have h1 := zpD (zi6 h e1)
 rw [← e, zfG] at h1
 have h2 := (zfn (zh l 0)).trans h1
 rw [zdb] at h2
 exact (List.map_inj_right (fun x y hxy => zkS hxy)).1 h2
theorem zaG {n : Nat} (h : n ≠ 0) : ∃ b r, dx n = b :: r ∧ b ≠ 48 := by
 cases e : tz0 (dx n) with
 | nil => exact absurd ((zfR (za8 n)).1 e) (by rw [zbW]; exact h)
 | cons b r =>
  have hb := zht e
  have h1 := zhs (za8 n)
  have h2 := zfm (dx n)
  rw [e] at h1 h2
  rw [zbW] at h2
  have h3 := zdT h1 rfl hb
  rw [h2] at h3
  exact ⟨b, r, h3, hb⟩
theorem zet {n : Nat} (h : n ≠ 0) : 0 < (dx n).length := by
 obtain ⟨b, r, e, _⟩ := zaG h
 rw [e]; simp
theorem zgo {n k : Nat} (h : n < 10 ^ k) (hk : 1 ≤ k) : (dx n).length ≤ k := by
 have := zpC h hk
 rw [← zfn, List.length_map] at this
 exact this
theorem zfo (n : Nat) : n < 10 ^ (dx n).length := by
 have := zes (za8 n)
 rwa [zbW] at this
theorem zcQ {b : UInt8} (h : isD b = true) : 48 ≤ b.toNat ∧ b.toNat ≤ 57 := by
 have := zcP.1 h
 omega
theorem zcj (b : UInt8) (r : List UInt8) : zh (b :: r) 0 = (b.toNat - 48) * 10 ^ r.length + zh r 0 := by
 have e : zh (b :: r) 0 = zh r (10 * 0 + (b.toNat - 48)) := rfl
 rw [e, ziF]; simp
theorem zc9 {b : UInt8} {r : List UInt8} (h : (b :: r).all isD = true) : isD b = true ∧ r.all isD = true := by
 simpa only [List.all_cons, Bool.and_eq_true] using h
theorem zbP {a b : List UInt8} (h : (a ++ b).all isD = true) : a.all isD = true ∧ b.all isD = true := by
 simpa only [List.all_append, Bool.and_eq_true] using h
theorem zgS {b : UInt8} (h : isD b = true) (hb : b ≠ 48) : 49 ≤ b.toNat := by
 have h1 := zcQ h
 have h2 : b.toNat ≠ 48 := fun c => hb (UInt8.toNat_inj.1 (by rw [c]; rfl))
 omega
theorem ziJ {n : Nat} (h : n ≠ 0) : 10 ^ ((dx n).length - 1) ≤ n := by
 obtain ⟨b, r, e, hb⟩ := zaG h
 have h1 := za8 n
 have h2 := zbW n
 rw [e] at h1 h2 ⊢
 rw [zcj] at h2
 have h3 := zgS (zc9 h1).1 hb
 have h4 : 1 * 10 ^ r.length ≤ (b.toNat - 48) * 10 ^ r.length := Nat.mul_le_mul_right _ (by omega)
 have h5 : (b :: r).length - 1 = r.length := by simp
 rw [h5]
 omega
theorem zbE (a b : List UInt8) : zh (a ++ b) 0 = zh a 0 * 10 ^ b.length + zh b 0 := by rw [zmy, ziF]
theorem zdi : ∀ j : Nat, zh (List.replicate j 48) 0 = 0
 | 0 => rfl
 | j + 1 => by rw [List.replicate_succ, zcj, zdi j, show (48 : UInt8).toNat - 48 = 0 from rfl, Nat.zero_mul]
theorem ziK {n : Nat} (h : n ≠ 0) {A B : List UInt8} (e : dx n = A ++ B) (hA : A ≠ []) : dx (n / 10 ^ B.length) = A ∧ n % 10 ^ B.length = zh B 0 := by
 have h1 := za8 n
 have h2 := zbW n
 obtain ⟨b, r, e2, hb⟩ := zaG h
 rw [e] at h1 h2 e2
 rw [zbE] at h2
 have h3 := zes (zbP h1).2
 have hd : n / 10 ^ B.length = zh A 0 := by
  rw [← h2, Nat.mul_comm, Nat.mul_add_div (Nat.pow_pos (by omega)), Nat.div_eq_of_lt h3]; omega
 have hm : n % 10 ^ B.length = zh B 0 := by
  rw [← h2, Nat.mul_comm, Nat.mul_add_mod, Nat.mod_eq_of_lt h3]
 refine ⟨?_, hm⟩
 cases A with
 | nil => exact absurd rfl hA
 | cons a A =>
  rw [hd]
  have : a = b := (List.cons.inj e2).1
  exact zdT (zbP h1).1 rfl (this ▸ hb)
theorem zdD (j : Nat) : (List.replicate j (48 : UInt8)).all isD = true := by
 rw [List.all_eq_true]
 intro x hx
 rw [(List.mem_replicate.1 hx).2]; decide
theorem zgp {n : Nat} (h : n ≠ 0) (j : Nat) : dx (n * 10 ^ j) = dx n ++ List.replicate j 48 := by
 obtain ⟨b, r, e, hb⟩ := zaG h
 have h1 : (dx n ++ List.replicate j 48).all isD = true := by rw [List.all_append, za8, zdD]; rfl
 have h2 := zdT (b := b) (r := r ++ List.replicate j 48) h1 (by rw [e]; rfl) hb
 rw [zbE, zbW, zdi, List.length_replicate] at h2
 exact h2
def tr (l : List UInt8) : List UInt8 := (l.reverse.dropWhile (· == 48)).reverse
theorem zfQ (l : List UInt8) : tr (l ++ [48]) = tr l := by unfold tr; rw [List.reverse_append]; rfl
theorem zdv (l : List UInt8) {d : UInt8} (h : d ≠ 48) : tr (l ++ [d]) = l ++ [d] := by
 unfold tr
 rw [List.reverse_append]
 show ((d :: l.reverse).dropWhile (· == 48)).reverse = _
 rw [List.dropWhile_cons, if_neg (by simpa using h)]
 simp
theorem zeW (l : List UInt8) : ∀ j : Nat, tr (l ++ List.replicate j 48) = tr l
 | 0 => by simp
 | j + 1 => by rw [List.replicate_succ', ← List.append_assoc, zfQ, zeW l j]
theorem zcZ (l : List UInt8) : ∃ j, l = tr l ++ List.replicate j 48 := by
 rcases List.eq_nil_or_concat l with rfl | ⟨a, d, rfl⟩
 ·exact ⟨0, rfl⟩
 ·rw [List.concat_eq_append]
  by_cases c : d = 48
  ·subst c
   rw [zfQ]
   obtain ⟨j, hj⟩ := zcZ a
   refine ⟨j + 1, ?_⟩
   rw [List.replicate_succ', ← List.append_assoc, ← hj]
  ·exact ⟨0, by rw [zdv _ c]; simp⟩
termination_by l.length
decreasing_by subst_vars; simp
theorem zho {l A : List UInt8} {d : UInt8} (h : tr l = A ++ [d]) : d ≠ 48 := by
 have h1 : l.reverse.dropWhile (· == 48) = d :: A.reverse := by
  have := congrArg List.reverse h
  unfold tr at this
  rw [List.reverse_reverse, List.reverse_append] at this
  exact this
 have := ziH _ _ h1
 simpa using this
theorem zb6 {l r : List UInt8} {b : UInt8} (e : l = b :: r) (hb : b ≠ 48) : ∃ r', tr l = b :: r' := by
 obtain ⟨j, hj⟩ := zcZ l
 cases h : tr l with
 | nil =>
  rw [h, e] at hj
  cases j with
  | zero => cases hj
  | succ j => rw [List.replicate_succ] at hj; exact absurd (List.cons.inj hj).1 hb
 | cons c r' =>
  rw [h, e] at hj
  exact ⟨r', by rw [(List.cons.inj hj).1]⟩
theorem zbn (l : List UInt8) : (tr l).length ≤ l.length := by
 obtain ⟨j, hj⟩ := zcZ l
 have := congrArg List.length hj
 rw [List.length_append] at this
 omega
theorem zdu {l : List UInt8} (h : l.all isD = true) : (tr l).all isD = true := by
 obtain ⟨j, hj⟩ := zcZ l
 rw [hj] at h
 exact (zbP h).1
theorem zhp (l : List UInt8) : tr (tr l) = tr l := by
 rcases List.eq_nil_or_concat (tr l) with h | ⟨a, d, h⟩
 ·rw [h]; rfl
 ·rw [List.concat_eq_append] at h
  rw [h, zdv _ (zho h)]
theorem zgn (l : List UInt8) : zh l 0 = zh (tr l) 0 * 10 ^ (l.length - (tr l).length) := by
 obtain ⟨j, hj⟩ := zcZ l
 have h1 := congrArg List.length hj
 rw [List.length_append, List.length_replicate] at h1
 have h2 := congrArg (fun x => zh x 0) hj
 simp only [zbE, zdi, List.length_replicate] at h2
 rw [show l.length - (tr l).length = j by omega, h2]; rfl
theorem ziE {l : List UInt8} (h : l.all isD = true) {A B : List UInt8} (e : l = A ++ B) : zh B 0 ≠ 0 ↔ A.length < (tr l).length := by
 obtain ⟨j, hj⟩ := zcZ l
 constructor
 ·intro hB
  apply Nat.lt_of_not_le
  intro hle
  apply hB
  have e1 : A ++ B = tr l ++ List.replicate j 48 := e ▸ hj
  obtain ⟨C, hC⟩ : ∃ C, A = tr l ++ C := by
   refine ⟨A.drop (tr l).length, ?_⟩
   have h2 := congrArg (List.take (tr l).length) e1
   rw [List.take_append_of_le_length hle, List.take_append_of_le_length (Nat.le_refl _), List.take_length] at h2
   rw [← h2]
   exact (by
    have := List.take_append_drop (tr l).length A
    rw [h2] at this ⊢
    exact this.symm)
  rw [hC, List.append_assoc] at e1
  have e2 := List.append_cancel_left e1
  have h3 : ∀ x ∈ B, x = 48 := fun x hx => (List.mem_replicate.1 (e2 ▸ List.mem_append_right C hx)).2
  rw [List.eq_replicate_of_mem h3, zdi]
 ·intro hlt hB
  rcases List.eq_nil_or_concat (tr l) with h0 | ⟨a, d, h0⟩
  ·rw [h0] at hlt; simp at hlt
  ·rw [List.concat_eq_append] at h0
   have hd := zho h0
   rw [h0] at hlt hj
   have e1 : A ++ B = a ++ ([d] ++ List.replicate j 48) := by rw [← e, hj, List.append_assoc]
   have hla : A.length ≤ a.length := by simp at hlt; omega
   obtain ⟨C, hC⟩ : ∃ C, a = A ++ C := by
    refine ⟨a.drop A.length, ?_⟩
    have h2 := congrArg (List.take A.length) e1
    rw [List.take_append_of_le_length (Nat.le_refl _), List.take_length, List.take_append_of_le_length hla] at h2
    have := List.take_append_drop A.length a
    rw [← h2] at this
    exact this.symm
   rw [hC, List.append_assoc] at e1
   have e2 := List.append_cancel_left e1
   have hdd : isD d = true := by
    have := zdu h
    rw [h0] at this
    simpa using (zbP this).2
   have hd1 := zgS hdd hd
   rw [e2, ← List.append_assoc, zbE, zdi, zbE, zcj] at hB
   have hp : 0 < 10 ^ (List.replicate j (48 : UInt8)).length := Nat.pow_pos (by omega)
   have : 0 < (zh C 0 * 10 ^ [d].length + ((d.toNat - 48) * 10 ^ ([] : List UInt8).length + zh [] 0)) * 10 ^ (List.replicate j (48 : UInt8)).length := by
    apply Nat.mul_pos _ hp
    have : zh ([] : List UInt8) 0 = 0 := rfl
    simp only [List.length_nil, Nat.pow_zero, Nat.mul_one]
    omega
   omega
theorem zgm : ∀ j : Nat, zh (List.replicate j 57) 0 + 1 = 10 ^ j
 | 0 => rfl
 | j + 1 => by
  have := zgm j
  rw [List.replicate_succ, zcj, List.length_replicate, Nat.pow_succ, show (57 : UInt8).toNat - 48 = 9 from rfl]
  omega
theorem zi3 {d : UInt8} (h : isD d = true) (hd : d ≠ 57) : isD (d + 1) = true ∧ (d + 1).toNat = d.toNat + 1 ∧ d + 1 ≠ 48 := by
 have h1 := zcQ h
 have h2 : d.toNat ≠ 57 := fun c => hd (UInt8.toNat_inj.1 (by rw [c]; rfl))
 have e : (d + 1).toNat = d.toNat + 1 := by rw [UInt8.toNat_add]; show (d.toNat + 1) % 256 = _; omega
 refine ⟨decide_eq_true (by omega), e, fun c => ?_⟩
 rw [c] at e
 have : (48 : UInt8).toNat = 48 := rfl
 omega
theorem zmA {A : List UInt8} {d : UInt8} {j : Nat} (hA : (A ++ [d]).all isD = true) (hd : d ≠ 57) (h0 : ∀ b r, A ++ [d] = b :: r → b ≠ 48) :
  dx (zh (A ++ [d] ++ List.replicate j 57) 0 + 1) = A ++ [d + 1] ++ List.replicate j 48 ∧ tr (dx (zh (A ++ [d] ++ List.replicate j 57) 0 + 1)) = A ++ [d + 1] := by
 obtain ⟨a1, a2⟩ := zbP hA
 have hdd : isD d = true := by simpa using a2
 obtain ⟨u1, u2, u3⟩ := zi3 hdd hd
 have l1 := zcQ hdd
 have e1 : zh (A ++ [d + 1]) 0 = zh (A ++ [d]) 0 + 1 := by
  rw [zbE, zbE, zcj, zcj, u2]
  show _ * 10 ^ 1 + ((d.toNat + 1 - 48) * 10 ^ 0 + 0) = _ * 10 ^ 1 + ((d.toNat - 48) * 10 ^ 0 + 0) + 1
  omega
 have e2 : zh (A ++ [d] ++ List.replicate j 57) 0 + 1 = zh (A ++ [d + 1]) 0 * 10 ^ j := by
  rw [zbE, List.length_replicate, Nat.add_assoc, zgm, e1, Nat.add_mul]; omega
 have h2 : (A ++ [d + 1]).all isD = true := by rw [List.all_append, a1]; simpa using u1
 obtain ⟨b, r, hb, hb0⟩ : ∃ b r, A ++ [d + 1] = b :: r ∧ b ≠ 48 := by
  cases A with
  | nil => exact ⟨d + 1, [], rfl, u3⟩
  | cons b r => exact ⟨b, r ++ [d + 1], rfl, h0 b (r ++ [d]) rfl⟩
 have h3 : dx (zh (A ++ [d + 1]) 0) = A ++ [d + 1] := zdT h2 hb hb0
 have h4 : zh (A ++ [d + 1]) 0 ≠ 0 := by rw [e1]; omega
 have h5 : dx (zh (A ++ [d] ++ List.replicate j 57) 0 + 1) = A ++ [d + 1] ++ List.replicate j 48 := by rw [e2, zgp h4, h3]
 exact ⟨h5, by rw [h5, zeW, zdv _ u3]⟩
theorem zmB {j : Nat} (hj : 0 < j) : dx (zh (List.replicate j 57) 0 + 1) = 49 :: List.replicate j 48 ∧ tr (dx (zh (List.replicate j 57) 0 + 1)) = [49] := by
 have h1 : dx 1 = [49] := zdT (l := [49]) (r := []) (b := 49) (by decide) rfl (by decide)
 have h5 : dx (zh (List.replicate j 57) 0 + 1) = [49] ++ List.replicate j 48 := by
  rw [zgm, ← Nat.one_mul (10 ^ j), zgp (by omega), h1]
 exact ⟨h5, by rw [h5, zeW]; rfl⟩
def hlf (r p : Nat) : Int := if 2 * r < p then -1 else if p < 2 * r then 1 else 0
theorem zm5 {d : UInt8} {Rr : List UInt8} (h : (d :: Rr).all isD = true) : hlf (zh (d :: Rr) 0) (10 ^ (d :: Rr).length) =
  if d.toNat < 53 then -1 else if 53 < d.toNat then 1 else if zh Rr 0 ≠ 0 then 1 else 0 := by
 obtain ⟨h1, h2⟩ := zc9 h
 have l1 := zcQ h1
 have l2 := zes h2
 have e : 10 ^ (d :: Rr).length = 10 * 10 ^ Rr.length := by rw [List.length_cons, Nat.pow_succ]; omega
 rw [zcj, e]
 obtain ⟨p, hp⟩ : ∃ p, p = 10 ^ Rr.length := ⟨_, rfl⟩
 obtain ⟨v, hv⟩ : ∃ v, v = zh Rr 0 := ⟨_, rfl⟩
 rw [← hp, ← hv] at l2 ⊢
 unfold hlf
 by_cases c1 : d.toNat < 53
 ·have : (d.toNat - 48) * p ≤ 4 * p := Nat.mul_le_mul_right _ (by omega)
  rw [if_pos c1, if_pos (by omega)]
 ·rw [if_neg c1]
  by_cases c2 : 53 < d.toNat
  ·have : 6 * p ≤ (d.toNat - 48) * p := Nat.mul_le_mul_right _ (by omega)
   rw [if_pos c2, if_neg (by omega), if_pos (by omega)]
  ·have e5 : d.toNat - 48 = 5 := by omega
   rw [if_neg c2, e5, if_neg (by omega)]
   by_cases c3 : v ≠ 0
   ·rw [if_pos c3, if_pos (by omega)]
   ·rw [if_neg c3, if_neg (by omega)]
def zax (s : Bool) (d : List UInt8) (x : Int) : List UInt8 := sgT s ++
  (if x < -5 ∨ x > 20 then d.take 1 ++ (if 1 < d.length then 46 :: d.drop 1 else []) ++ 101 :: etx x
   else if x < 0 then 48 :: 46 :: (List.replicate (-x - 1).toNat 48 ++ d)
   else if x + 1 < (d.length : Int) then d.take (x + 1).toNat ++ 46 :: d.drop (x + 1).toNat
   else d ++ List.replicate (x + 1 - (d.length : Int)).toNat 48)
def zbA (s : Bool) (q : Nat) (x : Int) : List UInt8 := zax s (tr (dx q)) (x + ((dx q).length : Nat) - 1)
theorem zhq {A T : List UInt8} (hA : A.all isD = true) (hT : ∀ c r, T = c :: r → isD c = false) : (A ++ T).takeWhile isD = A ∧ (A ++ T).dropWhile isD = T := by
 have h := fun a ha => List.all_eq_true.1 hA a ha
 rw [List.takeWhile_append_of_pos h, List.dropWhile_append_of_pos h]
 cases T with
 | nil => simp
 | cons c r => rw [List.takeWhile_cons, List.dropWhile_cons, hT c r rfl]; simp
theorem zj6 {A T : List UInt8} (hA : A.all isD = true) (h0 : A ≠ []) (hT : ∀ c r, T = c :: r → isD c = false ∧ c ≠ 46) : zbw (A ++ T) = zaO A 0 T := by
 obtain ⟨e1, e2⟩ := zhq hA fun c r e => (hT c r e).1
 unfold zbw
 rw [e1, e2, if_neg h0, if_neg]
 cases T with
 | nil => simp
 | cons c r => simpa using (hT c r rfl).2
theorem zg6 {A B T : List UInt8} (hA : A.all isD = true) (h0 : A ≠ []) (hB : B.all isD = true) (h1 : B ≠ []) (hT : ∀ c r, T = c :: r → isD c = false) : zbw (A ++ 46 :: (B ++ T)) = zaO (A ++ B) (-(B.length : Int)) T := by
 obtain ⟨e1, e2⟩ := zhq (T := 46 :: (B ++ T)) hA fun c r e => by rw [← (List.cons.inj e).1]; decide
 obtain ⟨e3, e4⟩ := zhq hB hT
 unfold zbw
 rw [e1, e2, if_neg h0, if_pos (show (46 :: (B ++ T)).head? = some 46 from rfl), List.tail_cons, e3, e4, if_neg h1]
theorem zkK (d : List UInt8) (y : Int) {x : Int} (h1 : -1100 ≤ x) (h2 : x < 1100) : zaO d y (101 :: etx x) = some (d, y + x) := by
 obtain ⟨h3, h4⟩ := zmI h1 h2
 unfold zaO
 rw [if_neg (by simp), if_pos ⟨rfl, h3⟩, List.tail_cons, h4]
theorem zdE {l : List UInt8} (h : l.all isD = true) (n : Nat) : (l.take n).all isD = true := by
 rw [List.all_eq_true] at *
 exact fun x hx => h x (List.mem_of_mem_take hx)
theorem zfb {l : List UInt8} (h : l.all isD = true) (n : Nat) : (l.drop n).all isD = true := by
 rw [List.all_eq_true] at *
 exact fun x hx => h x (List.mem_of_mem_drop hx)
theorem zg5 {d r : List UInt8} {b : UInt8} (hd : d.all isD = true) (e : d = b :: r) {x : Int} (h1 : -1100 ≤ x) (h2 : x < 1100) :
  ∃ (E : List UInt8) (X : Int) (i : Nat), zbw (zax false d x) = some (E, X) ∧ zh E 0 = zh d 0 * 10 ^ i ∧ X + i = x - (d.length : Int) + 1 := by
 have hlen : d.length = r.length + 1 := by rw [e]; simp
 unfold zax
 rw [show sgT false = [] from rfl, List.nil_append]
 by_cases c1 : x < -5 ∨ x > 20
 ·rw [if_pos c1]
  by_cases c2 : 1 < d.length
  ·rw [if_pos c2, List.append_assoc, List.cons_append, zg6 (zdE hd 1) (by rw [e]; simp) (zfb hd 1) (by rw [e, List.drop_one, List.tail_cons]; intro c; rw [c] at hlen; simp at hlen; omega) (fun c r hc => by rw [← (List.cons.inj hc).1]; decide), zkK _ _ h1 h2, List.take_append_drop]
   refine ⟨_, _, 0, rfl, by simp, ?_⟩
   rw [List.length_drop]; omega
  ·rw [if_neg c2, List.append_nil, zj6 (zdE hd 1) (by rw [e]; simp) (fun c r hc => by rw [← (List.cons.inj hc).1]; decide), zkK _ _ h1 h2, List.take_of_length_le (by omega)]
   exact ⟨_, _, 0, rfl, by simp, by omega⟩
 rw [if_neg c1]
 by_cases c2 : x < 0
 ·rw [if_pos c2]
  have := zg6 (A := [48]) (B := List.replicate (-x - 1).toNat 48 ++ d) (T := []) (by decide) (by simp) (by rw [List.all_append, zdD, hd]; rfl) (by rw [e]; simp) (by simp)
  rw [List.append_nil] at this
  rw [show (48 : UInt8) :: 46 :: (List.replicate (-x - 1).toNat 48 ++ d) = [48] ++ 46 :: (List.replicate (-x - 1).toNat 48 ++ d) from rfl, this]
  refine ⟨_, _, 0, by unfold zaO; rw [if_pos rfl], ?_, ?_⟩
  ·rw [show [48] ++ (List.replicate (-x - 1).toNat 48 ++ d) = List.replicate ((-x - 1).toNat + 1) 48 ++ d by rw [List.replicate_succ]; rfl, zbE, zdi]; simp
  ·rw [List.length_append, List.length_replicate]; omega
 rw [if_neg c2]
 by_cases c3 : x + 1 < (d.length : Int)
 ·rw [if_pos c3]
  have := zg6 (A := d.take (x + 1).toNat) (B := d.drop (x + 1).toNat) (T := []) (zdE hd _) (by rw [e, show (x + 1).toNat = x.toNat + 1 by omega]; simp) (zfb hd _) (by intro c; have := congrArg List.length c; rw [List.length_drop] at this; simp at this; omega) (by simp)
  rw [List.append_nil] at this
  rw [this, List.take_append_drop]
  refine ⟨_, _, 0, by unfold zaO; rw [if_pos rfl], by simp, ?_⟩
  rw [List.length_drop]; omega
 ·rw [if_neg c3]
  have := zj6 (A := d ++ List.replicate (x + 1 - (d.length : Int)).toNat 48) (T := []) (by rw [List.all_append, zdD, hd]; rfl) (by rw [e]; simp) (by simp)
  rw [List.append_nil] at this
  rw [this]
  refine ⟨_, _, (x + 1 - (d.length : Int)).toNat, by unfold zaO; rw [if_pos rfl], ?_, by omega⟩
  rw [zbE, zdi, List.length_replicate]; simp
theorem ziu {f m : Int} (h : isF f) (s : Bool) {n : Nat} (hn : n ≠ 0) (i : Nat) (x : Int) : zA f m s (n * 10 ^ i) x = zA f m s n (x + i) := by
 unfold zA
 have hp : ∀ j : Nat, 0 < 10 ^ j := fun j => Nat.pow_pos (by omega)
 refine zo0 h s (Nat.mul_ne_zero (Nat.mul_ne_zero hn (Nat.ne_of_gt (hp _))) (Nat.ne_of_gt (hp _))) (Nat.mul_ne_zero hn (Nat.ne_of_gt (hp _))) (hp _) (hp _) ?_ 0
 rw [Nat.mul_assoc n, Nat.mul_assoc n, Nat.mul_assoc n, ← Nat.pow_add, ← Nat.pow_add, ← Nat.pow_add]
 congr 2; omega
theorem zdo (s : Bool) (d : List UInt8) (x : Int) : zax s d x = sgT s ++ zax false d x := rfl
theorem zoh {d r : List UInt8} {b : UInt8} (hd : d.all isD = true) (e : d = b :: r) (x : Int) : ∃ c t, zax false d x = c :: t ∧ isD c = true := by
 have hb : isD b = true := by rw [e] at hd; exact (zc9 hd).1
 subst e
 unfold zax
 rw [show sgT false = [] from rfl, List.nil_append]
 by_cases c1 : x < -5 ∨ x > 20
 ·rw [if_pos c1]; exact ⟨b, _, rfl, hb⟩
 rw [if_neg c1]
 by_cases c2 : x < 0
 ·rw [if_pos c2]; exact ⟨48, _, rfl, by decide⟩
 rw [if_neg c2]
 by_cases c3 : x + 1 < ((b :: r).length : Int)
 ·rw [if_pos c3, show (x + 1).toNat = x.toNat + 1 by omega]; exact ⟨b, _, rfl, hb⟩
 ·rw [if_neg c3]; exact ⟨b, _, rfl, hb⟩
theorem zmi {f m : Int} {s : Bool} {c : UInt8} {t : List UInt8} (hc : isD c = true) (hl : (c :: t).length ≤ 1199) {E : List UInt8} {X : Int} (hr : zbw (c :: t) = some (E, X)) : zdh f m (sgT s ++ c :: t) = zen f m s (zh E 0) X := by
 have hb := zcQ hc
 have c45 : c ≠ 45 := fun h => by rw [h] at hb; revert hb; decide
 have c110 : c ≠ 110 := fun h => by rw [h] at hb; revert hb; decide
 have c105 : c ≠ 105 := fun h => by rw [h] at hb; revert hb; decide
 obtain ⟨e1, e2⟩ := znY (s := s) (r := t) c45
 have hs := zhf s
 unfold zdh zgi
 rw [if_neg (by rw [List.length_append]; omega), if_neg (zn0 c110), e1, e2, if_neg (fun h => c105 (List.cons.inj h).1), hr]
 rfl
theorem zml {f m : Int} (h : isF f) (s : Bool) {d r : List UInt8} {b : UInt8} (hd : d.all isD = true) (e : d = b :: r) (hb : b ≠ 48) {x : Int} (h1 : -1100 ≤ x) (h2 : x < 1100) (hl : (zax false d x).length ≤ 1199) :
  zdh f m (zax s d x) = ((zA f m s (zh d 0) (x - (d.length : Int) + 1)).1, (zA f m s (zh d 0) (x - (d.length : Int) + 1)).2, 0) := by
 obtain ⟨c, t, h3, h4⟩ := zoh hd e x
 obtain ⟨E, X, i, h5, h6, h7⟩ := zg5 hd e h1 h2
 have h0 : zh d 0 ≠ 0 := by
  have := hd
  rw [e] at this ⊢
  rw [zcj]
  have := zgS (zc9 this).1 hb
  have hp : 0 < 10 ^ r.length := Nat.pow_pos (by omega)
  have : 1 * 10 ^ r.length ≤ (b.toNat - 48) * 10 ^ r.length := Nat.mul_le_mul_right _ (by omega)
  omega
 rw [h3] at h5 hl
 rw [zdo, h3, zmi h4 hl h5, h6]
 unfold zen
 have hp : 0 < 10 ^ i := Nat.pow_pos (by omega)
 rw [if_neg (Nat.mul_ne_zero h0 (Nat.ne_of_gt hp)), ziu h s h0, h7]
theorem zfD (d : List UInt8) (x : Int) : (zax false d x).length ≤ d.length + 30 := by
 unfold zax
 rw [show sgT false = [] from rfl, List.nil_append]
 have := ziN x
 by_cases c1 : x < -5 ∨ x > 20
 ·rw [if_pos c1]; split <;> simp <;> omega
 rw [if_neg c1]
 by_cases c2 : x < 0
 ·rw [if_pos c2]; simp; omega
 rw [if_neg c2]
 by_cases c3 : x + 1 < (d.length : Int)
 ·rw [if_pos c3]; simp; omega
 ·rw [if_neg c3]; simp; omega
theorem zmG (f : Int) {n : Nat} (h : n ≠ 0) (e : Int) (j : Nat) : zaJ f (n * 2 ^ j) e = zaJ f n (e + j) := by
 unfold zaJ
 rw [zjj h, Nat.pow_add, Nat.mul_div_mul_right _ _ (zi j)]
 congr 1; omega
theorem zmE {f : Int} (h : isF f) {q : Nat} {u : Int} (hu : lo f ≤ u) (hq : q ≤ 2 ^ pr f) (hn : u = lo f ∨ 2 ^ fb f ≤ q) (h0 : q ≠ 0) : zaJ f q u = (u - lo f).toNat * 2 ^ fb f + q := by
 have hpr := zS h
 have hp := zi (fb f)
 have hs : 2 ^ pr f = 2 ^ fb f * 2 := by rw [hpr, Nat.pow_succ]
 by_cases c : q = 2 ^ pr f
 ·have hb : bl (2 ^ fb f) = fb f + 1 := by
   have := zaP (v := 1) (by omega) (fb f)
   rw [Nat.one_mul, show bl 1 = 1 by decide] at this
   omega
  have e1 : zr f (2 ^ fb f) (u + 1) = u + 1 := by unfold zr; rw [hb, hpr]; omega
  rw [c, hs, ← Nat.pow_one 2, Nat.pow_one, show 2 ^ fb f * 2 = 2 ^ fb f * 2 ^ 1 from rfl, zmG f (by omega), zgr (by omega) (by rw [show u + ((1 : Nat) : Int) = u + 1 from rfl, e1]; omega), show u + ((1 : Nat) : Int) = u + 1 from rfl, e1, show (u + 1 - (u + 1)).toNat = 0 by omega, Nat.pow_zero, Nat.mul_one,
   show (u + 1 - lo f).toNat = (u - lo f).toNat + 1 by omega, Nat.add_mul, show 2 ^ fb f * 2 ^ 1 = 2 ^ fb f * 2 from rfl]
  omega
 ·have hlt : q < 2 ^ pr f := by omega
  have hb : bl q ≤ pr f := zK hlt
  have e1 : zr f q u = u := by
   unfold zr
   rcases hn with hn | hn
   ·omega
   ·have := zaB hn
    have h2 := zaP (v := 1) (by omega) (fb f)
    rw [Nat.one_mul, show bl 1 = 1 by decide] at h2
    omega
  rw [zgr h0 (by omega), e1, show (u - u).toNat = 0 by omega, Nat.pow_zero, Nat.mul_one]
theorem zpS (m : Int) (s o : Bool) {x y p : Nat} (h : x ≤ y) (hy : y < p) (kx : 2 * x % p ≠ 0 ↔ x ≠ 0 ∧ 2 * x ≠ p) (ky : 2 * y % p ≠ 0 ↔ y ≠ 0 ∧ 2 * y ≠ p) :
  upB m s o (decide (p ≤ 2 * x)) (decide (2 * x % p ≠ 0)) = true → upB m s o (decide (p ≤ 2 * y)) (decide (2 * y % p ≠ 0)) = true := by
 unfold upB
 by_cases c1 : m = 1
 ·rw [if_pos c1, if_pos c1]
  simp only [Bool.and_eq_true, Bool.or_eq_true, decide_eq_true_eq, kx, ky]
  rintro ⟨g1, g2⟩
  refine ⟨by omega, ?_⟩
  by_cases c2 : 2 * y = p
  ·exact .inr (g2.resolve_left (by omega))
  ·exact .inl (by omega)
 rw [if_neg c1, if_neg c1]
 by_cases c2 : m = 2
 ·rw [if_pos c2, if_pos c2]
  simp only [decide_eq_true_eq]
  omega
 rw [if_neg c2, if_neg c2]
 by_cases c4 : m = 4
 ·rw [if_pos c4, if_pos c4]
  simp only [Bool.and_eq_true, Bool.or_eq_true, decide_eq_true_eq, kx, ky]
  rintro ⟨g1, g2⟩
  exact ⟨g1, by omega⟩
 rw [if_neg c4, if_neg c4]
 by_cases c5 : m = 5
 ·rw [if_pos c5, if_pos c5]
  simp only [Bool.and_eq_true, Bool.or_eq_true, decide_eq_true_eq, kx, ky]
  rintro ⟨g1, g2⟩
  exact ⟨g1, by omega⟩
 rw [if_neg c5, if_neg c5]
 exact id
theorem zoS (m : Int) (s : Bool) {a b k : Nat} (h : a ≤ b) : rnd m s a k ≤ rnd m s b k := by
 have hp := zi k
 have h1 : a / 2 ^ k ≤ b / 2 ^ k := Nat.div_le_div_right h
 unfold rnd
 by_cases c : a / 2 ^ k = b / 2 ^ k
 ·have h2 : a % 2 ^ k ≤ b % 2 ^ k := by
   have ea := Nat.div_add_mod a (2 ^ k)
   have eb := Nat.div_add_mod b (2 ^ k)
   rw [c] at ea
   omega
  have h3 := Nat.mod_lt b hp
  rw [c]
  suffices hh : upB m s (decide (b / 2 ^ k % 2 = 1)) (decide (2 ^ k ≤ 2 * (a % 2 ^ k))) (decide (2 * (a % 2 ^ k) % 2 ^ k ≠ 0)) = true → upB m s (decide (b / 2 ^ k % 2 = 1)) (decide (2 ^ k ≤ 2 * (b % 2 ^ k))) (decide (2 * (b % 2 ^ k) % 2 ^ k ≠ 0)) = true by
   split
   ·rename_i hu; rw [if_pos (hh hu)]; omega
   ·split <;> omega
  have key : ∀ r, r < 2 ^ k → (2 * r % 2 ^ k ≠ 0 ↔ r ≠ 0 ∧ 2 * r ≠ 2 ^ k) := by
   intro r hr
   by_cases c1 : 2 * r < 2 ^ k
   ·rw [Nat.mod_eq_of_lt c1]; omega
   ·rw [Nat.mod_eq_sub_mod (by omega), Nat.mod_eq_of_lt (by omega)]; omega
  have ka := key (a % 2 ^ k) (by omega)
  have kb := key (b % 2 ^ k) h3
  exact zpS m s _ h2 h3 ka kb
 ·have h2 : a / 2 ^ k < b / 2 ^ k := by omega
  split <;> split <;> omega
def zeJ (f m : Int) (s : Bool) : Nat := if inw m s = true then mo f * 2 ^ fb f - 1 else mo f * 2 ^ fb f
def zbT (f m : Int) (s : Bool) (n : Nat) (e : Int) : Nat :=
 if (bl (R m s n e (zn f n e)) : Int) + zn f n e > wd f then zeJ f m s
 else if R m s n e (zn f n e) = 0 then 0 else zaJ f (R m s n e (zn f n e)) (zn f n e)
theorem zeN (f m : Int) (s : Bool) (n : Nat) (e : Int) : (zq f m s n e).1 = ((zbT f m s n e + sgn f s : Nat) : Int) := by
 unfold zq zbT
 dsimp only
 by_cases c : (bl (R m s n e (zn f n e)) : Int) + zn f n e > wd f
 ·rw [if_pos c, if_pos c]; rfl
 ·rw [if_neg c, if_neg c]
def zcz (f m : Int) (s : Bool) (n : Nat) (e : Int) : Nat := (zn f n e - lo f).toNat * 2 ^ fb f + R m s n e (zn f n e)
theorem zhv {f m : Int} (h : isF f) (s : Bool) {n : Nat} (hn : n ≠ 0) (e : Int) : lo f ≤ zn f n e ∧ R m s n e (zn f n e) ≤ 2 ^ pr f ∧ (zn f n e = lo f ∨ 2 ^ fb f ≤ R m s n e (zn f n e)) := by
 have hpr := zS h
 refine ⟨by unfold zn; omega, zlt (p := pr f) (by unfold zn; omega), ?_⟩
 by_cases c : zn f n e = lo f
 ·exact .inl c
 ·right
  have hu : zn f n e = e + (bl n : Nat) - (pr f : Nat) := by unfold zn at c ⊢; omega
  obtain ⟨h1, _⟩ := zf5 (m := m) (s := s) (e := e) hn (E := zn f n e) (by omega)
  have h2 : R m s n e (zn f n e) ≠ 0 := by
   intro hz
   rw [hz, za2] at h1
   omega
  have h3 := zda h2
  exact Nat.le_trans (Nat.pow_le_pow_right (by omega) (by omega)) h3
theorem zii {f m : Int} (h : isF f) (s : Bool) {n : Nat} (hn : n ≠ 0) (e : Int) : zbT f m s n e = if mo f * 2 ^ fb f ≤ zcz f m s n e then zeJ f m s else zcz f m s n e := by
 obtain ⟨h1, h2, h3⟩ := zhv (m := m) h s hn e
 have hpr := zS h
 have hro := zgA h
 have hmo := zdl h
 have hp := zi (fb f)
 have hs : 2 ^ pr f = 2 * 2 ^ fb f := by rw [hpr, Nat.pow_succ]; omega
 have hiff : (bl (R m s n e (zn f n e)) : Int) + zn f n e > wd f ↔ mo f * 2 ^ fb f ≤ zcz f m s n e := by
  unfold zcz
  obtain ⟨u, hu⟩ : ∃ u, u = zn f n e := ⟨_, rfl⟩
  obtain ⟨q, hq⟩ : ∃ q, q = R m s n e u := ⟨_, rfl⟩
  rw [← hu] at h1 h2 h3 ⊢
  rw [← hq] at h2 h3 ⊢
  obtain ⟨d, hd⟩ : ∃ d, d = (u - lo f).toNat := ⟨_, rfl⟩
  rw [← hd]
  have hud : u = lo f + (d : Int) := by omega
  by_cases c : q = 2 ^ pr f
  ·have hb : bl q = pr f + 1 := by
    have := zaP (v := 1) (by omega) (pr f)
    rw [Nat.one_mul, show bl 1 = 1 by decide] at this
    rw [c]; omega
   rw [hb, c, hs]
   have : d * 2 ^ fb f + 2 * 2 ^ fb f = (d + 2) * 2 ^ fb f := by rw [Nat.add_mul]
   rw [this, Nat.mul_le_mul_right_iff hp]
   omega
  ·have hlt : q < 2 * 2 ^ fb f := by omega
   have hb : bl q ≤ pr f := zK (by omega)
   rcases h3 with h3 | h3
   ·have : d = 0 := by omega
    subst this
    have h5 : 2 * 2 ^ fb f ≤ mo f * 2 ^ fb f := Nat.mul_le_mul_right _ (by omega)
    constructor
    ·intro; omega
    ·intro; omega
   ·have h4 := zaB h3
    have h5 := zaP (v := 1) (by omega) (fb f)
    rw [Nat.one_mul, show bl 1 = 1 by decide] at h5
    have hb2 : bl q = pr f := by omega
    rw [hb2]
    constructor
    ·intro hh
     have h6 : (mo f - 1) * 2 ^ fb f ≤ d * 2 ^ fb f := Nat.mul_le_mul_right _ (by omega)
     have h7 : mo f * 2 ^ fb f = (mo f - 1) * 2 ^ fb f + 2 ^ fb f := by
      rw [← Nat.succ_mul]; congr 1; omega
     omega
    ·intro hh
     apply Int.lt_of_not_ge
     intro hc
     have h6 : d * 2 ^ fb f ≤ (mo f - 2) * 2 ^ fb f := Nat.mul_le_mul_right _ (by omega)
     have h7 : mo f * 2 ^ fb f = (mo f - 2) * 2 ^ fb f + 2 * 2 ^ fb f := by
      rw [← Nat.add_mul]; congr 1; omega
     omega
 unfold zbT
 by_cases c : (bl (R m s n e (zn f n e)) : Int) + zn f n e > wd f
 ·rw [if_pos c, if_pos (hiff.1 c)]
 ·rw [if_neg c, if_neg (fun hh => c (hiff.2 hh))]
  by_cases c0 : R m s n e (zn f n e) = 0
  ·rw [if_pos c0]
   have : zn f n e = lo f := h3.resolve_right (by omega)
   unfold zcz
   rw [c0, this, show (lo f - lo f).toNat = 0 by omega, Nat.zero_mul]
  ·rw [if_neg c0, zmE h h1 h2 h3 c0]; rfl
theorem zl9 {f m : Int} (h : isF f) (s : Bool) {n n' : Nat} (hn : n ≠ 0) (hle : n ≤ n') (e : Int) : zcz f m s n e ≤ zcz f m s n' e := by
 obtain ⟨h1, h2, h3⟩ := zhv (m := m) h s hn e
 obtain ⟨k1, k2, k3⟩ := zhv (m := m) h s (n := n') (by omega) e
 have hpr := zS h
 have hs : 2 ^ pr f = 2 * 2 ^ fb f := by rw [hpr, Nat.pow_succ]; omega
 have hb := zaB hle
 have hu : zn f n e ≤ zn f n' e := by unfold zn; omega
 unfold zcz
 by_cases c : zn f n e = zn f n' e
 ·rw [← c]
  have : R m s n e (zn f n e) ≤ R m s n' e (zn f n e) := by
   unfold R
   exact zoS m s (Nat.mul_le_mul_right _ hle)
  omega
 ·have k4 := k3.resolve_left (by omega)
  have e1 : ((zn f n e - lo f).toNat + 1) * 2 ^ fb f ≤ (zn f n' e - lo f).toNat * 2 ^ fb f := Nat.mul_le_mul_right _ (by omega)
  rw [Nat.add_mul] at e1
  omega
theorem zij {f m : Int} (h : isF f) (s : Bool) {n n' : Nat} (hn : n ≠ 0) (hle : n ≤ n') (e : Int) : zbT f m s n e ≤ zbT f m s n' e ∧ zbT f m s n' e ≤ mo f * 2 ^ fb f := by
 have h1 := zl9 (m := m) h s hn hle e
 rw [zii h s hn, zii h s (n := n') (by omega)]
 have hm : zeJ f m s ≤ mo f * 2 ^ fb f ∧ mo f * 2 ^ fb f - 1 ≤ zeJ f m s := by unfold zeJ; split <;> omega
 constructor
 ·split <;> split <;> omega
 ·split <;> omega
theorem zpf {A B A' B' : Nat} (hB : 0 < B) (hB' : 0 < B') (hx : A * B' ≤ A' * B) : stk (A / B) (decide (A % B ≠ 0)) ≤ stk (A' / B') (decide (A' % B' ≠ 0)) := by
 have ea := Nat.div_add_mod A B
 have ea' := Nat.div_add_mod A' B'
 have hl' := Nat.mod_lt A' hB'
 have hq : A / B ≤ A' / B' := by
  rw [Nat.le_div_iff_mul_le hB']
  have h1 : A / B * B * B' ≤ A * B' := Nat.mul_le_mul_right _ (Nat.div_mul_le_self A B)
  have h2 : A / B * B' * B ≤ A' * B := by
   rw [Nat.mul_assoc, Nat.mul_comm B' B, ← Nat.mul_assoc]; omega
  exact Nat.le_of_mul_le_mul_right h2 hB
 unfold stk
 have hb1 := zej (decide (A % B ≠ 0))
 have hb2 := zej (decide (A' % B' ≠ 0))
 by_cases c : A / B = A' / B'
 ·by_cases c0 : A % B = 0
  ·have : bN (decide (A % B ≠ 0)) = 0 := by rw [zfc]; exact decide_eq_false (by simpa using c0)
   omega
  ·have c1 : A' % B' ≠ 0 := by
    intro hz
    rw [hz, Nat.add_zero] at ea'
    rw [← ea, ← ea', ← c, Nat.add_mul] at hx
    have h3 : B * (A / B) * B' = B' * (A / B) * B := by
     rw [Nat.mul_comm B, Nat.mul_assoc, Nat.mul_comm B B', ← Nat.mul_assoc, Nat.mul_comm (A / B) B']
    rw [h3] at hx
    have h4 : 0 < A % B * B' := Nat.mul_pos (by omega) hB'
    omega
   have : bN (decide (A' % B' ≠ 0)) = 1 := by
    have : bN (decide (A' % B' ≠ 0)) ≠ 0 := fun hz => by
     rw [zfc] at hz
     exact absurd (of_decide_eq_false hz) (by simpa using c1)
    omega
   omega
 ·omega
theorem zoY {f m : Int} (h : isF f) (s : Bool) {A B A' B' : Nat} (hA : A ≠ 0) (hA' : A' ≠ 0) (hB : 0 < B) (hB' : 0 < B') (hx : A * B' ≤ A' * B) (e : Int) :
  ∃ c c' : Nat, (rq f m s A B e).1 = ((c + sgn f s : Nat) : Int) ∧ (rq f m s A' B' e).1 = ((c' + sgn f s : Nat) : Int) ∧ c ≤ c' ∧ c' ≤ mo f * 2 ^ fb f := by
 obtain ⟨N, hN⟩ : ∃ N, N = max (bl B + 64) (bl B' + 64) := ⟨_, rfl⟩
 have bits : ∀ {A B : Nat}, A ≠ 0 → 0 < B → bl B + 64 ≤ N → pr f + 1 ≤ bl (A * 2 ^ N / B) ∧ A * 2 ^ N / B ≠ 0 := by
  intro A B hA hB hle
  have h1 := zeP hA hB
  have h2 : A * 2 ^ (bl B + 64) / B ≤ A * 2 ^ N / B := Nat.div_le_div_right (Nat.mul_le_mul_left _ (Nat.pow_le_pow_right (by omega) hle))
  have h3 := zaB h2
  have h4 : pr f ≤ 53 := by rcases h with rfl | rfl <;> decide
  refine ⟨by omega, fun hz => ?_⟩
  rw [hz, za2] at h3
  omega
 have b1 := bits hA hB (by omega)
 have b2 := bits hA' hB' (by omega)
 have hm := zpf (A := A * 2 ^ N) (A' := A' * 2 ^ N) hB hB' (by
  rw [Nat.mul_right_comm, Nat.mul_right_comm A']
  exact Nat.mul_le_mul_right _ hx)
 have hne : stk (A * 2 ^ N / B) (decide (A * 2 ^ N % B ≠ 0)) ≠ 0 := by unfold stk; omega
 obtain ⟨g1, g2⟩ := zij (m := m) h s hne hm (e - N - 1)
 exact ⟨_, _, by rw [← zeQ h s hA hB e N b1.1, zeN], by rw [← zeQ h s hA' hB' e N b2.1, zeN], g1, g2⟩
def exN (z : Nat) (e : Int) : Nat := z * 2 ^ e.toNat * 5 ^ (-e).toNat
def exG (e : Int) : Nat := (-e).toNat
theorem zfq {z : Nat} (h : z ≠ 0) (e : Int) : exN z e ≠ 0 := Nat.mul_ne_zero (Nat.mul_ne_zero h (Nat.ne_of_gt (zi _))) (Nat.ne_of_gt (Nat.pow_pos (by omega)))
theorem zme {f m : Int} (h : isF f) (s : Bool) {z : Nat} (hz : z ≠ 0) (e : Int) : zA f m s (exN z e) (-(exG e : Int)) = zq f m s z e := by
 have h5 := zfq hz e
 rw [← ziq h s h5]
 unfold exN exG
 have e1 := zfK (m := m) h s (A := z * 2 ^ e.toNat) (B := 1) (c := 5 ^ (-e).toNat) (Nat.mul_ne_zero hz (Nat.ne_of_gt (zi _))) (by omega) (Nat.pow_pos (by omega)) (-(((-e).toNat : Nat) : Int))
 rw [Nat.one_mul] at e1
 rw [e1, zfL h s hz (by omega), zkj h s hz]
 congr 1
 omega
def zb2 (g : Nat) (t : List UInt8) : List UInt8 := List.replicate (g + 1 - t.length) 48 ++ t
theorem zfC (g : Nat) (t : List UInt8) : g + 1 ≤ (zb2 g t).length ∧ (zb2 g t).length = max (g + 1) t.length := by
 unfold zb2
 rw [List.length_append, List.length_replicate]; omega
def exW (z : Nat) (e : Int) : List UInt8 := if 0 ≤ e then dx (exN z e) else (zb2 (exG e) (dx (exN z e))).take ((zb2 (exG e) (dx (exN z e))).length - exG e)
def exP (z : Nat) (e : Int) : List UInt8 := if 0 ≤ e then [] else (zb2 (exG e) (dx (exN z e))).drop ((zb2 (exG e) (dx (exN z e))).length - exG e)
def exT (s : Bool) (z : Nat) (e : Int) : List UInt8 := sgT s ++ (exW z e ++ if exP z e = [] then [] else 46 :: exP z e)
theorem zgs (z : Nat) (e : Int) : (exP z e).length = exG e := by
 unfold exP
 by_cases c : 0 ≤ e
 ·rw [if_pos c]; unfold exG; simp; omega
 ·rw [if_neg c, List.length_drop]
  have := (zfC (exG e) (dx (exN z e))).1
  omega
theorem zgu {z : Nat} (hz : z ≠ 0) (e : Int) : 0 < (exW z e).length ∧ (exW z e).length ≤ (dx (exN z e)).length + 1 := by
 unfold exW
 have := zet (zfq hz e)
 by_cases c : 0 ≤ e
 ·rw [if_pos c]; omega
 ·rw [if_neg c, List.length_take]
  have := (zfC (exG e) (dx (exN z e)))
  omega
theorem zgt (z : Nat) (e : Int) : ∃ j, exW z e ++ exP z e = List.replicate j 48 ++ dx (exN z e) ∧ j = (exW z e).length + exG e - (dx (exN z e)).length := by
 unfold exW exP
 by_cases c : 0 ≤ e
 ·rw [if_pos c, if_pos c]
  exact ⟨0, by simp, by unfold exG; omega⟩
 ·rw [if_neg c, if_neg c, List.take_append_drop]
  refine ⟨_, rfl, ?_⟩
  have := (zfC (exG e) (dx (exN z e)))
  rw [List.length_take]
  omega
theorem zmK (z : Nat) (e : Int) : (exW z e).all isD = true ∧ (exP z e).all isD = true := by
 obtain ⟨j, h, _⟩ := zgt z e
 exact zbP (by rw [h, List.all_append, zdD, za8]; rfl)
theorem zok (n : Nat) : 5 ^ n ≤ 10 ^ (7 * (n / 10 + 1)) := by
 have h1 : 5 ^ n ≤ 5 ^ (10 * (n / 10 + 1)) := Nat.pow_le_pow_right (by omega) (by omega)
 have h2 : (5 ^ 10) ^ (n / 10 + 1) ≤ (10 ^ 7) ^ (n / 10 + 1) := Nat.pow_le_pow_left (by decide) _
 rw [← Nat.pow_mul, ← Nat.pow_mul] at h2
 omega
theorem zoj (n : Nat) : 2 ^ n ≤ 10 ^ (3 * (n / 8 + 1)) := by
 have h1 : 2 ^ n ≤ 2 ^ (8 * (n / 8 + 1)) := Nat.pow_le_pow_right (by omega) (by omega)
 have h2 : (2 ^ 8) ^ (n / 8 + 1) ≤ (10 ^ 3) ^ (n / 8 + 1) := Nat.pow_le_pow_left (by decide) _
 rw [← Nat.pow_mul, ← Nat.pow_mul] at h2
 omega
theorem zje {z y p K : Nat} (hz : z < 10 ^ 16) (hy : y ≤ 10 ^ p) (hp : 16 + p ≤ K) : z * y < 10 ^ K := by
 have h5 : z * y ≤ z * 10 ^ p := Nat.mul_le_mul_left _ hy
 have h6 : z * 10 ^ p < 10 ^ 16 * 10 ^ p := Nat.mul_lt_mul_of_pos_right hz (Nat.pow_pos (by omega))
 rw [← Nat.pow_add] at h6
 exact Nat.lt_of_le_of_lt h5 (Nat.lt_of_lt_of_le h6 (Nat.pow_le_pow_right (by omega) hp))
theorem zgv {z : Nat} {e : Int} (hb : bl z ≤ 53) (h1 : -1074 ≤ e) (h2 : e ≤ 1024) : (dx (exN z e)).length ≤ 800 := by
 obtain ⟨K, hK⟩ : ∃ K : Nat, K = 800 := ⟨_, rfl⟩
 rw [← hK]
 apply zgo _ (by omega)
 unfold exN
 have hz : z < 2 ^ bl z := zR z
 have hz2 : 2 ^ bl z ≤ 2 ^ 53 := Nat.pow_le_pow_right (by omega) hb
 have hz3 : z < 10 ^ 16 := Nat.lt_of_lt_of_le (Nat.lt_of_lt_of_le hz hz2) (by decide)
 by_cases c : 0 ≤ e
 ·rw [show (-e).toNat = 0 by omega, Nat.pow_zero, Nat.mul_one]
  exact zje hz3 (zoj e.toNat) (by omega)
 ·rw [show e.toNat = 0 by omega, Nat.pow_zero, Nat.mul_one]
  exact zje hz3 (zok (-e).toNat) (by omega)
theorem zY (a b : List UInt8) : bx a ++ bx b = bx (a ++ b) := zbm.1 (by rw [zkP]; rfl)
theorem zdJ (T : List UInt8) (n : Nat) : (bx T).extract 0 n = bx (T.take n) := zbm.1 (by rw [zfO]; rfl)
theorem zfg (T : List UInt8) (n : Nat) : (bx T).extract n (bx T).size = bx (T.drop n) := zbm.1 (by rw [zfO, zy, zX, zX, List.take_length])
theorem zl2 (T : List UInt8) (i j : Nat) : (bx T).extract i j = bx ((T.take j).drop i) := zbm.1 (by rw [zfO]; rfl)
theorem zg9 {n : Int} (h0 : 0 ≤ n) (h1 : n ≤ 1000000) : zan.f (⟨#[48]⟩ : ByteArray) n = some (bx (List.replicate n.toNat 48)) := by
 unfold zan.f
 have hs : (⟨#[48]⟩ : ByteArray).size = 1 := rfl
 rw [if_pos ⟨h0, by rw [hs]; omega, by omega⟩]
 have : Lib.repeatL (⟨#[48]⟩ : ByteArray).data.toList n.toNat = List.replicate n.toNat 48 := zkb 48 _
 rw [this]; rfl
def nmT (f : Int) (w : Nat) : List UInt8 := if cls f w = 5 then [110, 97, 110] else if cls f w = 4 then sgT (zj f w) ++ [105, 110, 102] else if cls f w = 1 then sgT (zj f w) ++ [48] else []
def zcl (f : Int) (w : Nat) : Bool := decide (cls f w = 5 ∨ cls f w = 4 ∨ cls f w = 1)
theorem zi5 {f : Int} {w : Nat} (h : zcl f w = false) : cls f w ≠ 5 ∧ cls f w ≠ 4 ∧ cls f w ≠ 1 := by
 have := of_decide_eq_false h
 exact ⟨fun c => this (.inl c), fun c => this (.inr (.inl c)), fun c => this (.inr (.inr c))⟩
theorem zjs (s : Bool) (a b : Int) {t : List UInt8} (ht : t.length ≤ 10) : Ev (fun k => zaE.j1 k s a b (bx t)) (bx (sgT s ++ t), true, 0) := by
 refine zf ?_; simp only [zaE.j1]
 have hs := zy t
 cases s with
 | true => exact zd rfl (zd (show 1 + (bx t).size < 35184372088832 by omega) (zg (Ev.now _) (by rw [show (⟨#[45]⟩ : ByteArray) = bx [45] from rfl, zY]; rfl)))
 | false => exact ze (by simp) (Ev.now _)
theorem zjr {f : Int} (h : isF f) {w : Nat} (hw : w < 2 * sg f) : Ev (fun k => zaE.f k f (w : Int)) (bx (nmT f w), zcl f w, 0) := by
 unfold zaE.f
 refine Ev.bind (zp3 h hw) (ze (by simp) (Ev.bind (zp8 h hw) ?_))
 unfold nmT zcl
 by_cases c5 : cls f w = 5
 ·rw [if_pos c5, decide_eq_true (.inl c5)]
  exact zd c5 (Ev.now _)
 rw [if_neg c5]
 by_cases c4 : cls f w = 4
 ·rw [if_pos c4, decide_eq_true (.inr (.inl c4))]
  exact ze c5 (zd c4 (zjs (t := [105, 110, 102]) _ _ _ (by decide)))
 rw [if_neg c4]
 by_cases c1 : cls f w = 1
 ·rw [if_pos c1, decide_eq_true (.inr (.inr c1))]
  exact ze c5 (ze c4 (zd c1 (zjs (t := [48]) _ _ _ (by decide))))
 ·rw [if_neg c1, decide_eq_false (by rintro (c | c | c); exact c5 c; exact c4 c; exact c1 c)]
  exact ze c5 (ze c4 (ze c1 (Ev.now _)))
theorem ziP (z : Nat) {e : Int} (h : 0 ≤ e) : exN z e = z * 2 ^ e.toNat := by unfold exN; rw [show (-e).toNat = 0 by omega, Nat.pow_zero, Nat.mul_one]
theorem ziQ (z : Nat) {e : Int} (h : e < 0) : exN z e = z * 5 ^ (-e).toNat := by unfold exN; rw [show e.toNat = 0 by omega, Nat.pow_zero, Nat.mul_one]
theorem zmL {z : Nat} {e : Int} (hb : bl z ≤ 53) (h1 : -1074 ≤ e) (h2 : e ≤ 1024) : bl (exN z e) ≤ 3300 := by
 by_cases c : 0 ≤ e
 ·rw [ziP z c]
  have := zfe z e.toNat
  omega
 ·rw [ziQ z (by omega)]
  have := zgb z (5 ^ (-e).toNat)
  have := zfE (-e).toNat
  omega
theorem zny {n k : Nat} (hb : bl n ≤ 32 * k) : n < 4294967296 ^ k := by
 have h1 := zR n
 have h2 : (4294967296 : Nat) ^ k = 2 ^ (32 * k) := by rw [Nat.pow_mul]
 rw [h2]
 exact Nat.lt_of_lt_of_le h1 (Nat.pow_le_pow_right (by omega) hb)
theorem zhC {n k : Nat} (hb : bl n ≤ 32 * k) : (D n).length ≤ k := zbq (zny hb)
def dz (f : Int) (w : Nat) : Nat := V (wv f w).2.1
def we (f : Int) (w : Nat) : Int := (wv f w).2.2
structure Wd (f : Int) (w : Nat) : Prop where
 eq : wv f w = (zj f w, D (dz f w), we f w)
 my : My (zj f w) (D (dz f w)) (we f w)
 ne : dz f w ≠ 0
 b : bl (dz f w) ≤ 53
 lo : -1074 ≤ we f w
 hi : we f w + (bl (dz f w) : Nat) ≤ 1024
theorem zdA {f : Int} (h : isF f) {w : Nat} (c1 : cls f w ≠ 1) (c4 : cls f w < 4) : Wd f w := by
 obtain ⟨my, ne, b, lo, hi, hs⟩ := zoo h c1 c4
 have hb := (zlh h c1 c4).b
 have hpr : pr f ≤ 53 := by rcases h with rfl | rfl <;> decide
 have e : wv f w = (zj f w, D (dz f w), we f w) := by
  have hn : D (V (wv f w).2.1) = (wv f w).2.1 := my.dy.nm
  unfold dz we
  rw [hn, ← hs]
 refine ⟨e, ?_, ne, ?_, lo, hi⟩
 ·rw [e] at my; exact my
 ·exact Nat.le_trans hb hpr
theorem zqb {f : Int} (h : isF f) {w : Nat} (hw : w < 2 * sg f) (c1 : cls f w ≠ 1) (c4 : cls f w < 4) : Ev (fun k => zbo.f k f (w : Int)) (zj f w, D (dz f w), we f w, 0) := by
 have hv := zp9 h hw c4
 have hwv : mk (sv (zj f w) (zm f w)) (wex f w) = wv f w := rfl
 rw [hwv, (zdA h c1 c4).eq] at hv
 exact hv
theorem ziS (s : Bool) (l : List Int) {e : Int} {T : List UInt8} (h1 : -1074 ≤ e) (h2 : e < 0) (hT : (-e).toNat ≤ T.length) (hl : T.length ≤ 10000) :
  Ev (fun k => za7.j1 k s l e (bx T)) (s, bx (T.take (T.length - (-e).toNat)), bx (T.drop (T.length - (-e).toNat))) := by
 have hs := zy T
 have hw : wrap64 (((bx T).size : Int) + e) = ((T.length - (-e).toNat : Nat) : Int) := by rw [w64 (by omega) (by omega)]; omega
 refine zf ?_; simp only [za7.j1]
 rw [hw, Int.toNat_natCast, zdJ, zfg]
 exact zd (by omega) (zd (by omega) (zd (by omega) (zd (by omega) (Ev.now _))))
theorem ziv {f : Int} (h : isF f) {w : Nat} (hw : w < 2 * sg f) (c1 : cls f w ≠ 1) (c4 : cls f w < 4) :
  Ev (fun k => za7.f k f (w : Int)) (zj f w, bx (exW (dz f w) (we f w)), bx (exP (dz f w) (we f w))) := by
 have W := zdA h c1 c4
 have hv := zqb h hw c1 c4
 obtain ⟨_, my, ne, b, lo, hi⟩ := W
 have hbp := zbc ne
 revert hv my ne b lo hi hbp
 generalize zj f w = s
 generalize dz f w = z
 generalize we f w = e
 intro hv my ne b lo hi hbp
 have hN : (D (exN z e)).length ≤ 104 := zhC (by have := zmL b lo (by omega); omega)
 have hx := zgv b lo (by omega)
 unfold za7.f
 refine Ev.bind hv ?_
 by_cases c : 0 ≤ e
 ·have e1 : zb4 (V (D z)) e = (D (exN z e), false, 0) := by
   unfold zb4
   rw [V_D, if_neg ne, if_neg (by omega), if_neg (by omega), if_neg (by omega), ziP z c]
  have hsh := zeG my.dy.nm my.len e
  rw [e1] at hsh
  have ht := zjv (zD (exN z e)) (by omega)
  rw [V_D, zkB] at ht
  refine zd c (Ev.bind hsh (Ev.bind ht ?_))
  unfold exW exP
  rw [if_pos c, if_pos c]
  exact Ev.now _
 ·have c' : e < 0 := by omega
  have hg : exG e = (-e).toNat := rfl
  have e1 : wrap64 (-e) = (((-e).toNat : Nat) : Int) := by rw [w64 (by omega) (by omega)]; omega
  have h5 : (D (5 ^ (-e).toNat)).length ≤ 104 := zhC (by have := zfE (-e).toNat; omega)
  have hp := zgP (b := 5) (n := (-e).toNat) (by omega) (by omega)
  rw [zek (by omega)] at hp
  have hm := zju (zD z) (zD (5 ^ (-e).toNat)) my.len (by omega)
  rw [V_D, V_D, ← ziQ z c', zek (by omega)] at hm
  have ht := zjv (zD (exN z e)) (by omega)
  rw [V_D, zkB] at ht
  have hsz := zy (dx (exN z e))
  have hpd := zfC (exG e) (dx (exN z e))
  unfold exW exP
  rw [if_neg c, if_neg c]
  refine ze c ?_
  rw [e1]
  refine Ev.bind hp (Ev.bind hm (Ev.bind ht ?_))
  dsimp only
  have e2 : wrap64 ((((-e).toNat : Nat) : Int) - ((bx (dx (exN z e))).size : Int)) = (((-e).toNat : Nat) : Int) - ((dx (exN z e)).length : Int) := by rw [hsz, w64 (by omega) (by omega)]
  rw [e2]
  by_cases ck : (((-e).toNat : Nat) : Int) - ((dx (exN z e)).length : Int) ≥ 0
  ·have e3 : wrap64 ((((-e).toNat : Nat) : Int) - ((dx (exN z e)).length : Int) + 1) = ((exG e + 1 - (dx (exN z e)).length : Nat) : Int) := by rw [w64 (by omega) (by omega), hg]; omega
   rw [e3]
   refine zd ck (zk (zg9 (by omega) (by omega)) ?_)
   rw [Int.toNat_natCast, zY]
   have hz : (bx (List.replicate (exG e + 1 - (dx (exN z e)).length) 48)).size = exG e + 1 - (dx (exN z e)).length := by rw [zy, List.length_replicate]
   refine zd (by omega) ?_
   have := ziS s (D z) (T := zb2 (exG e) (dx (exN z e))) lo c' (by omega) (by omega)
   exact this
  ·refine ze ck ?_
   have hpt : zb2 (exG e) (dx (exN z e)) = dx (exN z e) := by
    unfold zb2
    rw [show exG e + 1 - (dx (exN z e)).length = 0 by omega]; rfl
   rw [hpt, hg]
   exact ziS s (D z) (T := dx (exN z e)) lo c' (by omega) (by omega)
def exS (f : Int) (w : Nat) : List UInt8 := if zcl f w = true then nmT f w else exT (zj f w) (dz f w) (we f w)
theorem ziW {f : Int} (h : isF f) {w : Nat} (c5 : cls f w ≠ 5) (c4 : cls f w ≠ 4) : cls f w < 4 := by have := zh7 h w; omega
theorem zhH (s : Bool) {t : List UInt8} (ht : t.length ≤ 100000) : Ev (fun k => zaj.j2 k s (bx t)) (bx (sgT s ++ t), 0) := by
 refine zf ?_; simp only [zaj.j2]
 have hs := zy t
 cases s with
 | true => exact zd rfl (zd (show 1 + (bx t).size < 35184372088832 by omega) (zg (Ev.now _) (by rw [show (⟨#[45]⟩ : ByteArray) = bx [45] from rfl, zY]; rfl)))
 | false => exact ze (by simp) (Ev.now _)
theorem zlm {f : Int} (h : isF f) {w : Nat} (hw : w < 2 * sg f) : Ev (fun k => zaj.f k f (w : Int)) (bx (exS f w), 0) := by
 unfold zaj.f exS
 refine Ev.bind (zjr h hw) ?_
 by_cases hn : zcl f w = true
 ·rw [if_pos hn]
  refine zd hn ?_
  refine zf ?_; simp only [zaj.j0]
  exact zd trivial (Ev.now _)
 ·rw [if_neg hn]
  obtain ⟨c5, c4, c1⟩ := zi5 (by simpa using hn)
  have hf := ziW h c5 c4
  have W := zdA h c1 hf
  have h1 := zgu W.ne (we f w)
  have h2 := zgs (dz f w) (we f w)
  have h3 := W.lo
  have h4 := W.hi
  have h5 := zbc W.ne
  have h6 := zgv W.b W.lo (by omega)
  have h7 : exG (we f w) ≤ 1074 := by unfold exG; omega
  refine ze hn ?_
  rw [show decide (¬ (0 : Int) = 0) = false from rfl]
  refine zf ?_; simp only [zaj.j0]
  refine ze (by simp) (Ev.bind (ziv h hw c1 hf) ?_)
  unfold exT
  by_cases c0 : exP (dz f w) (we f w) = []
  ·rw [if_pos c0, List.append_nil, zaQ.2 c0]
   exact ze (by simp) (zhH _ (by omega))
  ·rw [if_neg c0]
   have s1 := zy (exP (dz f w) (we f w))
   have s2 := zy (exW (dz f w) (we f w))
   refine zd (fun c => c0 (zaQ.1 c)) (zd (show 1 + (bx (exP (dz f w) (we f w))).size < 35184372088832 by omega) ?_)
   rw [show (⟨#[46]⟩ : ByteArray) = bx [46] from rfl, zY]
   have s3 := zy ([46] ++ exP (dz f w) (we f w))
   rw [List.length_append, List.length_singleton] at s3
   refine zd (show (bx (exW (dz f w) (we f w))).size + (bx ([46] ++ exP (dz f w) (we f w))).size < 35184372088832 by omega) ?_
   dsimp only
   rw [zY]
   exact zhH _ (by rw [List.length_append, List.length_append, List.length_singleton]; omega)
theorem zmu {f m : Int} (h : isF f) (hm : isM m) {w : Nat} (hlt : w < 18446744073709551616) : Ev (fun k => za3.f k f m [(w : Int)]) (if w < 2 * sg f then 0 else 6) := by
 unfold za3.f
 refine zk (zg4 f) ?_
 rw [decide_eq_true h]
 refine ze (by simp) (zk (zjW m) ?_)
 rw [decide_eq_true hm]
 refine ze (by simp) ?_
 refine zf ?_; simp only [za3.l0]
 refine zd (by simp) (zd (by omega) (zd (by simp) ?_))
 rw [show rd [(w : Int)] 0 = (w : Int) from rfl]
 refine zk (zoy h hlt) ?_
 unfold zcO
 by_cases hg : w < 2 * sg f
 ·simp only [if_pos hg]
  refine ze (by simp) ?_
  refine zf ?_; simp only [za3.l0]
  exact ze (show ¬ wrap64 (0 + 1) < 1 by decide) (Ev.now _)
 ·simp only [if_neg hg]
  exact zd (by simp) (Ev.now _)
theorem ziY {f m : Int} (h : ¬ isF f) : fmE f m = 4 := by unfold fmE; rw [if_neg h]
theorem zl1 (a : List UInt8) (d : UInt8) : bt (bx (a ++ [d])) (a.length : Int) = (d.toNat : Int) := zcf (s := bx (a ++ [d])) (A := a) (B := []) (b := d) (by rw [zX])
theorem zpm (a : List UInt8) (d : UInt8) : (a ++ [d]).take a.length = a := by simp
theorem zjx {d e : UInt8} (h : d ≠ e) : (d.toNat : Int) ≠ (e.toNat : Int) := fun c => h (zkS c)
theorem zk0 : ∀ (n : Nat) (l : List UInt8), l.length = n → l.length ≤ 1000000 → Ev (fun k => zbz.l0 k (bx l) 48) (bx (tr l))
 | 0, l, hn, _ => by
  have : l = [] := List.length_eq_zero_iff.1 hn
  subst this
  refine zf ?_; simp only [zbz.l0]
  exact ze (by decide) (Ev.now _)
 | n + 1, l, hn, hl => by
  rcases List.eq_nil_or_concat l with rfl | ⟨a, d, rfl⟩
  ·simp at hn
  rw [List.concat_eq_append] at hn hl ⊢
  have hz := zy (a ++ [d])
  rw [List.length_append, List.length_singleton] at hz hn hl
  have e1 : wrap64 (((bx (a ++ [d])).size : Int) - 1) = (a.length : Int) := by rw [w64 (by omega) (by omega)]; omega
  refine zf ?_; simp only [zbz.l0]
  rw [e1, zl1, Int.toNat_natCast, zdJ, zpm]
  refine zd (by omega) (zd (by omega) (zd (by omega) ?_))
  by_cases c : d = 48
  ·subst c
   rw [zfQ]
   exact zd rfl (zd (by omega) (zd (by omega) (zk0 n a (by omega) (by omega))))
  ·rw [zdv _ c]
   exact ze (zjx c) (Ev.now _)
theorem zkZ {l : List UInt8} (hl : l.length ≤ 1000000) : Ev (fun k => zbl.f k (bx l) (⟨#[48]⟩ : ByteArray)) (bx (tr l)) := by
 unfold zbl.f
 by_cases c : l = []
 ·subst c
  exact zd rfl (Ev.now _)
 ·refine ze (fun h => c (zaQ.1 h)) (ze (by decide) (zd (by decide) (zd (by decide) ?_)))
  have e : decide (bt (⟨#[48]⟩ : ByteArray) 0 < 128) = true := by decide
  have e2 : bt (⟨#[48]⟩ : ByteArray) 0 = 48 := by decide
  rw [e]
  refine zf ?_; simp only [zbl.j2]
  rw [e2]
  refine zd trivial (zd (by decide) ?_)
  unfold zbz.f
  exact Ev.bind (zk0 _ l rfl hl) (Ev.now _)
theorem zhV (s p : Bool) (q : ByteArray) (o : Int) {L r : List UInt8} {b : UInt8} (e : L = b :: r) (hb : b ≠ 48) (hL : L.length ≤ 2000) : ∀ (j : Nat) (x : Int), j ≤ 2000 → -10000 ≤ x - j → x ≤ 10000 →
  Ev (fun k => zaS.l0 k p q o s x (bx (List.replicate j 48 ++ L))) (s, bx (tr L), x - j)
 | 0, x, _, h1, h2 => by
  subst e
  have hz := zy (b :: r)
  rw [List.length_cons] at hz
  have hb0 := zcf (s := bx (b :: r)) (A := []) (B := r) (b := b) (by rw [zX]; rfl)
  rw [List.length_nil, show ((0 : Nat) : Int) = 0 from rfl] at hb0
  rw [show List.replicate 0 (48 : UInt8) ++ b :: r = b :: r from rfl]
  refine zf ?_; simp only [zaS.l0]
  rw [hb0]
  refine zd (by omega) (ze (zjx hb) (Ev.bind (zkZ (by omega)) (zg (Ev.now _) ?_)))
  rw [show x - ((0 : Nat) : Int) = x by omega]
 | j + 1, x, hj, h1, h2 => by
  have hz := zy (List.replicate (j + 1) 48 ++ L)
  rw [List.length_append, List.length_replicate] at hz
  have e0 : List.replicate (j + 1) (48 : UInt8) ++ L = 48 :: (List.replicate j 48 ++ L) := by rw [List.replicate_succ]; rfl
  have hb0 := zcf (s := bx (List.replicate (j + 1) 48 ++ L)) (A := []) (B := List.replicate j 48 ++ L) (b := 48) (by rw [zX, e0]; rfl)
  rw [List.length_nil, show ((0 : Nat) : Int) = 0 from rfl] at hb0
  have ih := zhV s p q o e hb hL j (x - 1) (by omega) (by omega) (by omega)
  refine zf ?_; simp only [zaS.l0]
  have hz' : 1 ≤ (bx (List.replicate (j + 1) 48 ++ L)).size := by omega
  rw [hb0, show (1 : Int).toNat = 1 from rfl, zfg, w64 (n := x - 1) (by omega) (by omega)]
  refine zd (by omega) (zd rfl (zd (by decide) (zd (by omega) ?_)))
  rw [e0, show (48 :: (List.replicate j 48 ++ L)).drop 1 = List.replicate j 48 ++ L from rfl]
  rw [show x - ((j + 1 : Nat) : Int) = x - 1 - (j : Int) by omega]
  exact ih
def nN (f : Int) (w : Nat) : Nat := exN (dz f w) (we f w)
def nG (f : Int) (w : Nat) : Nat := exG (we f w)
structure Nw (f : Int) (w : Nat) : Prop where
 ne : nN f w ≠ 0
 len : (dx (nN f w)).length ≤ 800
 g : nG f w ≤ 1074
theorem zfB {f : Int} (h : isF f) {w : Nat} (c1 : cls f w ≠ 1) (c4 : cls f w < 4) : Nw f w := by
 have W := zdA h c1 c4
 have h3 := W.lo
 have h4 := W.hi
 exact ⟨zfq W.ne _, zgv W.b W.lo (by omega), by unfold nG exG; omega⟩
theorem zmj {f : Int} (h : isF f) {w : Nat} (hw : w < 2 * sg f) (c1 : cls f w ≠ 1) (c4 : cls f w < 4) :
  Ev (fun k => zaS.f k f (w : Int)) (zj f w, bx (tr (dx (nN f w))), ((dx (nN f w)).length : Int) - 1 - (nG f w : Nat)) := by
 have W := zdA h c1 c4
 obtain ⟨ne, hl, hg⟩ := zfB h c1 c4
 have h1 := zgu W.ne (we f w)
 have h2 := zgs (dz f w) (we f w)
 obtain ⟨j, hj, hj2⟩ := zgt (dz f w) (we f w)
 have hj3 := congrArg List.length hj
 rw [List.length_append, List.length_append, List.length_replicate, h2] at hj3
 obtain ⟨b, r, e, hb⟩ := zaG ne
 have s1 := zy (exP (dz f w) (we f w))
 have s2 := zy (exW (dz f w) (we f w))
 unfold nN nG at *
 unfold zaS.f
 refine Ev.bind (ziv h hw c1 c4) (zd (show (bx (exW (dz f w) (we f w))).size + (bx (exP (dz f w) (we f w))).size < 35184372088832 by omega) ?_)
 dsimp only
 rw [w64 (n := ((bx (exW (dz f w) (we f w))).size : Int) - 1) (by omega) (by omega), s2, zY, hj]
 have := zhV (zj f w) false (⟨#[]⟩ : ByteArray) 0 e hb (by omega) j (((exW (dz f w) (we f w)).length : Int) - 1) (by omega) (by omega) (by omega)
 rw [show ((exW (dz f w) (we f w)).length : Int) - 1 - (j : Int) = ((dx (exN (dz f w) (we f w))).length : Int) - 1 - (exG (we f w) : Nat) by omega] at this
 exact this
theorem zph (l : List UInt8) : qfL (l.map fun b => (b.toNat : Int)) = bx l := by
 refine zbm.1 ?_
 rw [zpu, zX, List.map_map]
 conv => rhs; rw [← List.map_id l]
 congr 1
 funext b
 show UInt8.ofNat ((b.toNat : Int)).toNat = b
 rw [Int.toNat_natCast, UInt8.ofNat_toNat]
theorem zjn (s p : Bool) (q : ByteArray) (o x : Int) (hx : -100000 ≤ x ∧ x ≤ 100000) (q0 : ByteArray) {T : List UInt8} (hT : T.all isD = true) (hT0 : ∀ b r, T = b :: r → b ≠ 48) (hne : T ≠ []) (hl : T.length ≤ 2000) :
  ∀ (n : Nat) (P : List UInt8) (j : Nat), P.length = n → T = P ++ List.replicate j 57 →
  Ev (fun k => zaT.l0 k s q0 x p q o (T.map fun b => (b.toNat : Int)) ((P.length : Int) - 1)) (s, bx (tr (dx (zh T 0 + 1))), x + ((dx (zh T 0 + 1)).length : Int) - (T.length : Int))
 | 0, P, j, hn, hP => by
  have : P = [] := List.length_eq_zero_iff.1 hn
  subst this
  rw [List.nil_append] at hP
  have hj : 0 < j := by
   rcases Nat.eq_zero_or_pos j with h | h
   ·subst h; exact absurd hP hne
   ·exact h
  obtain ⟨m1, m2⟩ := zmB hj
  rw [← hP] at m1 m2
  have hlen : T.length = j := by rw [hP, List.length_replicate]
  rw [m2, m1]
  refine zf ?_; simp only [zaT.l0]
  refine ze (by simp) (zg (Ev.now _) ?_)
  rw [w64 (n := x + 1) (by omega) (by omega), hlen, List.length_cons, List.length_replicate, show x + ((j + 1 : Nat) : Int) - (j : Int) = x + 1 by omega]
  rfl
 | n + 1, P, j, hn, hP => by
  rcases List.eq_nil_or_concat P with rfl | ⟨a, d, rfl⟩
  ·simp at hn
  rw [List.concat_eq_append] at hn hP ⊢
  rw [List.length_append, List.length_singleton] at hn ⊢
  have hlen : T.length = a.length + 1 + j := by rw [hP]; simp; omega
  have hml : (T.map fun b => (b.toNat : Int)).length = a.length + 1 + j := by rw [List.length_map, hlen]
  have ei : ((a.length + 1 : Nat) : Int) - 1 = (a.length : Int) := by omega
  have hrd : rd (T.map fun b => (b.toNat : Int)) (a.length : Int) = (d.toNat : Int) := by
   rw [rdn, hP]; simp
  have hd : isD d = true := by
   rw [hP, List.append_assoc] at hT
   exact (zc9 (zbP hT).2).1
  have hdl := zcQ hd
  rw [ei]
  refine zf ?_; simp only [zaT.l0]
  rw [hrd, Int.toNat_natCast]
  refine zd (by omega) (zd (by omega) (zd (by omega) ?_))
  by_cases c : d = 57
  ·subst c
   have ih := zjn s p q o x hx q0 hT hT0 hne hl n a (j + 1) (by omega) (by rw [hP, List.append_assoc, List.replicate_succ]; rfl)
   refine ze (by decide) ?_
   rw [w64 (n := (a.length : Int) - 1) (by omega) (by omega)]
   exact ih
  ·have hdn : d.toNat ≠ 57 := fun hh => c (UInt8.toNat_inj.1 (by rw [hh]; rfl))
   obtain ⟨u1, u2, u3⟩ := zi3 hd c
   obtain ⟨m1, m2⟩ := zmA (A := a) (d := d) (j := j) (by rw [hP] at hT; exact (zbP hT).1) c (fun b r hbr => hT0 b (r ++ List.replicate j 57) (by rw [hP, hbr]; rfl))
   rw [← hP] at m1 m2
   have em : ((d.toNat : Int) + 1) % 256 = ((d + 1).toNat : Int) := by rw [u2]; omega
   have e1 : wrap64 ((a.length : Int) + 1) = ((a.length + 1 : Nat) : Int) := by rw [w64 (by omega) (by omega)]; omega
   have es : ((T.map fun b => (b.toNat : Int)).set a.length ((d + 1).toNat : Int)).take (a.length + 1) = (a ++ [d + 1]).map fun b => (b.toNat : Int) := by
    rw [hP, List.map_append, List.map_append, List.append_assoc]
    have hm : (a.map fun b => (b.toNat : Int)).length = a.length := List.length_map ..
    rw [← hm]
    generalize hA : (a.map fun b => (b.toNat : Int)) = A
    rw [List.set_append_right _ _ (Nat.le_refl _), Nat.sub_self, List.take_append, List.take_of_length_le (by omega), Nat.add_sub_cancel_left, List.map_append]
    simp [hA]
   rw [em, e1, Int.toNat_natCast, es, zph, m2, m1]
   clear m1 m2 es hrd hT hT0 hP em e1
   refine zd (by omega) (zd (by omega) (zd (by omega) (zd (by omega) (zd (by omega) (zd (by omega) (zd (by rw [List.length_set, hml]; omega) (zg (Ev.now _) ?_)))))))
   rw [hlen, List.length_append, List.length_append, List.length_singleton, List.length_replicate, show x + ((a.length + 1 + j : Nat) : Int) - ((a.length + 1 + j : Nat) : Int) = x by omega]
theorem zkL {d r : List UInt8} {b : UInt8} (e : d = b :: r) {n : Nat} (hn : 1 ≤ n) : ∃ t, d.take n = b :: t := by
 subst e
 obtain ⟨m, rfl⟩ : ∃ m, n = m + 1 := ⟨n - 1, by omega⟩
 exact ⟨r.take m, rfl⟩
theorem znM (s : Bool) {d r : List UInt8} {b : UInt8} (hd : d.all isD = true) (e : d = b :: r) (hb : b ≠ 48) (hl : d.length ≤ 2000) {x : Int} (hx : -100000 ≤ x ∧ x ≤ 100000) {n : Nat} (h1 : 1 ≤ n) (h2 : n ≤ d.length) :
  Ev (fun k => zaT.f k s (bx d) x (n : Int)) (s, bx (tr (dx (zh (d.take n) 0 + 1))), x + ((dx (zh (d.take n) 0 + 1)).length : Int) - (n : Int)) := by
 have hz := zy d
 obtain ⟨t, ht⟩ := zkL e h1
 have hlen : (d.take n).length = n := by rw [List.length_take]; omega
 have := zjn s false (⟨#[]⟩ : ByteArray) 0 x hx (bx d) (T := d.take n) (zdE hd n) (fun b' r' h => by rw [ht] at h; rw [← (List.cons.inj h).1]; exact hb) (by rw [ht]; simp) (by omega) n (d.take n) 0 hlen (by simp)
 rw [hlen] at this
 unfold zaT.f
 rw [Int.toNat_natCast, zdJ, zdb, w64 (n := (n : Int) - 1) (by omega) (by omega)]
 exact zd (by omega) (zd (by omega) this)
theorem znl (s : Bool) {d : List UInt8} (hl : d.length ≤ 2000) (x : Int) {n : Nat} (h2 : n ≤ d.length) : Ev (fun k => zcG.f k s (bx d) x (n : Int)) (s, bx (tr (d.take n)), x) := by
 have hz := zy d
 unfold zcG.f
 rw [Int.toNat_natCast, zdJ]
 exact zd (by omega) (zd (by omega) (Ev.bind (zkZ (by rw [List.length_take]; omega)) (Ev.now _)))
theorem zoM (s : Bool) {A B : List UInt8} {c : UInt8} (x : Int) (hl : (A ++ c :: B).length ≤ 2000) :
  zcH.f s (bx (A ++ c :: B)) x (A.length : Int) = some (if c.toNat < 53 then -1 else if 53 < c.toNat then 1 else if B ≠ [] then 1 else 0) := by
 have hz := zy (A ++ c :: B)
 rw [List.length_append, List.length_cons] at hz hl
 have e1 : wrap64 ((A.length : Int) + 1) = ((A.length + 1 : Nat) : Int) := by rw [w64 (by omega) (by omega)]; omega
 unfold zcH.f
 rw [e1, if_pos (by omega), if_pos (by omega), if_pos (by omega), Int.toNat_natCast, Int.toNat_natCast, zl2]
 have e2 : ((A ++ c :: B).take (A.length + 1)).drop A.length = [c] := by simp [List.take_append, List.drop_append]
 rw [e2]
 unfold zb5.f
 have e3 : Lib.compareBytes (bx [c]).data.toList (⟨#[53]⟩ : ByteArray).data.toList = if c < 53 then -1 else if 53 < c then 1 else 0 := rfl
 have l1 : c < 53 ↔ c.toNat < 53 := UInt8.lt_iff_toNat_lt
 have l2 : 53 < c ↔ 53 < c.toNat := UInt8.lt_iff_toNat_lt
 rw [e3, Option.bind_some]
 by_cases c1 : c.toNat < 53
 ·rw [if_pos (l1.2 c1), if_pos c1, if_pos (by decide)]
 rw [if_neg (fun h => c1 (l1.1 h)), if_neg c1]
 by_cases c2 : 53 < c.toNat
 ·rw [if_pos (l2.2 c2), if_pos c2, if_pos (by decide)]
 rw [if_neg (fun h => c2 (l2.1 h)), if_neg c2, if_neg (by decide)]
 by_cases c3 : B = []
 ·subst c3
  rw [if_neg (by rw [List.length_nil] at hz; omega), if_neg (by simp)]
 ·have : 0 < B.length := List.length_pos_iff.2 c3
  rw [if_pos (by omega), if_pos c3]
theorem zlQ (n : Nat) (h : n < 256) : Go.bits .and .u8 (n : Int) 1 = ((n % 2 : Nat) : Int) := by
 have : ∀ n : Fin 256, Go.bits .and .u8 (n.1 : Int) 1 = ((n.1 % 2 : Nat) : Int) := by decide +kernel
 exact this ⟨n, h⟩
theorem zn2 (s : Bool) {d A B : List UInt8} {c : UInt8} (hd : d.all isD = true) (x : Int) (hl : d.length ≤ 2000) (e : d = A ++ c :: B) :
  zci.f s (bx d) x ((A.length + 1 : Nat) : Int) = some (decide (zh (A ++ [c]) 0 % 2 = 1)) := by
 subst e
 have hz := zy (A ++ c :: B)
 rw [List.length_append, List.length_cons] at hz hl
 have hc := zcQ (zc9 (zbP hd).2).1
 have e1 : wrap64 (((A.length + 1 : Nat) : Int) - 1) = (A.length : Int) := by rw [w64 (by omega) (by omega)]; omega
 have hb := zcf (s := bx (A ++ c :: B)) (A := A) (B := B) (b := c) (by rw [zX])
 have e2 : ((c.toNat : Int) - 48) % 256 = ((c.toNat - 48 : Nat) : Int) := by omega
 have e3 : zh (A ++ [c]) 0 = 10 * zh A 0 + (c.toNat - 48) := by rw [zbE, zcj]; show _ * 10 ^ 1 + (_ * 10 ^ 0 + 0) = _; omega
 unfold zci.f
 rw [e1, if_pos (by omega), if_pos (by omega), hb, e2, zlQ _ (by omega), e3]
 congr 1
 apply decide_eq_decide.2
 omega
theorem zoi (s : Bool) : (if s = true then (⟨#[45]⟩ : ByteArray) else (⟨#[]⟩ : ByteArray)) = bx (sgT s) := by cases s <;> rfl
theorem zgX (s : Bool) {d r : List UInt8} {b : UInt8} (e : d = b :: r) (hl : d.length ≤ 2000) {x : Int} (h1 : -1100 ≤ x) (h2 : x < 1100) : Ev (fun k => zV.f k s (bx d) x) (bx (zax s d x)) := by
 have hz := zy d
 have hlen : d.length = r.length + 1 := by rw [e]; simp
 unfold zV.f zax
 refine zd ⟨by omega, by omega, by omega⟩ ?_
 rw [zoi]
 by_cases c1 : x < -5 ∨ x > 20
 ·obtain ⟨t, ht, ht2⟩ := zln h1 h2
  have hts : t = bx (etx x) := zbm.1 (by rw [ht2, zX])
  have hts2 := ziN x
  have hts3 := zy (etx x)
  subst hts
  refine zd c1 (zd (by omega) (Ev.bind ht (zd (by omega) (zg (Ev.now _) ?_))))
  rw [if_pos c1, zdJ, zfg, show (⟨#[46]⟩ : ByteArray) = bx [46] from rfl, show (⟨#[101]⟩ : ByteArray) = bx [101] from rfl, show (⟨#[]⟩ : ByteArray) = bx [] from rfl, zY, zY, zY]
  by_cases c2 : 1 < d.length
  ·rw [if_pos (by omega), if_pos c2, zY, zY]; simp
  ·rw [if_neg (by omega), if_neg c2, zY, zY]; simp
 refine ze c1 ?_
 rw [if_neg c1]
 by_cases c2 : x < 0
 ·refine zd c2 (zk (zg9 (by omega) (by omega)) (zg (Ev.now _) ?_))
  rw [if_pos c2, show (⟨#[48, 46]⟩ : ByteArray) = bx [48, 46] from rfl, zY, zY, zY]; simp
 refine ze c2 ?_
 rw [if_neg c2]
 by_cases c3 : x + 1 < (d.length : Int)
 ·refine zd (by omega) (zg (Ev.now _) ?_)
  rw [if_pos c3, zdJ, zfg, show (⟨#[46]⟩ : ByteArray) = bx [46] from rfl, zY, zY, zY]; simp
 ·refine ze (by omega) ?_
  rw [hz]
  refine zk (zg9 (by omega) (by omega)) (zg (Ev.now _) ?_)
  rw [if_neg c3, zY, zY]
theorem zqf {a : Int} {c : Int} (h : 0 < c) : (a * c).sign = a.sign := by
 rw [Int.sign_mul, Int.sign_eq_one_of_pos h, Int.mul_one]
theorem zm6 (r p : Nat) : hlf r p = -1 ∨ hlf r p = 0 ∨ hlf r p = 1 := by unfold hlf; split <;> (try split) <;> simp
theorem qgn {N n : Nat} (hN : N ≠ 0) (h1 : 1 ≤ n) (h2 : n < (tr (dx N)).length) : ∃ (A : List UInt8) (c : UInt8) (B : List UInt8), tr (dx N) = A ++ c :: B ∧ A.length = n ∧ dx (N / 10 ^ ((dx N).length - n)) = A ∧
  hlf (N % 10 ^ ((dx N).length - n)) (10 ^ ((dx N).length - n)) = (if c.toNat < 53 then -1 else if 53 < c.toNat then 1 else if B ≠ [] then 1 else 0) ∧ N % 10 ^ ((dx N).length - n) ≠ 0 := by
 obtain ⟨j, hj⟩ := zcZ (dx N)
 have hall := za8 N
 cases hd : (tr (dx N)).drop n with
 | nil =>
  have := congrArg List.length hd
  rw [List.length_drop] at this
  simp at this; omega
 | cons c B =>
  have e1 : tr (dx N) = (tr (dx N)).take n ++ c :: B := by rw [← hd, List.take_append_drop]
  have hlA : ((tr (dx N)).take n).length = n := by rw [List.length_take]; omega
  generalize hA : (tr (dx N)).take n = A at e1 hlA
  have e2 : dx N = A ++ (c :: (B ++ List.replicate j 48)) := by
   conv => lhs; rw [hj, e1]
   simp
  have e3 : (c :: (B ++ List.replicate j 48)).length = (dx N).length - n := by
   have := congrArg List.length e2
   rw [List.length_append] at this
   omega
  obtain ⟨p1, p2⟩ := ziK hN e2 (fun h => by rw [h] at hlA; simp at hlA; omega)
  rw [e3] at p1 p2
  have hR : (c :: (B ++ List.replicate j 48)).all isD = true := by rw [e2] at hall; exact (zbP hall).2
  have hne : zh (B ++ List.replicate j 48) 0 ≠ 0 ↔ B ≠ [] := by
   rw [ziE hall (A := A ++ [c]) (B := B ++ List.replicate j 48) (by rw [e2]; simp), e1]
   rw [List.length_append, List.length_append, List.length_singleton, List.length_cons]
   constructor
   ·intro h hB; rw [hB] at h; simp at h
   ·intro h; have := List.length_pos_iff.2 h; omega
  refine ⟨A, c, B, e1, hlA, p1, ?_, ?_⟩
  ·rw [p2, ← e3, zm5 hR]
   by_cases d1 : c.toNat < 53
   ·rw [if_pos d1, if_pos d1]
   rw [if_neg d1, if_neg d1]
   by_cases d2 : 53 < c.toNat
   ·rw [if_pos d2, if_pos d2]
   rw [if_neg d2, if_neg d2]
   by_cases c1 : B = []
   ·rw [if_neg (fun h => hne.1 h c1), if_neg (fun h => h c1)]
   ·rw [if_pos (hne.2 c1), if_pos c1]
  ·rw [p2]
   exact (ziE hall e2).2 (by rw [hlA]; exact h2)
def upS (m : Int) (s : Bool) (c : Int) (o : Bool) : Bool := if m = 4 then !s else if m = 5 then s else if m = 2 then decide (0 ≤ c) else if m = 1 then (decide (0 < c) || (decide (c = 0) && o)) else false
def shN (m : Int) (s : Bool) (N G n : Nat) : List UInt8 :=
 if n < (tr (dx N)).length then
  zbA s (N / 10 ^ ((dx N).length - n) + if upS m s (hlf (N % 10 ^ ((dx N).length - n)) (10 ^ ((dx N).length - n))) (decide (N / 10 ^ ((dx N).length - n) % 2 = 1)) = true then 1 else 0) (((dx N).length : Int) - G - n)
 else zax s (tr (dx N)) (((dx N).length : Int) - 1 - G)
theorem zma {N n : Nat} {A : List UInt8} (h1 : 1 ≤ n) (hA : A.length = n) (h : dx (N / 10 ^ ((dx N).length - n)) = A) (hh : ∀ b r, A = b :: r → b ≠ 48) : N / 10 ^ ((dx N).length - n) ≠ 0 := by
 intro hz
 rw [hz] at h
 have : dx 0 = [48] := by decide
 rw [this] at h
 exact hh 48 [] h.symm rfl
theorem zpn {l A B : List UInt8} (e : l = A ++ B) : l.take A.length = A := by rw [e]; simp
theorem zmo {N : Nat} (hN : N ≠ 0) {A R : List UInt8} (e : tr (dx N) = A ++ R) : ∀ b r, A = b :: r → b ≠ 48 := by
 intro b r hb
 obtain ⟨b0, r0, e0, h0⟩ := zaG hN
 obtain ⟨r1, h1⟩ := zb6 e0 h0
 rw [h1, hb] at e
 rw [← (List.cons.inj e).1]; exact h0
theorem zo9 {m : Int} (hm : isM m) {s : Bool} {c : Int} (hc : c = -1 ∨ c = 0 ∨ c = 1) {o : Bool} {j4 : Nat → Bool → Option (ByteArray × Int)} {od : Option Bool} (ho : od = some o) {r : ByteArray × Int} (h : Ev (fun k => j4 k (upS m s c o)) r) :
  Ev (fun k => if m = 4 then j4 k (!s) else (if m = 5 then j4 k s else (if m = 2 then j4 k (decide (c ≥ 0)) else (if m = 1 then (if c > 0 then j4 k true else (if c = 0 then (od.bind fun t => j4 k t) else j4 k false)) else j4 k false)))) r := by
 have hm' : m = 1 ∨ m = 2 ∨ m = 3 ∨ m = 4 ∨ m = 5 := by unfold isM at hm; omega
 subst ho
 rcases hm' with rfl | rfl | rfl | rfl | rfl <;> rcases hc with rfl | rfl | rfl <;> exact h
theorem zlx {f m : Int} (h : isF f) (hm : isM m) {w : Nat} (hw : w < 2 * sg f) (c1 : cls f w ≠ 1) (c4 : cls f w < 4) {n : Nat} (h1 : 1 ≤ n) (h2 : n ≤ 800) (nm : ByteArray) :
  Ev (fun k => zN.j1 k f m (w : Int) (n : Int) nm false false) (bx (shN m (zj f w) (nN f w) (nG f w) n), 0) := by
 obtain ⟨hN, hl, hg⟩ := zfB h c1 c4
 have hall := zmj h hw c1 c4
 revert hN hl hg hall
 generalize nN f w = N
 generalize nG f w = G
 generalize zj f w = s
 intro hN hl hg hall
 obtain ⟨b, r, e, hb⟩ := zaG hN
 obtain ⟨r', e'⟩ := zb6 e hb
 have htl := zbn (dx N)
 have hzt := zy (tr (dx N))
 have hpos := zet hN
 refine zf ?_; simp only [zN.j1]
 refine ze (by simp) (ze (by simp) (Ev.bind hall ?_))
 dsimp only
 unfold shN
 by_cases c : n < (tr (dx N)).length
 rotate_left
 ·rw [if_neg c]
  exact zd (by omega) (Ev.bind (zgX s e' (by omega) (by omega) (by omega)) (Ev.now _))
 rw [if_pos c]
 obtain ⟨A, d, B, t1, t2, t3, t4, t5⟩ := qgn hN h1 c
 have hhead := zmo hN t1
 have hq := zma h1 t2 t3 hhead
 have hDall := zdu (za8 N)
 have hrest := zoM s (A := A) (B := B) (c := d) (((dx N).length : Int) - 1 - G) (by rw [← t1]; omega)
 rw [← t1, t2, ← t4] at hrest
 have hA0 : A ≠ [] := fun hh => by rw [hh] at t2; simp at t2; omega
 have hodd : zci.f s (bx (tr (dx N))) (((dx N).length : Int) - 1 - G) (n : Int) = some (decide (N / 10 ^ ((dx N).length - n) % 2 = 1)) := by
  rcases List.eq_nil_or_concat A with hh | ⟨A', c', hh⟩
  ·exact absurd hh hA0
  ·rw [List.concat_eq_append] at hh
   have := zn2 s (A := A') (B := d :: B) (c := c') hDall (((dx N).length : Int) - 1 - G) (by omega) (by rw [t1, hh]; simp)
   rw [← hh] at this
   have hl2 : n = A'.length + 1 := by rw [← t2, hh]; simp
   rw [hl2, this, ← hl2, ← t3, zbW]
 have htk : (tr (dx N)).take n = A := by rw [← t2]; exact zpn t1
 have hv : zh ((tr (dx N)).take n) 0 = N / 10 ^ ((dx N).length - n) := by rw [htk, ← t3, zbW]
 have hmore := znM s hDall e' hb (by omega) (x := ((dx N).length : Int) - 1 - G) (by omega) h1 (by omega)
 have hless := znl s (d := tr (dx N)) (by omega) (((dx N).length : Int) - 1 - G) (n := n) (by omega)
 rw [hv] at hmore
 rw [htk] at hless
 generalize hqq : N / 10 ^ ((dx N).length - n) = q at hmore hodd hq t3 ⊢
 have hj4 : ∀ u : Bool, Ev (fun k => zN.j4 k (n : Int) s (bx (tr (dx N))) (((dx N).length : Int) - 1 - G) u) (bx (zbA s (q + if u = true then 1 else 0) (((dx N).length : Int) - G - n)), 0) := by
  intro u
  refine zf ?_; simp only [zN.j4]
  cases u with
  | true =>
   obtain ⟨b2, r2, e2, hb2⟩ := zaG (n := q + 1) (by omega)
   obtain ⟨r3, e3⟩ := zb6 e2 hb2
   have hl3 := zbn (dx (q + 1))
   have hl4 : (dx (q + 1)).length ≤ n + 1 := by
    apply zgo _ (by omega)
    have := zfo q
    rw [t3, t2] at this
    rw [Nat.pow_succ]; omega
   refine zd rfl (Ev.bind hmore (Ev.bind (zgX s e3 (x := ((dx N).length : Int) - 1 - G + ((dx (q + 1)).length : Int) - n) (by omega) (by omega) (by omega)) (zg (Ev.now _) ?_)))
   unfold zbA
   rw [if_pos rfl, show ((dx N).length : Int) - G - n + ((dx (q + 1)).length : Int) - 1 = ((dx N).length : Int) - 1 - G + ((dx (q + 1)).length : Int) - n by omega]
  | false =>
   obtain ⟨b2, r2, e2, hb2⟩ := zaG hq
   have e3 : ∃ r3, tr A = b2 :: r3 := by rw [t3] at e2; exact zb6 e2 hb2
   obtain ⟨r3, e3⟩ := e3
   have hl3 := zbn A
   refine ze (by simp) (Ev.bind hless (Ev.bind (zgX s e3 (x := ((dx N).length : Int) - 1 - G) (by omega) (by omega) (by omega)) (zg (Ev.now _) ?_)))
   unfold zbA
   rw [if_neg (by simp), Nat.add_zero, t3, t2, show ((dx N).length : Int) - G - n + (n : Int) - 1 = ((dx N).length : Int) - 1 - G by omega]
 refine ze (by omega) (zk hrest ?_)
 exact zo9 hm (zm6 _ _) hodd (hj4 _)
def shS (f m : Int) (w n : Nat) : List UInt8 := if zcl f w = true then nmT f w else shN m (zj f w) (nN f w) (nG f w) n
theorem zhJ {f m : Int} (h : isF f) (hm : isM m) {w : Nat} (hw : w < 2 * sg f) {n : Int} (h1 : 1 ≤ n) (h2 : n ≤ 800) : Ev (fun k => zN.f k f m (w : Int) n) (bx (shS f m w n.toNat), 0) := by
 have hn : n = ((n.toNat : Nat) : Int) := by omega
 unfold zN.f
 refine Ev.bind (zf4 h hm false) (ze (by simp) (Ev.bind (zjr h hw) (ze (by simp) (ze (by omega) ?_))))
 rw [show decide (n > 800) = false from decide_eq_false (by omega)]
 unfold shS
 by_cases hnm : zcl f w = true
 ·rw [if_pos hnm, hnm]
  refine zf ?_; simp only [zN.j1]
  exact ze (by simp) (zd trivial (Ev.now _))
 ·rw [if_neg hnm]
  have hf : zcl f w = false := by simpa using hnm
  obtain ⟨c5, c4, c1⟩ := zi5 hf
  rw [hf, hn, Int.toNat_natCast]
  exact zlx h hm hw c1 (ziW h c5 c4) (by omega) (by omega) _
theorem zgV {N n : Nat} (hN : N ≠ 0) (h1 : 1 ≤ n) (h2 : n ≤ (dx N).length) : (dx (N / 10 ^ ((dx N).length - n))).length = n ∧ N / 10 ^ ((dx N).length - n) ≠ 0 := by
 have e2 : dx N = (dx N).take n ++ (dx N).drop n := (List.take_append_drop n _).symm
 have hl : ((dx N).take n).length = n := by rw [List.length_take]; omega
 obtain ⟨p1, p2⟩ := ziK hN e2 (fun hh => by rw [hh] at hl; simp at hl; omega)
 rw [List.length_drop] at p1
 refine ⟨by rw [p1, hl], fun hz => ?_⟩
 obtain ⟨b, r, hb, hb0⟩ := zaG hN
 obtain ⟨t, ht⟩ := zkL hb h1
 rw [hz, ht] at p1
 have h0 : dx 0 = [48] := by decide
 rw [h0] at p1
 exact hb0 (List.cons.inj p1).1.symm
theorem zfp {q n : Nat} (h : (dx q).length = n) (hq : q ≠ 0) : (dx (q + 1)).length ≤ n + 1 ∧ n ≤ (dx (q + 1)).length := by
 have hp := zet hq
 have k0 := zfo q
 have k1 := ziJ hq
 rw [h] at k0 k1 hp
 constructor
 ·apply zgo _ (by omega)
  rw [Nat.pow_succ]; omega
 ·apply Nat.le_of_not_lt
  intro hlt
  have k2 := zfo (q + 1)
  have k3 : 10 ^ (dx (q + 1)).length ≤ 10 ^ (n - 1) := Nat.pow_le_pow_right (by omega) (by omega)
  omega
theorem zmg {f m : Int} (h : isF f) (s : Bool) {q : Nat} (hq : q ≠ 0) (x : Int) : zA f m s (zh (tr (dx q)) 0) (x + ((dx q).length : Int) - ((tr (dx q)).length : Int)) = zA f m s q x := by
 have h1 := zgn (dx q)
 have h2 := zbn (dx q)
 rw [zbW] at h1
 have h3 : zh (tr (dx q)) 0 ≠ 0 := fun hz => hq (by rw [h1, hz, Nat.zero_mul])
 have := ziu (m := m) h s h3 ((dx q).length - (tr (dx q)).length) x
 rw [← h1] at this
 rw [this]
 congr 1; omega
theorem zgj {f m : Int} (h : isF f) (s : Bool) {q : Nat} (hq : q ≠ 0) (hl : (dx q).length ≤ 1100) {x : Int} (h1 : -1100 ≤ x + ((dx q).length : Int) - 1) (h2 : x + ((dx q).length : Int) - 1 < 1100) :
  zdh f m (zbA s q x) = ((zA f m s q x).1, (zA f m s q x).2, 0) := by
 obtain ⟨b, r, e, hb⟩ := zaG hq
 obtain ⟨r', e'⟩ := zb6 e hb
 have htl := zbn (dx q)
 have hpl := zfD (tr (dx q)) (x + ((dx q).length : Int) - 1)
 have := zml (m := m) h s (zdu (za8 q)) e' hb h1 h2 (by omega)
 rw [show x + ((dx q).length : Int) - 1 - ((tr (dx q)).length : Int) + 1 = x + ((dx q).length : Int) - ((tr (dx q)).length : Int) by omega, zmg h s hq] at this
 exact this
theorem zmk {f m : Int} (h : isF f) {w : Nat} (hw : w < 2 * sg f) (c1 : cls f w ≠ 1) (c4 : cls f w < 4) : zA f m (zj f w) (nN f w) (-(nG f w : Int)) = ((w : Int), 0) := by
 have W := zdA h c1 c4
 have h1 := zoX h (m := m) hw c1 c4
 rw [W.eq, V_D] at h1
 have h2 := zme (m := m) h (zj f w) W.ne (we f w)
 rw [h1] at h2
 exact h2
def za0 (f : Int) (w : Nat) : Int := if zj f w = true then -((w % sg f : Nat) : Int) else ((w % sg f : Nat) : Int)
theorem zik {f m : Int} (s : Bool) {n : Nat} (hn : n ≠ 0) (e : Int) (j : Nat) : zbT f m s (n * 2 ^ j) e = zbT f m s n (e + j) := by
 have h1 := zoV (f := f) (m := m) (s := s) (n := n * 2 ^ j) (n' := n) (e := e) (e' := e + j) (Nat.mul_ne_zero hn (Nat.ne_of_gt (zi j))) hn (by rw [← zhl, zeC])
 have h2 := congrArg Prod.fst h1
 rw [zeN, zeN] at h2
 omega
theorem zil {f : Int} (h : isF f) {w : Nat} (c1 : cls f w ≠ 1) (c4 : cls f w < 4) : zbT f 1 false (zm f w) (wex f w) = w % sg f := by
 obtain ⟨b1, b2, b3⟩ := zlf h c1 c4
 have e := congrArg Prod.fst (zke (m := 1) h false (zdK h c1 c4) b1 b2 b3)
 rw [zeN, ziM h c1 c4] at e
 dsimp only at e
 omega
theorem znF {f : Int} (h : isF f) {a b : Nat} (a1 : cls f a ≠ 1) (a4 : cls f a < 4) (b1 : cls f b ≠ 1) (b4 : cls f b < 4)
  (hle : zm f a * 2 ^ (wex f a - min (wex f a) (wex f b)).toNat ≤ zm f b * 2 ^ (wex f b - min (wex f a) (wex f b)).toNat) : a % sg f ≤ b % sg f := by
 have na := zdK h a1 a4
 have nb := zdK h b1 b4
 have hm := (zij (m := 1) h false (Nat.mul_ne_zero na (Nat.ne_of_gt (zi _))) hle (min (wex f a) (wex f b))).1
 rw [zik false na, zik false nb, show min (wex f a) (wex f b) + (((wex f a - min (wex f a) (wex f b)).toNat : Nat) : Int) = wex f a by omega, show min (wex f a) (wex f b) + (((wex f b - min (wex f a) (wex f b)).toNat : Nat) : Int) = wex f b by omega, zil h a1 a4, zil h b1 b4] at hm
 exact hm
theorem zo3 {f : Int} {a b : Nat} (e : a % sg f = b % sg f) : zm f a = zm f b ∧ wex f a = wex f b := by
 have e1 : zt f a = zt f b := by unfold zt; rw [e]
 have e2 : zC f a = zC f b := by unfold zC; rw [e]
 unfold zm wex
 rw [e1, e2]
 exact ⟨rfl, rfl⟩
theorem zfV {f : Int} {a : Nat} (e : a % sg f = 0) : zm f a = 0 := by
 have e1 : zt f a = 0 := by unfold zt; rw [e]; simp
 have e2 : zC f a = 0 := by unfold zC; rw [e]; simp
 unfold zm
 rw [if_pos e1, e2]
theorem zh9 {f : Int} {a : Nat} (e : cls f a = 1) : a % sg f = 0 := by
 unfold cls at e
 split at e
 ·assumption
 ·split at e
  ·omega
  ·split at e
   ·omega
   ·split at e <;> omega
theorem zlE {f : Int} (h : isF f) {a b : Nat} (a4 : cls f a < 4) (b4 : cls f b < 4) (hle : za0 f a ≤ za0 f b) :
  ¬ zaC (sv (zj f a) (zm f a)) (wex f a) (sv (zj f b) (zm f b)) (wex f b) > 0 := by
 rw [zib]
 unfold al
 rw [zhl, zhl]
 intro hc
 have hc := Int.sign_pos_iff.1 hc
 have key : ∀ {x y : Nat}, cls f x < 4 → cls f y < 4 → zm f y * 2 ^ (wex f y - min (wex f x) (wex f y)).toNat < zm f x * 2 ^ (wex f x - min (wex f x) (wex f y)).toNat → y % sg f < x % sg f := by
  intro x y x4 y4 hlt
  have hx0 : zm f x ≠ 0 := fun hz => by rw [hz, Nat.zero_mul] at hlt; omega
  have x1 : cls f x ≠ 1 := fun hz => hx0 (zfV (zh9 hz))
  have hx1 : x % sg f ≠ 0 := fun hz => hx0 (zfV hz)
  by_cases y1 : cls f y = 1
  ·have := zh9 y1; omega
  ·have hm := znF h y1 y4 x1 x4 (by rw [Int.min_comm]; omega)
   have hne : y % sg f ≠ x % sg f := fun he => by
    obtain ⟨e1, e2⟩ := zo3 (f := f) he
    rw [e1, e2] at hlt
    omega
   omega
 have hmin := Int.min_comm (wex f a) (wex f b)
 unfold za0 at hle
 cases sa : zj f a <;> cases sb : zj f b <;> rw [sa, sb] at hc hle <;> simp only [sv, Bool.false_eq_true, if_false, if_true] at hc hle
 ·have := key a4 b4 (by omega); omega
 ·have z1 : a % sg f = 0 := by omega
  have z2 : b % sg f = 0 := by omega
  rw [zfV z1, zfV z2] at hc
  simp at hc
 ·omega
 ·have := key (x := b) (y := a) b4 a4 (by rw [← hmin]; omega); omega
theorem zfs {f : Int} (h : isF f) : 0 < mo f * 2 ^ fb f ∧ mo f * 2 ^ fb f < sg f := by
 have := zex h
 have := zi (fb f)
 have := zdl h
 exact ⟨Nat.mul_pos (by omega) (zi _), by omega⟩
theorem zkH {f : Int} (h : isF f) (s : Bool) : za0 f (mo f * 2 ^ fb f + sgn f s) = if s = true then -((mo f * 2 ^ fb f : Nat) : Int) else ((mo f * 2 ^ fb f : Nat) : Int) := by
 have hi := zfs h
 unfold za0
 rw [zkD h hi.2]
 have e : zj f (mo f * 2 ^ fb f + sgn f s) = s := by
  unfold zj sgn
  cases s
  ·rw [if_neg (by simp)]; exact decide_eq_false (by omega)
  ·rw [if_pos rfl]; exact decide_eq_true (by omega)
 rw [e]
theorem zh8 {f : Int} (h : isF f) {w : Nat} (c5 : cls f w ≠ 5) : w % sg f ≤ mo f * 2 ^ fb f ∧ (w % sg f = mo f * 2 ^ fb f ↔ ¬ cls f w < 4) := by
 have hi := zfs h
 have h2 := zi (fb f)
 have h3 : 2 ^ fb f ≤ mo f * 2 ^ fb f := Nat.le_mul_of_pos_left _ (by have := zdl h; omega)
 unfold cls at c5 ⊢
 split
 ·omega
 ·split
  ·omega
  ·split
   ·omega
   ·split
    ·omega
    ·rename_i a1 a2 a3 a4
     rw [if_neg a1, if_neg a2, if_neg a3, if_neg a4] at c5
     exact absurd rfl c5
theorem zhR {f : Int} (h : isF f) {a b : Nat} (ha : a < 2 * sg f) (hb : b < 2 * sg f) (na : cls f a ≠ 5) (nb : cls f b ≠ 5) (hle : za0 f a ≤ za0 f b) : Ev (fun k => zdc.f k f (a : Int) (b : Int)) false := by
 have hi := zfs h
 obtain ⟨ta, ta2⟩ := zh8 h na
 obtain ⟨tb, tb2⟩ := zh8 h nb
 have sgn0 : sgn f false = 0 := rfl
 unfold zdc.f
 by_cases c0 : a = b
 ·exact zd (by omega) (Ev.now _)
 refine ze (by omega) (zk (zfH h false) ?_)
 by_cases c1 : b = mo f * 2 ^ fb f + sgn f false
 ·exact zd (by rw [← c1]) (Ev.now _)
 refine ze (by omega) (zk (zfH h true) ?_)
 by_cases c2 : a = mo f * 2 ^ fb f + sgn f true
 ·exact zd (by rw [← c2]) (Ev.now _)
 refine ze (by omega) (zk (zfH h false) ?_)
 have wa := zhz h ha
 have wb := zhz h hb
 have c3 : a ≠ mo f * 2 ^ fb f + sgn f false := by
  intro e
  have e1 := zkH h false
  rw [← e, if_neg (by simp)] at e1
  rw [e1] at hle
  unfold za0 at hle
  cases sb : zj f b
  ·rw [sb, if_neg (by simp)] at hle
   rw [sb] at wb
   exact c1 (by omega)
  ·rw [sb, if_pos rfl] at hle; omega
 refine ze (by omega) (zk (zfH h true) ?_)
 have c4 : b ≠ mo f * 2 ^ fb f + sgn f true := by
  intro e
  have e1 := zkH h true
  rw [← e, if_pos rfl] at e1
  rw [e1] at hle
  unfold za0 at hle
  cases sa : zj f a
  ·rw [sa, if_neg (by simp)] at hle; omega
  ·rw [sa, if_pos rfl] at hle
   rw [sa] at wa
   exact c2 (by omega)
 have fa : cls f a < 4 := by
  apply Int.lt_of_not_ge
  intro hc
  have := ta2.2 (by omega)
  rw [this] at wa
  cases sa : zj f a
  ·rw [sa] at wa; exact c3 wa.symm
  ·rw [sa] at wa; exact c2 wa.symm
 have fb' : cls f b < 4 := by
  apply Int.lt_of_not_ge
  intro hc
  have := tb2.2 (by omega)
  rw [this] at wb
  cases sb : zj f b
  ·rw [sb] at wb; exact c1 wb.symm
  ·rw [sb] at wb; exact c4 wb.symm
 have rg : ∀ w : Nat, Rg (sv (zj f w) (zm f w)) (wex f w) := fun w => by
  have h1 := zfS h w
  have h2 := zlc h w
  have h3 : pr f ≤ 53 := by rcases h with rfl | rfl <;> decide
  exact ⟨by rw [zay]; omega, by omega, by omega⟩
 refine ze (by omega) (Ev.bind (zj1 h a) (Ev.bind (zj1 h b) (Ev.bind (zow (rg a) (rg b)) (zg (Ev.now _) ?_))))
 exact decide_eq_false (zlE h fa fb' hle)
theorem zom {n n' a b a' b' : Nat} (e : a + b' = a' + b) (h : n * 10 ^ a ≤ n' * 10 ^ b) : n * 10 ^ a' ≤ n' * 10 ^ b' := by
 have h1 : n * 10 ^ a * 10 ^ b' ≤ n' * 10 ^ b * 10 ^ b' := Nat.mul_le_mul_right _ h
 rw [Nat.mul_assoc, ← Nat.pow_add, e, Nat.pow_add, ← Nat.mul_assoc, Nat.mul_right_comm n'] at h1
 exact Nat.le_of_mul_le_mul_right h1 (zbM b)
theorem zit {f m : Int} (h : isF f) (s : Bool) {n n' : Nat} (hn : n ≠ 0) (hn' : n' ≠ 0) {x x' : Int} {a b : Nat} (hx : (a : Int) - b = x - x') (hle : n * 10 ^ a ≤ n' * 10 ^ b) :
  ∃ c c' : Nat, (zA f m s n x).1 = ((c + sgn f s : Nat) : Int) ∧ (zA f m s n' x').1 = ((c' + sgn f s : Nat) : Int) ∧ c ≤ c' ∧ c' ≤ mo f * 2 ^ fb f := by
 have h1 := zom (a' := x.toNat + (-x').toNat) (b' := x'.toNat + (-x).toNat) (by omega) hle
 rw [Nat.pow_add, Nat.pow_add, ← Nat.mul_assoc, ← Nat.mul_assoc] at h1
 exact zoY (m := m) h s (Nat.mul_ne_zero hn (Nat.ne_of_gt (zbM _))) (Nat.mul_ne_zero hn' (Nat.ne_of_gt (zbM _))) (zbM _) (zbM _) h1 0
theorem zfN {f : Int} (h : isF f) (s : Bool) {c : Nat} (hc : c ≤ mo f * 2 ^ fb f) : za0 f (c + sgn f s) = (if s = true then -(c : Int) else (c : Int)) ∧ c + sgn f s < 2 * sg f ∧ cls f (c + sgn f s) ≠ 5 := by
 have hi := zfs h
 have hm := zkD h (x := c) (by omega) s
 have e : zj f (c + sgn f s) = s := by
  unfold zj sgn
  cases s
  ·rw [if_neg (by simp)]; exact decide_eq_false (by omega)
  ·rw [if_pos rfl]; exact decide_eq_true (by omega)
 refine ⟨?_, ?_, ?_⟩
 ·unfold za0
  rw [hm, e]
 ·unfold sgn; split <;> omega
 ·unfold cls
  rw [hm]
  split
  ·omega
  ·split
   ·omega
   ·split
    ·omega
    ·split <;> omega
def zai (l : List UInt8) : Int := if tz0 l = [] then -1 else (l.length : Int) - ((tz0 l).length : Int)
def zaL (l : List UInt8) : Int := ((tr l).length : Int) - 1
def zcs (l : List UInt8) : Int := zaL l - zai l + 1
theorem zk3 (l : List UInt8) (c : UInt8) : tz0 (l ++ [c]) = if tz0 l = [] then tz0 [c] else tz0 l ++ [c] := by
 induction l with
 | nil => rfl
 | cons b l ih =>
  unfold tz0 at *
  by_cases hb : b = 48
  ·subst hb
   rw [List.cons_append, List.dropWhile_cons, List.dropWhile_cons]
   simpa using ih
  ·simp [hb]
theorem zpF {c : UInt8} (h : c ≠ 48) : tz0 [c] = [c] := by unfold tz0; rw [List.dropWhile_cons, if_neg (by simpa using h)]
theorem zpE : tz0 [48] = [] := by decide
theorem zmV (l : List UInt8) {c : UInt8} (h : c ≠ 48) : zai (l ++ [c]) = if zai l < 0 then (l.length : Int) else zai l := by
 have hl := zhu l
 unfold zai
 rw [zk3, zpF h]
 by_cases e : tz0 l = []
 ·simp [e]
 ·simp only [if_neg e]
  rw [if_neg (by simp), if_neg (by omega)]
  simp; omega
theorem zmU (l : List UInt8) : zai (l ++ [48]) = zai l := by
 unfold zai
 rw [zk3, zpE]
 by_cases e : tz0 l = []
 ·simp [e]
 ·simp only [if_neg e]
  rw [if_neg (by simp)]
  simp; omega
theorem znx (l : List UInt8) {c : UInt8} (h : c ≠ 48) : zaL (l ++ [c]) = (l.length : Int) := by
 unfold zaL; rw [zdv l h]; simp
theorem znw (l : List UInt8) : zaL (l ++ [48]) = zaL l := by unfold zaL; rw [zfQ]
theorem ziX (l : List UInt8) : -1 ≤ zai l ∧ zai l ≤ l.length ∧ -1 ≤ zaL l ∧ zaL l ≤ l.length := by
 have h1 := zbn l
 have h2 := zhu l
 unfold zai zaL
 split <;> omega
def dg (t : List UInt8) : List UInt8 := (t.takeWhile (· != 101)).filter isD
theorem zgy {s : ByteArray} (hs : s.size ≤ 1000000) : ∀ (B A E : List UInt8), tl s = A ++ B → E.length ≤ A.length →
  Ev (fun k => zab.l0 k s (zai E) (zaL E) (E.length : Int) (A.length : Int)) (zcs (E ++ dg B))
 | [], A, E, he, hE => by
  have hz := zbj he
  simp only [List.length_nil] at hz
  obtain ⟨f1, f2, f3, f4⟩ := ziX E
  refine zf ?_; simp only [zab.l0]
  refine ze (by omega) (zg (Ev.now _) ?_)
  rw [w64 (n := zaL E - zai E) (by omega) (by omega), w64 (n := zaL E - zai E + 1) (by omega) (by omega), show dg [] = [] from rfl, List.append_nil]; rfl
 | c :: B, A, E, he, hE => by
  have hz := zbj he
  simp only [List.length_cons] at hz
  have hb := zcf he
  obtain ⟨f1, f2, f3, f4⟩ := ziX E
  have he2 : tl s = (A ++ [c]) ++ B := by rw [he]; simp
  have hl : ((A ++ [c]).length : Int) = (A.length : Int) + 1 := by simp
  have nx : wrap64 ((A.length : Int) + 1) = ((A ++ [c]).length : Int) := by rw [w64 (by omega) (by omega), hl]
  have ne : wrap64 ((E.length : Int) + 1) = ((E ++ [c]).length : Int) := by rw [w64 (by omega) (by omega)]; simp
  refine zf ?_; simp only [zab.l0]
  rw [hb, nx, ne]
  refine zd (by omega) (zd (by omega) (zd (by omega) ?_))
  by_cases c1 : c = 101
  ·subst c1
   refine ze (by decide) (zg (Ev.now _) ?_)
   rw [w64 (n := zaL E - zai E) (by omega) (by omega), w64 (n := zaL E - zai E + 1) (by omega) (by omega), show dg (101 :: B) = [] from rfl, List.append_nil]; rfl
  ·have c1' : (c.toNat : Int) ≠ 101 := fun hh => c1 (UInt8.toNat_inj.1 (by show _ = 101; omega))
   have hdg : dg (c :: B) = if isD c = true then c :: dg B else dg B := by
    unfold dg
    rw [List.takeWhile_cons, if_pos (by simpa using c1), List.filter_cons]
   refine zd c1' (zd (by omega) (zd (by omega) ?_))
   have skip : isD c = false → Ev (fun k => zab.l0 k s (zai E) (zaL E) (E.length : Int) ((A ++ [c]).length : Int)) (zcs (E ++ dg (c :: B))) := by
    intro hd
    rw [hdg, if_neg (by simp [hd])]
    exact zgy hs B (A ++ [c]) E he2 (by simp; omega)
   by_cases c2 : (c.toNat : Int) < 48
   ·exact zd c2 (skip (by unfold isD; exact decide_eq_false (by omega)))
   refine ze c2 (zd (by omega) (zd (by omega) ?_))
   by_cases c3 : (c.toNat : Int) > 57
   ·exact zd c3 (skip (by unfold isD; exact decide_eq_false (by omega)))
   refine ze c3 (zd (by omega) (zd (by omega) ?_))
   have hd : isD c = true := by unfold isD; exact decide_eq_true (by omega)
   have ih := zgy hs B (A ++ [c]) (E ++ [c]) he2 (by simp; omega)
   rw [hdg, if_pos hd, show E ++ c :: dg B = E ++ [c] ++ dg B by simp]
   by_cases c4 : c = 48
   ·subst c4
    rw [zmU, znw] at ih
    exact ze (by decide) ih
   ·have c4' : (c.toNat : Int) ≠ 48 := fun hh => c4 (UInt8.toNat_inj.1 (by show _ = 48; omega))
    rw [zmV E c4, znx E c4] at ih
    refine zd c4' ?_
    by_cases c5 : zai E < 0
    ·rw [if_pos c5] at ih
     exact zd c5 ih
    ·rw [if_neg c5] at ih
     exact ze c5 ih
theorem zgx {s : ByteArray} (hs : s.size ≤ 1000000) : Ev (fun k => zab.f k s) (zcs (dg (tl s))) := by
 have := zgy hs (tl s) [] [] (by simp) (by simp)
 rw [List.nil_append] at this
 unfold zab.f
 exact this
theorem zpG (i : Nat) (l : List UInt8) : tz0 (List.replicate i 48 ++ l) = tz0 l := by
 induction i with
 | zero => rfl
 | succ i ih =>
  rw [List.replicate_succ, List.cons_append]
  have : tz0 (48 :: (List.replicate i 48 ++ l)) = tz0 (List.replicate i 48 ++ l) := by unfold tz0; rw [List.dropWhile_cons]; simp
  rw [this, ih]
theorem zpH {l r : List UInt8} {b : UInt8} (e : l = b :: r) (hb : b ≠ 48) : tz0 l = l := by
 subst e; unfold tz0; rw [List.dropWhile_cons, if_neg (by simpa using hb)]
theorem zkr (i j : Nat) {d r : List UInt8} {b : UInt8} (e : d = b :: r) (hb : b ≠ 48) (ht : tr d = d) : zcs (List.replicate i 48 ++ d ++ List.replicate j 48) = d.length := by
 have h1 : tz0 (List.replicate i 48 ++ d ++ List.replicate j 48) = d ++ List.replicate j 48 := by
  rw [List.append_assoc, zpG]
  exact zpH (r := r ++ List.replicate j 48) (by rw [e]; rfl) hb
 have h2 : tr (List.replicate i 48 ++ d ++ List.replicate j 48) = List.replicate i 48 ++ d := by
  rw [zeW]
  rcases List.eq_nil_or_concat d with hd | ⟨a, x, hd⟩
  ·rw [e] at hd; cases hd
  ·rw [List.concat_eq_append] at hd
   have hx : x ≠ 48 := zho (l := d) (by rw [ht]; exact hd)
   rw [hd, ← List.append_assoc, zdv _ hx]
 have hne : d ++ List.replicate j 48 ≠ [] := by rw [e]; simp
 unfold zcs zai zaL
 rw [h1, h2, if_neg hne]
 simp only [List.length_append, List.length_replicate]
 omega
theorem zcJ {l : List UInt8} (h : l.all isD = true) (T : List UInt8) : dg (l ++ T) = l ++ dg T := by
 induction l with
 | nil => rfl
 | cons c l ih =>
  obtain ⟨h1, h2⟩ := zc9 h
  have hc := zcQ h1
  have : c ≠ 101 := fun hh => by rw [hh] at hc; revert hc; decide
  rw [List.cons_append, List.cons_append, ← ih h2]
  unfold dg
  rw [List.takeWhile_cons, if_pos (by simpa using this), List.filter_cons, if_pos h1]
theorem zep {c : UInt8} (h1 : c ≠ 101) (h2 : isD c = false) (T : List UInt8) : dg (c :: T) = dg T := by
 unfold dg
 rw [List.takeWhile_cons, if_pos (by simpa using h1), List.filter_cons, if_neg (by simp [h2])]
theorem zix (T : List UInt8) : dg (101 :: T) = [] := rfl
theorem zfk {l : List UInt8} (h : l.all isD = true) : dg l = l := by
 have := zcJ h []
 rw [List.append_nil] at this
 rw [this, show dg [] = [] from rfl, List.append_nil]
theorem ziy (s : Bool) (T : List UInt8) : dg (sgT s ++ T) = dg T := by
 cases s
 ·rfl
 ·exact zep (by decide) (by decide) T
theorem ziU (s : Bool) {d r : List UInt8} {b : UInt8} (hd : d.all isD = true) (e : d = b :: r) (hb : b ≠ 48) (ht : tr d = d) (x : Int) : zcs (dg (zax s d x)) = d.length := by
 have key : ∃ i j, dg (zax false d x) = List.replicate i 48 ++ d ++ List.replicate j 48 := by
  unfold zax
  rw [show sgT false = [] from rfl, List.nil_append]
  by_cases c1 : x < -5 ∨ x > 20
  ·rw [if_pos c1, List.append_assoc, zcJ (zdE hd 1)]
   refine ⟨0, 0, ?_⟩
   by_cases c2 : 1 < d.length
   ·rw [if_pos c2, List.cons_append, zep (by decide) (by decide), zcJ (zfb hd 1), zix, List.append_nil, List.take_append_drop]
    simp
   ·rw [if_neg c2, List.nil_append, zix, List.take_of_length_le (by omega)]
    simp
  rw [if_neg c1]
  by_cases c2 : x < 0
  ·rw [if_pos c2]
   refine ⟨(-x - 1).toNat + 1, 0, ?_⟩
   have h0 : dg (48 :: 46 :: (List.replicate (-x - 1).toNat 48 ++ d)) = 48 :: dg (46 :: (List.replicate (-x - 1).toNat 48 ++ d)) := zcJ (l := [48]) (by decide) _
   rw [h0, zep (by decide) (by decide), zcJ (zdD _), zfk hd, List.replicate_succ]
   simp
  rw [if_neg c2]
  by_cases c3 : x + 1 < (d.length : Int)
  ·rw [if_pos c3]
   refine ⟨0, 0, ?_⟩
   rw [zcJ (zdE hd _), zep (by decide) (by decide), zfk (zfb hd _)]
   simp
  ·rw [if_neg c3]
   refine ⟨0, (x + 1 - (d.length : Int)).toNat, ?_⟩
   rw [zcJ hd, zfk (zdD _)]
   simp
 obtain ⟨i, j, hij⟩ := key
 rw [zdo, ziy, hij]
 exact zkr i j e hb ht
theorem ziV (s : Bool) {q : Nat} (hq : q ≠ 0) (x : Int) : zcs (dg (zbA s q x)) = ((tr (dx q)).length : Int) := by
 obtain ⟨b, r, e, hb⟩ := zaG hq
 obtain ⟨r', e'⟩ := zb6 e hb
 exact ziU s (zdu (za8 q)) e' hb (zhp _) _
theorem zmQ (s : Bool) {z : Nat} (hz : z ≠ 0) (e : Int) : zcs (dg (exT s z e)) = ((tr (dx (exN z e))).length : Int) := by
 obtain ⟨a1, a2⟩ := zmK z e
 obtain ⟨j, hj, _⟩ := zgt z e
 obtain ⟨j2, hj2⟩ := zcZ (dx (exN z e))
 obtain ⟨b, r, eb, hb⟩ := zaG (zfq hz e)
 obtain ⟨r', e'⟩ := zb6 eb hb
 have h1 : dg (exT s z e) = exW z e ++ exP z e := by
  unfold exT
  rw [ziy, zcJ a1]
  by_cases c : exP z e = []
  ·rw [if_pos c, c]; rfl
  ·rw [if_neg c, zep (by decide) (by decide), zfk a2]
 rw [h1, hj]
 conv => lhs; rw [hj2, ← List.append_assoc]
 exact zkr j j2 e' hb (zhp _)
theorem sne (q : Nat) : q + 1 ≠ 0 := Nat.succ_ne_zero q
theorem zkT {s : Bool} {q q' : Nat} (hq : q ≠ 0) (hq' : q' ≠ 0) {x : Int} (h1 : -1100 ≤ x + ((dx q).length : Int) - 1) (h2 : x + ((dx q).length : Int) - 1 < 1100) (h3 : -1100 ≤ x + ((dx q').length : Int) - 1) (h4 : x + ((dx q').length : Int) - 1 < 1100)
  (h : zbA s q x = zbA s q' x) : q = q' := by
 unfold zbA at h
 rw [zdo, zdo s (tr (dx q'))] at h
 have h := List.append_cancel_left h
 obtain ⟨b, r, e, hb⟩ := zaG hq
 obtain ⟨r', e'⟩ := zb6 e hb
 obtain ⟨b2, r2, e2, hb2⟩ := zaG hq'
 obtain ⟨r2', e2'⟩ := zb6 e2 hb2
 obtain ⟨E, X, i, a1, a2, a3⟩ := zg5 (zdu (za8 q)) e' h1 h2
 obtain ⟨E2, X2, i2, b1, b2', b3⟩ := zg5 (zdu (za8 q')) e2' h3 h4
 rw [h, b1] at a1
 have a1 := Option.some.inj a1
 have a4 : E2 = E := congrArg Prod.fst a1
 have a5 : X2 = X := congrArg Prod.snd a1
 subst a4
 subst a5
 rw [b2'] at a2
 have v1 := zgn (dx q)
 have v2 := zgn (dx q')
 rw [zbW] at v1 v2
 have l1 := zbn (dx q)
 have l2 := zbn (dx q')
 generalize zh (tr (dx q)) 0 = y at a2 v1
 generalize zh (tr (dx q')) 0 = y' at a2 v2
 generalize hk : (dx q).length - (tr (dx q)).length = k at v1
 generalize hk' : (dx q').length - (tr (dx q')).length = k' at v2
 rw [v1, v2]
 by_cases c : k ≤ i
 ·have e1 : y * 10 ^ i = y * 10 ^ k * 10 ^ (i - k) := by rw [Nat.mul_assoc, ← Nat.pow_add, show k + (i - k) = i by omega]
  have e2 : y' * 10 ^ i2 = y' * 10 ^ k' * 10 ^ (i - k) := by rw [Nat.mul_assoc, ← Nat.pow_add, show k' + (i - k) = i2 by omega]
  rw [e1, e2] at a2
  exact (Nat.eq_of_mul_eq_mul_right (zbM _) a2).symm
 ·have e1 : y * 10 ^ k = y * 10 ^ i * 10 ^ (k - i) := by rw [Nat.mul_assoc, ← Nat.pow_add, show i + (k - i) = k by omega]
  have e2 : y' * 10 ^ k' = y' * 10 ^ i2 * 10 ^ (k - i) := by rw [Nat.mul_assoc, ← Nat.pow_add, show i2 + (k - i) = k' by omega]
  rw [e1, e2, a2]
theorem zpV {q n : Nat} (h : (dx q).length = n) (hq : q ≠ 0) : (tr (dx (q + 1))).length ≤ n := by
 have hp := zet hq
 obtain ⟨u1, u2⟩ := zfp h hq
 by_cases c : (dx (q + 1)).length ≤ n
 ·exact Nat.le_trans (zbn _) c
 ·have k0 := zfo q
  have k1 := ziJ (n := q + 1) (Nat.succ_ne_zero q)
  rw [h] at k0
  rw [show (dx (q + 1)).length - 1 = n by omega] at k1
  have hq1 : q + 1 = 1 * 10 ^ n := by omega
  have h1 : dx 1 = [49] := zdT (l := [49]) (r := []) (b := 49) (by decide) rfl (by decide)
  rw [hq1, zgp (by omega), zeW, h1]
  have : tr [49] = [49] := zdv [] (by decide)
  rw [this]
  show 1 ≤ n
  omega
theorem zkq (m : Int) (s : Bool) {N G n : Nat} (hN : N ≠ 0) (hl : (dx N).length ≤ 800) (h1 : 1 ≤ n) : (shN m s N G n).length ≤ 900 ∧ zcs (dg (shN m s N G n)) ≤ n := by
 obtain ⟨b, r, e, hb⟩ := zaG hN
 obtain ⟨r', e'⟩ := zb6 e hb
 have htl := zbn (dx N)
 have hs := zhf s
 unfold shN
 by_cases c : n < (tr (dx N)).length
 ·rw [if_pos c]
  obtain ⟨q1, q2⟩ := zgV hN h1 (by omega)
  obtain ⟨u1, u2⟩ := zfp q1 q2
  have t1 := zbn (dx (N / 10 ^ ((dx N).length - n)))
  have t2 := zpV q1 q2
  generalize upS m s _ _ = u
  cases u with
  | true =>
   rw [if_pos rfl]
   refine ⟨?_, ?_⟩
   ·unfold zbA
    rw [zdo, List.length_append]
    have := zfD (tr (dx (N / 10 ^ ((dx N).length - n) + 1))) (((dx N).length : Int) - G - n + ((dx (N / 10 ^ ((dx N).length - n) + 1)).length : Int) - 1)
    omega
   ·rw [ziV s (sne _)]; omega
  | false =>
   rw [if_neg (by simp), Nat.add_zero]
   refine ⟨?_, ?_⟩
   ·unfold zbA
    rw [zdo, List.length_append]
    have := zfD (tr (dx (N / 10 ^ ((dx N).length - n)))) (((dx N).length : Int) - G - n + ((dx (N / 10 ^ ((dx N).length - n))).length : Int) - 1)
    omega
   ·rw [ziV s q2]; omega
 ·rw [if_neg c]
  refine ⟨?_, ?_⟩
  ·rw [zdo, List.length_append]
   have := zfD (tr (dx N)) (((dx N).length : Int) - 1 - G)
   omega
  ·rw [ziU s (zdu (za8 N)) e' hb (zhp _)]; omega
theorem zkM {f m : Int} (h : isF f) (hm : m = 4 ∨ m = 5) {w : Nat} (hw : w < 2 * sg f) (c1 : cls f w ≠ 1) (c4 : cls f w < 4) {n : Nat} (h1 : 1 ≤ n) :
  ∃ (v : Nat) (fl : Int), zdh f m (shN m (zj f w) (nN f w) (nG f w) n) = ((v : Int), fl, 0) ∧ v < 2 * sg f ∧ cls f v ≠ 5 ∧ (m = 5 → za0 f v ≤ za0 f w) ∧ (m = 4 → za0 f w ≤ za0 f v) := by
 obtain ⟨hN, hl, hg⟩ := zfB h c1 c4
 have hall := zmk (m := m) h hw c1 c4
 have hpos := zet hN
 have htl := zbn (dx (nN f w))
 unfold shN
 by_cases c : n < (tr (dx (nN f w))).length
 rotate_left
 ·rw [if_neg c]
  have := zgj (m := m) h (zj f w) hN (by omega) (x := -(nG f w : Int)) (by omega) (by omega)
  unfold zbA at this
  rw [show -(nG f w : Int) + ((dx (nN f w)).length : Int) - 1 = ((dx (nN f w)).length : Int) - 1 - (nG f w : Int) by omega, hall] at this
  exact ⟨w, 0, this, hw, by omega, fun _ => Int.le_refl _, fun _ => Int.le_refl _⟩
 ·rw [if_pos c]
  obtain ⟨q1, q2⟩ := zgV hN h1 (by omega)
  obtain ⟨u1, u2⟩ := zfp q1 q2
  have hlow : nN f w / 10 ^ ((dx (nN f w)).length - n) * 10 ^ ((dx (nN f w)).length - n) ≤ nN f w * 10 ^ 0 := by rw [Nat.pow_zero, Nat.mul_one]; exact Nat.div_mul_le_self _ _
  have hhigh : nN f w * 10 ^ 0 ≤ (nN f w / 10 ^ ((dx (nN f w)).length - n) + 1) * 10 ^ ((dx (nN f w)).length - n) := by
   rw [Nat.pow_zero, Nat.mul_one, Nat.mul_comm]
   exact Nat.le_of_lt (Nat.lt_mul_div_succ _ (zbM _))
  have dlow := zit (m := m) h (zj f w) q2 hN (x := ((dx (nN f w)).length : Int) - nG f w - n) (x' := -(nG f w : Int)) (by omega) hlow
  have dhigh := zit (m := m) h (zj f w) hN (sne _) (x := -(nG f w : Int)) (x' := ((dx (nN f w)).length : Int) - nG f w - n) (by omega) hhigh
  rw [hall] at dlow dhigh
  have t1 := zgj (m := m) h (zj f w) q2 (by omega) (x := ((dx (nN f w)).length : Int) - nG f w - n) (by omega) (by omega)
  have t2 := zgj (m := m) h (zj f w) (q := nN f w / 10 ^ ((dx (nN f w)).length - n) + 1) (sne _) (by omega) (x := ((dx (nN f w)).length : Int) - nG f w - n) (by omega) (by omega)
  obtain ⟨a, a', p1, p2, p3, p4⟩ := dlow
  obtain ⟨b, b', r1, r2, r3, r4⟩ := dhigh
  dsimp only at p2 r1
  have ha := zfN h (zj f w) (c := a) (by omega)
  have ha' := zfN h (zj f w) (c := a') p4
  have hb := zfN h (zj f w) (c := b) (by omega)
  have hb' := zfN h (zj f w) (c := b') r4
  have ew : w = a' + sgn f (zj f w) := by omega
  have ew2 : w = b + sgn f (zj f w) := by omega
  rw [← ew] at ha'
  rw [← ew2] at hb
  have hup : upS m (zj f w) (hlf (nN f w % 10 ^ ((dx (nN f w)).length - n)) (10 ^ ((dx (nN f w)).length - n))) (decide (nN f w / 10 ^ ((dx (nN f w)).length - n) % 2 = 1)) = if m = 4 then !(zj f w) else zj f w := by
   unfold upS
   rcases hm with rfl | rfl <;> rfl
  rw [hup]
  generalize zj f w = s at *
  rcases hm with rfl | rfl <;> cases s
  ·refine ⟨b' + sgn f false, (zA f 4 false (nN f w / 10 ^ ((dx (nN f w)).length - n) + 1) (((dx (nN f w)).length : Int) - nG f w - n)).2, ?_, hb'.2.1, hb'.2.2, fun hh => by omega, fun _ => ?_⟩
   ·rw [if_pos (by simp), t2, r2]
   ·have e1 := hb.1; have e2 := hb'.1
    simp only [Bool.false_eq_true, if_false] at e1 e2
    omega
  ·refine ⟨a + sgn f true, (zA f 4 true (nN f w / 10 ^ ((dx (nN f w)).length - n)) (((dx (nN f w)).length : Int) - nG f w - n)).2, ?_, ha.2.1, ha.2.2, fun hh => by omega, fun _ => ?_⟩
   ·rw [if_neg (by simp), Nat.add_zero, t1, p1]
   ·have e1 := ha'.1; have e2 := ha.1
    simp only [if_true] at e1 e2
    omega
  ·refine ⟨a + sgn f false, (zA f 5 false (nN f w / 10 ^ ((dx (nN f w)).length - n)) (((dx (nN f w)).length : Int) - nG f w - n)).2, ?_, ha.2.1, ha.2.2, fun _ => ?_, fun hh => by omega⟩
   ·rw [if_neg (by simp), Nat.add_zero, t1, p1]
   ·have e1 := ha'.1; have e2 := ha.1
    simp only [Bool.false_eq_true, if_false] at e1 e2
    omega
  ·refine ⟨b' + sgn f true, (zA f 5 true (nN f w / 10 ^ ((dx (nN f w)).length - n) + 1) (((dx (nN f w)).length : Int) - nG f w - n)).2, ?_, hb'.2.1, hb'.2.2, fun _ => ?_, fun hh => by omega⟩
   ·rw [if_pos (by simp), t2, r2]
   ·have e1 := hb.1; have e2 := hb'.1
    simp only [if_true] at e1 e2
    omega
theorem zo7 {s : Bool} {N G n : Nat} (hN : N ≠ 0) (hl : (dx N).length ≤ 800) (hg : G ≤ 1074) (h1 : 1 ≤ n) : shN 5 s N G n = shN 4 s N G n ↔ (tr (dx N)).length ≤ n := by
 have htl := zbn (dx N)
 unfold shN
 by_cases c : n < (tr (dx N)).length
 ·rw [if_pos c, if_pos c]
  obtain ⟨q1, q2⟩ := zgV hN h1 (by omega)
  obtain ⟨u1, u2⟩ := zfp q1 q2
  have e5 : ∀ x o, upS 5 s x o = s := fun _ _ => rfl
  have e4 : ∀ x o, upS 4 s x o = !s := fun _ _ => rfl
  rw [e5, e4]
  constructor
  ·intro hh
   exfalso
   cases s
   ·rw [if_neg (by simp), if_pos (by simp), Nat.add_zero] at hh
    have := zkT q2 (sne _) (by omega) (by omega) (by omega) (by omega) hh
    omega
   ·rw [if_pos rfl, if_neg (by simp), Nat.add_zero] at hh
    have := zkT (sne _) q2 (by omega) (by omega) (by omega) (by omega) hh
    omega
  ·intro; omega
 ·rw [if_neg c, if_neg c]
  exact ⟨fun _ => by omega, fun _ => rfl⟩
theorem zll (f w n : Int) (hw : IntKind.u64.min ≤ w ∧ w ≤ IntKind.u64.max) : Ev (fun k => zem.f k f w n) true := by
 obtain ⟨w, rfl, hlt⟩ := zpN hw
 unfold zem.f
 by_cases h : isF f
 rotate_left
 ·have ho := zmt (f := f) (m := 1) (by rw [ziY h]; decide) [(w : Int)]
  rw [ziY h] at ho
  exact Ev.bind ho (zd (by simp) zcK)
 have ho := zmu h (m := 1) (by decide) hlt
 by_cases hg : w < 2 * sg f
 rotate_left
 ·rw [if_neg hg] at ho
  exact Ev.bind ho (zd (by simp) zcK)
 rw [if_pos hg] at ho
 refine Ev.bind ho (ze (by simp) (zk (zox h w) ?_))
 by_cases c4 : cls f w < 4
 rotate_left
 ·rw [decide_eq_false c4]
  exact zd rfl zcK
 rw [decide_eq_true c4]
 refine ze (by simp) (zk (zjV h w) ?_)
 by_cases c1 : cls f w = 1
 ·exact zd c1 zcK
 refine ze c1 ?_
 by_cases n1 : n < 1
 ·exact zd n1 zcK
 refine ze n1 ?_
 by_cases n2 : n > 40
 ·exact zd n2 zcK
 refine ze n2 ?_
 have hnm : zcl f w = false := decide_eq_false (by omega)
 have sh : ∀ m, shS f m w n.toNat = shN m (zj f w) (nN f w) (nG f w) n.toNat := fun m => by unfold shS; rw [if_neg (by simp [hnm])]
 have s5 := zhJ h (m := 5) (by decide) hg (n := n) (by omega) (by omega)
 have s4 := zhJ h (m := 4) (by decide) hg (n := n) (by omega) (by omega)
 rw [sh] at s5 s4
 obtain ⟨hN, hl, hG⟩ := zfB h c1 c4
 obtain ⟨v, fl, v1, v2, v3, v4, _⟩ := zkM h (.inr rfl) hg c1 c4 (n := n.toNat) (by omega)
 obtain ⟨u, fl', u1, u2, u3, _, u4⟩ := zkM h (.inl rfl) hg c1 c4 (n := n.toNat) (by omega)
 have p5 := zhI h (m := 5) (by decide) (bx (shN 5 (zj f w) (nN f w) (nG f w) n.toNat))
 have p4 := zhI h (m := 4) (by decide) (bx (shN 4 (zj f w) (nN f w) (nG f w) n.toNat))
 rw [zX, v1] at p5
 rw [zX, u1] at p4
 obtain ⟨l5, f5⟩ := zkq 5 (zj f w) (G := nG f w) (n := n.toNat) hN hl (by omega)
 obtain ⟨l4, f4⟩ := zkq 4 (zj f w) (G := nG f w) (n := n.toNat) hN hl (by omega)
 have g5 := zgx (s := bx (shN 5 (zj f w) (nN f w) (nG f w) n.toNat)) (by rw [zy]; omega)
 have g4 := zgx (s := bx (shN 4 (zj f w) (nN f w) (nG f w) n.toNat)) (by rw [zy]; omega)
 rw [zX] at g5 g4
 have b5 := zhR h v2 hg v3 (by omega) (v4 rfl)
 have b4 := zhR h hg u2 (by omega) u3 (u4 rfl)
 have he := zlm h hg
 have zi1 : exS f w = exT (zj f w) (dz f w) (we f w) := by unfold exS; rw [if_neg (by simp [hnm])]
 rw [zi1] at he
 have W := zdA h c1 c4
 have hel : (exT (zj f w) (dz f w) (we f w)).length ≤ 10000 := by
  have h1 := zgu W.ne (we f w)
  have h2 := zgs (dz f w) (we f w)
  have h3 := zhf (zj f w)
  unfold nN at hl
  unfold nG at hG
  unfold exT
  rw [List.length_append, List.length_append]
  split
  ·simp only [List.length_nil]; omega
  ·rw [List.length_cons]; omega
 have ge := zgx (s := bx (exT (zj f w) (dz f w) (we f w))) (by rw [zy]; omega)
 rw [zX, zmQ _ W.ne] at ge
 refine Ev.bind s5 (Ev.bind s4 (Ev.bind p5 (Ev.bind p4 (ze (by simp) (ze (by simp) (ze (by simp) (ze (by simp) (Ev.bind g5 (ze (by omega) (Ev.bind g4 (ze (by omega) (Ev.bind b5 (ze (by simp) (Ev.bind b4 (ze (by simp) (Ev.bind he (ze (by simp) (Ev.bind ge ?_))))))))))))))))))
 have hiff := zo7 (s := zj f w) (G := nG f w) (n := n.toNat) hN hl hG (by omega)
 have hN' : exN (dz f w) (we f w) = nN f w := rfl
 rw [hN']
 by_cases c : (tr (dx (nN f w))).length ≤ n.toNat
 ·exact zd (by omega) (zd (by rw [hiff.2 c]) zcK)
 ·refine ze (by omega) (zd (fun hh => c (hiff.1 ?_)) zcK)
  have := congrArg tl hh
  rwa [zX, zX] at this
end Go.Proofs.YtnkpmjhlkmlmbaaGreatDoor.Eng.K
