import Derived.Test.YtioialhbjmnndaaGreatDoorQGaugeMeasuresF1
import Derived.Laws.BitsAllLaws
import Derived.Lib.Bytes
import Derived.KernelRfl
set_option linter.unusedVariables false
set_option linter.unusedSimpArgs false
namespace Go.Proofs.YtioialhbjmnndaaGreatDoor.Eng
def Ev {α : Type} (g : Nat → Option α) (r : α) : Prop := ∃ n, ∀ k, n ≤ k → g k = some r
theorem Ev.now {α : Type} (r : α) : Ev (fun _ => some r) r := ⟨0, fun _ _ => rfl⟩
theorem Ev.bind {α β : Type} {g : Nat → Option α} {f : Nat → α → Option β} {a : α} {r : β} (h : Ev g a) (k : Ev (fun n => f n a) r) : Ev (fun n => (g n).bind (f n)) r := by
 obtain ⟨n, hn⟩ := h
 obtain ⟨m, hm⟩ := k
 exact ⟨n + m, fun i hi => by show (g i).bind (f i) = some r; rw [hn i (by omega), Option.bind_some]; exact hm i (by omega)⟩
theorem Ev.step {α : Type} {g f : Nat → Option α} {r : α} (h : ∀ k, g (k + 1) = f k) (k : Ev f r) : Ev g r := by
 obtain ⟨n, hn⟩ := k
 refine ⟨n + 1, fun i hi => ?_⟩
 obtain ⟨i, rfl⟩ : ∃ j, i = j + 1 := ⟨i - 1, by omega⟩
 rw [h]; exact hn i (by omega)
end Go.Proofs.YtioialhbjmnndaaGreatDoor.Eng
namespace Go.Proofs.YtioialhbjmnndaaGreatDoor.Eng.K
open Go.RowKit
theorem w64 {n : Int} (h0 : -9223372036854775808 ≤ n) (h1 : n < 9223372036854775808) : wrap64 n = n := by unfold wrap64; omega
theorem zaC {n : Int} (h0 : 0 ≤ n) (h1 : n < 9223372036854775808) : wrap64 n = n := by unfold wrap64; omega
theorem u64 {n : Int} (h0 : 0 ≤ n) (h1 : n < 18446744073709551616) : IntKind.u64.wrap n = n := by
 simp [IntKind.wrap, IntKind.bits, IntKind.signed]; omega
theorem zam (n : Int) : IntKind.u64.wrap n = n % 18446744073709551616 := by
 simp [IntKind.wrap, IntKind.bits, IntKind.signed]
theorem rdn (xs : List Int) (n : Nat) : rd xs (n : Int) = xs.getD n 0 := by simp [rd]
theorem zaB {xs ys : List Int} {y : Int} {i : Int} (h : i = (xs.length : Int)) : rd (xs ++ y :: ys) i = y := by
 subst h; simp [rd]
theorem zbU {xs ys : List Int} {y z : Int} {i : Int} (h : i = (xs.length : Int)) : (xs ++ y :: ys).set i.toNat z = (xs ++ [z]) ++ ys := by
 subst h; simp
theorem zg {α : Type} {g : Nat → Option α} {r s : α} (h : Ev g r) (e : r = s) : Ev g s := e ▸ h
theorem zhO {α : Type} {x : Option α} {r : α} (h : x = some r) : Ev (fun _ => x) r := by subst h; exact Ev.now r
theorem zd {α : Type} {c : Prop} {_ : Decidable c} {g f : Nat → Option α} {r : α} (h : c) (k : Ev g r) : Ev (fun n => if c then g n else f n) r := by
 simpa [h] using k
theorem ze {α : Type} {c : Prop} {_ : Decidable c} {g f : Nat → Option α} {r : α} (h : ¬ c) (k : Ev f r) : Ev (fun n => if c then g n else f n) r := by
 simpa [h] using k
theorem ep {α : Type} {c : Prop} {_ : Decidable c} {g f : Nat → Option α} {r : α} (k : Ev g r) (h : c := by (first | omega | assumption | (simp; done) | (simp; omega))) : Ev (fun n => if c then g n else f n) r := zd h k
theorem en {α : Type} {c : Prop} {_ : Decidable c} {g f : Nat → Option α} {r : α} (k : Ev f r) (h : ¬ c := by (first | omega | assumption | (simp; done) | (simp; omega))) : Ev (fun n => if c then g n else f n) r := ze h k
theorem zh {α β : Type} {x : Option α} {f : Nat → α → Option β} {a : α} {r : β} (h : x = some a) (k : Ev (fun n => f n a) r) : Ev (fun n => x.bind (f n)) r := by
 subst h; exact k
theorem zf {α : Type} {g : Nat → Option α} {r : α} (k : Ev (fun n => g (n + 1)) r) : Ev g r := Ev.step (fun _ => rfl) k
theorem Ev.unique {α : Type} {g : Nat → Option α} {r s : α} (h : Ev g r) (k : Ev g s) : r = s := by
 obtain ⟨a, ha⟩ := h; obtain ⟨b, hb⟩ := k
 have h1 := ha (max a b) (Nat.le_max_left _ _); have h2 := hb (max a b) (Nat.le_max_right _ _)
 rw [h1] at h2; exact Option.some.inj h2
def Dg (l : List Int) : Prop := ∀ x ∈ l, 0 ≤ x ∧ x < 4294967296
def V : List Int → Nat
 | [] => 0
 | d :: l => d.toNat + 4294967296 * V l
def D (n : Nat) : List Int := if h : n = 0 then [] else ((n % 4294967296 : Nat) : Int) :: D (n / 4294967296)
termination_by n
decreasing_by omega
theorem Dg.nil : Dg [] := fun _ h => by simp at h
theorem Dg.cons {d : Int} {l : List Int} (h0 : 0 ≤ d) (h1 : d < 4294967296) (h : Dg l) : Dg (d :: l) := fun x hx => by
 rcases List.mem_cons.1 hx with rfl | hx
 ·exact ⟨h0, h1⟩
 ·exact h x hx
theorem Dg.head {d : Int} {l : List Int} (h : Dg (d :: l)) : 0 ≤ d ∧ d < 4294967296 := h d (by simp)
theorem Dg.tail {d : Int} {l : List Int} (h : Dg (d :: l)) : Dg l := fun x hx => h x (by simp [hx])
theorem Dg.app {a b : List Int} (h : Dg a) (k : Dg b) : Dg (a ++ b) := fun x hx => by
 rcases List.mem_append.1 hx with hx | hx
 ·exact h x hx
 ·exact k x hx
theorem Dg.left {a b : List Int} (h : Dg (a ++ b)) : Dg a := fun x hx => h x (by simp [hx])
theorem Dg.right {a b : List Int} (h : Dg (a ++ b)) : Dg b := fun x hx => h x (by simp [hx])
theorem Dg.take {a : List Int} (h : Dg a) (n : Nat) : Dg (a.take n) := fun x hx => h x (List.mem_of_mem_take hx)
theorem Dg.drop {a : List Int} (h : Dg a) (n : Nat) : Dg (a.drop n) := fun x hx => h x (List.mem_of_mem_drop hx)
theorem Dg.zeros (n : Nat) : Dg (List.replicate n 0) := fun x hx => by
 obtain ⟨_, rfl⟩ := List.mem_replicate.1 hx; omega
theorem Dg.getD {a : List Int} (h : Dg a) (n : Nat) : 0 ≤ a.getD n 0 ∧ a.getD n 0 < 4294967296 := by
 rw [List.getD_eq_getElem?_getD]
 cases e : a[n]? with
 | none => simp
 | some x => simpa using h x (List.mem_of_getElem? e)
theorem Dg.rd {a : List Int} (h : Dg a) (i : Int) : 0 ≤ rd a i ∧ rd a i < 4294967296 := h.getD i.toNat
theorem Dg.set {a : List Int} (h : Dg a) (n : Nat) {x : Int} (h0 : 0 ≤ x) (h1 : x < 4294967296) : Dg (a.set n x) := fun y hy => by
 rcases List.mem_or_eq_of_mem_set hy with hy | rfl
 ·exact h y hy
 ·exact ⟨h0, h1⟩
theorem Dg.wf {a : List Int} (h : ∀ x ∈ a, (Lit.int .u32 x).wf = true) : Dg a := fun x hx => by
 have := h x hx
 simp [Lit.wf, IntKind.min, IntKind.max, IntKind.signed, IntKind.bits] at this
 omega
@[simp] theorem zN : V [] = 0 := rfl
@[simp] theorem zy (d : Int) (l : List Int) : V (d :: l) = d.toNat + 4294967296 * V l := rfl
theorem za6 (a b : List Int) : V (a ++ b) = V a + 4294967296 ^ a.length * V b := by
 induction a with
 | nil => simp
 | cons d a ih => simp [ih, Nat.pow_succ]; grind
theorem zdq (n : Nat) : V (List.replicate n 0) = 0 := by
 induction n with
 | zero => rfl
 | succ n ih => simp [List.replicate_succ, ih]
theorem zaO {l : List Int} (h : Dg l) : V l < 4294967296 ^ l.length := by
 induction l with
 | nil => simp
 | cons d l ih =>
  have := ih h.tail; have := h.head
  simp only [zy, List.length_cons, Nat.pow_succ]
  omega
theorem zC : D 0 = [] := by unfold D; simp
theorem zby {n : Nat} (h : n ≠ 0) : D n = ((n % 4294967296 : Nat) : Int) :: D (n / 4294967296) := by
 conv => lhs; unfold D
 simp [h]
theorem V_D (n : Nat) : V (D n) = n := by
 induction n using Nat.strongRecOn with
 | _ n ih =>
  by_cases h : n = 0
  ·subst h; simp [zC]
  ·rw [zby h, zy, ih _ (by omega)]; omega
theorem zau (n : Nat) : Dg (D n) := by
 induction n using Nat.strongRecOn with
 | _ n ih =>
  by_cases h : n = 0
  ·subst h; rw [zC]; exact Dg.nil
  ·rw [zby h]; exact Dg.cons (by omega) (by omega) (ih _ (by omega))
theorem zdW {d : Int} {n : Nat} (h0 : 0 ≤ d) (h1 : d < 4294967296) (h : d ≠ 0 ∨ n ≠ 0) : D (d.toNat + 4294967296 * n) = d :: D n := by
 rw [zby (by omega)]
 congr 1
 ·omega
 ·congr 1; omega
def Nm (l : List Int) : Prop := D (V l) = l
instance (l : List Int) : Decidable (Nm l) := inferInstanceAs (Decidable (D (V l) = l))
theorem Nm.dg {l : List Int} (h : Nm l) : Dg l := h ▸ zau _
theorem zi (n : Nat) : Nm (D n) := by unfold Nm; rw [V_D]
theorem zbz : Nm [] := by unfold Nm; exact zC
theorem Nm.inj {a b : List Int} (h : Nm a) (k : Nm b) (e : V a = V b) : a = b := by rw [← h, e, k]
theorem zcv {l : List Int} (h : Nm l) : V l = 0 ↔ l = [] := by
 constructor
 ·intro e; rw [← h, e, zC]
 ·rintro rfl; rfl
theorem zdY {l : List Int} {d : Int} (h : Dg l) (h0 : 0 < d) (h1 : d < 4294967296) : Nm (l ++ [d]) := by
 unfold Nm
 induction l with
 | nil =>
  have := zdW (d := d) (n := 0) (by omega) h1 (by omega)
  simpa [zC] using this
 | cons x l ih =>
  have hx := h.head
  rw [List.cons_append, zy, zdW hx.1 hx.2, ih h.tail]
  right; rw [za6]
  have : 0 < 4294967296 ^ l.length := Nat.pow_pos (by omega)
  have : 0 < 4294967296 ^ l.length * V [d] := Nat.mul_pos this (by simp; omega)
  omega
theorem zdZ (l : List Int) : V (l ++ [0]) = V l := by rw [za6]; simp
theorem zg0 {l : List Int} (h : Dg l) : (D (V l)).length ≤ l.length := by
 induction l with
 | nil => simp [zC]
 | cons x l ih =>
  have hx := h.head
  by_cases e : x ≠ 0 ∨ V l ≠ 0
  ·rw [zy, zdW hx.1 hx.2 e]; simpa using ih h.tail
  ·have h1 : x = 0 := by omega
   have h2 : V l = 0 := by omega
   simp [h1, h2, zC]
theorem zeS {l : List Int} {d : Int} (h : Nm (l ++ [d])) : d ≠ 0 := by
 intro e; subst e
 have h2 := zg0 h.dg.left
 have h3 : D (V (l ++ [0])) = l ++ [0] := h
 rw [zdZ] at h3
 rw [h3] at h2
 simp at h2
 omega
theorem zeR {l : List Int} (h : Dg l) : Nm l ↔ l = [] ∨ l.getD (l.length - 1) 0 ≠ 0 := by
 rcases List.eq_nil_or_concat l with rfl | ⟨a, d, rfl⟩
 ·simp [zbz]
 ·rw [List.concat_eq_append] at h ⊢
  have : (a ++ [d]).getD ((a ++ [d]).length - 1) 0 = d := by simp
  rw [this]
  constructor
  ·intro k; exact .inr (zeS k)
  ·rintro (k | k)
   ·simp at k
   ·have := h d (by simp)
    exact zdY h.left (by omega) this.2
theorem zeO {n k : Nat} (h : n < 4294967296 ^ k) : (D n).length ≤ k := by
  induction k generalizing n with
  | zero => have : n = 0 := by simpa using h
            subst this; simp [zC]
  | succ k ih =>
    by_cases e : n = 0
    · subst e; simp [zC]
    · rw [zby e, List.length_cons]
      have := ih (n := n / 4294967296) (by rw [Nat.pow_succ] at h; omega)
      omega
theorem zbM (n : Nat) : n < 4294967296 ^ (D n).length := by
 have := zaO (zau n); rwa [V_D] at this
theorem zgZ {n : Nat} (h : n ≠ 0) : 4294967296 ^ ((D n).length - 1) ≤ n := by
 apply Nat.le_of_not_lt
 intro k
 have := zeO k
 have : (D n).length ≠ 0 := by rw [zby h]; simp
 omega
theorem zc0 {a b : Nat} (h : a ≤ b) : (D a).length ≤ (D b).length :=
 zeO (Nat.lt_of_le_of_lt h (zbM b))
theorem zin {a b : Nat} (h : (D a).length < (D b).length) : a < b := by
 apply Nat.lt_of_not_le
 intro k
 have := zc0 k
 omega
theorem Nm.len {l : List Int} (h : Nm l) : (D (V l)).length = l.length := by rw [h]
theorem Nm.lt_of_len {a b : List Int} (h : Nm a) (k : Nm b) (e : a.length < b.length) : V a < V b := by
 apply zin; rw [h, k]; exact e
theorem zJ {n : Nat} (h : n < 4611686018427387904) : wrap64 ((n : Int) + 1) = ((n + 1 : Nat) : Int) := by unfold wrap64; omega
theorem zgQ {n : Nat} (h : n < 4611686018427387904) : wrap64 (((n + 1 : Nat) : Int) - 1) = (n : Int) := by unfold wrap64; omega
theorem zgM : ∀ (n : Nat) (l : List Int), l.length = n → Dg l → n < 4611686018427387904 → Ev (fun k => zt.f k l) (D (V l))
 | 0, l, hn, hd, hb => by
  have : l = [] := List.eq_nil_of_length_eq_zero hn
  subst this
  refine zf (zhO ?_)
  simp [zt.f, zt.l0, zC]
 | n + 1, l, hn, hd, hb => by
  rcases List.eq_nil_or_concat l with rfl | ⟨a, d, rfl⟩
  ·simp at hn
  rw [List.concat_eq_append] at hn hd ⊢
  have hl : (a ++ [d]).length = n + 1 := hn
  have ha : a.length = n := by simpa using hn
  refine zf ?_
  show Ev (fun k => zt.l0 (k + 1) (a ++ [d])) _
  simp only [zt.l0, hl, zgQ (n := n) (by omega)]
  refine zd (by omega) (zd (by omega) (zd (by omega) ?_))
  rw [zaB (by omega)]
  by_cases h0 : d = 0
  ·subst h0
   refine zd rfl (zd (by omega) ?_)
   rw [zdZ]
   have : (a ++ [(0 : Int)]).take (n : Int).toNat = a := by simp [← ha]
   rw [this]
   exact zd (by omega) (zgM n a ha hd.left (by omega))
  ·refine ze h0 ?_
   have := hd d (by simp)
   rw [zdY hd.left (by omega) this.2]
   exact Ev.now _
theorem zcR {l : List Int} (hd : Dg l) (hb : l.length < 4611686018427387904) : Ev (fun k => zt.f k l) (D (V l)) := zgM _ l rfl hd hb
theorem zgu (l : List Int) (hd : Dg l) (hb : l.length < 4611686018427387904) : ∀ (n : Nat) (a b : List Int), a.length = n → l = a ++ b → V b = 0 → Ev (fun k => zl.l0 k l n) (D (V l))
 | 0, a, b, hn, he, h0 => by
  have : a = [] := List.eq_nil_of_length_eq_zero hn
  subst this
  refine zf ?_
  simp only [zl.l0]
  refine ze (by omega) (zd (by omega) (zd (by omega) ?_))
  rw [he]; simp [h0, zC]; exact Ev.now _
 | n + 1, a, b, hn, he, h0 => by
  rcases List.eq_nil_or_concat a with rfl | ⟨a, d, rfl⟩
  ·simp at hn
  rw [List.concat_eq_append] at hn he
  have ha : a.length = n := by simpa using hn
  have hl : l.length = n + 1 + b.length := by rw [he]; simp [ha]; omega
  refine zf ?_
  simp only [zl.l0, zgQ (n := n) (by omega)]
  refine zd (by omega) (zd (by omega) (zd (by omega) ?_))
  have hr : rd l n = d := by rw [he, List.append_assoc]; exact zaB (by omega)
  rw [hr]
  by_cases hz : d = 0
  ·refine zd hz ?_
   exact zgu l hd hb n a (d :: b) ha (by rw [he]; simp) (by simp [h0, hz])
  ·refine ze hz (zd (by omega) (zd (by omega) ?_))
   have hd2 := hd
   rw [he] at hd2
   have h1 := hd2.left d (by simp)
   have h2 : V l = V (a ++ [d]) := by rw [he, za6 (a ++ [d]) b, h0]; simp
   have h3 : l.take ((n + 1 : Nat) : Int).toNat = a ++ [d] := by
    rw [he, Int.toNat_natCast]; exact List.take_left' (by simp [ha])
   rw [h3, h2, zdY hd2.left.left (by omega) h1.2]
   exact Ev.now _
theorem zbS {l : List Int} (hd : Dg l) (hb : l.length < 4611686018427387904) : Ev (fun k => zl.f k l) (D (V l)) :=
 zgu l hd hb l.length l [] rfl (by simp) rfl
theorem ze1 (n : Int) (h0 : 0 ≤ n) (h1 : n < 18446744073709551616) : V [n % 4294967296, (n / 4294967296) % 4294967296] = n.toNat := by
 simp; omega
theorem zeP (n : Int) : Dg [n % 4294967296, (n / 4294967296) % 4294967296] := Dg.cons (by omega) (by omega) (Dg.cons (by omega) (by omega) Dg.nil)
theorem zel {n : Int} (h0 : 0 ≤ n) (h1 : n < 18446744073709551616) : Ev (fun k => zaT.f k n) (D n.toNat) := by
 unfold zaT.f
 refine Ev.bind (zcR (zeP n) (by simp)) ?_
 rw [ze1 n h0 h1]; exact Ev.now _
theorem zdh {n : Int} (h0 : 0 ≤ n) (h1 : n < 18446744073709551616) : Ev (fun k => zaP.f k n) (D n.toNat) := by
 unfold zaP.f
 refine Ev.bind (zbS (zeP n) (by simp)) ?_
 rw [ze1 n h0 h1]; exact Ev.now _
theorem zgw (x y : List Int) (hl : x.length = y.length) (hb : x.length < 4611686018427387904) : ∀ (d n : Nat), n + d = x.length → Ev (fun k => zaQ.l0 k x y n) (decide (x.drop n = y.drop n))
 | 0, n, h => by
  refine zf ?_
  simp only [zaQ.l0]
  refine ze (by omega) ?_
  rw [List.drop_eq_nil_of_le (by omega), List.drop_eq_nil_of_le (by omega)]
  exact Ev.now _
 | d + 1, n, h => by
  refine zf ?_
  simp only [zaQ.l0, zJ (n := n) (by omega)]
  refine zd (by omega) (zd (by omega) (zd (by omega) (zd (by omega) (zd (by omega) ?_))))
  have hx : n < x.length := by omega
  have hy : n < y.length := by omega
  have e1 : rd x n = x[n] := by rw [rdn]; simp [hx]
  have e2 : rd y n = y[n] := by rw [rdn]; simp [hy]
  have d1 := List.drop_eq_getElem_cons hx
  have d2 := List.drop_eq_getElem_cons hy
  rw [e1, e2]
  by_cases he : x[n] = y[n]
  ·refine ze (fun h => h he) ?_
   refine zg (zgw x y hl hb d (n + 1) (by omega)) ?_
   exact decide_eq_decide.2 ⟨fun h => by rw [d1, d2, he, h], fun h => by rw [d1, d2] at h; exact (List.cons.inj h).2⟩
  ·refine zd he ?_
   refine zg (Ev.now _) ?_
   exact (decide_eq_false (fun h => by rw [d1, d2] at h; exact he (List.cons.inj h).1)).symm
theorem zjj (x y : List Int) (hb : x.length < 4611686018427387904) : Ev (fun k => zaQ.f k x y) (decide (x = y)) := by
 unfold zaQ.f
 by_cases h : x.length = y.length
 ·refine ze (by omega) ?_
  exact zg (zgw x y h hb x.length 0 (by omega)) (by simp)
 ·refine zd (by omega) ?_
  refine zg (Ev.now _) ?_
  have : x ≠ y := fun e => h (by rw [e])
  simp [this]
def may (l : List Int) : Bool := decide (l.length ≤ 4096) && decide (Nm l)
theorem zaK {l : List Int} : may l = true ↔ l.length ≤ 4096 ∧ Nm l := by simp [may]
theorem zbu {l : List Int} (h : Dg l) (hb : l.length < 4611686018427387904) : zak.f l = some (may l) := by
 unfold zak.f may
 by_cases h1 : l.length ≤ 4096
 ·rw [if_pos (by omega)]
  by_cases h2 : l.length = 0
  ·have : l = [] := List.eq_nil_of_length_eq_zero h2
   subst this; simp [zbz]
  ·rw [if_neg (by omega)]
   have e : wrap64 ((l.length : Int) - 1) = ((l.length - 1 : Nat) : Int) := by unfold wrap64; omega
   rw [e, if_pos (by omega), if_pos (by omega), rdn]
   have h3 : l ≠ [] := fun e => h2 (by rw [e]; rfl)
   have h4 := zeR h
   by_cases h5 : l.getD (l.length - 1) 0 = 0
   ·have : ¬ Nm l := fun k => by rcases h4.1 k with k | k <;> contradiction
    rw [h5]; simp [this]
   ·have : Nm l := h4.2 (.inr h5)
    simp only [h5, not_false_eq_true, decide_true]; simp [h1, this]
 ·rw [if_neg (by omega)]; simp [h1]
theorem zdu {a b : List Int} (ha : Dg a) (hb : Dg b) (la : a.length < 4611686018427387904) (lb : b.length < 4611686018427387904) : Ev (fun k => z8.f k [a, b]) (may a && may b) := by
 unfold z8.f
 refine zf ?_
 simp only [z8.l0]
 refine zd (by simp) (zd (by omega) (zd (by simp) ?_))
 have e0 : rdT [.is .u32] [a, b] 0 = a := rfl
 have e1 : rdT [.is .u32] [a, b] 1 = b := rfl
 rw [e0]
 refine zh (zbu ha la) ?_
 cases may a with
 | false => exact zd (by simp) (Ev.now _)
 | true =>
  refine ze (by simp) ?_
  have w1 : wrap64 (0 + 1) = 1 := by unfold wrap64; omega
  have w2 : wrap64 (1 + 1) = 2 := by unfold wrap64; omega
  rw [w1]
  refine zf ?_
  simp only [z8.l0]
  refine zd (by simp) (zd (by omega) (zd (by simp) ?_))
  rw [e1]
  refine zh (zbu hb lb) ?_
  cases may b with
  | false => exact zd (by simp) (Ev.now _)
  | true =>
   refine ze (by simp) ?_
   rw [w2]
   refine zf ?_
   simp only [z8.l0]
   exact ze (by simp) (Ev.now _)
def zaY (n : Nat) : List Int × Int := if (D n).length > 4096 then ([], 3) else (D n, 0)
theorem zfV (n : Nat) : zaz.f (D n) = some (zaY n) := by
 unfold zaz.f zaY
 by_cases h : (D n).length > 4096
 ·rw [if_pos (by omega), if_pos h]
 ·rw [if_neg (by omega), if_neg h]
theorem zg5 {x y c : Int} (hx : 0 ≤ x ∧ x < 4294967296) (hy : 0 ≤ y ∧ y < 4294967296) (hc : 0 ≤ c ∧ c < 4294967296) : zbZ.f x y c = some ((x + y + c) % 4294967296, (x + y + c) / 4294967296) := by
 unfold zbZ.f
 rw [u64 hx.1 (by omega), u64 hy.1 (by omega), u64 hc.1 (by omega), u64 (n := x + y) (by omega) (by omega), u64 (by omega) (by omega)]
 have : (x + y + c) / 4294967296 % 4294967296 = (x + y + c) / 4294967296 := by omega
 rw [this]
def zbl : List Int → List Int → Int → List Int
 | [], _, c => [c]
 | x :: a, b, c => ((x + b.headD 0 + c) % 4294967296) :: zbl a b.tail ((x + b.headD 0 + c) / 4294967296)
theorem Dg.headD {b : List Int} (h : Dg b) : 0 ≤ b.headD 0 ∧ b.headD 0 < 4294967296 := by
 cases b with
 | nil => simp
 | cons y b => exact h.head
theorem Dg.tl {b : List Int} (h : Dg b) : Dg b.tail := by
 cases b with
 | nil => exact h
 | cons y b => exact h.tail
theorem zcw (b : List Int) : V b = (b.headD 0).toNat + 4294967296 * V b.tail := by
 cases b <;> simp
theorem zg7 {a b : List Int} {c : Int} (ha : Dg a) (hb : Dg b) (hc : 0 ≤ c ∧ c ≤ 1) (hl : b.length ≤ a.length) : V (zbl a b c) = V a + V b + c.toNat ∧ Dg (zbl a b c) := by
 induction a generalizing b c with
 | nil =>
  have : b = [] := List.eq_nil_of_length_eq_zero (by simpa using hl)
  subst this
  exact ⟨by simp [zbl], Dg.cons hc.1 (by omega) Dg.nil⟩
 | cons x a ih =>
  have hx := ha.head
  have hy := hb.headD
  have := ih (b := b.tail) (c := (x + b.headD 0 + c) / 4294967296) ha.tail hb.tl (by omega) (by simp at hl ⊢; omega)
  refine ⟨?_, Dg.cons (by omega) (by omega) this.2⟩
  rw [zbl, zy, this.1, zcw b, zy]
  omega
theorem zc6 (b : List Int) (n : Nat) : (b.drop n).headD 0 = b.getD n 0 := by
 rw [List.headD_eq_head?_getD, List.head?_drop, List.getD_eq_getElem?_getD]
theorem ze5 (A Bl : List Int) (hA : Dg A) (hB : Dg Bl) (hl : A.length < 1152921504606846976) : ∀ (a done r : List Int) (c : Int) (pa : List Int), A = pa ++ a → done.length = pa.length → r.length = a.length + 1 → 0 ≤ c ∧ c ≤ 1 → Dg done → (Bl.drop done.length).length ≤ a.length →
  Ev (fun k => zu.l0 k A Bl (done ++ r) c A.length done.length) (zaY (V (done ++ zbl a (Bl.drop done.length) c)))
 | [], done, r, c, pa, he, hd, hr, hc, hg, hbl => by
  obtain ⟨y, rfl⟩ : ∃ y, r = [y] := by
   match r, hr with
   | [y], _ => exact ⟨y, rfl⟩
  have hlen : A.length = done.length := by rw [he, hd]; simp
  refine zf ?_
  simp only [zu.l0]
  refine ze (by omega) (zd (by omega) (zd (by simp; omega) ?_))
  have hs : (done ++ [y]).set (A.length : Int).toNat c = done ++ [c] := by
   rw [zbU (by omega)]; simp
  rw [hs]
  have hg2 : Dg (done ++ [c]) := hg.app (Dg.cons hc.1 (by omega) Dg.nil)
  refine Ev.bind (zcR hg2 (by simp; omega)) ?_
  refine zh (zfV _) ?_
  exact Ev.now _
 | x :: a, done, r, c, pa, he, hd, hr, hc, hg, hbl => by
  obtain ⟨y, r, rfl⟩ : ∃ y r', r = y :: r' := by
   match r, hr with
   | y :: r', _ => exact ⟨y, r', rfl⟩
  have hlen : A.length = done.length + 1 + a.length := by rw [he, hd]; simp; omega
  refine zf ?_
  simp only [zu.l0, zJ (n := done.length) (by omega)]
  refine zd (by omega) ?_
  have hx : rd A (done.length : Int) = x := by rw [he]; exact zaB (by omega)
  have hxr : 0 ≤ x ∧ x < 4294967296 := by rw [he] at hA; exact hA.right.head
  have hyr := (hB.drop done.length).headD
  have key : ∀ z, z = (Bl.drop done.length).headD 0 → Ev (fun k => (zbZ.f x z c).bind fun bt => if (done.length : Int) < ((done ++ y :: r).length : Int) then zu.l0 k A Bl ((done ++ y :: r).set (done.length : Int).toNat bt.1) bt.2 A.length ((done.length + 1 : Nat) : Int) else none) (zaY (V (done ++ zbl (x :: a) (Bl.drop done.length) c))) := by
   rintro z rfl
   refine zh (zg5 hxr hyr ⟨hc.1, by omega⟩) ?_
   refine zd (by simp; omega) ?_
   rw [zbU rfl]
   have := ze5 A Bl hA hB hl a (done ++ [(x + (Bl.drop done.length).headD 0 + c) % 4294967296]) r ((x + (Bl.drop done.length).headD 0 + c) / 4294967296) (pa ++ [x]) (by rw [he]; simp) (by simp [hd]) (by simpa using hr) (by omega) (hg.app (Dg.cons (by omega) (by omega) Dg.nil)) (by simp at hbl ⊢; omega)
   rw [List.length_append, List.length_singleton] at this
   refine zg this ?_
   rw [zbl, List.tail_drop]; simp
  have jn : ∀ z, z = (Bl.drop done.length).headD 0 → Ev (fun n => zu.j3 n A Bl (done ++ y :: r) c (done.length : Int) z A.length (done.length : Int)) (zaY (V (done ++ zbl (x :: a) (Bl.drop done.length) c))) := by
   intro z hz
   refine zf ?_
   simp only [zu.j3, zJ (n := done.length) (by omega)]
   refine zd (by omega) (zd (by omega) ?_)
   rw [hx]
   have := key z hz
   simpa only [show (0 : Int) ≤ (done.length : Int) by omega, if_true] using this
  by_cases hb : (done.length : Int) < (Bl.length : Int)
  ·refine zd hb (zd (by omega) (zd (by omega) ?_))
   exact jn _ (by rw [zc6, rdn])
  ·refine ze hb ?_
   exact jn 0 (by rw [List.drop_eq_nil_of_le (by omega)]; rfl)
theorem ze4 {a b : List Int} (ha : Dg a) (hb : Dg b) (hl : b.length ≤ a.length) (hn : a.length ≤ 4096) : Ev (fun k => zu.j1 k a b) (zaY (V a + V b)) := by
 refine zf ?_
 simp only [zu.j1, zJ (n := a.length) (by omega)]
 refine zd (by omega) (zd (by omega) ?_)
 have := ze5 a b ha hb (by omega) a [] (List.replicate (a.length + 1) 0) 0 [] rfl rfl (by simp) (by omega) Dg.nil (by simpa using hl)
 refine zg this ?_
 have h2 := zg7 ha hb (c := 0) (by omega) hl
 simp [h2.1]
theorem ziB {a b : List Int} (ha : Nm a) (hb : Nm b) (la : a.length ≤ 4096) (lb : b.length ≤ 4096) : Ev (fun k => zu.f k a b) (zaY (V a + V b)) := by
 unfold zu.f
 refine Ev.bind (zdu ha.dg hb.dg (by omega) (by omega)) ?_
 have h1 : may a = true := zaK.2 ⟨la, ha⟩
 have h2 : may b = true := zaK.2 ⟨lb, hb⟩
 refine ze (by simp [h1, h2]) ?_
 by_cases h : a.length < b.length
 ·refine zd (by omega) ?_
  rw [Nat.add_comm]; exact ze4 hb.dg ha.dg (by omega) lb
 ·exact ze (by omega) (ze4 ha.dg hb.dg (by omega) la)
def zO (m n : Nat) : Int := if m < n then -1 else if n < m then 1 else 0
theorem zdp {l : List Int} {n : Nat} (h : n < l.length) : V (l.take (n + 1)) = V (l.take n) + 4294967296 ^ n * (l.getD n 0).toNat := by
 rw [List.take_succ_eq_append_getElem h, za6]
 simp [Nat.min_eq_left (Nat.le_of_lt h), h]
theorem zgL {p q P d e : Nat} (hp : p < P) (h : d < e) : p + P * d < q + P * e := by
 have : P * (d + 1) ≤ P * e := Nat.mul_le_mul_left _ h
 rw [Nat.mul_add] at this
 omega
theorem zeZ {l : List Int} (h : Dg l) {n : Nat} (hn : n ≤ l.length) : V (l.take n) < 4294967296 ^ n := by
 have := zaO (h.take n); rwa [List.length_take, Nat.min_eq_left hn] at this
theorem zft {x y : List Int} (hx : Dg x) (hy : Dg y) {n : Nat} (h1 : n < x.length) (h2 : n < y.length) :
  zO (V (x.take (n + 1))) (V (y.take (n + 1))) = if x.getD n 0 = y.getD n 0 then zO (V (x.take n)) (V (y.take n)) else if x.getD n 0 < y.getD n 0 then -1 else 1 := by
 rw [zdp h1, zdp h2]
 have a := hx.getD n
 have b := hy.getD n
 have p := zeZ hx (Nat.le_of_lt h1)
 have q := zeZ hy (Nat.le_of_lt h2)
 by_cases e : x.getD n 0 = y.getD n 0
 ·rw [if_pos e, e]; unfold zO; simp
 ·rw [if_neg e]
  by_cases c : x.getD n 0 < y.getD n 0
  ·rw [if_pos c]
   have := zgL (q := V (y.take n)) p (show (x.getD n 0).toNat < (y.getD n 0).toNat by omega)
   unfold zO; rw [if_pos this]
  ·rw [if_neg c]
   have := zgL (q := V (x.take n)) q (show (y.getD n 0).toNat < (x.getD n 0).toNat by omega)
   unfold zO; rw [if_neg (by omega), if_pos this]
theorem zcq {n : Nat} (h : n < 4611686018427387904) : wrap64 ((n : Int) - 1) = (n : Int) - 1 := by unfold wrap64; omega
theorem zfr {x y : List Int} (hx : Dg x) (hy : Dg y) (hb : x.length < 4611686018427387904) : ∀ (n : Nat), n ≤ x.length → n ≤ y.length → Ev (fun k => zaA.l0 k x y ((n : Int) - 1)) (zO (V (x.take n)) (V (y.take n)))
 | 0, _, _ => by
  refine zf ?_
  simp only [zaA.l0]
  (repeat (first | with_reducible refine ep ?_ | with_reducible refine en ?_)); exact Ev.now _
 | n + 1, h1, h2 => by
  refine zf ?_
  simp only [zaA.l0]
  have e : ((n + 1 : Nat) : Int) - 1 = (n : Int) := by omega
  rw [e, zcq (n := n) (by omega)]
  (repeat (first | with_reducible refine ep ?_ | with_reducible refine en ?_))
  rw [zft hx hy (by omega) (by omega), rdn, rdn]
  by_cases c : x.getD n 0 = y.getD n 0
  ·(repeat (first | with_reducible refine ep ?_ | with_reducible refine en ?_))
   rw [if_pos c]
   exact zfr hx hy hb n (by omega) (by omega)
  ·(repeat (first | with_reducible refine ep ?_ | with_reducible refine en ?_))
   rw [if_neg c]
   by_cases c2 : x.getD n 0 < y.getD n 0
   ·(repeat (first | with_reducible refine ep ?_ | with_reducible refine en ?_))
    rw [if_pos c2]; exact Ev.now _
   ·(repeat (first | with_reducible refine ep ?_ | with_reducible refine en ?_))
    rw [if_neg c2]; exact Ev.now _
theorem zfW {x y : List Int} (hx : Nm x) (hy : Nm y) (hb : x.length < 4611686018427387904) : Ev (fun k => zaA.f k x y) (zO (V x) (V y)) := by
 unfold zaA.f
 by_cases c : x.length < y.length
 ·(repeat (first | with_reducible refine ep ?_ | with_reducible refine en ?_))
  unfold zO; rw [if_pos (hx.lt_of_len hy c)]; exact Ev.now _
 ·(repeat (first | with_reducible refine ep ?_ | with_reducible refine en ?_))
  by_cases c2 : y.length < x.length
  ·(repeat (first | with_reducible refine ep ?_ | with_reducible refine en ?_))
   have := hy.lt_of_len hx c2
   unfold zO; rw [if_neg (by omega), if_pos this]; exact Ev.now _
  ·(repeat (first | with_reducible refine ep ?_ | with_reducible refine en ?_))
   have e : x.length = y.length := by omega
   rw [zcq (by omega)]
   have := zfr hx.dg hy.dg hb x.length (by omega) (by omega)
   rwa [List.take_length, e, List.take_length, ← e] at this
theorem zgh {x y : List Int} (hx : Dg x) (hy : Dg y) (hb : x.length < 4611686018427387904) : ∀ (n : Nat), n ≤ x.length → n ≤ y.length → Ev (fun k => zah.l0 k x y ((n : Int) - 1)) (zO (V (x.take n)) (V (y.take n)))
 | 0, _, _ => by
  refine zf ?_
  simp only [zah.l0]
  (repeat (first | with_reducible refine ep ?_ | with_reducible refine en ?_)); exact Ev.now _
 | n + 1, h1, h2 => by
  refine zf ?_
  simp only [zah.l0]
  have e : ((n + 1 : Nat) : Int) - 1 = (n : Int) := by omega
  rw [e, zcq (n := n) (by omega)]
  (repeat (first | with_reducible refine ep ?_ | with_reducible refine en ?_))
  rw [zft hx hy (by omega) (by omega), rdn, rdn]
  by_cases c2 : x.getD n 0 < y.getD n 0
  ·(repeat (first | with_reducible refine ep ?_ | with_reducible refine en ?_))
   rw [if_neg (by omega), if_pos c2]; exact Ev.now _
  ·(repeat (first | with_reducible refine ep ?_ | with_reducible refine en ?_))
   by_cases c : x.getD n 0 > y.getD n 0
   ·(repeat (first | with_reducible refine ep ?_ | with_reducible refine en ?_))
    rw [if_neg (by omega), if_neg c2]; exact Ev.now _
   ·(repeat (first | with_reducible refine ep ?_ | with_reducible refine en ?_))
    rw [if_pos (by omega)]
    exact zgh hx hy hb n (by omega) (by omega)
theorem zet {x y : List Int} (hx : Nm x) (hy : Nm y) (hb : x.length < 4611686018427387904) : Ev (fun k => zah.f k x y) (zO (V x) (V y)) := by
 unfold zah.f
 by_cases e : x.length = y.length
 ·(repeat (first | with_reducible refine ep ?_ | with_reducible refine en ?_))
  rw [zcq (by omega)]
  have := zgh hx.dg hy.dg hb x.length (by omega) (by omega)
  rwa [List.take_length, e, List.take_length, ← e] at this
 ·(repeat (first | with_reducible refine ep ?_ | with_reducible refine en ?_))
  by_cases c : x.length < y.length
  ·(repeat (first | with_reducible refine ep ?_ | with_reducible refine en ?_))
   unfold zO; rw [if_pos (hx.lt_of_len hy c)]; exact Ev.now _
  ·(repeat (first | with_reducible refine ep ?_ | with_reducible refine en ?_))
   have := hy.lt_of_len hx (by omega)
   unfold zO; rw [if_neg (by omega), if_pos this]; exact Ev.now _
theorem zdM {a b : List Int} (ha : Nm a) (hb : Nm b) (la : a.length ≤ 4096) (lb : b.length ≤ 4096) : Ev (fun k => zbP.f k a b) (zO (V a) (V b), 0) := by
 unfold zbP.f
 refine Ev.bind (zdu ha.dg hb.dg (by omega) (by omega)) ?_
 have h1 : may a = true := zaK.2 ⟨la, ha⟩
 have h2 : may b = true := zaK.2 ⟨lb, hb⟩
 refine ze (by simp [h1, h2]) (Ev.bind (zfW ha hb (by omega)) ?_)
 exact Ev.now _
theorem zbg (n : Nat) : n >>> 31 = n / 2147483648 := by rw [Nat.shiftRight_eq_div_pow]
theorem zd1 {n : Nat} (h : n < 4294967296) : n / 2147483648 = 0 ∨ n / 2147483648 = 1 := by omega
theorem zho {x y d : Nat} (hx : x < 4294967296) (hy : y < 4294967296) (hd : d < 4294967296) :
  ((((4294967295 ^^^ x) &&& y) ||| ((4294967295 ^^^ (x ^^^ y)) &&& d)) / 2147483648 : Nat) =
   if x / 2147483648 = 0 then (if y / 2147483648 = 0 then d / 2147483648 else 1) else (if y / 2147483648 = 0 then 0 else d / 2147483648) := by
 rw [← zbg, ← zbg, ← zbg, ← zbg, Nat.shiftRight_or_distrib, Nat.shiftRight_and_distrib, Nat.shiftRight_and_distrib, Nat.shiftRight_xor_distrib, Nat.shiftRight_xor_distrib, Nat.shiftRight_xor_distrib]
 simp only [zbg]
 have e : 4294967295 / 2147483648 = 1 := by decide
 rw [e]
 rcases zd1 hx with h1 | h1 <;> rcases zd1 hy with h2 | h2 <;> rcases zd1 hd with h3 | h3 <;> rw [h1, h2, h3] <;> decide
theorem zjI {x y c : Int} (hx : 0 ≤ x ∧ x < 4294967296) (hy : 0 ≤ y ∧ y < 4294967296) (hc : 0 ≤ c ∧ c ≤ 1) : zb0.f x y c = some ((x - y - c) % 4294967296, if x < y + c then 1 else 0) := by
 unfold zb0.f
 have hd : ((x - y) % 4294967296 - c) % 4294967296 = (x - y - c) % 4294967296 := by omega
 rw [hd]
 obtain ⟨X, rfl⟩ := Int.eq_ofNat_of_zero_le hx.1
 obtain ⟨Y, rfl⟩ := Int.eq_ofNat_of_zero_le hy.1
 obtain ⟨Z, hZ⟩ := Int.eq_ofNat_of_zero_le (show 0 ≤ ((X : Int) - Y - c) % 4294967296 by omega)
 have hZl : Z < 4294967296 := by omega
 have h1 : 4294967295 ^^^ X < 4294967296 := Nat.xor_lt_two_pow (n := 32) (by omega) (by omega)
 have h2 : X ^^^ Y < 4294967296 := Nat.xor_lt_two_pow (n := 32) (by omega) (by omega)
 have h3 : 4294967295 ^^^ (X ^^^ Y) < 4294967296 := Nat.xor_lt_two_pow (n := 32) (by omega) (by omega)
 have h4 : (4294967295 ^^^ X) &&& Y < 4294967296 := Nat.and_lt_two_pow (n := 32) _ (by omega)
 have h5 : (4294967295 ^^^ (X ^^^ Y)) &&& Z < 4294967296 := Nat.and_lt_two_pow (n := 32) _ (by omega)
 have e : (4294967295 : Int) = ((4294967295 : Nat) : Int) := rfl
 rw [hZ, e, u32_xor_nat _ _ (by omega) (by omega), u32_and_nat _ _ h1 (by omega), u32_xor_nat _ _ (by omega) (by omega), u32_xor_nat _ _ (by omega) h2, u32_and_nat _ _ h3 hZl, u32_or_nat _ _ h4 h5]
 have b := zho (x := X) (y := Y) (d := Z) (by omega) (by omega) hZl
 have : (((((4294967295 ^^^ X) &&& Y ||| (4294967295 ^^^ (X ^^^ Y)) &&& Z : Nat) : Int)) / 2147483648) = (((((4294967295 ^^^ X) &&& Y ||| (4294967295 ^^^ (X ^^^ Y)) &&& Z) / 2147483648 : Nat)) : Int) := by omega
 rw [this, b]
 congr 2
 by_cases c1 : X / 2147483648 = 0 <;> by_cases c2 : Y / 2147483648 = 0 <;> simp only [c1, c2, if_true, if_false] <;> by_cases c3 : (X : Int) < Y + c <;> simp only [c3, if_true, if_false] <;> omega
def zaV : List Int → List Int → Int → List Int
 | [], _, _ => []
 | x :: a, b, c => ((x - b.headD 0 - c) % 4294967296) :: zaV a b.tail (if x < b.headD 0 + c then 1 else 0)
theorem zgE {a b : List Int} {c : Int} (ha : Dg a) (hb : Dg b) (hc : 0 ≤ c ∧ c ≤ 1) (hl : b.length ≤ a.length) (h : V b + c.toNat ≤ V a) : V (zaV a b c) = V a - V b - c.toNat ∧ Dg (zaV a b c) := by
 induction a generalizing b c with
 | nil =>
  have : b = [] := List.eq_nil_of_length_eq_zero (by simpa using hl)
  subst this
  exact ⟨by simp [zaV], Dg.nil⟩
 | cons x a ih =>
  have hx := ha.head
  have hy := hb.headD
  rw [zcw b, zy] at h
  have := ih (b := b.tail) (c := if x < b.headD 0 + c then 1 else 0) ha.tail hb.tl (by split <;> omega) (by simp at hl ⊢; omega) (by split <;> omega)
  refine ⟨?_, Dg.cons (by omega) (by omega) this.2⟩
  rw [zaV, zy, this.1, zcw b, zy]
  split <;> omega
theorem zgF (A Bl : List Int) (hA : Dg A) (hB : Dg Bl) (hl : A.length < 1152921504606846976) : ∀ (a done r : List Int) (c : Int) (pa : List Int), A = pa ++ a → done.length = pa.length → r.length = a.length → 0 ≤ c ∧ c ≤ 1 → Dg done →
  Ev (fun k => z4.l0 k A Bl (done ++ r) c A.length done.length) (D (V (done ++ zaV a (Bl.drop done.length) c)))
 | [], done, r, c, pa, he, hd, hr, hc, hg => by
  have : r = [] := List.eq_nil_of_length_eq_zero hr
  subst this
  have hlen : A.length = done.length := by rw [he, hd]; simp
  refine zf ?_
  simp only [z4.l0]
  (repeat (first | with_reducible refine ep ?_ | with_reducible refine en ?_))
  refine Ev.bind (zcR (hg.app Dg.nil) (by simp; omega)) ?_
  exact Ev.now _
 | x :: a, done, r, c, pa, he, hd, hr, hc, hg => by
  obtain ⟨y, r, rfl⟩ : ∃ y r', r = y :: r' := by
   match r, hr with
   | y :: r', _ => exact ⟨y, r', rfl⟩
  have hlen : A.length = done.length + 1 + a.length := by rw [he, hd]; simp; omega
  refine zf ?_
  simp only [z4.l0, zJ (n := done.length) (by omega)]
  (repeat (first | with_reducible refine ep ?_ | with_reducible refine en ?_))
  have hx : rd A (done.length : Int) = x := by rw [he]; exact zaB (by omega)
  have hxr : 0 ≤ x ∧ x < 4294967296 := by rw [he] at hA; exact hA.right.head
  have hyr := (hB.drop done.length).headD
  have key : ∀ z, z = (Bl.drop done.length).headD 0 → Ev (fun k => (zb0.f x z c).bind fun bt => if (done.length : Int) < ((done ++ y :: r).length : Int) then z4.l0 k A Bl ((done ++ y :: r).set (done.length : Int).toNat bt.1) bt.2 A.length ((done.length + 1 : Nat) : Int) else none) (D (V (done ++ zaV (x :: a) (Bl.drop done.length) c))) := by
   rintro z rfl
   refine zh (zjI hxr hyr hc) ?_
   (repeat (first | with_reducible refine ep ?_ | with_reducible refine en ?_))
   rw [zbU rfl]
   have := zgF A Bl hA hB hl a (done ++ [(x - (Bl.drop done.length).headD 0 - c) % 4294967296]) r (if x < (Bl.drop done.length).headD 0 + c then 1 else 0) (pa ++ [x]) (by rw [he]; simp) (by simp [hd]) (by simpa using hr) (by split <;> omega) (hg.app (Dg.cons (by omega) (by omega) Dg.nil))
   rw [List.length_append, List.length_singleton] at this
   refine zg this ?_
   rw [zaV, List.tail_drop]; simp
  have jn : ∀ z, z = (Bl.drop done.length).headD 0 → Ev (fun n => z4.j1 n A Bl (done ++ y :: r) c (done.length : Int) z A.length (done.length : Int)) (D (V (done ++ zaV (x :: a) (Bl.drop done.length) c))) := by
   intro z hz
   refine zf ?_
   simp only [z4.j1, zJ (n := done.length) (by omega)]
   (repeat (first | with_reducible refine ep ?_ | with_reducible refine en ?_))
   rw [hx]
   have h0 : (0 : Int) ≤ (done.length : Int) := by omega
   have := key z hz
   simp only [h0, if_true]
   exact this
  by_cases hb : (done.length : Int) < (Bl.length : Int)
  ·(repeat (first | with_reducible refine ep ?_ | with_reducible refine en ?_))
   exact jn _ (by rw [zc6, rdn])
  ·(repeat (first | with_reducible refine ep ?_ | with_reducible refine en ?_))
   exact jn 0 (by rw [List.drop_eq_nil_of_le (by omega)]; rfl)
theorem ziF {a b : List Int} (ha : Nm a) (hb : Nm b) (la : a.length ≤ 1000000) (h : V b ≤ V a) : Ev (fun k => z4.f k a b) (D (V a - V b)) := by
 unfold z4.f
 (repeat (first | with_reducible refine ep ?_ | with_reducible refine en ?_))
 have hl : b.length ≤ a.length := by rw [← ha.len, ← hb.len]; exact zc0 h
 have := zgF a b ha.dg hb.dg (by omega) a [] (List.replicate a.length 0) 0 [] rfl rfl (by simp) (by omega) Dg.nil
 refine zg this ?_
 have h2 := zgE ha.dg hb.dg (c := 0) (by omega) hl (by simpa using h)
 simp [h2.1]
def zcT (m n : Nat) : List Int × Int := if m < n then ([], 10) else (D (m - n), 0)
theorem zfU {a b : List Int} (ha : Nm a) (hb : Nm b) (la : a.length ≤ 4096) (lb : b.length ≤ 4096) : Ev (fun k => zbj.f k a b) (zcT (V a) (V b)) := by
 unfold zbj.f zcT
 refine Ev.bind (zdu ha.dg hb.dg (by omega) (by omega)) ?_
 have h1 : may a = true := zaK.2 ⟨la, ha⟩
 have h2 : may b = true := zaK.2 ⟨lb, hb⟩
 refine ze (by simp [h1, h2]) (Ev.bind (zfW ha hb (by omega)) ?_)
 by_cases c : V a < V b
 ·rw [if_pos c]
  refine zd ?_ (Ev.now _)
  unfold zO; rw [if_pos c]; decide
 ·rw [if_neg c]
  refine ze ?_ (Ev.bind (ziF ha hb (by omega) (by omega)) (Ev.now _))
  unfold zO; rw [if_neg c]; split <;> decide
theorem zgg (A Bl : List Int) (hA : Dg A) (hB : Dg Bl) (hl : A.length < 1000000000) (hl2 : Bl.length < 1000000000) : ∀ (d : Nat) (done : List Int) (c : Int), done.length + d = max A.length Bl.length → 0 ≤ c ∧ c ≤ 1 → Dg done →
  V done + 4294967296 ^ done.length * (V (A.drop done.length) + V (Bl.drop done.length) + c.toNat) = V A + V Bl →
  Ev (fun k => zk.l0 k A Bl done c done.length) (D (V A + V Bl))
 | 0, done, c, hd, hc, hg, hv => by
  refine zf ?_
  simp only [zk.l0]
  (repeat (first | with_reducible refine ep ?_ | with_reducible refine en ?_))
  have e : c % 4294967296 = c := by omega
  rw [e]
  refine Ev.bind (zbS (hg.app (Dg.cons hc.1 (by omega) Dg.nil)) (by simp; omega)) ?_
  refine zg (Ev.now _) ?_
  rw [List.drop_eq_nil_of_le (by omega), List.drop_eq_nil_of_le (by omega)] at hv
  rw [za6, ← hv]; simp
 | d + 1, done, c, hd, hc, hg, hv => by
  have ha := hA.rd (done.length : Int)
  have hb := hB.rd (done.length : Int)
  have hx := zcw (A.drop done.length)
  have hy := zcw (Bl.drop done.length)
  rw [zc6, List.tail_drop] at hx hy
  have key : ∀ (s : Int), s = A.getD done.length 0 + Bl.getD done.length 0 + c → Ev (fun k => zk.l0 k A Bl (done ++ [s % 4294967296]) (s / 4294967296) ((done.length + 1 : Nat) : Int)) (D (V A + V Bl)) := by
   intro s hs
   have ha' := hA.getD done.length
   have hb' := hB.getD done.length
   have := zgg A Bl hA hB hl hl2 d (done ++ [s % 4294967296]) (s / 4294967296) (by simp; omega) (by omega) (hg.app (Dg.cons (by omega) (by omega) Dg.nil)) (by
    rw [za6, List.length_append, List.length_singleton, Nat.pow_succ, Nat.mul_assoc, Nat.add_assoc, ← Nat.mul_add, ← hv]
    congr 2
    simp only [zy, zN]
    omega)
   rwa [List.length_append, List.length_singleton] at this
  have hr : ∀ l : List Int, rd l (done.length : Int) = l.getD done.length 0 := fun l => rdn l _
  refine zf ?_
  simp only [zk.l0]
  by_cases c1 : done.length < A.length
  ·(repeat (first | with_reducible refine ep ?_ | with_reducible refine en ?_))
   refine zf ?_
   simp only [zk.j2]
   by_cases c2 : done.length < Bl.length
   ·(repeat (first | with_reducible refine ep ?_ | with_reducible refine en ?_))
    refine zf ?_
    simp only [zk.j3, zJ (n := done.length) (by omega)]
    (repeat (first | with_reducible refine ep ?_ | with_reducible refine en ?_))
    rw [u64 ha.1 (by omega), u64 hb.1 (by omega), u64 (n := c + rd A (done.length : Int)) (by omega) (by omega), u64 (by omega) (by omega)]
    exact key _ (by rw [hr, hr]; omega)
   ·(repeat (first | with_reducible refine ep ?_ | with_reducible refine en ?_))
    refine zf ?_
    simp only [zk.j3, zJ (n := done.length) (by omega)]
    (repeat (first | with_reducible refine ep ?_ | with_reducible refine en ?_))
    rw [u64 ha.1 (by omega), u64 (by omega) (by omega)]
    refine key _ ?_
    have : Bl.getD done.length 0 = 0 := by rw [List.getD_eq_getElem?_getD, List.getElem?_eq_none (by omega)]; rfl
    rw [hr, this]; omega
  ·(repeat (first | with_reducible refine ep ?_ | with_reducible refine en ?_))
   have c2 : done.length < Bl.length := by omega
   refine zf ?_
   simp only [zk.j2]
   (repeat (first | with_reducible refine ep ?_ | with_reducible refine en ?_))
   refine zf ?_
   simp only [zk.j3, zJ (n := done.length) (by omega)]
   (repeat (first | with_reducible refine ep ?_ | with_reducible refine en ?_))
   rw [u64 hb.1 (by omega), u64 (by omega) (by omega)]
   refine key _ ?_
   have : A.getD done.length 0 = 0 := by rw [List.getD_eq_getElem?_getD, List.getElem?_eq_none (by omega)]; rfl
   rw [hr, this]; omega
theorem zcn {a b : List Int} (ha : Dg a) (hb : Dg b) (la : a.length < 1000000000) (lb : b.length < 1000000000) : Ev (fun k => zk.f k a b) (D (V a + V b)) := by
 unfold zk.f
 have := zgg a b ha hb la lb (max a.length b.length) [] 0 (by simp) (by omega) Dg.nil (by simp)
 simpa using this
theorem zgt (A Bl : List Int) (hA : Dg A) (hB : Dg Bl) (hl : A.length < 1000000000) : ∀ (d : Nat) (done : List Int) (c : Int), done.length + d = A.length → 0 ≤ c ∧ c ≤ 1 → Dg done →
  Ev (fun k => zq.l0 k A Bl done c done.length) (D (V (done ++ zaV (A.drop done.length) (Bl.drop done.length) c)))
 | 0, done, c, hd, hc, hg => by
  refine zf ?_
  simp only [zq.l0]
  (repeat (first | with_reducible refine ep ?_ | with_reducible refine en ?_))
  rw [List.drop_eq_nil_of_le (show A.length ≤ done.length by omega)]
  simp only [zaV, List.append_nil]
  refine Ev.bind (zbS hg (by omega)) ?_
  exact Ev.now _
 | d + 1, done, c, hd, hc, hg => by
  have ha := hA.rd (done.length : Int)
  have hb := hB.rd (done.length : Int)
  have hc1 : done.length < A.length := by omega
  have hx : A.drop done.length = A.getD done.length 0 :: A.drop (done.length + 1) := by
   rw [List.drop_eq_getElem_cons hc1]; simp [hc1]
  have key : ∀ (s z : Int), z = Bl.getD done.length 0 → s % 4294967296 = (A.getD done.length 0 - z - c) % 4294967296 → ∀ c', c' = (if A.getD done.length 0 < z + c then 1 else 0) → Ev (fun k => zq.l0 k A Bl (done ++ [s % 4294967296]) c' ((done.length + 1 : Nat) : Int)) (D (V (done ++ zaV (A.drop done.length) (Bl.drop done.length) c))) := by
   rintro s z rfl hs c' rfl
   have := zgt A Bl hA hB hl d (done ++ [s % 4294967296]) (if A.getD done.length 0 < Bl.getD done.length 0 + c then 1 else 0) (by simp; omega) (by split <;> omega) (hg.app (Dg.cons (by omega) (by omega) Dg.nil))
   rw [List.length_append, List.length_singleton] at this
   refine zg this ?_
   rw [hx, zaV, zc6, List.tail_drop, hs]; simp
  have hr : ∀ l : List Int, rd l (done.length : Int) = l.getD done.length 0 := fun l => rdn l _
  refine zf ?_
  simp only [zq.l0, zJ (n := done.length) (by omega)]
  (repeat (first | with_reducible refine ep ?_ | with_reducible refine en ?_))
  rw [hr] at ha hb
  by_cases c2 : done.length < Bl.length
  ·(repeat (first | with_reducible refine ep ?_ | with_reducible refine en ?_))
   refine zf ?_
   simp only [zq.j1]
   (repeat (first | with_reducible refine ep ?_ | with_reducible refine en ?_))
   rw [hr, hr, u64 ha.1 (by omega), u64 hb.1 (by omega), u64 (n := c + Bl.getD done.length 0) (by omega) (by omega)]
   by_cases c3 : A.getD done.length 0 < c + Bl.getD done.length 0
   ·(repeat (first | with_reducible refine ep ?_ | with_reducible refine en ?_))
    rw [u64 (n := A.getD done.length 0 + 4294967296) (by omega) (by omega)]
    refine zf ?_
    simp only [zq.j2, zJ (n := done.length) (by omega)]
    (repeat (first | with_reducible refine ep ?_ | with_reducible refine en ?_))
    rw [u64 (by omega) (by omega)]
    exact key _ (Bl.getD done.length 0) rfl (by omega) 1 (by rw [if_pos (by omega)])
   ·(repeat (first | with_reducible refine ep ?_ | with_reducible refine en ?_))
    refine zf ?_
    simp only [zq.j2, zJ (n := done.length) (by omega)]
    (repeat (first | with_reducible refine ep ?_ | with_reducible refine en ?_))
    rw [u64 (by omega) (by omega)]
    exact key _ (Bl.getD done.length 0) rfl (by omega) 0 (by rw [if_neg (by omega)])
  ·(repeat (first | with_reducible refine ep ?_ | with_reducible refine en ?_))
   have hz : Bl.getD done.length 0 = 0 := by rw [List.getD_eq_getElem?_getD, List.getElem?_eq_none (by omega)]; rfl
   refine zf ?_
   simp only [zq.j1]
   (repeat (first | with_reducible refine ep ?_ | with_reducible refine en ?_))
   rw [hr, u64 ha.1 (by omega)]
   by_cases c3 : A.getD done.length 0 < c
   ·(repeat (first | with_reducible refine ep ?_ | with_reducible refine en ?_))
    rw [u64 (n := A.getD done.length 0 + 4294967296) (by omega) (by omega)]
    refine zf ?_
    simp only [zq.j2, zJ (n := done.length) (by omega)]
    (repeat (first | with_reducible refine ep ?_ | with_reducible refine en ?_))
    rw [u64 (by omega) (by omega)]
    exact key _ (Bl.getD done.length 0) rfl (by omega) 1 (by rw [if_pos (by omega)])
   ·(repeat (first | with_reducible refine ep ?_ | with_reducible refine en ?_))
    refine zf ?_
    simp only [zq.j2, zJ (n := done.length) (by omega)]
    (repeat (first | with_reducible refine ep ?_ | with_reducible refine en ?_))
    rw [u64 (by omega) (by omega)]
    exact key _ (Bl.getD done.length 0) rfl (by omega) 0 (by rw [if_neg (by omega)])
theorem zdO {a b : List Int} (ha : Nm a) (hb : Nm b) (la : a.length < 1000000000) (h : V b ≤ V a) : Ev (fun k => zq.f k a b) (D (V a - V b)) := by
 unfold zq.f
 have hl : b.length ≤ a.length := by rw [← ha.len, ← hb.len]; exact zc0 h
 have := zgt a b ha.dg hb.dg la a.length [] 0 (by simp) (by omega) Dg.nil
 refine zg this ?_
 have h2 := zgE ha.dg hb.dg (c := 0) (by omega) hl (by simpa using h)
 simp [h2.1]
theorem zdI {x y : Int} (hx : 0 ≤ x ∧ x < 4294967296) (hy : 0 ≤ y ∧ y < 4294967296) : 0 ≤ x * y ∧ x * y ≤ 18446744065119617025 := by
 constructor
 ·exact Int.mul_nonneg hx.1 hy.1
 ·have h1 : x * y ≤ 4294967295 * y := Int.mul_le_mul_of_nonneg_right (by omega) hy.1
  have h2 : 4294967295 * y ≤ 4294967295 * 4294967295 := Int.mul_le_mul_of_nonneg_left (by omega) (by omega)
  omega
def zW : Int → List Int → List Int → Int → List Int
 | _, [], o, c => c :: o.tail
 | x, y :: b, o, c => ((x * y + o.headD 0 + c) % 4294967296) :: zW x b o.tail ((x * y + o.headD 0 + c) / 4294967296)
theorem zeG {x y : Int} (hx : 0 ≤ x) (hy : 0 ≤ y) : (x * y).toNat = x.toNat * y.toNat := Int.toNat_mul hx hy
theorem zeA {x : Int} (hx : 0 ≤ x ∧ x < 4294967296) : ∀ (b o : List Int) (c : Int) (m : Nat), Dg b → Dg o → 0 ≤ c ∧ c < 4294967296 → o.drop b.length = List.replicate (m + 1) 0 →
  V (zW x b o c) = V o + x.toNat * V b + c.toNat ∧ Dg (zW x b o c) ∧ (zW x b o c).tail.drop b.length = List.replicate m 0 ∧ (zW x b o c).length = o.length
 | [], o, c, m, hb, ho, hc, hz => by
  have hz' : o = 0 :: List.replicate m 0 := by simpa [List.replicate_succ] using hz
  subst hz'
  refine ⟨?_, ?_, ?_, ?_⟩
  ·simp [zW, zdq]
  ·exact Dg.cons hc.1 hc.2 (Dg.zeros m)
  ·simp [zW]
  ·simp [zW]
 | y :: b, o, c, m, hb, ho, hc, hz => by
  obtain ⟨o0, o, rfl⟩ : ∃ o0 o', o = o0 :: o' := by
   cases o with
   | nil => simp at hz
   | cons o0 o' => exact ⟨o0, o', rfl⟩
  have hy := hb.head
  have h0 := ho.head
  have hp := zdI hx hy
  have hz2 : o.drop b.length = List.replicate (m + 1) 0 := by simpa using hz
  have := zeA hx b o ((x * y + o0 + c) / 4294967296) m hb.tail ho.tail (by omega) hz2
  simp only [zW, List.headD_cons, List.tail_cons]
  refine ⟨?_, Dg.cons (by omega) (by omega) this.2.1, ?_, by simp [this.2.2.2]⟩
  ·have e1 : x.toNat * (y.toNat + 4294967296 * V b) = (x * y).toNat + 4294967296 * (x.toNat * V b) := by
    rw [Nat.mul_add, Nat.mul_left_comm, zeG hx.1 hy.1]
   rw [zy, this.1, zy, zy, e1]
   omega
  ·obtain ⟨r0, r, hr⟩ : ∃ r0 r', zW x b o ((x * y + o0 + c) / 4294967296) = r0 :: r' := by
    cases h : zW x b o ((x * y + o0 + c) / 4294967296) with
    | nil =>
     have hl := this.2.2.2
     rw [h] at hl
     have : o = [] := List.eq_nil_of_length_eq_zero (by simpa using hl.symm)
     subst this; simp at hz2
    | cons r0 r' => exact ⟨r0, r', rfl⟩
   have h3 := this.2.2.1
   rw [hr] at h3 ⊢
   simpa using h3
def zbh : List Int → List Int → List Int → List Int
 | [], _, o => o
 | x :: a, b, o => (zW x b o 0).headD 0 :: zbh a b (zW x b o 0).tail
theorem zfQ : ∀ (a b o : List Int), Dg a → Dg b → Dg o → o.drop b.length = List.replicate a.length 0 → V (zbh a b o) = V o + V a * V b ∧ Dg (zbh a b o) ∧ (zbh a b o).length = o.length
 | [], b, o, ha, hb, ho, hz => by simp [zbh, ho]
 | x :: a, b, o, ha, hb, ho, hz => by
  have hr := zeA ha.head b o 0 a.length hb ho (by omega) (by simpa using hz)
  obtain ⟨r0, r, he⟩ : ∃ r0 r', zW x b o 0 = r0 :: r' := by
   cases h : zW x b o 0 with
   | nil =>
    have hl := hr.2.2.2
    rw [h] at hl
    have : o = [] := List.eq_nil_of_length_eq_zero (by simpa using hl.symm)
    subst this; simp at hz
   | cons r0 r' => exact ⟨r0, r', rfl⟩
  rw [he] at hr
  have := zfQ a b r ha.tail hb hr.2.1.tail (by simpa using hr.2.2.1)
  simp only [zbh, he, List.headD_cons, List.tail_cons]
  refine ⟨?_, Dg.cons hr.2.1.head.1 hr.2.1.head.2 this.2.1, ?_⟩
  ·have h1 := hr.1
   rw [zy] at h1
   rw [zy, this.1, zy, Nat.add_mul, Nat.mul_add, Nat.mul_assoc]
   simp at h1
   omega
  ·have := hr.2.2.2
   simp at this ⊢; omega
theorem zdX {l : List Int} (h : Nm l) (h0 : l ≠ []) : 4294967296 ^ (l.length - 1) ≤ V l := by
 have h1 : V l ≠ 0 := fun e => h0 ((zcv h).1 e)
 have := zgZ h1
 rwa [h.len] at this
def conv : List Int → List Int → Nat → Nat
 | [], _, _ => 0
 | x :: _, b, 0 => x.toNat * (b.getD 0 0).toNat
 | x :: a, b, k + 1 => x.toNat * (b.getD (k + 1) 0).toNat + conv a b k
def zaZ (a b : List Int) : Nat → Nat
 | 0 => 0
 | n + 1 => zaZ a b n + 4294967296 ^ n * conv a b n
theorem ze0 (l : List Int) (n : Nat) : V (l.take (n + 1)) = V (l.take n) + 4294967296 ^ n * (l.getD n 0).toNat := by
 by_cases h : n < l.length
 ·exact zdp h
 ·have e : l.getD n 0 = 0 := by rw [List.getD_eq_getElem?_getD, List.getElem?_eq_none (by omega)]; rfl
  rw [List.take_of_length_le (by omega), List.take_of_length_le (by omega), e]; simp
theorem zhw (b : List Int) (n : Nat) : zaZ [] b n = 0 := by
 induction n with
 | zero => rfl
 | succ n ih => simp [zaZ, ih, conv]
theorem zhv (x : Int) (a b : List Int) (n : Nat) : zaZ (x :: a) b (n + 1) = x.toNat * V (b.take (n + 1)) + 4294967296 * zaZ a b n := by
 induction n with
 | zero =>
  have := ze0 b 0
  simp at this
  simp [zaZ, conv, this]
 | succ n ih =>
  have e := ze0 b (n + 1)
  rw [zaZ, ih, conv, e, zaZ, Nat.pow_succ]
  grind
theorem zhu (a b : List Int) (n : Nat) (h : a.length + b.length ≤ n) : zaZ a b n = V a * V b := by
 induction a generalizing n with
 | nil => simp [zhw]
 | cons x a ih =>
  cases n with
  | zero => simp at h
  | succ n =>
   rw [zhv, ih n (by simp at h; omega), List.take_of_length_le (by simp at h; omega), zy, Nat.add_mul, Nat.mul_assoc]
theorem zhy {a b : List Int} (ha : Dg a) (hb : Dg b) (k : Nat) : conv a b k ≤ a.length * 18446744065119617025 := by
 induction a generalizing k with
 | nil => simp [conv]
 | cons x a ih =>
  have hx := ha.head
  have key : ∀ j, x.toNat * (b.getD j 0).toNat ≤ 18446744065119617025 := by
   intro j
   have hy := hb.getD j
   have hp := zdI hx hy
   rw [← zeG hx.1 hy.1]; omega
  cases k with
  | zero => rw [conv]; have := key 0; simp only [List.length_cons]; omega
  | succ k => rw [conv]; have := key (k + 1); have := ih ha.tail k; simp only [List.length_cons]; omega
theorem zhx {a b : List Int} {k : Nat} (h : b.length ≤ k) (hk : 0 < k) : conv a b k = conv (a.drop 1) b (k - 1) := by
 cases a with
 | nil => simp [conv]
 | cons x a =>
  obtain ⟨k, rfl⟩ : ∃ m, k = m + 1 := ⟨k - 1, by omega⟩
  have e : b.getD (k + 1) 0 = 0 := by rw [List.getD_eq_getElem?_getD, List.getElem?_eq_none (by omega)]; rfl
  rw [conv, e]; simp
theorem zfu (a b : List Int) (k : Nat) : ∀ n, n + b.length ≤ k + 1 → n ≤ k → conv a b k = conv (a.drop n) b (k - n)
 | 0, _, _ => by simp
 | n + 1, h, hk => by
  rw [zfu a b k n (by omega) (by omega), zhx (by omega) (by omega), List.drop_drop]
  rw [Nat.sub_sub]
theorem ziL {x y : Int} (h0 : 0 ≤ x ∧ x < 4294967296) (h1 : 0 ≤ y) : Go.bits .or .u64 x (IntKind.u64.wrap (y * 4294967296)) = x + (y % 4294967296) * 4294967296 := by
 rw [zam]
 obtain ⟨X, rfl⟩ := Int.eq_ofNat_of_zero_le h0.1
 obtain ⟨Y, rfl⟩ := Int.eq_ofNat_of_zero_le h1
 have e : (Y : Int) * 4294967296 % 18446744073709551616 = ((2 ^ 32 * (Y % 4294967296) : Nat) : Int) := by omega
 rw [e, u64_or_nat _ _ (by omega) (by omega), Nat.or_comm, ← Nat.two_pow_add_eq_or_of_lt (by omega)]
 omega
theorem zez (A Bl : List Int) (hA : Dg A) (hB : Dg Bl) (hl : A.length < 1000000000) (hlb : Bl.length < 1000000000) (out : List Int) (k : Nat) (hk : k < A.length + Bl.length) (hout : out.length < 1000000000) (T : Nat) (hT : T < 79228162514264337593543950336000) (res : List Int)
  (H : Ev (fun q => zx.l0 q A Bl (out ++ [((T % 4294967296 : Nat) : Int)]) (((T / 4294967296) % 18446744073709551616 : Nat) : Int) (((T / 4294967296) / 18446744073709551616 : Nat) : Int) ((k + 1 : Nat) : Int)) res) :
  ∀ (d i : Nat) (low high : Int), i + d = k + 1 → 0 ≤ low ∧ low < 18446744073709551616 → 0 ≤ high → k < i + Bl.length → low.toNat + 18446744073709551616 * high.toNat + (if i ≤ k then conv (A.drop i) Bl (k - i) else 0) = T →
  Ev (fun q => zx.l1 q A Bl out low high k i) res
 | d, i, low, high, hd, hlow, hhigh, hi, he => by
  have fin : low.toNat + 18446744073709551616 * high.toNat = T → Ev (fun q => if out.length + ([low % 4294967296] : List Int).length < 35184372088832 then zx.l0 q A Bl (out ++ [low % 4294967296]) (Go.bits .or .u64 (low / 4294967296) (IntKind.u64.wrap (high * 4294967296))) (high / 4294967296) ((k + 1 : Nat) : Int) else none) res := by
   intro e
   (repeat (first | with_reducible refine ep ?_ | with_reducible refine en ?_))
   rw [ziL (by omega) hhigh]
   have e1 : low % 4294967296 = ((T % 4294967296 : Nat) : Int) := by omega
   have e2 : low / 4294967296 + high % 4294967296 * 4294967296 = (((T / 4294967296) % 18446744073709551616 : Nat) : Int) := by omega
   have e3 : high / 4294967296 = (((T / 4294967296) / 18446744073709551616 : Nat) : Int) := by omega
   rw [e1, e2, e3]; exact H
  refine zf ?_
  have e : wrap64 ((k : Int) - (i : Int)) = (k : Int) - (i : Int) := by unfold wrap64; omega
  simp only [zx.l1, e, zJ (n := i) (by omega), zJ (n := k) (by omega)]
  clear e
  by_cases c1 : i ≤ k
  ·rw [if_pos c1] at he
   by_cases c2 : i < A.length
   ·have hx : A.drop i = A.getD i 0 :: A.drop (i + 1) := by rw [List.drop_eq_getElem_cons c2]; simp [c2]
    have ha := hA.getD i
    have hb := hB.getD (k - i)
    have hp := zdI ha hb
    have hpN := zeG ha.1 hb.1
    have e : (k : Int) - (i : Int) = ((k - i : Nat) : Int) := by omega
    (repeat (first | with_reducible refine ep ?_ | with_reducible refine en ?_))
    rw [e]
    rw [rdn, rdn, u64 ha.1 (by omega), u64 hb.1 (by omega), u64 hp.1 (by omega)]
    generalize hP : A.getD i 0 * Bl.getD (k - i) 0 = P at *
    have hc : conv (A.drop i) Bl (k - i) = P.toNat + (if i + 1 ≤ k then conv (A.drop (i + 1)) Bl (k - (i + 1)) else 0) := by
     rw [hx, hpN]
     by_cases c3 : i + 1 ≤ k
     ·rw [if_pos c3, show k - i = (k - (i + 1)) + 1 by omega, conv]
     ·rw [if_neg c3, show k - i = 0 by omega, conv]; simp
    rw [hc] at he
    obtain ⟨d, rfl⟩ : ∃ m, d = m + 1 := ⟨d - 1, by omega⟩
    by_cases c4 : low + P < 18446744073709551616
    ·rw [u64 (n := low + P) (by omega) (by omega)]
     (repeat (first | with_reducible refine ep ?_ | with_reducible refine en ?_))
     exact zez A Bl hA hB hl hlb out k hk hout T hT res H d (i + 1) (low + P) high (by omega) (by omega) hhigh (by omega) (by omega)
    ·have e5 : IntKind.u64.wrap (low + P) = low + P - 18446744073709551616 := by rw [zam]; omega
     rw [e5]
     (repeat (first | with_reducible refine ep ?_ | with_reducible refine en ?_))
     rw [u64 (n := high + 1) (by omega) (by omega)]
     exact zez A Bl hA hB hl hlb out k hk hout T hT res H d (i + 1) (low + P - 18446744073709551616) (high + 1) (by omega) (by omega) (by omega) (by omega) (by omega)
   ·refine zd (by omega) (ze (by omega) (fin ?_))
    rw [List.drop_eq_nil_of_le (by omega), conv] at he
    omega
  ·rw [if_neg c1] at he
   exact ze (by omega) (fin (by omega))
theorem zgp (A Bl : List Int) (hA : Dg A) (hB : Dg Bl) (hl : A.length < 100000000) (hlb : Bl.length < 100000000) (hb0 : 0 < Bl.length) : ∀ (d : Nat) (out : List Int) (T : Nat), out.length + d = A.length + Bl.length → Dg out → T < 79228162514264337593543950336 → V out + 4294967296 ^ out.length * T = zaZ A Bl out.length →
  Ev (fun q => zx.l0 q A Bl out ((T % 18446744073709551616 : Nat) : Int) ((T / 18446744073709551616 : Nat) : Int) out.length) (D (V A * V Bl))
 | 0, out, T, hd, hg, hT, hv => by
  refine zf ?_
  have e : wrap64 ((A.length : Int) + (Bl.length : Int)) = ((A.length + Bl.length : Nat) : Int) := by unfold wrap64; omega
  simp only [zx.l0, e]
  clear e
  refine ze (by omega) (Ev.bind (zbS hg (by omega)) (zg (Ev.now _) ?_))
  rw [zhu A Bl _ (by omega)] at hv
  have h1 := zaO hA
  have h2 := zaO hB
  have h3 : V A * V Bl < 4294967296 ^ out.length := by
   rw [show out.length = A.length + Bl.length by omega, Nat.pow_add]
   exact Nat.mul_lt_mul'' h1 h2
  have h4 : T = 0 := by
   rcases Nat.eq_zero_or_pos T with h | h
   ·exact h
   ·have := Nat.mul_le_mul_left (4294967296 ^ out.length) h
    omega
  subst h4
  rw [← hv]; simp
 | d + 1, out, T, hd, hg, hT, hv => by
  refine zf ?_
  have e : wrap64 ((A.length : Int) + (Bl.length : Int)) = ((A.length + Bl.length : Nat) : Int) := by unfold wrap64; omega
  simp only [zx.l0, e]
  clear e
  have hcl := zhy hA hB out.length
  have hcl2 : A.length * 18446744065119617025 ≤ 100000000 * 18446744065119617025 := Nat.mul_le_mul_right _ (by omega)
  have next : Ev (fun q => zx.l0 q A Bl (out ++ [(((T + conv A Bl out.length) % 4294967296 : Nat) : Int)]) ((((T + conv A Bl out.length) / 4294967296) % 18446744073709551616 : Nat) : Int) ((((T + conv A Bl out.length) / 4294967296) / 18446744073709551616 : Nat) : Int) ((out.length + 1 : Nat) : Int)) (D (V A * V Bl)) := by
   have := zgp A Bl hA hB hl hlb hb0 d (out ++ [(((T + conv A Bl out.length) % 4294967296 : Nat) : Int)]) ((T + conv A Bl out.length) / 4294967296) (by simp; omega) (hg.app (Dg.cons (by omega) (by omega) Dg.nil)) (by omega) (by
    rw [za6, List.length_append, List.length_singleton, zaZ, ← hv, Nat.pow_succ, Nat.mul_assoc, Nat.add_assoc, ← Nat.mul_add, Nat.add_assoc, ← Nat.mul_add]
    congr 2
    simp only [zy, zN]
    omega)
   rwa [List.length_append, List.length_singleton] at this
  (repeat (first | with_reducible refine ep ?_ | with_reducible refine en ?_))
  have j2 : ∀ (i : Nat), i ≤ out.length → out.length < i + Bl.length → conv A Bl out.length = conv (A.drop i) Bl (out.length - i) → Ev (fun q => zx.j3 q A Bl out ((T % 18446744073709551616 : Nat) : Int) ((T / 18446744073709551616 : Nat) : Int) out.length i) (D (V A * V Bl)) := by
   intro i h1 h2 h3
   refine zf ?_
   simp only [zx.j3]
   exact zez A Bl hA hB (by omega) (by omega) out out.length (by omega) (by omega) (T + conv A Bl out.length) (by omega) _ next (out.length + 1 - i) i _ _ (by omega) (by omega) (by omega) h2 (by rw [if_pos h1, ← h3]; omega)
  by_cases c1 : out.length ≥ Bl.length
  ·(repeat (first | with_reducible refine ep ?_ | with_reducible refine en ?_))
   have c2 := hb0
   ·have e : wrap64 (wrap64 ((out.length : Int) - (Bl.length : Int)) + 1) = ((out.length + 1 - Bl.length : Nat) : Int) := by unfold wrap64; omega
    rw [e]
    clear e
    exact j2 _ (by omega) (by omega) (zfu A Bl out.length _ (by omega) (by omega))
  ·(repeat (first | with_reducible refine ep ?_ | with_reducible refine en ?_)); exact j2 0 (by omega) (by omega) (by simp)
theorem zje {a b : List Int} (ha : Dg a) (hb : Dg b) (la : a.length < 100000000) (lb : b.length < 100000000) : Ev (fun k => zx.f k a b) (D (V a * V b)) := by
 unfold zx.f
 by_cases c1 : a.length = 0
 ·(repeat (first | with_reducible refine ep ?_ | with_reducible refine en ?_))
  have : a = [] := List.eq_nil_of_length_eq_zero c1
  subst this
  refine zg (Ev.now _) ?_
  simp [zC]
 ·(repeat (first | with_reducible refine ep ?_ | with_reducible refine en ?_))
  by_cases c2 : b.length = 0
  ·(repeat (first | with_reducible refine ep ?_ | with_reducible refine en ?_))
   have : b = [] := List.eq_nil_of_length_eq_zero c2
   subst this
   refine zg (Ev.now _) ?_
   simp [zC]
  ·(repeat (first | with_reducible refine ep ?_ | with_reducible refine en ?_))
   have := zgp a b ha hb la lb (by omega) (a.length + b.length) [] 0 (by simp) Dg.nil (by omega) (by simp [zaZ])
   simpa using this
def bl (n : Nat) : Nat := if n = 0 then 0 else n.log2 + 1
theorem zdx : bl 0 = 0 := rfl
theorem zbA {n : Nat} (h : n ≠ 0) : 2 ^ (bl n - 1) ≤ n := by
 unfold bl; rw [if_neg h]; exact Nat.log2_self_le h
theorem z3 (n : Nat) : n < 2 ^ bl n := by
 unfold bl
 split
 ·subst n; simp
 ·exact Nat.lt_log2_self
theorem zcA {n : Nat} (h : n ≠ 0) : 0 < bl n := by unfold bl; rw [if_neg h]; omega
theorem zav {n k : Nat} (h : n < 2 ^ k) : bl n ≤ k := by
 by_cases e : n = 0
 ·subst e; simp [zdx]
 ·have h1 := zbA e
  have h2 := zcA e
  have : bl n - 1 < k := (Nat.pow_lt_pow_iff_right (a := 2) (by omega)).1 (Nat.lt_of_le_of_lt h1 h)
  omega
theorem zhl {n k : Nat} (h1 : 2 ^ k ≤ n) (h2 : n < 2 ^ (k + 1)) : bl n = k + 1 := by
 have := zav h2
 have h3 : 2 ^ k < 2 ^ bl n := Nat.lt_of_le_of_lt h1 (z3 n)
 have := (Nat.pow_lt_pow_iff_right (a := 2) (by omega)).1 h3
 omega
theorem zcB {n k : Nat} (h : 2 ^ k ≤ n) : bl n = k + bl (n / 2 ^ k) := by
 have hp : 0 < 2 ^ k := Nat.pow_pos (by omega)
 have h0 : n / 2 ^ k ≠ 0 := by
  have := (Nat.le_div_iff_mul_le hp (x := 1) (y := n)).2 (by omega)
  omega
 have h1 := zbA h0
 have h2 := z3 (n / 2 ^ k)
 have h3 := zcA h0
 have e : k + bl (n / 2 ^ k) = (k + (bl (n / 2 ^ k) - 1)) + 1 := by omega
 rw [e]
 apply zhl
 ·rw [Nat.pow_add]
  have := (Nat.le_div_iff_mul_le hp).1 h1
  rw [Nat.mul_comm]; exact this
 ·have := (Nat.div_lt_iff_lt_mul hp).1 h2
  rw [show k + (bl (n / 2 ^ k) - 1) + 1 = bl (n / 2 ^ k) + k by omega, Nat.pow_add]
  exact this
theorem zhk {n : Nat} (h : n ≠ 0) : bl n = bl (n / 2) + 1 := by
 by_cases h1 : n = 1
 ·subst h1; rfl
 ·have := zcB (n := n) (k := 1) (by omega)
  simp at this; omega
theorem zbB {a b : Nat} (h : a ≤ b) : bl a ≤ bl b := zav (Nat.lt_of_le_of_lt h (z3 b))
def zgI : ByteArray := ⟨#[0, 1, 2, 2, 3, 3, 3, 3, 4, 4, 4, 4, 4, 4, 4, 4, 5, 5, 5, 5, 5, 5, 5, 5, 5, 5, 5, 5, 5, 5, 5, 5, 6, 6, 6, 6, 6, 6, 6, 6, 6, 6, 6, 6, 6, 6, 6, 6, 6, 6, 6, 6, 6, 6, 6, 6, 6, 6, 6, 6, 6, 6, 6, 6, 7, 7, 7, 7, 7, 7, 7, 7, 7, 7, 7, 7, 7, 7, 7, 7, 7, 7, 7, 7, 7, 7, 7, 7, 7, 7, 7, 7, 7, 7, 7, 7, 7, 7, 7, 7, 7, 7, 7, 7, 7, 7, 7, 7, 7, 7, 7, 7, 7, 7, 7, 7, 7, 7, 7, 7, 7, 7, 7, 7, 7, 7, 7, 7, 8, 8, 8, 8, 8, 8, 8, 8, 8, 8, 8, 8, 8, 8, 8, 8, 8, 8, 8, 8, 8, 8, 8, 8, 8, 8, 8, 8, 8, 8, 8, 8, 8, 8, 8, 8, 8, 8, 8, 8, 8, 8, 8, 8, 8, 8, 8, 8, 8, 8, 8, 8, 8, 8, 8, 8, 8, 8, 8, 8, 8, 8, 8, 8, 8, 8, 8, 8, 8, 8, 8, 8, 8, 8, 8, 8, 8, 8, 8, 8, 8, 8, 8, 8, 8, 8, 8, 8, 8, 8, 8, 8, 8, 8, 8, 8, 8, 8, 8, 8, 8, 8, 8, 8, 8, 8, 8, 8, 8, 8, 8, 8, 8, 8, 8, 8, 8, 8, 8, 8, 8, 8, 8, 8, 8, 8, 8, 8]⟩
theorem zjL : (List.range 256).all (fun i => bt zgI (i : Int) == (bl i : Int)) = true := by decide +kernel
theorem bt8 {t : ByteArray} {n : Nat} (h : n < 256) (ht : t = zgI) : bt t (n : Int) = (bl n : Int) := by
 subst ht
 have := List.all_eq_true.1 zjL n (List.mem_range.2 h)
 exact eq_of_beq this
theorem zhj {n : Nat} (h : n < 256) : bl n ≤ 8 := zav h
theorem zih : zeH.size = 256 := by decide +kernel
theorem zfJ {n : Nat} (h : n < 256) {m : Int} (hm : 0 ≤ m ∧ m ≤ 64) : Ev (fun k => zaa.j1 k (n : Int) m) (m + (bl n : Nat)) := by
 refine zf ?_
 simp only [zaa.j1]
 have e : (n : Int) % 256 = n := by omega
 have l := zhj h
 rw [e, zih]
 (repeat (first | with_reducible refine ep ?_ | with_reducible refine en ?_))
 rw [bt8 h (by rfl), zaC (n := ((bl n : Nat) : Int)) (by omega) (by omega), zaC (by omega) (by omega)]
 exact Ev.now _
theorem zfI {n : Nat} (h : n < 65536) {m : Int} (hm : 0 ≤ m ∧ m ≤ 32) : Ev (fun k => zaa.j0 k (n : Int) m) (m + (bl n : Nat)) := by
 refine zf ?_
 simp only [zaa.j0]
 by_cases c : n ≥ 256
 ·(repeat (first | with_reducible refine ep ?_ | with_reducible refine en ?_))
  have e2 : bl n = 8 + bl (n / 256) := zcB (k := 8) c
  have := zfJ (n := n / 256) (by omega) (m := m + 8) (by omega)
  rw [zaC (by omega) (by omega), show (n : Int) / 256 = ((n / 256 : Nat) : Int) by omega]
  exact zg this (by rw [e2]; omega)
 ·(repeat (first | with_reducible refine ep ?_ | with_reducible refine en ?_))
  exact zfJ (by omega) (by omega)
theorem zig {x : Int} (h : 0 ≤ x ∧ x < 4294967296) : Ev (fun k => zaa.f k x) ((bl x.toNat : Nat) : Int) := by
 obtain ⟨n, rfl⟩ := Int.eq_ofNat_of_zero_le h.1
 unfold zaa.f
 rw [Int.toNat_natCast]
 by_cases c : n ≥ 65536
 ·(repeat (first | with_reducible refine ep ?_ | with_reducible refine en ?_))
  have e1 : bl n = 16 + bl (n / 65536) := zcB (k := 16) c
  rw [show (n : Int) / 65536 = ((n / 65536 : Nat) : Int) by omega]
  exact zg (zfI (by omega) (by omega)) (by rw [e1]; omega)
 ·(repeat (first | with_reducible refine ep ?_ | with_reducible refine en ?_))
  exact zg (zfI (by omega) (by omega)) (by omega)
theorem zjm : ∀ (n : Nat) (m : Int), 0 ≤ m ∧ m + (bl n : Nat) < 4611686018427387904 → n < 4294967296 → Ev (fun k => zF.l0 k m n) (m + (bl n : Nat)) := by
 intro n
 induction n using Nat.strongRecOn with
 | _ n ih =>
  intro m hm hn
  refine zf ?_
  simp only [zF.l0]
  by_cases c : n = 0
  ·subst c
   (repeat (first | with_reducible refine ep ?_ | with_reducible refine en ?_))
   exact zg (Ev.now _) (by simp [zdx])
  ·(repeat (first | with_reducible refine ep ?_ | with_reducible refine en ?_))
   have e : (n : Int) / 2 = ((n / 2 : Nat) : Int) := by omega
   have hb := zhk c
   rw [e, zaC (by omega) (by omega)]
   refine zg (ih (n / 2) (by omega) (m + 1) (by omega) (by omega)) ?_
   omega
theorem zfe {l : List Int} (h : Nm l) (h0 : l ≠ []) : bl (V l) = 32 * (l.length - 1) + bl (l.getD (l.length - 1) 0).toNat := by
 rcases List.eq_nil_or_concat l with rfl | ⟨a, d, rfl⟩
 ·exact absurd rfl h0
 rw [List.concat_eq_append] at h ⊢
 have hd := h.dg d (by simp)
 have hn := zeS h
 have e : (a ++ [d]).getD ((a ++ [d]).length - 1) 0 = d := by simp
 rw [e]
 have hl : (a ++ [d]).length - 1 = a.length := by simp
 rw [hl, za6]
 simp only [zy, zN, Nat.mul_zero, Nat.add_zero]
 have hv := zaO h.dg.left
 have hp : (4294967296 : Nat) ^ a.length = 2 ^ (32 * a.length) := by rw [Nat.pow_mul]
 rw [hp] at hv ⊢
 have hpos : 0 < 2 ^ (32 * a.length) := Nat.pow_pos (by omega)
 have hd1 : 2 ^ (32 * a.length) * 1 ≤ 2 ^ (32 * a.length) * d.toNat := Nat.mul_le_mul_left _ (by omega)
 rw [zcB (n := V a + 2 ^ (32 * a.length) * d.toNat) (k := 32 * a.length) (by omega)]
 rw [Nat.add_mul_div_left _ _ hpos, Nat.div_eq_of_lt hv, Nat.zero_add]
theorem zba {l : List Int} (h : Nm l) (hb : l.length < 1000000000) : Ev (fun k => zF.f k l) ((bl (V l) : Nat) : Int) := by
 unfold zF.f
 by_cases c : l.length = 0
 ·have : l = [] := List.eq_nil_of_length_eq_zero c
  subst this
  (repeat (first | with_reducible refine ep ?_ | with_reducible refine en ?_)); exact Ev.now _
 ·(repeat (first | with_reducible refine ep ?_ | with_reducible refine en ?_))
  have e : wrap64 ((l.length : Int) - 1) = ((l.length - 1 : Nat) : Int) := by unfold wrap64; omega
  rw [e]
  clear e
  (repeat (first | with_reducible refine ep ?_ | with_reducible refine en ?_))
  have hd := h.dg.getD (l.length - 1)
  rw [rdn, zaC (by omega) (by omega)]
  generalize hx : l.getD (l.length - 1) 0 = x at hd
  obtain ⟨n, rfl⟩ := Int.eq_ofNat_of_zero_le hd.1
  have hbn : bl n ≤ 32 := zav (by omega)
  refine zg (zjm n _ (by omega) (by omega)) ?_
  have hne : l ≠ [] := fun e => c (by rw [e]; rfl)
  have hm := zeR h.dg |>.1 h
  rw [zfe h hne, hx]
  simp
theorem ziK {x y : Int} (h0 : 0 ≤ x ∧ x < 4294967296) (h1 : 0 ≤ y ∧ y < 4294967296) : Go.bits .or .u64 (x * 4294967296) y = x * 4294967296 + y := by
 obtain ⟨X, rfl⟩ := Int.eq_ofNat_of_zero_le h0.1
 obtain ⟨Y, rfl⟩ := Int.eq_ofNat_of_zero_le h1.1
 have e : (X : Int) * 4294967296 = ((2 ^ 32 * X : Nat) : Int) := by omega
 rw [e, u64_or_nat _ _ (by omega) (by omega), ← Nat.two_pow_add_eq_or_of_lt (by omega)]
 omega
theorem zjN {r x d : Int} (hr : 0 ≤ r ∧ r < d) (hx : 0 ≤ x ∧ x < 4294967296) (hd : d < 4294967296) : 0 ≤ (r * 4294967296 + x) / d ∧ (r * 4294967296 + x) / d < 4294967296 := by
 constructor
 ·exact Int.ediv_nonneg (by omega) (by omega)
 ·apply Int.ediv_lt_of_lt_mul (by omega)
  have : r * 4294967296 + 4294967296 ≤ d * 4294967296 := by omega
  rw [Int.mul_comm]; omega
theorem zkb (n : Nat) (l : List Int) : List.replicate (n + 1) (0 : Int) ++ l = List.replicate n 0 ++ 0 :: l := by
 rw [List.replicate_succ', List.append_assoc]; rfl
theorem zjD (t P X R E w : Nat) (hE : 0 < E) :
  (t + P * X + P * 4294967296 * R) / E + P * 4294967296 * w = (t + P * ((R * 4294967296 + X) % E)) / E + P * ((R * 4294967296 + X) / E + 4294967296 * w) ∧
  (t + P * X + P * 4294967296 * R) % E = (t + P * ((R * 4294967296 + X) % E)) % E := by
 have h := Nat.div_add_mod (R * 4294967296 + X) E
 have e4 : P * (R * 4294967296 + X) = P * 4294967296 * R + P * X := by rw [Nat.mul_add, Nat.mul_comm R, Nat.mul_assoc]
 generalize (R * 4294967296 + X) / E = q at *
 generalize (R * 4294967296 + X) % E = m at *
 have e3 : P * (E * q + m) = E * (P * q) + P * m := by rw [Nat.mul_add, Nat.mul_left_comm]
 rw [h, e4] at e3
 have key : t + P * X + P * 4294967296 * R = t + P * m + E * (P * q) := by
  rw [Nat.add_assoc, Nat.add_comm (P * X), e3, Nat.add_assoc, Nat.add_comm (P * m)]
 rw [key, Nat.add_mul_div_left _ _ hE, Nat.add_mul_mod_self_left, Nat.mul_add, Nat.mul_assoc P, Nat.add_assoc]
 exact ⟨rfl, rfl⟩
theorem zjE {a : List Int} (ha : Dg a) {i : Nat} (hi : i < a.length) {r d : Int} (hr : 0 ≤ r ∧ r < d) (w : Nat) :
  (V (a.take (i + 1)) + 4294967296 ^ (i + 1) * r.toNat) / d.toNat + 4294967296 ^ (i + 1) * w =
   (V (a.take i) + 4294967296 ^ i * ((r * 4294967296 + a.getD i 0) % d).toNat) / d.toNat + 4294967296 ^ i * (((r * 4294967296 + a.getD i 0) / d).toNat + 4294967296 * w) ∧
  (V (a.take (i + 1)) + 4294967296 ^ (i + 1) * r.toNat) % d.toNat = (V (a.take i) + 4294967296 ^ i * ((r * 4294967296 + a.getD i 0) % d).toNat) % d.toNat := by
 have hx := ha.getD i
 rw [zdp hi]
 obtain ⟨R, rfl⟩ := Int.eq_ofNat_of_zero_le hr.1
 obtain ⟨E, rfl⟩ := Int.eq_ofNat_of_zero_le (show 0 ≤ d by omega)
 obtain ⟨X, hX⟩ := Int.eq_ofNat_of_zero_le hx.1
 rw [hX]
 have hE : 0 < E := by omega
 clear hx hX hr ha hi
 have e1 : ((R : Int) * 4294967296 + X) % E = (((R * 4294967296 + X) % E : Nat) : Int) := by
  rw [Int.natCast_emod, Int.natCast_add, Int.natCast_mul, Int.cast_ofNat_Int]
 have e2 : ((R : Int) * 4294967296 + X) / E = (((R * 4294967296 + X) / E : Nat) : Int) := by
  rw [Int.natCast_ediv, Int.natCast_add, Int.natCast_mul, Int.cast_ofNat_Int]
 rw [e1, e2]
 rw [Int.toNat_natCast, Int.toNat_natCast, Int.toNat_natCast, Int.toNat_natCast, Int.toNat_natCast, Nat.pow_succ]
 exact zjD _ _ _ _ _ _ hE
theorem zgr {a : List Int} (ha : Dg a) (hl : a.length < 1000000000) {d : Int} (hd : 0 < d ∧ d < 4294967296) : ∀ (i : Nat) (r : Int) (done : List Int), i + done.length = a.length → 0 ≤ r ∧ r < d → Dg done →
  Ev (fun k => zaR.l0 k a d (List.replicate i 0 ++ done) r ((i : Int) - 1)) (D ((V (a.take i) + 4294967296 ^ i * r.toNat) / d.toNat + 4294967296 ^ i * V done), D ((V (a.take i) + 4294967296 ^ i * r.toNat) % d.toNat))
 | 0, r, done, hi, hr, hg => by
  refine zf ?_
  simp only [zaR.l0]
  (repeat (first | with_reducible refine ep ?_ | with_reducible refine en ?_))
  refine Ev.bind (zbS (l := List.replicate 0 0 ++ done) (by simpa using hg) (by simp; omega)) (Ev.bind (zdh hr.1 (by omega)) (zg (Ev.now _) ?_))
  have h1 : r.toNat / d.toNat = 0 := Nat.div_eq_of_lt (by omega)
  have h2 : r.toNat % d.toNat = r.toNat := Nat.mod_eq_of_lt (by omega)
  simp [h1, h2]
 | i + 1, r, done, hi, hr, hg => by
  have e0 : ((i + 1 : Nat) : Int) - 1 = (i : Int) := by omega
  have hx := ha.getD i
  have ht := zjN hr hx hd.2
  have st := zjE ha (i := i) (by omega) hr (V done)
  have hm0 : 0 ≤ (r * 4294967296 + a.getD i 0) % d := Int.emod_nonneg _ (by omega)
  have hm1 : (r * 4294967296 + a.getD i 0) % d < d := Int.emod_lt_of_pos _ (by omega)
  have ih := zgr ha hl hd i ((r * 4294967296 + a.getD i 0) % d) (((r * 4294967296 + a.getD i 0) / d) :: done) (by simp; omega) ⟨hm0, hm1⟩ (Dg.cons ht.1 ht.2 hg)
  rw [e0]
  refine zf ?_
  simp only [zaR.l0, zcq (n := i) (by omega)]
  (repeat (first | with_reducible refine ep ?_ | with_reducible refine en ?_))
  rw [rdn, u64 (n := d) (by omega) (by omega), u64 (n := r * 4294967296) (by omega) (by omega), u64 (n := a.getD i 0) (by omega) (by omega), ziK (by omega) hx,
   Int.tdiv_eq_ediv_of_nonneg (by omega), Int.tmod_eq_emod_of_nonneg (by omega), u64 ht.1 (by omega), Int.emod_eq_of_lt ht.1 ht.2]
  (repeat (first | with_reducible refine ep ?_ | with_reducible refine en ?_))
  have hs : (List.replicate (i + 1) (0 : Int) ++ done).set ((i : Int)).toNat ((r * 4294967296 + a.getD i 0) / d) = List.replicate i 0 ++ ((r * 4294967296 + a.getD i 0) / d) :: done := by
   rw [zkb, zbU (by simp)]; simp
  rw [hs]
  refine zg ih ?_
  rw [zy, st.1, st.2]
theorem zjl {a : List Int} (ha : Dg a) (hl : a.length < 1000000000) {d : Int} (hd : 0 < d ∧ d < 4294967296) : Ev (fun k => zaR.f k a d) (D (V a / d.toNat), D (V a % d.toNat)) := by
 unfold zaR.f
 (repeat (first | with_reducible refine ep ?_ | with_reducible refine en ?_))
 have := zgr ha hl hd a.length 0 [] (by simp) (by omega) Dg.nil
 rw [zcq (by omega)]
 simpa using this
theorem pw {s : Nat} (h : s ≤ 32) : 2 ^ s * 2 ^ (32 - s) = 4294967296 := by
 rw [← Nat.pow_add]; have : s + (32 - s) = 32 := by omega
 rw [this]
theorem zj (s : Nat) : 0 < 2 ^ s := Nat.pow_pos (by omega)
theorem zco {X P Q c : Nat} (hP : 0 < P) (hc : c < P) : (X * P + c) / (P * Q) = X / Q ∧ (X * P + c) % (P * Q) = P * (X % Q) + c := by
 have h1 : (X * P + c) / P = X := by rw [Nat.mul_comm, Nat.mul_add_div hP, Nat.div_eq_of_lt hc, Nat.add_zero]
 have h2 : (X * P + c) % P = c := by rw [Nat.mul_comm, Nat.mul_add_mod, Nat.mod_eq_of_lt hc]
 exact ⟨by rw [← Nat.div_div_eq_div_mul, h1], by rw [Nat.mod_mul, h1, h2, Nat.add_comm]⟩
theorem zem (s : Nat) : ((2 : Int) ^ s) = ((2 ^ s : Nat) : Int) := by simp
theorem zgy (X s : Nat) (hs : s < 32) : shl .u32 (X : Int) (s : Int) = ((X * 2 ^ s % 4294967296 : Nat) : Int) := by
 unfold shl
 rw [Int.toNat_natCast, Nat.min_eq_left (by simp [IntKind.bits]; omega), zem, ← Int.natCast_mul]
 simp [IntKind.wrap, IntKind.bits, IntKind.signed]
theorem zeE (X s : Nat) (hs : s ≤ 32) (hX : X < 4294967296) : shl .u64 (X : Int) (s : Int) = ((X * 2 ^ s : Nat) : Int) := by
 unfold shl
 rw [Int.toNat_natCast, Nat.min_eq_left (by simp [IntKind.bits]; omega), zem, ← Int.natCast_mul]
 have h1 : 2 ^ s ≤ 2 ^ 32 := Nat.pow_le_pow_right (by omega) hs
 have h2 : X * 2 ^ s ≤ 4294967295 * 2 ^ 32 := Nat.mul_le_mul (by omega) h1
 exact u64 (by omega) (by omega)
theorem zcp {k : IntKind} (X s : Nat) (hs : s ≤ k.bits) : shr k (X : Int) (s : Int) = ((X / 2 ^ s : Nat) : Int) := by
 unfold shr
 rw [Int.toNat_natCast, Nat.min_eq_left hs, zem, ← Int.natCast_ediv]
theorem zcY (X : Nat) (hX : X < 4294967296) : IntKind.u64.wrap (X : Int) = (X : Int) := u64 (by omega) (by omega)
theorem zeL {s : Nat} (hs : s ≤ 32) : wrap64 (32 - (s : Int)) = ((32 - s : Nat) : Int) := by unfold wrap64; omega
theorem zc5 {X s : Nat} (hs : s ≤ 32) (hX : X < 4294967296) : X / 2 ^ s < 2 ^ (32 - s) := by
 rw [Nat.div_lt_iff_lt_mul (zj _), Nat.mul_comm, pw hs]; exact hX
theorem zjY (X s c : Nat) (hs : s < 32) (hX : X < 4294967296) (hc : c < 2 ^ s) : Go.bits .or .u32 (shl .u32 (X : Int) (s : Int)) (c : Int) = (((X * 2 ^ s + c) % 4294967296 : Nat) : Int) := by
 have h1 := (zco (X := X) (Q := 2 ^ (32 - s)) (zj s) hc).2
 have h0 := (zco (X := X) (Q := 2 ^ (32 - s)) (c := 0) (zj s) (zj s)).2
 have hle : 2 ^ s ≤ 2 ^ 31 := Nat.pow_le_pow_right (by omega) (by omega)
 rw [pw (by omega)] at h1 h0
 rw [zgy _ _ hs, u32_or_nat _ _ (by omega) (by omega), h1]
 rw [Nat.add_zero, Nat.add_zero] at h0
 rw [h0, ← Nat.two_pow_add_eq_or_of_lt hc]
theorem zjX (X s c : Nat) (hs : s < 32) (hX : X < 4294967296) (hc : c < 2 ^ s) : (shr .u64 (IntKind.u64.wrap (X : Int)) (wrap64 (32 - (s : Int)))) % 4294967296 = (((X * 2 ^ s + c) / 4294967296 : Nat) : Int) := by
 have h1 := (zco (X := X) (Q := 2 ^ (32 - s)) (zj s) hc).1
 rw [pw (by omega)] at h1
 rw [zcY _ hX, zeL (by omega), zcp _ _ (by simp [IntKind.bits]; omega), h1]
 have := zc5 (s := 32 - s) (by omega) hX
 have h3 : X / 2 ^ (32 - s) ≤ X := Nat.div_le_self _ _
 omega
theorem zeJ (X s c : Nat) (hs : s < 32) (hX : X < 4294967296) (hc : c < 2 ^ s) : (X * 2 ^ s + c) / 4294967296 < 2 ^ s := by
 have h1 := (zco (X := X) (Q := 2 ^ (32 - s)) (zj s) hc).1
 rw [pw (by omega)] at h1
 rw [h1]
 have := zc5 (s := 32 - s) (by omega) hX
 have e : 32 - (32 - s) = s := by omega
 rwa [e] at this
theorem zjx (X s c : Nat) (hs : s < 32) (hX : X < 4294967296) (hc : c < 2 ^ s) : Go.bits .or .u64 (c : Int) (shl .u64 (IntKind.u64.wrap (X : Int)) (s : Int)) = ((X * 2 ^ s + c : Nat) : Int) := by
 have hle : 2 ^ s ≤ 2 ^ 31 := Nat.pow_le_pow_right (by omega) (by omega)
 have h2 : X * 2 ^ s ≤ 4294967295 * 2 ^ 31 := Nat.mul_le_mul (by omega) hle
 rw [zcY _ hX, zeE _ _ (by omega) hX, u64_or_nat _ _ (by omega) (by omega), Nat.or_comm, Nat.mul_comm X, ← Nat.two_pow_add_eq_or_of_lt hc]
def zbk (P : Nat) : List Int → Nat → List Int
 | [], c => [(c : Int)]
 | d :: l, c => (((d.toNat * P + c) % 4294967296 : Nat) : Int) :: zbk P l ((d.toNat * P + c) / 4294967296)
theorem zgN {s : Nat} (hs : s < 32) : ∀ (l : List Int) (c : Nat), Dg l → c < 2 ^ s → V (zbk (2 ^ s) l c) = V l * 2 ^ s + c ∧ Dg (zbk (2 ^ s) l c)
 | [], c, _, hc => by
  have hle : 2 ^ s ≤ 2 ^ 31 := Nat.pow_le_pow_right (by omega) (by omega)
  simp only [zbk, zy, zN]
  exact ⟨by omega, Dg.cons (by omega) (by omega) Dg.nil⟩
 | d :: l, c, hg, hc => by
  have hd := hg.head
  have hX : d.toNat < 4294967296 := by omega
  have ih := zgN hs l _ hg.tail (zeJ d.toNat s c hs hX hc)
  simp only [zbk, zy, ih.1]
  refine ⟨?_, Dg.cons (by omega) (by omega) ih.2⟩
  generalize hm : d.toNat * 2 ^ s + c = m
  rw [Nat.add_mul, Nat.mul_assoc]
  generalize V l * 2 ^ s = z
  omega
theorem nn {i : Nat} : 0 ≤ (i : Int) := Int.natCast_nonneg i
theorem zgP (A : List Int) (hA : Dg A) (hl : A.length < 1000000000) {s : Nat} (hs : s < 32) : ∀ (a done pa : List Int) (c : Nat), A = pa ++ a → c < 2 ^ s → Dg done → done.length + a.length < 2000000000 →
  Ev (fun k => zaU.l0 k done s c A A.length pa.length) (D (V (done ++ zbk (2 ^ s) a c)))
 | [], done, pa, c, he, hc, hg, hb => by
  have hlen : A.length = pa.length := by rw [he]; simp
  have hle : 2 ^ s ≤ 2 ^ 31 := Nat.pow_le_pow_right (by omega) (by omega)
  refine zf ?_
  simp only [zaU.l0]
  (repeat (first | with_reducible refine ep ?_ | with_reducible refine en ?_))
  exact Ev.bind (zcR (hg.app (Dg.cons (by omega) (by omega) Dg.nil)) (by simp at hb ⊢; omega)) (Ev.now _)
 | d :: a, done, pa, c, he, hc, hg, hb => by
  have hlen : A.length = pa.length + 1 + a.length := by rw [he]; simp; omega
  have hd : 0 ≤ d ∧ d < 4294967296 := by rw [he] at hA; exact hA.right.head
  obtain ⟨X, rfl⟩ := Int.eq_ofNat_of_zero_le hd.1
  have hX : X < 4294967296 := by omega
  have h1 : rd A (pa.length : Int) = (X : Int) := by rw [he]; exact zaB rfl
  refine zf ?_
  simp only [zaU.l0, h1, zJ (n := pa.length) (by omega), zjY X s c hs hX hc, zjX X s c hs hX hc]
  have w32 : wrap64 (32 - (s : Int)) = 32 - (s : Int) := by unfold wrap64; omega
  (repeat (first | with_reducible refine ep ?_ | with_reducible refine en ?_))
  have := zgP A hA hl hs a (done ++ [(((X * 2 ^ s + c) % 4294967296 : Nat) : Int)]) (pa ++ [(X : Int)]) ((X * 2 ^ s + c) / 4294967296) (by rw [he]; simp) (zeJ X s c hs hX hc) (hg.app (Dg.cons (by omega) (by omega) Dg.nil)) (by simp at hb ⊢; omega)
  rw [List.length_append, List.length_singleton] at this
  refine zg this ?_
  simp [zbk]
theorem zgv (A : List Int) (hA : Dg A) (hl : A.length < 1000000000) {s : Nat} (hs : s < 32) : ∀ (a done pa : List Int) (c : Nat), A = pa ++ a → c < 2 ^ s → Dg done → done.length + a.length < 2000000000 →
  Ev (fun k => zG.l0 k A done s c pa.length) (D (V (done ++ zbk (2 ^ s) a c)))
 | [], done, pa, c, he, hc, hg, hb => by
  have hlen : A.length = pa.length := by rw [he]; simp
  have hle : 2 ^ s ≤ 2 ^ 31 := Nat.pow_le_pow_right (by omega) (by omega)
  refine zf ?_
  have e : (c : Int) % 4294967296 = (c : Int) := by omega
  simp only [zG.l0, e]
  (repeat (first | with_reducible refine ep ?_ | with_reducible refine en ?_))
  exact Ev.bind (zbS (hg.app (Dg.cons (by omega) (by omega) Dg.nil)) (by simp at hb ⊢; omega)) (Ev.now _)
 | d :: a, done, pa, c, he, hc, hg, hb => by
  have hlen : A.length = pa.length + 1 + a.length := by rw [he]; simp; omega
  have hd : 0 ≤ d ∧ d < 4294967296 := by rw [he] at hA; exact hA.right.head
  obtain ⟨X, rfl⟩ := Int.eq_ofNat_of_zero_le hd.1
  have hX : X < 4294967296 := by omega
  have h1 : rd A (pa.length : Int) = (X : Int) := by rw [he]; exact zaB rfl
  have e1 : ((X * 2 ^ s + c : Nat) : Int) % 4294967296 = (((X * 2 ^ s + c) % 4294967296 : Nat) : Int) := by omega
  have e2 : ((X * 2 ^ s + c : Nat) : Int) / 4294967296 = (((X * 2 ^ s + c) / 4294967296 : Nat) : Int) := by omega
  refine zf ?_
  simp only [zG.l0, h1, zJ (n := pa.length) (by omega), zjx X s c hs hX hc, e1, e2]
  (repeat (first | with_reducible refine ep ?_ | with_reducible refine en ?_))
  have := zgv A hA hl hs a (done ++ [(((X * 2 ^ s + c) % 4294967296 : Nat) : Int)]) (pa ++ [(X : Int)]) ((X * 2 ^ s + c) / 4294967296) (by rw [he]; simp) (zeJ X s c hs hX hc) (hg.app (Dg.cons (by omega) (by omega) Dg.nil)) (by simp at hb ⊢; omega)
  rw [List.length_append, List.length_singleton] at this
  refine zg this ?_
  simp [zbk]
theorem t32 {n : Nat} (h : n < 4611686018427387904) : wrap64 (Int.tdiv (n : Int) 32) = ((n / 32 : Nat) : Int) := by
 rw [Int.tdiv_eq_ediv_of_nonneg (by omega)]; unfold wrap64; omega
theorem m32 (n : Nat) : Int.tmod (n : Int) 32 = ((n % 32 : Nat) : Int) := by
 rw [Int.tmod_eq_emod_of_nonneg (by omega)]; omega
theorem zcm (n : Nat) : 2 ^ n = 4294967296 ^ (n / 32) * 2 ^ (n % 32) := by
 have h : (4294967296 : Nat) = 2 ^ 32 := by decide
 rw [h, ← Nat.pow_mul, ← Nat.pow_add]; congr 1; omega
theorem zgO {a : List Int} (ha : Dg a) (n : Nat) : V (List.replicate (n / 32) 0 ++ zbk (2 ^ (n % 32)) a 0) = V a * 2 ^ n := by
 have h := (zgN (s := n % 32) (by omega) a 0 ha (zj _)).1
 rw [za6, zdq, List.length_replicate, h, Nat.zero_add, Nat.add_zero, zcm n, Nat.mul_left_comm]
theorem ziG {a : List Int} (ha : Dg a) (la : a.length < 1000000000) (n : Nat) (hn : n < 1000000000) : Ev (fun k => zaU.f k a n) (D (V a * 2 ^ n)) := by
 unfold zaU.f
 have e1 : wrap64 (wrap64 (((n / 32 : Nat) : Int) + (a.length : Int)) + 1) = ((n / 32 + a.length + 1 : Nat) : Int) := by unfold wrap64; omega
 simp only [t32 (n := n) (by omega), m32, e1]
 clear e1
 by_cases h0 : a = []
 ·subst h0
  (repeat (first | with_reducible refine ep ?_ | with_reducible refine en ?_))
  exact zg (Ev.now _) (by simp [zC])
 ·have : 0 < a.length := List.length_pos_iff.2 h0
  (repeat (first | with_reducible refine ep ?_ | with_reducible refine en ?_))
  have h := zgP a ha la (s := n % 32) (by omega) a (List.replicate (n / 32) 0) [] 0 rfl (zj _) (Dg.zeros _) (by simp; omega)
  rw [zgO ha] at h
  simp only [Int.toNat_natCast]
  simpa using h
theorem zbT {a : List Int} (ha : Dg a) (la : a.length < 1000000000) (n : Nat) (hn : n < 1000000000) : Ev (fun k => zG.f k a n) (D (V a * 2 ^ n)) := by
 unfold zG.f
 simp only [t32 (n := n) (by omega), m32]
 by_cases h0 : a = []
 ·subst h0
  (repeat (first | with_reducible refine ep ?_ | with_reducible refine en ?_))
  exact zg (Ev.now _) (by simp [zC])
 ·have : 0 < a.length := List.length_pos_iff.2 h0
  (repeat (first | with_reducible refine ep ?_ | with_reducible refine en ?_))
  have h := zgv a ha la (s := n % 32) (by omega) a (List.replicate (n / 32) 0) [] 0 rfl (zj _) (Dg.zeros _) (by simp; omega)
  rw [zgO ha] at h
  simp only [Int.toNat_natCast]
  simpa using h
theorem pw' {s : Nat} (h : s ≤ 32) : 2 ^ (32 - s) * 2 ^ s = 4294967296 := by rw [Nat.mul_comm]; exact pw h
theorem zcu {l : List Int} (h : Dg l) (q : Nat) : V (l.drop q) = V l / 4294967296 ^ q := by
 by_cases hq : q ≤ l.length
 ·have e : V l = V (l.take q) + 4294967296 ^ q * V (l.drop q) := by
   conv => lhs; rw [← List.take_append_drop q l, za6, List.length_take, Nat.min_eq_left hq]
  have hlt : V (l.take q) < 4294967296 ^ q := by
   have := zaO (h.take q); rwa [List.length_take, Nat.min_eq_left hq] at this
  rw [e, Nat.add_mul_div_left _ _ (Nat.pow_pos (by omega)), Nat.div_eq_of_lt hlt, Nat.zero_add]
 ·rw [List.drop_eq_nil_of_le (by omega), zN, Nat.div_eq_of_lt]
  exact Nat.lt_of_lt_of_le (zaO h) (Nat.pow_le_pow_right (by omega) (by omega))
theorem zdF {m : Nat} (h : m < 4294967296) : (m : Int) < 4294967296 := by omega
theorem zhD (Y s : Nat) (hs : s < 32) (hY : Y < 4294967296) : (shl .u64 (IntKind.u64.wrap (Y : Int)) (wrap64 (32 - (s : Int)))) % 4294967296 = ((2 ^ (32 - s) * (Y % 2 ^ s) : Nat) : Int) := by
 rw [zcY _ hY, zeL (by omega), zeE _ _ (by omega) hY]
 have h := (zco (X := Y) (P := 2 ^ (32 - s)) (Q := 2 ^ s) (c := 0) (zj _) (zj _)).2
 rw [pw' (by omega), Nat.add_zero, Nat.add_zero] at h
 rw [← h]; omega
theorem zdy (X Y s : Nat) (hs : s < 32) (hX : X < 4294967296) : X / 2 ^ s + 2 ^ (32 - s) * (Y % 2 ^ s) < 4294967296 := by
 have h1 := zc5 (s := s) (by omega) hX
 have h2 : Y % 2 ^ s + 1 ≤ 2 ^ s := Nat.mod_lt _ (zj _)
 have h3 := Nat.mul_le_mul_left (2 ^ (32 - s)) h2
 rw [pw' (by omega), Nat.mul_add] at h3
 omega
theorem zhC (X Y s : Nat) (hs : s < 32) (hX : X < 4294967296) (hY : Y < 4294967296) : Go.bits .or .u32 ((X / 2 ^ s : Nat) : Int) ((shl .u64 (IntKind.u64.wrap (Y : Int)) (wrap64 (32 - (s : Int)))) % 4294967296) = ((X / 2 ^ s + 2 ^ (32 - s) * (Y % 2 ^ s) : Nat) : Int) := by
 have hl := zdy X Y s hs hX
 rw [zhD Y s hs hY, u32_or_nat _ _ (Nat.lt_of_le_of_lt (Nat.le_add_right _ _) hl) (Nat.lt_of_le_of_lt (Nat.le_add_left _ _) hl), Nat.or_comm, ← Nat.two_pow_add_eq_or_of_lt (zc5 (by omega) hX), Nat.add_comm]
theorem zi8 (X Y s : Nat) (hs : s < 32) (hX : X < 4294967296) (hY : Y < 4294967296) : (Go.bits .or .u64 (shr .u64 (IntKind.u64.wrap (X : Int)) (s : Int)) (shl .u64 (IntKind.u64.wrap (Y : Int)) (wrap64 (32 - (s : Int))))) % 4294967296 = ((X / 2 ^ s + 2 ^ (32 - s) * (Y % 2 ^ s) : Nat) : Int) := by
 have hl := zc5 (s := s) (by omega) hX
 have hle : 2 ^ (32 - s) ≤ 2 ^ 32 := Nat.pow_le_pow_right (by omega) (by omega)
 have h2 : Y * 2 ^ (32 - s) ≤ 4294967295 * 2 ^ 32 := Nat.mul_le_mul (by omega) hle
 have hX2 : X / 2 ^ s ≤ X := Nat.div_le_self _ _
 rw [zcY _ hX, zcY _ hY, zeL (by omega), zeE _ _ (by omega) hY, zcp _ _ (by simp [IntKind.bits]; omega), u64_or_nat _ _ (by omega) (by omega), Nat.or_comm, Nat.mul_comm Y, ← Nat.two_pow_add_eq_or_of_lt hl, Nat.mul_comm _ Y]
 have h := (zco (X := Y) (P := 2 ^ (32 - s)) (Q := 2 ^ s) (c := X / 2 ^ s) (zj _) hl).2
 rw [pw' (by omega)] at h
 rw [Nat.add_comm (X / 2 ^ s), ← h]; omega
def zar (s : Nat) : List Int → List Int
 | [] => []
 | d :: l => ((d.toNat / 2 ^ s + 2 ^ (32 - s) * ((l.headD 0).toNat % 2 ^ s) : Nat) : Int) :: zar s l
theorem zg4 {l : List Int} {s : Nat} (hs : s ≤ 32) : V l % 2 ^ s = (l.headD 0).toNat % 2 ^ s := by
 cases l with
 | nil => simp
 | cons d l =>
  have h := pw (s := s) hs
  simp only [zy, List.headD_cons]
  rw [← h, Nat.mul_assoc, Nat.add_mul_mod_self_left]
theorem zfw {s : Nat} (hs : s < 32) : ∀ (l : List Int), Dg l → V (zar s l) = V l / 2 ^ s ∧ Dg (zar s l)
 | [], _ => by simp [zar, Dg.nil]
 | d :: l, hg => by
  have hd := hg.head
  have ih := zfw hs l hg.tail
  have hl := zdy d.toNat (l.headD 0).toNat s hs (by omega)
  simp only [zar, zy, ih.1]
  refine ⟨?_, Dg.cons nn (zdF hl) ih.2⟩
  rw [← zg4 (l := l) (by omega), Int.toNat_natCast]
  have h := pw (s := s) (by omega)
  have h' := pw' (s := s) (by omega)
  have e1 : (d.toNat + 4294967296 * V l) / 2 ^ s = d.toNat / 2 ^ s + 2 ^ (32 - s) * V l := by
   rw [← h, Nat.mul_assoc, Nat.add_mul_div_left _ _ (zj _)]
  have e2 : 2 ^ (32 - s) * V l = 2 ^ (32 - s) * (V l % 2 ^ s) + 4294967296 * (V l / 2 ^ s) := by
   rw [← h', Nat.mul_assoc, ← Nat.mul_add, Nat.mod_add_div]
  rw [e1, e2, Nat.add_assoc]
theorem zeb {a : List Int} (ha : Dg a) (n : Nat) : V (zar (n % 32) (a.drop (n / 32))) = V a / 2 ^ n := by
 rw [(zfw (by omega) _ (ha.drop _)).1, zcu ha, Nat.div_div_eq_div_mul, ← zcm]
theorem zfx (A : List Int) (hA : Dg A) (hl : A.length < 1000000000) {s : Nat} (hs : s < 32) : ∀ (a done pa : List Int), A = pa ++ a → done.length = pa.length → Dg done →
  Ev (fun k => zaL.l0 k A s (done ++ List.replicate a.length 0) A A.length pa.length) (D (V (done ++ zar s a)))
 | [], done, pa, he, hd, hg => by
  have hlen : A.length = pa.length := by rw [he]; simp
  refine zf ?_
  simp only [zaL.l0]
  (repeat (first | with_reducible refine ep ?_ | with_reducible refine en ?_))
  simp only [List.length_nil, List.replicate_zero, zar]
  exact Ev.bind (zcR (l := done ++ []) (by simpa using hg) (by simp; omega)) (Ev.now _)
 | d :: a, done, pa, he, hd, hg => by
  have hlen : A.length = pa.length + 1 + a.length := by rw [he]; simp; omega
  have hdd : 0 ≤ d ∧ d < 4294967296 := by rw [he] at hA; exact hA.right.head
  obtain ⟨X, rfl⟩ := Int.eq_ofNat_of_zero_le hdd.1
  have hX : X < 4294967296 := by omega
  have h1 : rd A (pa.length : Int) = (X : Int) := by rw [he]; exact zaB rfl
  have hg2 : Dg (a) := by rw [he] at hA; exact hA.right.tail
  have hy := hg2.headD
  have ih := zfx A hA hl hs a (done ++ [((X / 2 ^ s + 2 ^ (32 - s) * ((a.headD 0).toNat % 2 ^ s) : Nat) : Int)]) (pa ++ [(X : Int)]) (by rw [he]; simp) (by simp [hd])
   (hg.app (Dg.cons nn (zdF (zdy X (a.headD 0).toNat s hs hX)) Dg.nil))
  rw [@List.length_append _ pa, List.length_singleton] at ih
  refine zf ?_
  have hset : (done ++ List.replicate ((X : Int) :: a).length 0).set ((pa.length : Int)).toNat ((X / 2 ^ s : Nat) : Int) = (done ++ [((X / 2 ^ s : Nat) : Int)]) ++ List.replicate a.length 0 := by
   rw [List.length_cons, List.replicate_succ, zbU (by omega)]
  simp only [zaL.l0, h1, zJ (n := pa.length) (by omega), zcp (k := .u32) X s (by simp [IntKind.bits]; omega), hset, Option.bind_some]
  have w32 : wrap64 (32 - (s : Int)) = 32 - (s : Int) := by unfold wrap64; omega
  (repeat (first | with_reducible refine ep ?_ | with_reducible refine en ?_))
  by_cases hn : a = []
  ·subst hn
   simp only [List.length_nil, Nat.add_zero] at hlen
   (repeat (first | with_reducible refine ep ?_ | with_reducible refine en ?_))
   refine zg (by simpa [zar] using ih) ?_
   simp [zar]
  ·obtain ⟨y, a', rfl⟩ := List.exists_cons_of_ne_nil hn
   obtain ⟨Y, rfl⟩ := Int.eq_ofNat_of_zero_le hy.1
   simp only [List.headD_cons] at hy ih
   have hlen' := hlen
   simp only [List.length_cons] at hlen'
   have h2 : rd A ((pa.length + 1 : Nat) : Int) = (Y : Int) := by rw [he, show pa ++ (X : Int) :: (Y : Int) :: a' = (pa ++ [(X : Int)]) ++ (Y : Int) :: a' by simp]; exact zaB (by simp)
   have h3 : rd (done ++ [((X / 2 ^ s : Nat) : Int)] ++ List.replicate ((Y : Int) :: a').length 0) (pa.length : Int) = ((X / 2 ^ s : Nat) : Int) := by rw [List.append_assoc, List.singleton_append]; exact zaB (by omega)
   have hset2 : (done ++ [((X / 2 ^ s : Nat) : Int)] ++ List.replicate ((Y : Int) :: a').length 0).set ((pa.length : Int)).toNat ((X / 2 ^ s + 2 ^ (32 - s) * (Y % 2 ^ s) : Nat) : Int) = done ++ [((X / 2 ^ s + 2 ^ (32 - s) * (Y % 2 ^ s) : Nat) : Int)] ++ List.replicate ((Y : Int) :: a').length 0 := by
    rw [List.append_assoc, List.singleton_append, zbU (by omega)]
   simp only [h2, h3, zhC X Y s hs hX (by omega), hset2]
   (repeat (first | with_reducible refine ep ?_ | with_reducible refine en ?_))
   rw [Int.toNat_natCast] at ih
   refine zg ih ?_
   simp [zar]
theorem ziD {a : List Int} (ha : Dg a) (la : a.length < 1000000000) (n : Nat) (hn : n < 100000000000) : Ev (fun k => zaL.f k a n) (D (V a / 2 ^ n)) := by
 unfold zaL.f
 simp only [t32 (n := n) (by omega), m32]
 by_cases h : n / 32 ≥ a.length
 ·(repeat (first | with_reducible refine ep ?_ | with_reducible refine en ?_))
  have : V a / 2 ^ n = 0 := by
   rw [zcm, ← Nat.div_div_eq_div_mul, ← zcu ha, List.drop_eq_nil_of_le h]; simp
  rw [this, zC]; exact Ev.now _
 ·(repeat (first | with_reducible refine ep ?_ | with_reducible refine en ?_))
  have h := zfx (a.drop (n / 32)) (ha.drop _) (by simp; omega) (s := n % 32) (by omega) (a.drop (n / 32)) [] [] rfl rfl Dg.nil
  simp only [List.nil_append, zeb ha] at h
  simp only [Int.toNat_natCast]
  simpa using h
theorem zdg {l : List Int} (h : Dg l) (hl : l.length < 1000000000) (i : Nat) (hi : i < 4611686018427387904) : za7.f l i = some ((V l / 2 ^ i % 2 : Nat) : Int) := by
 unfold za7.f
 simp only [t32 hi, m32]
 rw [if_neg (by omega)]
 by_cases hq : i / 32 ≥ l.length
 ·rw [if_pos (by omega)]
  have : V l / 2 ^ i = 0 := by
   rw [zcm, ← Nat.div_div_eq_div_mul, ← zcu h, List.drop_eq_nil_of_le hq]; simp
  rw [this]; rfl
 ·rw [if_neg (by omega), if_pos nn, if_pos (by omega), if_pos nn]
  rw [rdn]
  have hx := h.getD (i / 32)
  obtain ⟨X, hX⟩ := Int.eq_ofNat_of_zero_le hx.1
  have hX2 : X < 4294967296 := by omega
  rw [hX, zcp _ _ (by simp [IntKind.bits]; omega)]
  have hle : X / 2 ^ (i % 32) ≤ X := Nat.div_le_self _ _
  have e := u32_and_nat (X / 2 ^ (i % 32)) 1 (by omega) (by omega)
  rw [Nat.and_one_is_mod] at e
  rw [show (1 : Int) = ((1 : Nat) : Int) from rfl, e]
  congr 2
  rw [zcm i, ← Nat.div_div_eq_div_mul, ← zcu h]
  have hd : l.drop (i / 32) = (X : Int) :: l.drop (i / 32 + 1) := by
   rw [List.drop_eq_getElem_cons (by omega)]
   congr 1
   rw [← hX, List.getD_eq_getElem?_getD, List.getElem?_eq_getElem (by omega)]; rfl
  rw [hd, zy, Int.toNat_natCast, ← pw (s := i % 32) (by omega), Nat.mul_assoc, Nat.add_mul_div_left _ _ (zj _)]
  have e3 : 2 ^ (32 - i % 32) = 2 * 2 ^ (31 - i % 32) := by
   rw [show 32 - i % 32 = (31 - i % 32) + 1 by omega, Nat.pow_succ, Nat.mul_comm]
  rw [e3, Nat.mul_assoc, Nat.add_mul_mod_self_left]
theorem zaw {l : List Int} (h : Dg l) : bl (V l) ≤ 32 * l.length := by
 apply zav
 have := zaO h
 rwa [show (4294967296 : Nat) = 2 ^ 32 from rfl, ← Nat.pow_mul] at this
theorem zaX {n k : Nat} (h : n < 4294967296 ^ k) : (D n).length ≤ k := by
 rcases Nat.lt_or_ge k (D n).length with h1 | h1
 ·have h2 := zdX (zi n) (by intro e; rw [e] at h1; simp at h1)
  rw [V_D] at h2
  have h3 : 4294967296 ^ k ≤ 4294967296 ^ ((D n).length - 1) := Nat.pow_le_pow_right (by omega) (by omega)
  omega
 ·exact h1
theorem zev {l : List Int} (h : Dg l) (hl : l.length < 1000000000) : ∀ (n i : Nat), 32 * l.length - i ≤ n → i < 100000000000 → ∃ b : Nat, Ev (fun k => zU.l0 k l i) (b : Int)
 | n, i, hn, hi => by
  have e32 : wrap64 (32 * (l.length : Int)) = ((32 * l.length : Nat) : Int) := by unfold wrap64; omega
  by_cases hlt : i < 32 * l.length
  ·have hb := zdg h hl i (by omega)
   generalize V l / 2 ^ i % 2 = z at hb
   by_cases h0 : z = 0
   ·have e1 : wrap64 ((i : Int) + 32) = ((i + 32 : Nat) : Int) := by unfold wrap64; omega
    have e2 : wrap64 ((i : Int) + 1) = ((i + 1 : Nat) : Int) := by unfold wrap64; omega
    cases n with
    | zero => omega
    | succ n =>
     obtain ⟨b1, hb1⟩ := zev h hl n (i + 32) (by omega) (by omega)
     obtain ⟨b2, hb2⟩ := zev h hl n (i + 1) (by omega) (by omega)
     by_cases hz : rd l (((i / 32 : Nat) : Int)) = 0
     ·refine ⟨b1, zf ?_⟩
      simp only [zU.l0, e32, t32 (n := i) (by omega), e1, e2]
      subst h0
      refine zd (by omega) (zh hb ?_)
      exact zd (by simp) (zd nn (zd (by omega) (zd hz hb1)))
     ·refine ⟨b2, zf ?_⟩
      simp only [zU.l0, e32, t32 (n := i) (by omega), e1, e2]
      subst h0
      refine zd (by omega) (zh hb ?_)
      exact zd (by simp) (zd nn (zd (by omega) (ze hz hb2)))
   ·refine ⟨i, zf ?_⟩
    simp only [zU.l0, e32]
    refine zd (by omega) (zh hb ?_)
    exact ze (by simpa using h0) (ze (by omega) (Ev.now _))
  ·by_cases he : i = 32 * l.length
   ·refine ⟨0, zf ?_⟩
    simp only [zU.l0, e32]
    exact ze (by omega) (zd (by omega) (Ev.now _))
   ·refine ⟨i, zf ?_⟩
    simp only [zU.l0, e32]
    exact ze (by omega) (ze (by omega) (Ev.now _))
termination_by n => n
theorem zes (A : List Int) (hA : Dg A) (hl : A.length < 1000000000) (b : Bool) {s : Nat} (hs : s < 32) : ∀ (a done pa : List Int), A = pa ++ a → done.length + a.length < 1000000000 → Dg done →
  Ev (fun k => zP.l0 k A b done s pa.length) (D (V (done ++ zar s a)), b)
 | [], done, pa, he, hd, hg => by
  have hlen : A.length = pa.length := by rw [he]; simp
  refine zf ?_
  simp only [zP.l0]
  (repeat (first | with_reducible refine ep ?_ | with_reducible refine en ?_))
  simp only [zar, List.append_nil]
  exact Ev.bind (zbS hg (by simp at hd; omega)) (Ev.now _)
 | d :: a, done, pa, he, hd, hg => by
  have hlen : A.length = pa.length + 1 + a.length := by rw [he]; simp; omega
  have hdd : 0 ≤ d ∧ d < 4294967296 := by rw [he] at hA; exact hA.right.head
  obtain ⟨X, rfl⟩ := Int.eq_ofNat_of_zero_le hdd.1
  have hX : X < 4294967296 := by omega
  have h1 : rd A (pa.length : Int) = (X : Int) := by rw [he]; exact zaB rfl
  have hg2 : Dg (a) := by rw [he] at hA; exact hA.right.tail
  have hy := hg2.headD
  have ih := zes A hA hl b hs a (done ++ [((X / 2 ^ s + 2 ^ (32 - s) * ((a.headD 0).toNat % 2 ^ s) : Nat) : Int)]) (pa ++ [(X : Int)]) (by rw [he]; simp) (by simp at hd ⊢; omega)
   (hg.app (Dg.cons nn (zdF (zdy X (a.headD 0).toNat s hs hX)) Dg.nil))
  rw [@List.length_append _ pa, List.length_singleton] at ih
  have hXs : X / 2 ^ s ≤ X := Nat.div_le_self _ _
  have e0 : ((X / 2 ^ s : Nat) : Int) % 4294967296 = ((X / 2 ^ s : Nat) : Int) := by
   generalize X / 2 ^ s = z at *; omega
  refine zf ?_
  simp only [zP.l0, h1, zJ (n := pa.length) (by omega)]
  (repeat (first | with_reducible refine ep ?_ | with_reducible refine en ?_))
  by_cases hn : a = []
  ·subst hn
   simp only [List.length_nil, Nat.add_zero] at hlen
   (repeat (first | with_reducible refine ep ?_ | with_reducible refine en ?_))
   rw [zcY _ hX, zcp _ _ (by simp [IntKind.bits]; omega), e0]
   refine zg (by simpa [zar] using ih) ?_
   simp [zar]
  ·obtain ⟨y, a', rfl⟩ := List.exists_cons_of_ne_nil hn
   obtain ⟨Y, rfl⟩ := Int.eq_ofNat_of_zero_le hy.1
   simp only [List.headD_cons] at hy ih
   have hlen' := hlen
   have w32 : wrap64 (32 - (s : Int)) = 32 - (s : Int) := by unfold wrap64; omega
   have hd' := hd
   simp only [List.length_cons] at hd'
   simp only [List.length_cons] at hlen'
   have h2 : rd A ((pa.length + 1 : Nat) : Int) = (Y : Int) := by rw [he, show pa ++ (X : Int) :: (Y : Int) :: a' = (pa ++ [(X : Int)]) ++ (Y : Int) :: a' by simp]; exact zaB (by simp)
   simp only [h2, zi8 X Y s hs hX (by omega)]
   (repeat (first | with_reducible refine ep ?_ | with_reducible refine en ?_))
   rw [Int.toNat_natCast] at ih
   refine zg ih ?_
   simp [zar]
theorem zjb {a : List Int} (ha : Nm a) (la : a.length < 100000000) (n : Nat) (hn : n < 1000000000) : ∃ b, Ev (fun k => zP.f k a n) (D (V a / 2 ^ n), b) := by
 unfold zP.f
 by_cases h : n ≥ bl (V a)
 ·refine ⟨decide ((a.length : Int) > 0), Ev.bind (zba ha (by omega)) (zd (by omega) (zg (Ev.now _) ?_))⟩
  rw [Nat.div_eq_of_lt (Nat.lt_of_lt_of_le (z3 _) (Nat.pow_le_pow_right (by omega) h)), zC]
 ·obtain ⟨b, hb⟩ := zev ha.dg (by omega) _ 0 (Nat.le_refl _) (by omega)
  refine ⟨decide ((n : Int) > (b : Int)), Ev.bind (zba ha (by omega)) (ze (by omega) (Ev.bind hb ?_))⟩
  simp only [t32 (n := n) (by omega), m32]
  have hbl := zaw ha.dg
  have hq : n / 32 ≤ a.length := by omega
  have h1 := zes a ha.dg (by omega) (decide ((n : Int) > (b : Int))) (s := n % 32) (by omega) (a.drop (n / 32)) [] (a.take (n / 32)) (by simp) (by simp; omega) Dg.nil
  rw [List.length_take, Nat.min_eq_left hq, List.nil_append, zeb ha.dg] at h1
  exact h1
theorem zeY : ∀ (q : List Int) (j y : Nat), Dg q → j < q.length → V (q.set j (q.getD j 0 + (y : Int))) = V q + 4294967296 ^ j * y
 | [], j, y, _, h => by simp at h
 | d :: q, 0, y, hg, _ => by
  have := hg.head
  simp; omega
 | d :: q, j + 1, y, hg, h => by
  have ih := zeY q j y hg.tail (by simpa using h)
  simp only [List.set_cons_succ, zy, List.getD_cons_succ, ih, Nat.pow_succ]
  generalize 4294967296 ^ j = p
  rw [Nat.mul_add, Nat.mul_comm p 4294967296, Nat.mul_assoc, Nat.add_assoc]
theorem zhh {q : List Int} (hg : Dg q) {i Qv : Nat} (hi : i / 32 < q.length) (hv : V q = Qv * 2 ^ (i + 1)) :
  V (q.set (i / 32) (Go.bits .or .u32 (rd q ((i / 32 : Nat) : Int)) (shl .u32 1 ((i % 32 : Nat) : Int)))) = V q + 2 ^ i ∧ Dg (q.set (i / 32) (Go.bits .or .u32 (rd q ((i / 32 : Nat) : Int)) (shl .u32 1 ((i % 32 : Nat) : Int)))) := by
 have hx := hg.getD (i / 32)
 obtain ⟨X, hX⟩ := Int.eq_ofNat_of_zero_le hx.1
 have hX2 : X < 4294967296 := by omega
 have hd : q.drop (i / 32) = (X : Int) :: q.drop (i / 32 + 1) := by
  rw [List.drop_eq_getElem_cons (by omega)]
  congr 1
  rw [← hX, List.getD_eq_getElem?_getD, List.getElem?_eq_getElem (by omega)]; rfl
 have h1 := zcu hg (i / 32)
 have hp : 0 < 4294967296 ^ (i / 32) := Nat.pow_pos (by omega)
 have e1 : 2 ^ (i + 1) = 4294967296 ^ (i / 32) * 2 ^ (i % 32 + 1) := by rw [Nat.pow_succ, zcm i, Nat.mul_assoc, ← Nat.pow_succ]
 rw [hv, e1, Nat.mul_left_comm, Nat.mul_div_cancel_left _ hp, hd, zy, Int.toNat_natCast] at h1
 have e2 : X % 2 ^ (i % 32 + 1) = 0 := by
  have h3 := congrArg (· % 2 ^ (i % 32 + 1)) h1
  simp only [Nat.mul_mod_left] at h3
  rw [← pw (s := i % 32 + 1) (by omega), Nat.mul_assoc, Nat.add_mul_mod_self_left] at h3
  exact h3
 obtain ⟨z, hz⟩ := Nat.dvd_of_mod_eq_zero e2
 have hlt : 2 ^ (i % 32) < 2 ^ (i % 32 + 1) := Nat.pow_lt_pow_right (by omega) (by omega)
 have hor : X ||| 2 ^ (i % 32) = X + 2 ^ (i % 32) := by rw [hz, ← Nat.two_pow_add_eq_or_of_lt hlt]
 have hple : 2 ^ (i % 32) ≤ 2 ^ 31 := Nat.pow_le_pow_right (by omega) (by omega)
 have hsum : X + 2 ^ (i % 32) < 4294967296 := by
  have h4 := pw (s := i % 32 + 1) (by omega)
  have h5 : z < 2 ^ (32 - (i % 32 + 1)) := by
   apply Nat.lt_of_mul_lt_mul_left (a := 2 ^ (i % 32 + 1)); rw [h4, ← hz]; exact hX2
  have h6 := Nat.mul_le_mul_left (2 ^ (i % 32 + 1)) (Nat.succ_le_of_lt h5)
  rw [h4, Nat.mul_succ, ← hz] at h6
  omega
 have hsh : shl .u32 1 ((i % 32 : Nat) : Int) = ((2 ^ (i % 32) : Nat) : Int) := by
  rw [show (1 : Int) = ((1 : Nat) : Int) from rfl, zgy 1 (i % 32) (by omega), Nat.one_mul, Nat.mod_eq_of_lt (by omega)]
 have hval : Go.bits .or .u32 (rd q ((i / 32 : Nat) : Int)) (shl .u32 1 ((i % 32 : Nat) : Int)) = q.getD (i / 32) 0 + ((2 ^ (i % 32) : Nat) : Int) := by
  rw [rdn, hX, hsh, u32_or_nat _ _ hX2 (by omega), hor]; simp
 rw [hval]
 refine ⟨?_, hg.set _ (by omega) ?_⟩
 ·rw [zeY q _ _ hg hi, ← zcm]
 ·rw [hX]
  have := zdF hsum
  rwa [Int.natCast_add] at this
theorem zeX {l : List Int} (h : Nm l) (h0 : l ≠ []) : V l ≠ 0 := fun e => h0 ((zcv h).1 e)
theorem zb2 {m n : Nat} : (zO m n ≥ 0) ↔ n ≤ m := by
 unfold zO; split
 ·constructor <;> intro h <;> omega
 ·split <;> constructor <;> intro h <;> omega
theorem zea (n i : Nat) : n / 2 ^ i = 2 * (n / 2 ^ (i + 1)) + n / 2 ^ i % 2 := by
 rw [Nat.pow_succ, ← Nat.div_div_eq_div_mul]; omega
theorem zeB {a b : List Int} (ha : Nm a) (hb : Nm b) (la : a.length < 100000000) (lb : b.length < 100000000) : ∀ (i R Qv : Nat) (q : List Int), Dg q → q.length = a.length → i ≤ 32 * a.length → R < V b → V q = Qv * 2 ^ i → V a / 2 ^ i = Qv * V b + R →
  Ev (fun k => zY.l0 k a b q (D R) ((i : Int) - 1)) (D (V a / V b), D (V a % V b))
 | 0, R, Qv, q, hg, hq, hi, hR, hv, hs => by
  refine zf ?_
  simp only [zY.l0]
  refine ze (by omega) (Ev.bind (zbS hg (by omega)) (zg (Ev.now _) ?_))
  simp only [Nat.pow_zero, Nat.mul_one, Nat.div_one] at hv hs
  have h1 : V a / V b = Qv := by
   rw [hs, Nat.mul_comm, Nat.mul_add_div (by omega), Nat.div_eq_of_lt hR, Nat.add_zero]
  have h2 : V a % V b = R := by
   rw [hs, Nat.mul_comm, Nat.mul_add_mod, Nat.mod_eq_of_lt hR]
  rw [h1, h2, hv]
 | i + 1, R, Qv, q, hg, hq, hi, hR, hv, hs => by
  have e0 : ((i + 1 : Nat) : Int) - 1 = (i : Int) := by omega
  have e1 : wrap64 ((i : Int) - 1) = (i : Int) - 1 := zcq (by omega)
  have hbv := zaO hb.dg
  have hRl : (D R).length ≤ b.length := zaX (Nat.lt_trans hR hbv)
  have hpow : 4294967296 ^ (b.length + 1) = 4294967296 ^ b.length * 4294967296 := Nat.pow_succ ..
  have hdb := zea (V a) i
  rw [hs] at hdb
  have hbit : V a / 2 ^ i % 2 = 0 ∨ V a / 2 ^ i % 2 = 1 := by omega
  have hup := zbT (zau R) (by omega) 1 (by omega)
  rw [V_D, Nat.pow_one] at hup
  have hr2 : (D (R * 2)).length ≤ b.length + 1 := zaX (by rw [hpow]; generalize 4294967296 ^ b.length = p at *; omega)
  have rest : ∀ r : Nat, r = R * 2 + V a / 2 ^ i % 2 → Ev (fun k => zY.j2 k a b q (D r) (i : Int)) (D (V a / V b), D (V a % V b)) := by
   intro r hr
   have hrl : (D r).length ≤ b.length + 1 := zaX (by rw [hpow]; generalize 4294967296 ^ b.length = p at *; omega)
   have hs2 : V a / 2 ^ i = 2 * Qv * V b + r := by rw [hdb, hr, Nat.mul_add, Nat.mul_assoc]; omega
   refine zf ?_
   simp only [zY.j2, t32 (n := i) (by omega), m32, e1]
   refine Ev.bind (zet (zi r) hb (by omega)) ?_
   rw [V_D]
   by_cases hc : V b ≤ r
   ·refine zd (zb2.2 hc) ?_
    have hsub := zdO (zi r) hb (by omega) (by rw [V_D]; exact hc)
    rw [V_D] at hsub
    refine Ev.bind hsub (zd nn (zd (by omega) (zd nn (zd nn (zd (by omega) ?_)))))
    have hset := zhh hg (i := i) (Qv := Qv) (by omega) hv
    rw [Int.toNat_natCast]
    refine zeB ha hb la lb i (r - V b) (2 * Qv + 1) _ hset.2 (by simp [hq]) (by omega) (by omega) ?_ ?_
    ·rw [hset.1, hv, Nat.pow_succ, Nat.add_mul, Nat.one_mul]
     congr 1
     rw [Nat.mul_comm (2 ^ i), Nat.mul_comm 2 Qv, Nat.mul_assoc]
    ·rw [hs2, Nat.add_mul, Nat.one_mul]; omega
   ·refine ze (fun h => hc (zb2.1 h)) ?_
    refine zeB ha hb la lb i r (2 * Qv) _ hg hq (by omega) (by omega) ?_ hs2
    rw [hv, Nat.pow_succ, Nat.mul_comm (2 ^ i), Nat.mul_comm 2 Qv, Nat.mul_assoc]
  rw [e0]
  refine zf ?_
  simp only [zY.l0]
  refine zd (by omega) (Ev.bind hup (zh (zdg ha.dg (by omega) i (by omega)) ?_))
  rcases hbit with h | h
  ·rw [h]
   exact ze (by omega) (rest _ (by rw [h]; omega))
  ·rw [h]
   refine zd rfl ?_
   have hadd := zcn (a := D (R * 2)) (b := [1]) (zau _) (Dg.cons (by omega) (by omega) Dg.nil) (by omega) (by simp)
   rw [V_D] at hadd
   exact Ev.bind hadd (rest _ (by rw [h]; simp))
theorem zjg {a b : List Int} (ha : Nm a) (hb : Nm b) (la : a.length < 10000000) (lb : b.length < 10000000) (h0 : b ≠ []) : Ev (fun k => zY.f k a b) (D (V a / V b), D (V a % V b)) := by
 unfold zY.f
 by_cases h1 : b.length = 1
 ·obtain ⟨d, rfl⟩ := List.length_eq_one_iff.1 h1
  have hd := hb.dg.head
  have hdne : d ≠ 0 := by
   have h2 := zeX hb (by simp)
   simp at h2; omega
  (repeat (first | with_reducible refine ep ?_ | with_reducible refine en ?_))
  have h3 := zjl ha.dg (by omega) (d := d) (by omega)
  have h4 : rd [d] 0 = d := by simp [rd]
  rw [h4]
  refine Ev.bind h3 (zg (Ev.now _) ?_)
  simp
 ·have hla := zaw ha.dg
  have hlb := zaw hb.dg
  have hb0 := zeX hb h0
  have hbp := zcA hb0
  refine ze (by omega) (zd nn (zd (by simp; omega) (Ev.bind (zba ha (by omega)) (Ev.bind (zba hb (by omega)) ?_))))
  generalize hL : (bl (V a) + 1 - bl (V b)) = left
  have e1 : mx 0 (wrap64 (wrap64 (((bl (V a) : Nat) : Int) - ((bl (V b) : Nat) : Int)) + 1)) = (left : Int) := by
   unfold mx wrap64; split <;> omega
  have e2 : wrap64 ((left : Int) - 1) = (left : Int) - 1 := by unfold wrap64; omega
  simp only [e1, e2, Int.toNat_natCast]
  obtain ⟨x, hx⟩ := zjb ha (by omega) left (by omega)
  refine Ev.bind hx ?_
  have hq : V a / 2 ^ left < V b := by
   have h2 := zbA hb0
   refine Nat.lt_of_lt_of_le ?_ h2
   rw [Nat.div_lt_iff_lt_mul (zj _), ← Nat.pow_add]
   exact Nat.lt_of_lt_of_le (z3 _) (Nat.pow_le_pow_right (by omega) (by omega))
  exact zeB ha hb (by omega) (by omega) left (V a / 2 ^ left) 0 (List.replicate a.length 0) (Dg.zeros _) (by simp) (by omega) hq (by rw [zdq]; omega) (by omega)
theorem zgJ (a b : Nat) : Int.tmod (a : Int) (b : Int) = ((a % b : Nat) : Int) := rfl
theorem zfp {m n : Nat} : (zO m n < 0) ↔ m < n := by
 have := zb2 (m := m) (n := n)
 constructor <;> intro h <;> omega
theorem ziA (a b : Nat) : mx (a : Int) (b : Int) = ((max a b : Nat) : Int) := by unfold mx; split <;> omega
theorem zcP {l : List Int} (h : Nm l) (hb : l.length ≤ 4096) : Ev (fun k => zai.f k l) ((bl (V l) : Nat) : Int) := by
 unfold zai.f
 refine zh (zbu h.dg (by omega)) ?_
 rw [zaK.2 ⟨hb, h⟩]
 (repeat (first | with_reducible refine ep ?_ | with_reducible refine en ?_))
 by_cases c : l.length = 0
 ·have : l = [] := List.eq_nil_of_length_eq_zero c
  subst this
  (repeat (first | with_reducible refine ep ?_ | with_reducible refine en ?_))
  exact zg (Ev.now _) rfl
 ·have e : wrap64 ((l.length : Int) - 1) = ((l.length - 1 : Nat) : Int) := by unfold wrap64; omega
  rw [e]
  clear e
  have hd := h.dg.getD (l.length - 1)
  have hne : l ≠ [] := fun e => c (by rw [e]; rfl)
  rw [rdn]
  (repeat (first | with_reducible refine ep ?_ | with_reducible refine en ?_))
  refine Ev.bind (zig hd) (zg (Ev.now _) ?_)
  rw [zfe h hne]
  generalize l.getD (l.length - 1) 0 = x at hd
  have hbn : bl x.toNat ≤ 32 := zav (by omega)
  unfold wrap64
  omega
def zag (n b : Nat) : Prop := ∃ m, n = 2 ^ b * (2 * m + 1)
theorem zag.ne {n b : Nat} (h : zag n b) : n ≠ 0 := by
 obtain ⟨m, h⟩ := h
 have := Nat.mul_pos (zj b) (show 0 < 2 * m + 1 by omega)
 omega
theorem zag.le {n b : Nat} (h : zag n b) : 2 ^ b ≤ n := by
 obtain ⟨m, h⟩ := h
 rw [h]; exact Nat.le_mul_of_pos_right _ (by omega)
theorem zag.mod {n b k : Nat} (h : zag n b) : n % 2 ^ k = 0 ↔ k ≤ b := by
 obtain ⟨m, h⟩ := h
 constructor
 ·intro hk
  rcases Nat.lt_or_ge b k with h1 | h1
  ·exfalso
   obtain ⟨d, rfl⟩ := Nat.exists_eq_add_of_lt h1
   have hd : 2 ^ (b + d + 1) ∣ 2 ^ b * (2 * m + 1) := by rw [← h]; exact Nat.dvd_of_mod_eq_zero hk
   rw [Nat.add_assoc, Nat.pow_add] at hd
   have h2 := Nat.dvd_of_mul_dvd_mul_left (zj b) hd
   rw [Nat.pow_succ] at h2
   have h3 : 2 ∣ 2 * m + 1 := Nat.dvd_trans (Nat.dvd_mul_left 2 _) h2
   omega
  ·exact h1
 ·intro hk
  obtain ⟨d, rfl⟩ := Nat.exists_eq_add_of_le hk
  rw [h, Nat.pow_add, Nat.mul_assoc]
  exact Nat.mul_mod_right _ _
theorem zag.unique {n b c : Nat} (h : zag n b) (k : zag n c) : b = c := by
 have h1 := (h.mod (k := b)).2 (Nat.le_refl _)
 have h2 := (k.mod (k := c)).2 (Nat.le_refl _)
 have h3 := k.mod.1 h1
 have h4 := h.mod.1 h2
 omega
theorem zid {n b : Nat} (h : n % 2 ^ b = 0) (k : n / 2 ^ b % 2 = 1) : zag n b :=
 ⟨n / 2 ^ b / 2, by
  have h1 := Nat.div_add_mod n (2 ^ b)
  rw [h, Nat.add_zero] at h1
  have h2 : 2 * (n / 2 ^ b / 2) + 1 = n / 2 ^ b := by omega
  rw [h2, h1]⟩
theorem zfF {n b k : Nat} (h : zag n b) : zag (n * 2 ^ k) (b + k) := by
 obtain ⟨m, h⟩ := h
 exact ⟨m, by rw [h, Nat.pow_add, Nat.mul_assoc, Nat.mul_comm (2 * m + 1), ← Nat.mul_assoc]⟩
theorem zie {x : Nat} (h : x ≠ 0) (hx : x < 4294967296) : zag x (Lib.ctz 32 x) ∧ Lib.ctz 32 x < 32 := by
 obtain ⟨m, h1, h2⟩ := Lib.ctzFrom_spec 32 x (by omega) hx
 unfold Lib.ctz
 rw [if_neg h]
 exact ⟨⟨m, h1⟩, h2⟩
theorem zic {x r b : Nat} (h : zag x b) (hb : b < 32) : zag (x + 4294967296 * r) b := by
 obtain ⟨m, h⟩ := h
 obtain ⟨d, hd⟩ : ∃ d, 32 = b + (d + 1) := ⟨31 - b, by omega⟩
 have e : 4294967296 = 2 ^ b * (2 ^ d * 2) := by
  rw [← Nat.pow_succ, ← Nat.pow_add, Nat.succ_eq_add_one, ← hd]
 have e2 : 2 ^ b * (2 ^ d * 2) * r = 2 ^ b * (2 * (2 ^ d * r)) := by
  rw [Nat.mul_assoc, Nat.mul_comm (2 ^ d) 2, Nat.mul_assoc]
 refine ⟨m + 2 ^ d * r, ?_⟩
 rw [h, e, e2, ← Nat.mul_add]
 congr 1
 omega
def lw (n : Nat) : Nat := if n = 0 then 0 else Lib.ctzFrom n n
theorem zbN {n : Nat} (h : n ≠ 0) : zag n (lw n) := by
 obtain ⟨m, h1, _⟩ := Lib.ctzFrom_spec n n (by omega) Nat.lt_two_pow_self
 unfold lw
 rw [if_neg h]
 exact ⟨m, h1⟩
theorem zdG {n b : Nat} (h : zag n b) : lw n = b := (zbN h.ne).unique h
theorem zjR {x : Int} (h : 0 ≤ x ∧ x < 4294967296) : zaD.f x = some ((Lib.ctz 32 x.toNat : Nat) : Int) := by
 unfold zaD.f
 rw [if_pos h]
theorem zjZ {i b : Nat} (hi : i < 1000000) (hb : b < 32) : wrap64 (wrap64 (32 * (i : Int)) + (b : Int)) = ((b + 32 * i : Nat) : Int) := by unfold wrap64; omega
theorem zfY (A : List Int) (hA : Dg A) (hl : A.length < 1000000) : ∀ (a pa : List Int), A = pa ++ a → V pa = 0 → Ev (fun k => zaj.l0 k A A.length pa.length) ((lw (V A) : Nat) : Int)
 | [], pa, he, hv => by
  have hlen : A.length = pa.length := by rw [he]; simp
  refine zf ?_
  simp only [zaj.l0]
  (repeat (first | with_reducible refine ep ?_ | with_reducible refine en ?_))
  refine zg (Ev.now _) ?_
  have : V A = 0 := by rw [he, List.append_nil, hv]
  rw [this]; rfl
 | d :: a, pa, he, hv => by
  have hlen : A.length = pa.length + 1 + a.length := by rw [he]; simp; omega
  have hdd : 0 ≤ d ∧ d < 4294967296 := by rw [he] at hA; exact hA.right.head
  have h1 : rd A (pa.length : Int) = d := by rw [he]; exact zaB rfl
  refine zf ?_
  simp only [zaj.l0, h1, zJ (n := pa.length) (by omega)]
  (repeat (first | with_reducible refine ep ?_ | with_reducible refine en ?_))
  by_cases h0 : d = 0
  ·refine ze (fun h => h h0) ?_
   have := zfY A hA hl a (pa ++ [0]) (by rw [he, h0]; simp) (by rw [zdZ, hv])
   rwa [@List.length_append _ pa, List.length_singleton] at this
  ·refine zd h0 ?_
   refine zh (zjR hdd) ?_
   (repeat (first | with_reducible refine ep ?_ | with_reducible refine en ?_))
   refine zg (Ev.now _) ?_
   have hz := zie (x := d.toNat) (by omega) (by omega)
   have e : V A = (d.toNat + 4294967296 * V a) * 2 ^ (32 * pa.length) := by
    rw [he, za6, hv, zy, Nat.zero_add, Nat.mul_comm, Nat.pow_mul]
   rw [e, zdG (zfF (zic hz.1 hz.2)), zjZ (by omega) hz.2]
theorem zfT {a : List Int} (ha : Nm a) (la : a.length ≤ 4096) : Ev (fun k => zaj.f k a) ((lw (V a) : Nat) : Int) := by
 unfold zaj.f
 refine zh (zbu ha.dg (by omega)) ?_
 rw [zaK.2 ⟨la, ha⟩]
 (repeat (first | with_reducible refine ep ?_ | with_reducible refine en ?_))
 exact zfY a ha.dg (by omega) a [] rfl rfl
theorem zeV {l : List Int} (h : Dg l) (q : Nat) : V l / 4294967296 ^ q % 4294967296 = (l.getD q 0).toNat := by
 have h1 := zcw (l.drop q)
 rw [zc6, zcu h] at h1
 have h2 := h.getD q
 rw [h1, Nat.add_mul_mod_self_left, Nat.mod_eq_of_lt (by omega)]
theorem ziy {n i : Nat} (h : n % 2 ^ i = 0) (k : n / 2 ^ i % 2 = 0) : n % 2 ^ (i + 1) = 0 := by
 rw [Nat.pow_succ, Nat.mod_mul, h, k, Nat.mul_zero]
theorem zix {n q : Nat} (h : n % 2 ^ (32 * q) = 0) (k : n / 4294967296 ^ q % 4294967296 = 0) : n % 2 ^ (32 * q + 32) = 0 := by
 have e : 2 ^ (32 * q + 32) = 2 ^ (32 * q) * 4294967296 := by rw [Nat.pow_add]
 have e2 : 4294967296 ^ q = 2 ^ (32 * q) := by rw [Nat.pow_mul]
 rw [e, Nat.mod_mul, h, ← e2, k, Nat.mul_zero]
theorem zjn {l : List Int} (h : Dg l) {i : Nat} (hi : i = 32 * l.length) (hm : V l % 2 ^ i = 0) : V l = 0 := by
 have hv := zaO h
 have e2 : 4294967296 ^ l.length = 2 ^ (32 * l.length) := by rw [Nat.pow_mul]
 rw [e2, ← hi] at hv
 rwa [Nat.mod_eq_of_lt hv] at hm
theorem zhE {i m : Nat} (h : i < 32 * m) : ((i / 32 : Nat) : Int) < (m : Int) := by omega
theorem zgD {i : Nat} (h : i < 100000000000) : wrap64 ((i : Int) + 1) = ((i + 1 : Nat) : Int) ∧ wrap64 ((i : Int) + 32) = ((i + 32 : Nat) : Int) := by unfold wrap64; omega
theorem zjo {l : List Int} (h : Dg l) (hl : l.length < 1000000000) (n : Nat) : ∀ (i : Nat), 32 * l.length - i ≤ n → i ≤ 32 * l.length → V l % 2 ^ i = 0 → (i % 32 = 0 ∨ l.getD (i / 32) 0 ≠ 0) → Ev (fun k => zU.l0 k l i) ((lw (V l) : Nat) : Int) := by
 induction n using Nat.strongRecOn with
 | _ n ih =>
  intro i hn hi hm hd
  have e32 : wrap64 (32 * (l.length : Int)) = ((32 * l.length : Nat) : Int) := by unfold wrap64; omega
  refine zf ?_
  simp only [zU.l0, e32]
  by_cases hlt : i < 32 * l.length
  ·have hb := zdg h hl i (by clear hm hd; omega)
   refine zd (by clear hm hd; omega) ?_
   refine zh hb ?_
   have hi9 : i < 100000000000 := by clear hm hd; omega
   have hn1 : 32 * l.length - (i + 1) < n := by clear hm hd; omega
   have hn32 : 32 * l.length - (i + 32) < n := by clear hm hd; omega
   have hi1 : i + 1 ≤ 32 * l.length := hlt
   have hi32 : i % 32 = 0 → i + 32 ≤ 32 * l.length := by clear hm hd; omega
   have hne : i ≠ 32 * l.length := by clear hm hd; omega
   have et : wrap64 (Int.tdiv (i : Int) 32) = ((i / 32 : Nat) : Int) := t32 (by clear hm hd; omega)
   have hdv := zhE hlt
   simp only [et, rdn]
   rw [(zgD hi9).1, (zgD hi9).2]
   clear et e32
   rcases Nat.mod_two_eq_zero_or_one (V l / 2 ^ i) with hz | hz
   ·rw [hz]
    refine zd rfl (zd nn (zd hdv ?_))
    by_cases h0 : l.getD (i / 32) 0 = 0
    ·have hi0 : i % 32 = 0 := hd.resolve_right (fun h => h h0)
     have hi33 := hi32 hi0
     obtain ⟨q, hq0⟩ : ∃ q, i = 32 * q := ⟨i / 32, by clear hm hd hz; omega⟩
     subst hq0
     have hq : 32 * q / 32 = q := by clear hm hd hz; omega
     rw [hq] at h0
     rw [hq]
     refine zd h0 ?_
     refine ih _ hn32 (32 * q + 32) (Nat.le_refl _) hi33 (zix hm ?_) (.inl ?_)
     ·rw [zeV h, h0]; rfl
     ·clear hm hd hz; omega
    ·refine ze h0 ?_
     refine ih _ hn1 (i + 1) (Nat.le_refl _) hi1 (ziy hm hz) ?_
     clear hm hd hz
     rcases Nat.eq_zero_or_pos ((i + 1) % 32) with h1 | h1
     ·exact .inl h1
     ·have : (i + 1) / 32 = i / 32 := by omega
      rw [this]; exact .inr h0
   ·rw [hz]
    refine ze (by decide) ?_
    refine ze (fun e => hne (Int.ofNat.inj e)) ?_
    refine zg (Ev.now _) ?_
    rw [zdG (zid hm hz)]
  ·have hi2 : i = 32 * l.length := by clear hm hd; omega
   refine ze (by clear hm hd; omega) ?_
   refine zd (by rw [hi2]) ?_
   refine zg (Ev.now _) ?_
   rw [zjn h hi2 hm]; rfl
theorem zgl {l : List Int} (h : Dg l) (hl : l.length < 1000000000) : Ev (fun k => zU.f k l) ((lw (V l) : Nat) : Int) := by
 unfold zU.f
 exact zjo h hl _ 0 (Nat.le_refl _) (by omega) (by rw [Nat.pow_zero, Nat.mod_one]) (.inl rfl)
theorem zfO {n k : Nat} (h : n ≠ 0) : k > lw n ↔ n % 2 ^ k ≠ 0 := by
 have := (zbN h).mod (k := k)
 constructor
 ·intro h1 h2; have := this.1 h2; omega
 ·intro h1; rcases Nat.lt_or_ge (lw n) k with h2 | h2
  ·exact h2
  ·exact absurd (this.2 h2) h1
theorem zeu {a : List Int} (ha : Nm a) (la : a.length < 100000000) (n : Nat) (hn : n < 1000000000) : Ev (fun k => zP.f k a n) (D (V a / 2 ^ n), decide (V a % 2 ^ n ≠ 0)) := by
 unfold zP.f
 have hlt := z3 (V a)
 by_cases h : n ≥ bl (V a)
 ·have hp : V a < 2 ^ n := Nat.lt_of_lt_of_le hlt (Nat.pow_le_pow_right (by omega) h)
  refine Ev.bind (zba ha (by omega)) ?_
  (repeat (first | with_reducible refine ep ?_ | with_reducible refine en ?_))
  refine zg (Ev.now _) ?_
  rw [Nat.div_eq_of_lt hp, zC, Nat.mod_eq_of_lt hp]
  congr 1
  refine decide_eq_decide.2 ?_
  have := zcv ha
  have hl : a.length = 0 ↔ a = [] := List.length_eq_zero_iff
  constructor
  ·intro h1 h2; have := hl.2 (this.1 h2); omega
  ·intro h1
   rcases Nat.eq_zero_or_pos a.length with h3 | h3
   ·exact absurd (this.2 (hl.1 h3)) h1
   ·omega
 ·have h0 : V a ≠ 0 := by
   intro h0; rw [h0, zdx] at h; omega
  refine Ev.bind (zba ha (by omega)) ?_
  (repeat (first | with_reducible refine ep ?_ | with_reducible refine en ?_))
  refine Ev.bind (zgl ha.dg (by omega)) ?_
  (repeat (first | with_reducible refine ep ?_ | with_reducible refine en ?_))
  have hd : decide ((n : Int) > ((lw (V a) : Nat) : Int)) = decide (V a % 2 ^ n ≠ 0) := decide_eq_decide.2 (by rw [← zfO h0]; omega)
  rw [hd]
  simp only [t32 (n := n) (by omega), m32]
  have hbl := zaw ha.dg
  have hq : n / 32 ≤ a.length := by omega
  have h1 := zes a ha.dg (by omega) (decide (V a % 2 ^ n ≠ 0)) (s := n % 32) (by omega) (a.drop (n / 32)) [] (a.take (n / 32)) (by simp) (by simp; omega) Dg.nil
  rw [List.length_take, Nat.min_eq_left hq, List.nil_append, zeb ha.dg] at h1
  exact h1
def zbV (v : Nat) (n : Int) : List Int × Bool × Int :=
 if v = 0 then ([], false, 0) else if n < -131072 then ([], true, 0) else if n < 0 then (D (v / 2 ^ (-n).toNat), decide (v % 2 ^ (-n).toNat ≠ 0), 0) else if n > 131072 - (bl v : Int) then ([], false, 3) else (D (v * 2 ^ n.toNat), false, 0)
theorem zdd {a : List Int} (ha : Nm a) (la : a.length ≤ 4096) (n : Int) : Ev (fun k => zac.f k a n) (zbV (V a) n) := by
 unfold zac.f zbV
 refine zh (zbu ha.dg (by omega)) ?_
 rw [zaK.2 ⟨la, ha⟩]
 (repeat (first | with_reducible refine ep ?_ | with_reducible refine en ?_))
 by_cases c : a = []
 ·subst c
  (repeat (first | with_reducible refine ep ?_ | with_reducible refine en ?_))
  exact zg (Ev.now _) (by simp)
 have h0 : V a ≠ 0 := fun h => c ((zcv ha).1 h)
 have hl : a.length ≠ 0 := fun h => c (List.eq_nil_of_length_eq_zero h)
 have hbl := zaw ha.dg
 rw [if_neg h0]
 (repeat (first | with_reducible refine ep ?_ | with_reducible refine en ?_))
 by_cases h1 : n < -131072
 ·rw [if_pos h1]; exact zd h1 (Ev.now _)
 rw [if_neg h1]
 refine ze h1 ?_
 by_cases h2 : n < 0
 ·rw [if_pos h2]
  have e : wrap64 (-n) = (((-n).toNat : Nat) : Int) := by unfold wrap64; omega
  rw [e]
  clear e
  have hm : (-n).toNat ≤ 131072 := by omega
  generalize (-n).toNat = m at *
  refine zd h2 ?_
  refine Ev.bind (ziD ha.dg (by omega) m (by omega)) ?_
  (repeat (first | with_reducible refine ep ?_ | with_reducible refine en ?_))
  refine Ev.bind (zfT ha la) ?_
  (repeat (first | with_reducible refine ep ?_ | with_reducible refine en ?_))
  refine zg (Ev.now _) ?_
  congr 2
  exact decide_eq_decide.2 (by rw [← zfO h0]; omega)
 ·rw [if_neg h2]
  have e : wrap64 (131072 - ((bl (V a) : Nat) : Int)) = 131072 - ((bl (V a) : Nat) : Int) := by unfold wrap64; omega
  refine ze h2 ?_
  refine Ev.bind (zcP ha la) ?_
  (repeat (first | with_reducible refine ep ?_ | with_reducible refine en ?_))
  rw [e]
  clear e
  by_cases h3 : n > 131072 - ((bl (V a) : Nat) : Int)
  ·rw [if_pos h3]; exact zd h3 (Ev.now _)
  ·rw [if_neg h3]
   obtain ⟨m, rfl⟩ := Int.eq_ofNat_of_zero_le (show 0 ≤ n by omega)
   refine ze h3 ?_
   refine Ev.bind (ziG ha.dg (by omega) m (by omega)) ?_
   (repeat (first | with_reducible refine ep ?_ | with_reducible refine en ?_))
   refine zg (Ev.now _) ?_
   rw [Int.toNat_natCast]
theorem z7 {x k : Nat} (h : bl x ≤ 32 * k) : (D x).length ≤ k := by
 refine zaX ?_
 have e : 4294967296 ^ k = 2 ^ (32 * k) := by rw [Nat.pow_mul]
 rw [e]
 exact Nat.lt_of_lt_of_le (z3 x) (Nat.pow_le_pow_right (by omega) h)
theorem zb1 (v m : Nat) : bl (v * 2 ^ m) ≤ bl v + m := by
 refine zav ?_
 rw [Nat.pow_add]
 exact Nat.mul_lt_mul_of_pos_right (z3 v) (zj m)
theorem zcC {v : Nat} (h : v ≠ 0) (m : Nat) : bl (v * 2 ^ m) = bl v + m := by
 rw [zcB (n := v * 2 ^ m) (k := m) (Nat.le_mul_of_pos_left _ (by omega)), Nat.mul_div_cancel _ (zj m), Nat.add_comm]
theorem zd3 (v m : Nat) : bl (v / 2 ^ m) = bl v - m := by
 rcases Nat.lt_or_ge v (2 ^ m) with h | h
 ·rw [Nat.div_eq_of_lt h, zdx]
  have := zav h
  omega
 ·rw [zcB h]; omega
theorem zdQ {v m : Nat} (h : bl v + m ≤ 131072) : zbV v (m : Int) = (D (v * 2 ^ m), false, 0) := by
 unfold zbV
 by_cases hv : v = 0
 ·rw [if_pos hv, hv, Nat.zero_mul, zC]
 ·rw [if_neg hv, if_neg (by omega), if_neg (by omega), if_neg (by omega), Int.toNat_natCast]
theorem zjB {v m : Nat} (h : bl v ≤ 131072) (hm : m ≤ 131072) : zbV v (-(m : Int)) = (D (v / 2 ^ m), decide (v % 2 ^ m ≠ 0), 0) := by
 by_cases hv : v = 0
 ·unfold zbV
  rw [if_pos hv, hv, Nat.zero_div, Nat.zero_mod, zC]; rfl
 rcases Nat.eq_zero_or_pos m with h0 | h0
 ·subst h0
  have e := zdQ (v := v) (m := 0) (by omega)
  rw [Nat.pow_zero, Nat.mul_one] at e
  rw [Nat.pow_zero, Nat.div_one, Nat.mod_one]
  exact e
 ·unfold zbV
  have e : (-(-(m : Int))).toNat = m := by omega
  rw [if_neg hv, if_neg (by omega), if_pos (by omega), e]
theorem zik {r L : Nat} (h : (D r).length ≤ L) : (D (r + 1)).length ≤ L + 1 := by
 refine zaX ?_
 have h1 := zbM r
 have h2 : 4294967296 ^ (D r).length ≤ 4294967296 ^ L := Nat.pow_le_pow_right (by omega) h
 rw [Nat.pow_succ]
 generalize 4294967296 ^ L = p at *
 omega
theorem zij {a b L M : Nat} (ha : (D a).length ≤ L) (hb : (D b).length ≤ M) : (D (a * b)).length ≤ L + M := by
 refine zaX ?_
 rw [Nat.pow_add]
 exact Nat.mul_lt_mul'' (Nat.lt_of_lt_of_le (zbM a) (Nat.pow_le_pow_right (by omega) ha)) (Nat.lt_of_lt_of_le (zbM b) (Nat.pow_le_pow_right (by omega) hb))
theorem zjJ {q x Q X N : Nat} (hq : q < 4294967296 ^ Q) (hx : x < 4294967296 ^ X) (h1 : Q < N) (h2 : X < N) : q + x < 4294967296 ^ N := by
 obtain ⟨m, rfl⟩ := Nat.exists_eq_add_of_lt (show 0 < N by omega)
 have a : 4294967296 ^ Q ≤ 4294967296 ^ m := Nat.pow_le_pow_right (by omega) (by omega)
 have b : 4294967296 ^ X ≤ 4294967296 ^ m := Nat.pow_le_pow_right (by omega) (by omega)
 rw [Nat.zero_add, Nat.pow_succ]
 generalize 4294967296 ^ m = p at *
 omega
def sv (s : Bool) (n : Nat) : Int := if s = true then -(n : Int) else n
theorem zbb (s : Bool) (n : Nat) : (sv s n).natAbs = n := by unfold sv; split <;> simp
theorem zbv {s : Bool} {n : Nat} : sv s n = 0 ↔ n = 0 := by unfold sv; split <;> omega
theorem zeF {s : Bool} {n : Nat} (h : n ≠ 0) : decide (sv s n < 0) = s := by
 unfold sv
 cases s
 ·exact decide_eq_false (by simp)
 ·exact decide_eq_true (by simp; omega)
theorem z9 (s : Bool) : sv s 0 = 0 := by unfold sv; split <;> rfl
def mk (z e : Int) : Bool × List Int × Int := if z = 0 then (false, [], 0) else (decide (z < 0), D (z.natAbs / 2 ^ lw z.natAbs), e + (lw z.natAbs : Nat))
theorem zio {n : Nat} (h : n ≠ 0) (k : Nat) : lw (n * 2 ^ k) = lw n + k := zdG (zfF (zbN h))
theorem zbs (z e : Int) (k : Nat) : mk (z * 2 ^ k) e = mk z (e + k) := by
 unfold mk
 by_cases h : z = 0
 ·subst h; simp
 ·have hp : (0 : Int) < 2 ^ k := Int.pow_pos (by omega)
  have h1 : z * 2 ^ k ≠ 0 := Int.mul_ne_zero h (by omega)
  have hn : z.natAbs ≠ 0 := by omega
  have h2 : (z * 2 ^ k).natAbs = z.natAbs * 2 ^ k := by rw [Int.natAbs_mul, Int.natAbs_pow]; rfl
  have h3 : decide (z * 2 ^ k < 0) = decide (z < 0) := decide_eq_decide.2 (by
   constructor
   ·intro h4
    rcases (show z < 0 ∨ 0 ≤ z by omega) with h5 | h5
    ·exact h5
    ·have := Int.mul_nonneg h5 (Int.le_of_lt hp); omega
   ·intro h4; exact Int.mul_neg_of_neg_of_pos h4 hp)
  rw [if_neg h, if_neg h1, h2, h3, zio hn]
  have h4 : z.natAbs * 2 ^ k / 2 ^ (lw z.natAbs + k) = z.natAbs / 2 ^ lw z.natAbs := by
   rw [Nat.pow_add]; exact Nat.mul_div_mul_right _ _ (zj k)
  rw [h4]
  congr 2
  omega
structure Dy (s : Bool) (l : List Int) (e : Int) : Prop where
 nm : Nm l
 none : l = [] → s = false ∧ e = 0
 odd : l ≠ [] → V l % 2 = 1
theorem zch {n : Nat} (h : n % 2 = 1) : lw n = 0 := zdG ⟨n / 2, by rw [Nat.pow_zero, Nat.one_mul]; omega⟩
theorem zck {s : Bool} {l : List Int} {e : Int} (h : Dy s l e) : mk (sv s (V l)) e = (s, l, e) := by
 unfold mk
 by_cases c : l = []
 ·obtain ⟨h1, h2⟩ := h.none c
  subst c; subst h1; subst h2
  rfl
 ·have h1 := h.odd c
  have h0 : V l ≠ 0 := by omega
  rw [if_neg (fun h => h0 (zbv.1 h)), zbb, zeF h0, zch h1, Nat.pow_zero, Nat.div_one, h.nm]
  simp
theorem zK (z e : Int) : Dy (mk z e).1 (mk z e).2.1 (mk z e).2.2 := by
 unfold mk
 by_cases h : z = 0
 ·rw [if_pos h]; exact ⟨zbz, fun _ => ⟨rfl, rfl⟩, fun h => absurd rfl h⟩
 ·rw [if_neg h]
  obtain ⟨m, hm⟩ := zbN (n := z.natAbs) (by omega)
  have h1 : z.natAbs / 2 ^ lw z.natAbs = 2 * m + 1 := by
   have : z.natAbs / 2 ^ lw z.natAbs = 2 ^ lw z.natAbs * (2 * m + 1) / 2 ^ lw z.natAbs := by rw [← hm]
   rw [this, Nat.mul_div_cancel_left _ (zj _)]
  have h2 : D (z.natAbs / 2 ^ lw z.natAbs) ≠ [] := by rw [h1, zby (by omega)]; simp
  exact ⟨zi _, fun h => absurd h h2, fun _ => by show V (D _) % 2 = 1; rw [V_D, h1]; omega⟩
theorem zbO (s : Bool) {n : Nat} (h : n ≠ 0) (e : Int) : mk (sv s n) e = (s, D (n / 2 ^ lw n), e + (lw n : Nat)) := by
 unfold mk
 rw [if_neg (fun h2 => h (zbv.1 h2)), zbb, zeF h]
theorem zdH {n : Nat} (h : n ≠ 0) : lw n < bl n := by
 have h1 := (zbN h).le
 rcases Nat.lt_or_ge (lw n) (bl n) with h2 | h2
 ·exact h2
 ·have h3 := z3 n
  have h4 : 2 ^ bl n ≤ 2 ^ lw n := Nat.pow_le_pow_right (by omega) h2
  omega
theorem zad {l : List Int} : (l.length : Int) = 0 ↔ l = [] := by
 constructor
 ·intro h; exact List.eq_nil_of_length_eq_zero (by omega)
 ·intro h; rw [h]; rfl
theorem zdn {e : Int} {b : Nat} (h1 : -1000000000000000 ≤ e) (h2 : e ≤ 1000000000000000) (hb : b < 100000000000) : wrap64 (e + (b : Int)) = e + (b : Int) := by unfold wrap64; omega
theorem za9 (s : Bool) {l : List Int} (hl : Nm l) (ll : l.length < 10000000) {e : Int} (h1 : -1000000000000000 ≤ e) (h2 : e ≤ 1000000000000000) : Ev (fun k => zL.f k s l e) (mk (sv s (V l)) e) := by
 unfold zL.f
 by_cases c : l = []
 ·subst c
  (repeat (first | with_reducible refine ep ?_ | with_reducible refine en ?_))
  exact zg (Ev.now _) (by rw [zN, z9]; rfl)
 ·have h0 : V l ≠ 0 := fun h => c ((zcv hl).1 h)
  have hb := zaw hl.dg
  have hw := zdH h0
  refine ze (fun h => c (zad.1 h)) ?_
  refine Ev.bind (zgl hl.dg (by omega)) ?_
  (repeat (first | with_reducible refine ep ?_ | with_reducible refine en ?_))
  refine Ev.bind (zeu hl (by omega) (lw (V l)) (by omega)) ?_
  (repeat (first | with_reducible refine ep ?_ | with_reducible refine en ?_))
  refine zg (Ev.now _) ?_
  rw [zbO s h0, zdn h1 h2 (by omega)]
def zdb (s : Bool) (n : Nat) (e : Int) : Bool × List Int × Int × Int :=
 if n = 0 then (false, [], 0, 0) else if e > 16777216 - (lw n : Nat) then (false, [], 0, 20) else if e < -16777216 - (lw n : Nat) then (false, [], 0, 20) else ((mk (sv s n) e).1, (mk (sv s n) e).2.1, (mk (sv s n) e).2.2, 0)
theorem zb9 (s : Bool) {l : List Int} (hl : Nm l) (ll : l.length ≤ 4096) (e : Int) : Ev (fun k => zab.f k s l e) (zdb s (V l) e) := by
 unfold zab.f zdb
 refine zh (zbu hl.dg (by omega)) ?_
 rw [zaK.2 ⟨ll, hl⟩]
 (repeat (first | with_reducible refine ep ?_ | with_reducible refine en ?_))
 by_cases c : l = []
 ·subst c
  (repeat (first | with_reducible refine ep ?_ | with_reducible refine en ?_))
  exact zg (Ev.now _) (by rw [zN, if_pos rfl])
 ·have h0 : V l ≠ 0 := fun h => c ((zcv hl).1 h)
  have hb := zaw hl.dg
  have hw := zdH h0
  rw [if_neg h0]
  refine ze (fun h => c (zad.1 h)) ?_
  refine Ev.bind (zfT hl ll) ?_
  (repeat (first | with_reducible refine ep ?_ | with_reducible refine en ?_))
  have e1 : wrap64 (16777216 - ((lw (V l) : Nat) : Int)) = 16777216 - ((lw (V l) : Nat) : Int) := by unfold wrap64; omega
  have e2 : wrap64 (-16777216 - ((lw (V l) : Nat) : Int)) = -16777216 - ((lw (V l) : Nat) : Int) := by unfold wrap64; omega
  have e3 : wrap64 (-((lw (V l) : Nat) : Int)) = -((lw (V l) : Nat) : Int) := by unfold wrap64; omega
  rw [e1, e2, e3]
  clear e1 e2 e3
  by_cases h1 : e > 16777216 - ((lw (V l) : Nat) : Int)
  ·rw [if_pos h1]; exact zd h1 (Ev.now _)
  rw [if_neg h1]
  refine ze h1 ?_
  by_cases h2 : e < -16777216 - ((lw (V l) : Nat) : Int)
  ·rw [if_pos h2]; exact zd h2 (Ev.now _)
  rw [if_neg h2]
  have hs := zdd hl ll (-((lw (V l) : Nat) : Int))
  rw [zjB (by omega) (by omega)] at hs
  refine ze h2 ?_
  refine Ev.bind hs ?_
  (repeat (first | with_reducible refine ep ?_ | with_reducible refine en ?_))
  refine zg (Ev.now _) ?_
  rw [zbO s h0, zdn (by omega) (by omega) (by omega)]
def al (z e m : Int) : Int := z * 2 ^ (e - m).toNat
theorem zdc {z e m : Int} (h : m ≤ e) : mk (al z e m) m = mk z e := by
 unfold al
 rw [zbs]
 congr 1
 omega
theorem zc3 (e m : Int) : al 0 e m = 0 := by unfold al; rw [Int.zero_mul]
theorem zdt {z e m n : Int} (h1 : m ≤ e) (h2 : n ≤ m) : al (al z e m) m n = al z e n := by
 unfold al
 rw [Int.mul_assoc, ← Int.pow_add]
 congr 2
 omega
theorem zg8 (x y e m : Int) : al (x + y) e m = al x e m + al y e m := by unfold al; rw [Int.add_mul]
theorem zcz (s : Bool) (n : Nat) (e m : Int) : al (sv s n) e m = sv s (n * 2 ^ (e - m).toNat) := by
 unfold al sv
 split
 ·rw [Int.neg_mul, Int.natCast_mul, Int.natCast_pow]; rfl
 ·rw [Int.natCast_mul, Int.natCast_pow]; rfl
theorem zgG (s : Bool) (x y : Nat) : sv s x + sv s y = sv s (x + y) := by unfold sv; split <;> omega
theorem zdU {s t : Bool} (h : s ≠ t) {x y : Nat} (hl : y ≤ x) : sv s x + sv t y = sv s (x - y) := by
 unfold sv
 cases s <;> cases t <;> simp at h ⊢ <;> omega
theorem zdT (s : Bool) (n : Nat) : sv (!s) n = -sv s n := by unfold sv; cases s <;> simp
def zw (za ea zb eb : Int) : Bool × List Int × Int := mk (al za ea (min ea eb) + al zb eb (min ea eb)) (min ea eb)
theorem zc1 {za ea zb eb m : Int} (h1 : m ≤ ea) (h2 : m ≤ eb) : mk (al za ea m + al zb eb m) m = zw za ea zb eb := by
 unfold zw
 have h3 : m ≤ min ea eb := by omega
 rw [← zdt (z := za) (e := ea) (m := min ea eb) (n := m) (by omega) h3, ← zdt (z := zb) (e := eb) (m := min ea eb) (n := m) (by omega) h3, ← zg8]
 exact zdc h3
theorem zds (ea zb eb : Int) : zw 0 ea zb eb = mk zb eb := by
 unfold zw; rw [zc3, Int.zero_add]; exact zdc (by omega)
theorem ze3 (za ea eb : Int) : zw za ea 0 eb = mk za ea := by
 unfold zw; rw [zc3, Int.add_zero]; exact zdc (by omega)
theorem zeK {l : List Int} (h : Dg l) {n : Nat} : (D (V l * 2 ^ n)).length ≤ l.length + n / 32 + 1 := by
 refine z7 (Nat.le_trans (zb1 _ _) ?_)
 have := zaw h
 omega
theorem zgY {e m : Int} (h1 : -1000000000000000 ≤ e) (h2 : e ≤ 1000000000000000) (h3 : -1000000000000000 ≤ m) (h4 : m ≤ e) : wrap64 (e - m) = ((e - m).toNat : Int) := by unfold wrap64; omega
theorem zgf {sa sb : Bool} {la lb : List Int} {ea eb m : Int} (na : Nm la) (nb : Nm lb) (ha : la.length ≤ 1000000) (hb : lb.length ≤ 1000000) (h1 : m ≤ ea) (h2 : m ≤ eb) (h3 : (ea - m).toNat ≤ 100000000) (h4 : (eb - m).toNat ≤ 100000000) (hm : -100000000000000 ≤ m) (hM : m ≤ 100000000000000) :
  Ev (fun k => zD.j2 k sa la ea sb lb eb false [] 0 m) (mk (al (sv sa (V la)) ea m + al (sv sb (V lb)) eb m) m) := by
 refine zf ?_
 simp only [zD.j2]
 rw [zgY (e := ea) (by omega) (by omega) (by omega) h1, zgY (e := eb) (by omega) (by omega) (by omega) h2]
 rw [zcz, zcz]
 generalize (ea - m).toNat = p at *
 generalize (eb - m).toNat = q at *
 have l1 := zeK na.dg (n := p)
 have l2 := zeK nb.dg (n := q)
 refine Ev.bind (zbT na.dg (by omega) p (by omega)) ?_
 (repeat (first | with_reducible refine ep ?_ | with_reducible refine en ?_))
 refine Ev.bind (zbT nb.dg (by omega) q (by omega)) ?_
 (repeat (first | with_reducible refine ep ?_ | with_reducible refine en ?_))
 generalize V la * 2 ^ p = x at *
 generalize V lb * 2 ^ q = y at *
 by_cases hs : sa = sb
 ·subst hs
  have hadd := zcn (zau x) (zau y) (by omega) (by omega)
  rw [V_D, V_D] at hadd
  have l3 : (D (x + y)).length ≤ la.length + lb.length + p / 32 + q / 32 + 3 := by
   refine zaX ?_
   have h5 := zbM x
   have h6 := zbM y
   refine zjJ (N := la.length + lb.length + p / 32 + q / 32 + 3) h5 h6 (by omega) (by omega)
  have hf := za9 sa (zi (x + y)) (by omega) (e := m) (by omega) (by omega)
  rw [V_D] at hf
  (repeat (first | with_reducible refine ep ?_ | with_reducible refine en ?_))
  refine Ev.bind hadd ?_
  (repeat (first | with_reducible refine ep ?_ | with_reducible refine en ?_))
  refine Ev.bind hf ?_
  (repeat (first | with_reducible refine ep ?_ | with_reducible refine en ?_))
  refine zg (Ev.now _) ?_
  rw [zgG]
 ·refine ze (by simpa using hs) ?_
  refine Ev.bind (zet (zi x) (zi y) (by omega)) ?_
  (repeat (first | with_reducible refine ep ?_ | with_reducible refine en ?_))
  rw [V_D, V_D]
  by_cases hc : y ≤ x
  ·have hsub := zdO (zi x) (zi y) (by omega) (by rw [V_D, V_D]; exact hc)
   rw [V_D, V_D] at hsub
   have l3 : (D (x - y)).length ≤ (D x).length := zc0 (Nat.sub_le _ _)
   have hf := za9 sa (zi (x - y)) (by omega) (e := m) (by omega) (by omega)
   rw [V_D] at hf
   refine zd (zb2.2 hc) ?_
   refine Ev.bind hsub ?_
   (repeat (first | with_reducible refine ep ?_ | with_reducible refine en ?_))
   refine Ev.bind hf ?_
   (repeat (first | with_reducible refine ep ?_ | with_reducible refine en ?_))
   refine zg (Ev.now _) ?_
   rw [zdU hs hc]
  ·have hsub := zdO (zi y) (zi x) (by omega) (by rw [V_D, V_D]; omega)
   rw [V_D, V_D] at hsub
   have l3 : (D (y - x)).length ≤ (D y).length := zc0 (Nat.sub_le _ _)
   have hf := za9 sb (zi (y - x)) (by omega) (e := m) (by omega) (by omega)
   rw [V_D] at hf
   refine ze (fun h => hc (zb2.1 h)) ?_
   refine Ev.bind hsub ?_
   (repeat (first | with_reducible refine ep ?_ | with_reducible refine en ?_))
   refine Ev.bind hf ?_
   (repeat (first | with_reducible refine ep ?_ | with_reducible refine en ?_))
   refine zg (Ev.now _) ?_
   rw [Int.add_comm, zdU (fun h => hs h.symm) (by omega)]
structure zdo (la : List Int) (ea : Int) (lb : List Int) (eb : Int) : Prop where
 a : la.length ≤ 1000000
 b : lb.length ≤ 1000000
 d : (ea - eb).natAbs ≤ 100000000
 e : -10000000000000 ≤ ea ∧ ea ≤ 10000000000000
theorem zgj {sa sb : Bool} {la lb : List Int} {ea eb : Int} (ha : Dy sa la ea) (hb : Dy sb lb eb) (h : zdo la ea lb eb) : Ev (fun k => zD.f k sa la ea sb lb eb) (zw (sv sa (V la)) ea (sv sb (V lb)) eb) := by
 obtain ⟨h1, h2, h3, h4⟩ := h
 unfold zD.f
 by_cases c : la = []
 ·subst c
  (repeat (first | with_reducible refine ep ?_ | with_reducible refine en ?_))
  refine zg (Ev.now _) ?_
  rw [zN, z9, zds, zck hb]
 refine ze (fun h => c (zad.1 h)) ?_
 by_cases c2 : lb = []
 ·subst c2
  (repeat (first | with_reducible refine ep ?_ | with_reducible refine en ?_))
  refine zg (Ev.now _) ?_
  rw [zN, z9, ze3, zck ha]
 refine ze (fun h => c2 (zad.1 h)) ?_
 by_cases c3 : eb < ea
 ·refine zd c3 ?_
  exact zg (zgf ha.nm hb.nm h1 h2 (by omega) (by omega) (by omega) (by omega) (by omega) (by omega)) (zc1 (by omega) (by omega))
 ·refine ze c3 ?_
  exact zg (zgf ha.nm hb.nm h1 h2 (by omega) (by omega) (by omega) (by omega) (by omega) (by omega)) (zc1 (by omega) (by omega))
theorem zcg {l : List Int} (c : l ≠ []) : (l.length : Int) > 0 := by
 have := List.length_pos_iff.2 c
 omega
theorem zjf {s : Bool} {l : List Int} {e : Int} (h : Dy s l e) : zcF.f s l e = some (mk (-(sv s (V l))) e) := by
 unfold zcF.f
 by_cases c : l = []
 ·obtain ⟨h1, h2⟩ := h.none c
  subst c; subst h1; subst h2
  rfl
 ·have hl := zcg c
  have h1 := h.odd c
  have h0 : V l ≠ 0 := by omega
  rw [if_pos hl, ← zdT, zbO _ h0, zch h1, Nat.pow_zero, Nat.div_one, h.nm]
  simp
theorem ziq {z e : Int} : (mk z e).2.1 = D (z.natAbs / 2 ^ lw z.natAbs) := by
 unfold mk
 by_cases h : z = 0
 ·subst h; rw [if_pos rfl]; simp [zC]
 ·rw [if_neg h]
theorem zbw {s : Bool} {n : Nat} (h : n ≠ 0) : (sv s n).sign = if s = true then -1 else 1 := by
 unfold sv
 split
 ·exact Int.sign_eq_neg_one_of_neg (by omega)
 ·exact Int.sign_eq_one_of_pos (by omega)
theorem zdi {s : Bool} {l : List Int} {e : Int} (h : Dy s l e) : zaq.f s l e = some (sv s (V l)).sign := by
 unfold zaq.f
 by_cases c : l = []
 ·subst c
  rw [if_pos (zad.2 rfl), zN, z9]; rfl
 ·have h1 := h.odd c
  have h0 : V l ≠ 0 := by omega
  rw [if_neg (fun h => c (zad.1 h)), zbw h0]
  split <;> rfl
def top (z e : Int) : Int := if z = 0 then 0 else e + (bl z.natAbs : Nat)
theorem zew {s : Bool} {l : List Int} {e : Int} (h : Dy s l e) (hl : l.length ≤ 1000000) (h1 : -1000000000000000 ≤ e) (h2 : e ≤ 1000000000000000) : Ev (fun k => z5.f k s l e) (top (sv s (V l)) e) := by
 unfold z5.f top
 by_cases c : l = []
 ·subst c
  (repeat (first | with_reducible refine ep ?_ | with_reducible refine en ?_))
  exact zg (Ev.now _) (by rw [zN, z9]; rfl)
 ·have h3 := h.odd c
  have h0 : V l ≠ 0 := by omega
  have hb := zaw h.nm.dg
  refine ze (fun h => c (zad.1 h)) ?_
  refine Ev.bind (zba h.nm (by omega)) ?_
  (repeat (first | with_reducible refine ep ?_ | with_reducible refine en ?_))
  refine zg (Ev.now _) ?_
  rw [if_neg (fun h => h0 (zbv.1 h)), zbb, zdn h1 h2 (by omega)]
theorem zgH (s t : Bool) (x y : Nat) : sv s x * sv t y = sv (s != t) (x * y) := by
 unfold sv
 cases s <;> cases t <;> simp [Int.mul_neg, Int.neg_mul]
theorem zfX (s t : Bool) : decide (¬ s = t) = (s != t) := by cases s <;> cases t <;> rfl
theorem zjd {sa sb : Bool} {la lb : List Int} {ea eb : Int} (ha : Dy sa la ea) (hb : Dy sb lb eb) (l1 : la.length ≤ 1000000) (l2 : lb.length ≤ 1000000) (h1 : -100000000000000 ≤ ea) (h2 : ea ≤ 100000000000000) (h3 : -100000000000000 ≤ eb) (h4 : eb ≤ 100000000000000) :
  Ev (fun k => zap.f k sa la ea sb lb eb) (mk (sv sa (V la) * sv sb (V lb)) (ea + eb)) := by
 unfold zap.f
 have e : wrap64 (ea + eb) = ea + eb := by unfold wrap64; omega
 rw [e]
 have hl : (D (V la * V lb)).length ≤ la.length + lb.length := zij (by rw [ha.nm.len]; exact Nat.le_refl _) (by rw [hb.nm.len]; exact Nat.le_refl _)
 have hf := za9 (sa != sb) (zi (V la * V lb)) (by omega) (e := ea + eb) (by omega) (by omega)
 rw [V_D] at hf
 refine Ev.bind (zje ha.nm.dg hb.nm.dg (by omega) (by omega)) ?_
 (repeat (first | with_reducible refine ep ?_ | with_reducible refine en ?_))
 rw [zfX]
 refine Ev.bind hf ?_
 (repeat (first | with_reducible refine ep ?_ | with_reducible refine en ?_))
 refine zg (Ev.now _) ?_
 rw [zgH]
theorem zgm {sa sb : Bool} {la lb : List Int} {ea eb : Int} (ha : Dy sa la ea) (hb : Dy sb lb eb) (h : zdo la ea lb eb) : Ev (fun k => za0.f k sa la ea sb lb eb) (zw (sv sa (V la)) ea (-(sv sb (V lb))) eb) := by
 unfold za0.f
 have hn := zK (-(sv sb (V lb))) eb
 have e1 : mk (-(sv sb (V lb))) eb = ((mk (-(sv sb (V lb))) eb).1, (mk (-(sv sb (V lb))) eb).2.1, (mk (-(sv sb (V lb))) eb).2.2) := rfl
 have hv : (mk (-(sv sb (V lb))) eb).2.1 = lb ∧ sv (mk (-(sv sb (V lb))) eb).1 (V lb) = -(sv sb (V lb)) ∧ (mk (-(sv sb (V lb))) eb).2.2 = eb := by
  by_cases c : lb = []
  ·obtain ⟨h1, h2⟩ := hb.none c
   subst c; subst h1; subst h2
   exact ⟨rfl, by rw [zN, z9, z9]; rfl, rfl⟩
  ·have h3 := hb.odd c
   have h0 : V lb ≠ 0 := by omega
   rw [← zdT, zbO _ h0, zch h3, Nat.pow_zero, Nat.div_one, hb.nm]
   exact ⟨rfl, rfl, by simp⟩
 refine zh (zjf hb) ?_
 (repeat (first | with_reducible refine ep ?_ | with_reducible refine en ?_))
 rw [hv.1, hv.2.2] at hn
 have ha2 := zgj ha hn h
 rw [hv.2.1] at ha2
 simp only [hv.1, hv.2.2]
 refine Ev.bind ha2 ?_
 (repeat (first | with_reducible refine ep ?_ | with_reducible refine en ?_))
 exact Ev.now _
theorem zjk {s : Bool} {l : List Int} {e n : Int} (h : Dy s l e) (h1 : -100000000000000 ≤ e) (h2 : e ≤ 100000000000000) (h3 : -100000000000000 ≤ n) (h4 : n ≤ 100000000000000) : zbo.f s l e n = some (mk (sv s (V l)) (e + n)) := by
 unfold zbo.f
 have ew : wrap64 (e + n) = e + n := by unfold wrap64; omega
 by_cases c : l = []
 ·obtain ⟨h1, h2⟩ := h.none c
  subst c; subst h1; subst h2
  rw [if_neg (by simp), zN, z9]; rfl
 ·have h5 := h.odd c
  have h0 : V l ≠ 0 := by omega
  rw [if_pos (zcg c), zbO _ h0, zch h5, Nat.pow_zero, Nat.div_one, h.nm, ew]
  simp
theorem zji (s : Bool) (l : List Int) (e : Int) (s' : Bool) (l' : List Int) (e' : Int) (hb : l.length < 4611686018427387904) : Ev (fun k => zbe.f k s l e s' l' e') (decide ((s, l, e) = (s', l', e'))) := by
 unfold zbe.f
 by_cases h1 : s = s'
 ·by_cases h2 : e = e'
  ·refine zd (by simpa using h1) ?_
   refine zd h2 ?_
   refine Ev.bind (zjj l l' hb) ?_
   (repeat (first | with_reducible refine ep ?_ | with_reducible refine en ?_))
   refine zg (Ev.now _) ?_
   exact decide_eq_decide.2 (by simp [h1, h2])
  ·refine zd (by simpa using h1) ?_
   refine ze h2 ?_
   exact zg (Ev.now _) (decide_eq_false (by simp [h2])).symm
 ·refine ze (by simpa using h1) ?_
  exact zg (Ev.now _) (decide_eq_false (by simp [h1])).symm
theorem zfP (z e : Int) : (sv (mk z e).1 (V (mk z e).2.1)).sign = z.sign := by
 unfold mk
 by_cases h : z = 0
 ·subst h; rfl
 ·rw [if_neg h]
  have hn : z.natAbs ≠ 0 := by omega
  have h1 : V (D (z.natAbs / 2 ^ lw z.natAbs)) ≠ 0 := by
   rw [V_D]
   have h2 := (zbN hn).le
   have := Nat.div_pos h2 (zj _)
   omega
  show (sv (decide (z < 0)) (V (D (z.natAbs / 2 ^ lw z.natAbs)))).sign = z.sign
  rw [zbw h1]
  by_cases h3 : z < 0
  ·rw [decide_eq_true h3, if_pos rfl, Int.sign_eq_neg_one_of_neg h3]
  ·rw [decide_eq_false h3, if_neg (by simp), Int.sign_eq_one_of_pos (by omega)]
theorem zen (k : Nat) : (0 : Int) < 2 ^ k := Int.pow_pos (by omega)
theorem zan (z e m : Int) : (al z e m).sign = z.sign := by
 unfold al
 rw [Int.sign_mul, Int.sign_eq_one_of_pos (zen _), Int.mul_one]
theorem ze6 (z e m : Int) : (al z e m).natAbs = z.natAbs * 2 ^ (e - m).toNat := by
 unfold al
 rw [Int.natAbs_mul, Int.natAbs_pow]; rfl
theorem zcx {z e m : Int} (h : z ≠ 0) (hm : m ≤ e) : ((bl (al z e m).natAbs : Nat) : Int) + m = top z e := by
 rw [ze6, zcC (by omega)]
 unfold top
 rw [if_neg h]
 omega
theorem zfN {x y : Nat} (h : bl x < bl y) : x < y := by
 rcases Nat.lt_or_ge x y with h1 | h1
 ·exact h1
 ·have := zbB h1; omega
def zo (za ea zb eb : Int) : Int := (al za ea (min ea eb) - al zb eb (min ea eb)).sign
theorem zd8 {a b : Int} : (a - b).sign = if a < b then -1 else if b < a then 1 else 0 := by
 split
 ·exact Int.sign_eq_neg_one_of_neg (by omega)
 ·split
  ·exact Int.sign_eq_one_of_pos (by omega)
  ·have : a - b = 0 := by omega
   rw [this]; rfl
theorem za5 (z : Int) : (z < 0 ∧ z.sign = -1) ∨ (z = 0 ∧ z.sign = 0) ∨ (0 < z ∧ z.sign = 1) := by
 rcases Int.lt_trichotomy z 0 with h | h | h
 ·exact .inl ⟨h, Int.sign_eq_neg_one_of_neg h⟩
 ·exact .inr (.inl ⟨h, by rw [h]; rfl⟩)
 ·exact .inr (.inr ⟨h, Int.sign_eq_one_of_pos h⟩)
theorem zfs {a b : Int} (h : a.sign ≠ b.sign) : (a - b).sign = if a.sign < b.sign then -1 else 1 := by
 rw [zd8]
 rcases za5 a with ⟨h1, e1⟩ | ⟨h1, e1⟩ | ⟨h1, e1⟩ <;> rcases za5 b with ⟨h2, e2⟩ | ⟨h2, e2⟩ | ⟨h2, e2⟩ <;> rw [e1, e2] at h ⊢ <;> first | exact absurd rfl h | (simp <;> omega)
theorem zd7 {a b : Int} (h : a.sign = b.sign) (h0 : a.sign ≠ 0) (hl : bl a.natAbs ≠ bl b.natAbs) : (a - b).sign = if (decide (bl a.natAbs < bl b.natAbs) == decide (a.sign > 0)) = true then -1 else 1 := by
 rw [zd8]
 have hlt : bl a.natAbs < bl b.natAbs ∨ bl b.natAbs < bl a.natAbs := by omega
 have hn : a.natAbs ≠ b.natAbs := fun e => hl (by rw [e])
 rcases hlt with h1 | h1
 ·have h2 := zfN h1
  rw [decide_eq_true h1]
  rcases za5 a with ⟨h3, e1⟩ | ⟨h3, e1⟩ | ⟨h3, e1⟩
  ·rw [e1] at h ⊢
   have : b < 0 := by rcases za5 b with ⟨h4, e2⟩ | ⟨h4, e2⟩ | ⟨h4, e2⟩ <;> omega
   rw [if_neg (by omega), if_pos (by omega)]; rfl
  ·exact absurd e1 h0
  ·rw [e1] at h ⊢
   have : 0 < b := by rcases za5 b with ⟨h4, e2⟩ | ⟨h4, e2⟩ | ⟨h4, e2⟩ <;> omega
   rw [if_pos (by omega)]; rfl
 ·have h2 := zfN h1
  rw [decide_eq_false (by omega : ¬ bl a.natAbs < bl b.natAbs)]
  rcases za5 a with ⟨h3, e1⟩ | ⟨h3, e1⟩ | ⟨h3, e1⟩
  ·rw [e1] at h ⊢
   have : b < 0 := by rcases za5 b with ⟨h4, e2⟩ | ⟨h4, e2⟩ | ⟨h4, e2⟩ <;> omega
   rw [if_pos (by omega)]; rfl
  ·exact absurd e1 h0
  ·rw [e1] at h ⊢
   have : 0 < b := by rcases za5 b with ⟨h4, e2⟩ | ⟨h4, e2⟩ | ⟨h4, e2⟩ <;> omega
   rw [if_neg (by omega), if_pos (by omega)]; rfl
theorem zhq (za ea zb eb : Int) : zo za ea zb eb = (al za ea (min ea eb) - al zb eb (min ea eb)).sign := rfl
theorem zgz {z : Int} (h : z.sign ≠ 0) : z ≠ 0 := fun e => h (by rw [e]; rfl)
theorem zi9 {sa sb : Bool} {la lb : List Int} {ea eb : Int} (ha : Dy sa la ea) (hb : Dy sb lb eb) (h : zdo la ea lb eb) : Ev (fun k => zbD.f k sa la ea sb lb eb) (zo (sv sa (V la)) ea (sv sb (V lb)) eb) := by
 have hs := zgm ha hb h
 obtain ⟨h1, h2, h3, h4⟩ := h
 have ta := zew ha h1 (by omega) (by omega)
 have tb := zew hb h2 (by omega) (by omega)
 unfold zbD.f
 refine zh (zdi ha) ?_
 (repeat (first | with_reducible refine ep ?_ | with_reducible refine en ?_))
 refine zh (zdi hb) ?_
 (repeat (first | with_reducible refine ep ?_ | with_reducible refine en ?_))
 rw [zhq]
 generalize hza : sv sa (V la) = za at *
 generalize hzb : sv sb (V lb) = zb at *
 have hm1 : min ea eb ≤ ea := by omega
 have hm2 : min ea eb ≤ eb := by omega
 by_cases c : za.sign = zb.sign
 ·refine ze (fun h => h c) ?_
  by_cases c0 : za.sign = 0
  ·refine zd c0 ?_
   refine zg (Ev.now _) ?_
   have e1 : za = 0 := by rcases za5 za with ⟨_, e⟩ | ⟨e, _⟩ | ⟨_, e⟩ <;> omega
   have e2 : zb = 0 := by rcases za5 zb with ⟨_, e⟩ | ⟨e, _⟩ | ⟨_, e⟩ <;> omega
   rw [e1, e2, zc3, zc3]; rfl
  ·refine ze c0 ?_
   refine Ev.bind ta ?_
   (repeat (first | with_reducible refine ep ?_ | with_reducible refine en ?_))
   refine Ev.bind tb ?_
   (repeat (first | with_reducible refine ep ?_ | with_reducible refine en ?_))
   have ba := zcx (zgz c0) hm1
   have bb := zcx (z := zb) (zgz (by rw [← c]; exact c0)) hm2
   by_cases ct : top za ea = top zb eb
   ·refine ze (fun h => h ct) ?_
    refine Ev.bind hs ?_
    (repeat (first | with_reducible refine ep ?_ | with_reducible refine en ?_))
    have hd := zK (al za ea (min ea eb) + al (-zb) eb (min ea eb)) (min ea eb)
    have hg : zw za ea (-zb) eb = mk (al za ea (min ea eb) + al (-zb) eb (min ea eb)) (min ea eb) := rfl
    rw [hg]
    refine zh (zdi hd) ?_
    (repeat (first | with_reducible refine ep ?_ | with_reducible refine en ?_))
    refine zg (Ev.now _) ?_
    rw [zfP]
    congr 1
    unfold al
    rw [Int.neg_mul]; rfl
   ·refine zd ct ?_
    refine Ev.bind ta ?_
    (repeat (first | with_reducible refine ep ?_ | with_reducible refine en ?_))
    refine Ev.bind tb ?_
    (repeat (first | with_reducible refine ep ?_ | with_reducible refine en ?_))
    have hne : bl (al za ea (min ea eb)).natAbs ≠ bl (al zb eb (min ea eb)).natAbs := fun e => ct (by rw [← ba, ← bb, e])
    have hc := zd7 (a := al za ea (min ea eb)) (b := al zb eb (min ea eb)) (by rw [zan, zan]; exact c) (by rw [zan]; exact c0) hne
    rw [zan] at hc
    have hd : decide (top za ea < top zb eb) = decide (bl (al za ea (min ea eb)).natAbs < bl (al zb eb (min ea eb)).natAbs) := decide_eq_decide.2 (by omega)
    rw [hc, hd]
    generalize decide (bl (al za ea (min ea eb)).natAbs < bl (al zb eb (min ea eb)).natAbs) = p
    generalize decide (za.sign > 0) = q
    by_cases cq : p = q
    ·exact zd cq (zg (Ev.now _) (by rw [if_pos (beq_iff_eq.2 cq)]))
    ·exact ze cq (zg (Ev.now _) (by rw [if_neg (fun h => cq (beq_iff_eq.1 h))]))
 ·refine zd c ?_
  have hc := zfs (a := al za ea (min ea eb)) (b := al zb eb (min ea eb)) (by rw [zan, zan]; exact c)
  rw [zan, zan] at hc
  rw [hc]
  by_cases c1 : za.sign < zb.sign
  ·refine zd c1 ?_
   exact zg (Ev.now _) (if_pos c1).symm
  ·refine ze c1 ?_
   exact zg (Ev.now _) (if_neg c1).symm
def zaI (z e : Int) : Int := if 0 ≤ e then z * 2 ^ e.toNat else z / 2 ^ (-e).toNat
theorem zef (s : Bool) (n k : Nat) : sv s n / 2 ^ k = sv s (n / 2 ^ k + if s = true ∧ n % 2 ^ k ≠ 0 then 1 else 0) := by
 have hp := zj k
 have hc : (2 : Int) ^ k = ((2 ^ k : Nat) : Int) := by rw [Int.natCast_pow]; rfl
 unfold sv
 cases s
 ·simp only [Bool.false_eq_true, if_false, false_and, Nat.add_zero]
  rw [hc]; rfl
 ·simp only [if_true, true_and]
  rw [hc]
  generalize 2 ^ k = p at *
  have h1 := Nat.div_add_mod n p
  have h2 := Nat.mod_lt n hp
  by_cases hm : n % p = 0
  ·rw [if_neg (by simp [hm]), Nat.add_zero]
   have h3 : n = p * (n / p) := by omega
   refine Int.ediv_eq_of_eq_mul_left (by omega) ?_
   rw [Int.neg_mul]
   congr 1
   have : ((n / p : Nat) : Int) * (p : Int) = ((n / p * p : Nat) : Int) := by rw [Int.natCast_mul]
   rw [this, Nat.mul_comm, ← h3]
  ·rw [if_pos hm]
   have h4 : (-(n : Int)) = (p : Int) * (-((n / p + 1 : Nat) : Int)) + ((p - n % p : Nat) : Int) := by
    have h5 : (p : Int) * (-((n / p + 1 : Nat) : Int)) = -((p * (n / p) + p : Nat) : Int) := by
     rw [Int.mul_neg, ← Int.natCast_mul, Nat.mul_add, Nat.mul_one]
    rw [h5]
    omega
   rw [h4, Int.mul_add_ediv_left _ _ (by omega), Int.ediv_eq_zero_of_lt (by omega) (by omega), Int.add_zero]
theorem zjc {s : Bool} {l : List Int} {e : Int} (h : Dy s l e) (hl : l.length ≤ 1000000) (h1 : -900000000 ≤ e) (h2 : e ≤ 900000000) : Ev (fun k => zbd.f k s l e) (mk (zaI (sv s (V l)) e) 0) := by
 unfold zbd.f zaI
 by_cases c : 0 ≤ e
 ·refine zd c ?_
  refine zg (Ev.now _) ?_
  rw [if_pos c, zbs, show (0 : Int) + (e.toNat : Int) = e by omega, zck h]
 ·refine ze c ?_
  rw [if_neg c]
  have ew : wrap64 (-e) = (((-e).toNat : Nat) : Int) := by unfold wrap64; omega
  rw [ew]
  clear ew
  have hn : (-e).toNat < 1000000000 := by omega
  generalize (-e).toNat = n at *
  refine Ev.bind (zeu h.nm (by omega) n hn) ?_
  (repeat (first | with_reducible refine ep ?_ | with_reducible refine en ?_))
  have hd : (D (V l / 2 ^ n)).length ≤ l.length := zaX (Nat.lt_of_le_of_lt (Nat.div_le_self _ _) (zaO h.nm.dg))
  have d1 : Dg [1] := Dg.cons (by omega) (by omega) Dg.nil
  have v1 : V [1] = 1 := by simp
  have hadd := zcn (zau (V l / 2 ^ n)) d1 (by omega) (by simp)
  rw [V_D, v1] at hadd
  have hl2 : (D (V l / 2 ^ n + 1)).length ≤ l.length + 1 := zik hd
  have f1 := za9 s (zi (V l / 2 ^ n + 1)) (by omega) (e := 0) (by omega) (by omega)
  have f0 := za9 s (zi (V l / 2 ^ n)) (by omega) (e := 0) (by omega) (by omega)
  rw [V_D] at f0 f1
  cases s
  ·refine ze (by simp) (Ev.bind f0 (zg (Ev.now _) ?_))
   rw [zef, if_neg (by simp)]; rfl
  ·refine zd rfl ?_
   by_cases hc : V l % 2 ^ n ≠ 0
   ·refine zd (decide_eq_true hc) (Ev.bind hadd (Ev.bind f1 (zg (Ev.now _) ?_)))
    rw [zef, if_pos ⟨rfl, hc⟩]
   ·refine ze (by rw [decide_eq_false hc]; simp) (Ev.bind f0 (zg (Ev.now _) ?_))
    rw [zef, if_neg (fun h => hc h.2)]; rfl
theorem zja {s : Bool} {l : List Int} {e : Int} (h : Dy s l e) (hl : l.length ≤ 1000000) (h1 : -100000000000000 ≤ e) (h2 : e ≤ 100000000000000) (b : Nat) (hb : b ≤ 100000000) : Ev (fun k => zb3.f k s l e b) ((mk (sv s (V l / 2 ^ (bl (V l) - b))) (e + ((bl (V l) - b : Nat) : Int))).1, (mk (sv s (V l / 2 ^ (bl (V l) - b))) (e + ((bl (V l) - b : Nat) : Int))).2.1, (mk (sv s (V l / 2 ^ (bl (V l) - b))) (e + ((bl (V l) - b : Nat) : Int))).2.2, decide (V l % 2 ^ (bl (V l) - b) ≠ 0)) := by
 unfold zb3.f
 have hbl := zaw h.nm.dg
 refine Ev.bind (zba h.nm (by omega)) ?_
 (repeat (first | with_reducible refine ep ?_ | with_reducible refine en ?_))
 by_cases c : bl (V l) ≤ b
 ·have ew : wrap64 (((bl (V l) : Nat) : Int) - (b : Int)) ≤ 0 := by unfold wrap64; omega
  refine zd ew ?_
  refine zg (Ev.now _) ?_
  have e0 : bl (V l) - b = 0 := by omega
  rw [e0, Nat.pow_zero, Nat.div_one, Nat.mod_one, show e + ((0 : Nat) : Int) = e by omega, zck h]
  rfl
 ·have ew : wrap64 (((bl (V l) : Nat) : Int) - (b : Int)) = ((bl (V l) - b : Nat) : Int) := by unfold wrap64; omega
  rw [ew]
  clear ew
  have hn : bl (V l) - b < 1000000000 := by omega
  (repeat (first | with_reducible refine ep ?_ | with_reducible refine en ?_))
  generalize bl (V l) - b = n at *
  have hd : (D (V l / 2 ^ n)).length ≤ l.length := zaX (Nat.lt_of_le_of_lt (Nat.div_le_self _ _) (zaO h.nm.dg))
  have f0 := za9 s (zi (V l / 2 ^ n)) (by omega) (e := e + (n : Int)) (by omega) (by omega)
  rw [V_D] at f0
  rw [zdn (by omega) (by omega) (by omega)]
  refine Ev.bind (zeu h.nm (by omega) n hn) ?_
  (repeat (first | with_reducible refine ep ?_ | with_reducible refine en ?_))
  refine Ev.bind f0 ?_
  (repeat (first | with_reducible refine ep ?_ | with_reducible refine en ?_))
  exact Ev.now _
theorem ziH {n : Int} (h1 : -9223372036854775808 ≤ n) (h2 : n < 0) : IntKind.u64.wrap (-(IntKind.u64.wrap n)) = ((-n).toNat : Int) := by
 rw [zam, zam]; omega
theorem zgk {n : Int} (h1 : -9223372036854775808 ≤ n) (h2 : n < 9223372036854775808) : Ev (fun k => zz.f k n) (mk n 0) := by
 unfold zz.f
 have hlen : ∀ m : Nat, m < 18446744073709551616 → (D m).length < 10000000 := fun m hm => by
  have : (D m).length ≤ 2 := zaX (by omega)
  omega
 by_cases c : n < 0
 ·rw [ziH h1 c]
  have o1 := zdh (n := ((-n).toNat : Int)) (by omega) (by omega)
  rw [Int.toNat_natCast] at o1
  have f1 := za9 (decide (n < 0)) (zi (-n).toNat) (hlen _ (by omega)) (e := 0) (by omega) (by omega)
  rw [V_D, decide_eq_true c] at f1
  have e1 : sv true (-n).toNat = n := by unfold sv; rw [if_pos rfl]; omega
  rw [e1] at f1
  refine zd c ?_
  refine zf ?_
  simp only [zz.j0]
  rw [decide_eq_true c]
  refine Ev.bind o1 ?_
  (repeat (first | with_reducible refine ep ?_ | with_reducible refine en ?_))
  refine Ev.bind f1 ?_
  (repeat (first | with_reducible refine ep ?_ | with_reducible refine en ?_))
  exact Ev.now _
 ·have e0 : IntKind.u64.wrap n = (n.toNat : Int) := by rw [zam]; omega
  rw [e0]
  have o1 := zdh (n := (n.toNat : Int)) (by omega) (by omega)
  rw [Int.toNat_natCast] at o1
  have f1 := za9 (decide (n < 0)) (zi n.toNat) (hlen _ (by omega)) (e := 0) (by omega) (by omega)
  rw [V_D, decide_eq_false c] at f1
  have e1 : sv false n.toNat = n := by unfold sv; rw [if_neg (by simp)]; omega
  rw [e1] at f1
  refine ze c ?_
  refine zf ?_
  simp only [zz.j0]
  rw [decide_eq_false c]
  refine Ev.bind o1 ?_
  (repeat (first | with_reducible refine ep ?_ | with_reducible refine en ?_))
  refine Ev.bind f1 ?_
  (repeat (first | with_reducible refine ep ?_ | with_reducible refine en ?_))
  exact Ev.now _
theorem zhd (X : Nat) (hX : X < 4294967296) : Go.bits .and .u32 (X : Int) 1 = ((X % 2 : Nat) : Int) := by
 have h1 : (BitVec.ofInt 32 (X : Int)).toNat = X := by
  rw [BitVec.ofInt_natCast, BitVec.toNat_ofNat]; exact Nat.mod_eq_of_lt (by omega)
 show IntKind.u32.wrap ((BitVec.ofInt 32 (X : Int) &&& BitVec.ofInt 32 1).toNat : Int) = _
 have h2 : (BitVec.ofInt 32 (1 : Int)).toNat = 1 := by decide
 have h3 : ∀ n : Int, IntKind.u32.wrap n = n % 4294967296 := fun n => by simp [IntKind.wrap, IntKind.signed, IntKind.bits]
 rw [BitVec.toNat_and, h1, h2, h3, Nat.and_one_is_mod]
 omega
theorem zei {l : List Int} (h : Dg l) : Go.bits .and .u32 (rd l 0) 1 = ((V l % 2 : Nat) : Int) := by
 have h1 := h.getD 0
 have h2 := zeV h 0
 rw [Nat.pow_zero, Nat.div_one] at h2
 have h3 : rd l 0 = l.getD 0 0 := rdn l 0
 rw [h3]
 obtain ⟨x, hx⟩ := Int.eq_ofNat_of_zero_le h1.1
 rw [hx] at h1 h2 ⊢
 rw [zhd x (by omega)]
 rw [Int.toNat_natCast] at h2
 omega
structure My (s : Bool) (l : List Int) (e : Int) : Prop where
 dy : Dy s l e
 len : l.length ≤ 4096
 lo : -16777216 ≤ e
 hi : e ≤ 16777216
theorem zc7 {s : Bool} {l : List Int} {e : Int} (h : My s l e) : zH.f s l e = some true := by
 obtain ⟨hd, hl, h1, h2⟩ := h
 unfold zH.f
 rw [zbu hd.nm.dg (by omega), Option.bind_some, zaK.2 ⟨hl, hd.nm⟩, if_neg (by simp)]
 by_cases c : l = []
 ·obtain ⟨h3, h4⟩ := hd.none c
  subst c; subst h3; subst h4
  rfl
 ·have ho := hd.odd c
  rw [if_neg (fun h => c (zad.1 h)), if_pos (zcg c), zei hd.nm.dg, if_pos (by omega)]
  unfold zcc.f
  rw [if_pos h1, decide_eq_true h2]; rfl
theorem zdB (s : Bool) {l : List Int} (e : Int) (h : l.length ≤ 4096) : za8.f s l e = some (s, l, e) := by
 unfold za8.f
 rw [if_pos (by omega)]
theorem zec {s : Bool} {l : List Int} {e : Int} (h : My s l e) : Ev (fun k => zaG.f k s l e) (sv s (V l)).sign := by
 unfold zaG.f
 refine zh (zc7 h) ?_
 (repeat (first | with_reducible refine ep ?_ | with_reducible refine en ?_))
 refine zf ?_
 simp only [zaG.j0]
 by_cases c : l = []
 ·subst c
  (repeat (first | with_reducible refine ep ?_ | with_reducible refine en ?_))
  exact zg (Ev.now _) (by rw [zN, z9]; rfl)
 ·have h1 := h.dy.odd c
  have h0 : V l ≠ 0 := by omega
  refine ze (by simpa using fun e => c e) ?_
  rw [zbw h0]
  by_cases hs : s = true
  ·refine zd hs ?_
   exact zg (Ev.now _) (if_pos hs).symm
  ·refine ze hs ?_
   exact zg (Ev.now _) (if_neg hs).symm
theorem zed {s : Bool} {l : List Int} {e : Int} (h : My s l e) : Ev (fun k => zbq.f k s l e) (top (sv s (V l)) e) := by
 have hb := zaw h.dy.nm.dg
 have hl := h.len
 have e1 := h.lo
 have e2 := h.hi
 unfold zbq.f top
 refine zh (zc7 h) ?_
 (repeat (first | with_reducible refine ep ?_ | with_reducible refine en ?_))
 by_cases c : l = []
 ·subst c
  (repeat (first | with_reducible refine ep ?_ | with_reducible refine en ?_))
  exact zg (Ev.now _) (by rw [zN, z9]; rfl)
 ·have h1 := h.dy.odd c
  have h0 : V l ≠ 0 := by omega
  refine ze (fun h => c (zad.1 h)) (Ev.bind (zcP h.dy.nm hl) (zg (Ev.now _) ?_))
  rw [if_neg (fun h => h0 (zbv.1 h)), zbb, zdn (by omega) (by omega) (by omega)]
theorem zip {s : Bool} {n : Nat} {e : Int} (h1 : -16777216 ≤ e) (h2 : e + (bl n : Nat) ≤ 16777216) : zdb s n e = ((mk (sv s n) e).1, (mk (sv s n) e).2.1, (mk (sv s n) e).2.2, 0) := by
 unfold zdb
 by_cases h0 : n = 0
 ·rw [if_pos h0, h0, z9]; rfl
 ·have := zdH h0
  rw [if_neg h0, if_neg (by omega), if_neg (by omega)]
theorem zdz {sa sb : Bool} {la lb : List Int} {ea eb : Int} (ha : My sa la ea) (hb : My sb lb eb) : Ev (fun k => z6.f k [(sa, la, ea), (sb, lb, eb)]) true := by
 unfold z6.f
 have e1 : wrap64 (0 + 1) = 1 := by rw [zaC (by omega) (by omega)]; rfl
 have e2 : wrap64 (1 + 1) = 2 := by rw [zaC (by omega) (by omega)]; rfl
 have el : (([(sa, la, ea), (sb, lb, eb)] : List (Bool × List Int × Int)).length : Int) = 2 := rfl
 have r0 : rdT [.b, .is .u32, .i .i64] [(sa, la, ea), (sb, lb, eb)] 0 = ⟨sa, la, ea⟩ := rfl
 have r1 : rdT [.b, .is .u32, .i .i64] [(sa, la, ea), (sb, lb, eb)] 1 = ⟨sb, lb, eb⟩ := rfl
 refine zf ?_
 simp only [z6.l0, el, e1, e2, r0]
 (repeat (first | with_reducible refine ep ?_ | with_reducible refine en ?_))
 refine zh (zc7 ha) ?_
 (repeat (first | with_reducible refine ep ?_ | with_reducible refine en ?_))
 refine zf ?_
 simp only [z6.l0, el, e1, e2, r1]
 (repeat (first | with_reducible refine ep ?_ | with_reducible refine en ?_))
 refine zh (zc7 hb) ?_
 (repeat (first | with_reducible refine ep ?_ | with_reducible refine en ?_))
 refine zf ?_
 simp only [z6.l0, el, e1, e2]
 (repeat (first | with_reducible refine ep ?_ | with_reducible refine en ?_))
 exact Ev.now _
def ok3 (d : Bool × List Int × Int) : Bool × List Int × Int × Int := (d.1, d.2.1, d.2.2, 0)
theorem zci {s : Bool} {n : Nat} {e : Int} (h1 : -16777216 ≤ e) (h2 : e + (bl n : Nat) ≤ 16777216) : zdb s n e = ok3 (mk (sv s n) e) := zip h1 h2
theorem zd2 (x y : Nat) : bl (x + y) ≤ max (bl x) (bl y) + 1 := by
 refine zav ?_
 have h1 := z3 x
 have h2 := z3 y
 have h3 : 2 ^ bl x ≤ 2 ^ max (bl x) (bl y) := Nat.pow_le_pow_right (by omega) (by omega)
 have h4 : 2 ^ bl y ≤ 2 ^ max (bl x) (bl y) := Nat.pow_le_pow_right (by omega) (by omega)
 rw [Nat.pow_succ]
 omega
theorem zfi {n : Nat} (h : bl n ≤ 131072) : zaY n = (D n, 0) := by
 have : (D n).length ≤ 4096 := z7 (by omega)
 unfold zaY
 rw [if_neg (by omega)]
theorem zhK (p q : Bool) (x y : Nat) {e : Int} (hx : bl x ≤ 131000) (hy : bl y ≤ 131000) (h1 : -16000000 ≤ e) (h2 : e ≤ 16000000) : Ev (fun k => zaS.f k p (D x) q (D y) e) (ok3 (mk (sv p x + sv q y) e)) := by
 have lx : (D x).length ≤ 4096 := z7 (by omega)
 have ly : (D y).length ≤ 4096 := z7 (by omega)
 unfold zaS.f
 by_cases hs : p = q
 ·subst hs
  have hb := zd2 x y
  have a1 := ziB (zi x) (zi y) lx ly
  rw [V_D, V_D, zfi (by omega)] at a1
  have m1 := zb9 p (zi (x + y)) (z7 (by omega)) e
  rw [V_D, zci (by omega) (by omega), ← zgG] at m1
  (repeat (first | with_reducible refine ep ?_ | with_reducible refine en ?_))
  refine Ev.bind a1 ?_
  (repeat (first | with_reducible refine ep ?_ | with_reducible refine en ?_))
  refine Ev.bind m1 ?_
  (repeat (first | with_reducible refine ep ?_ | with_reducible refine en ?_))
  exact Ev.now _
 ·refine ze (by simpa using hs) ?_
  have c1 := zdM (zi x) (zi y) lx ly
  rw [V_D, V_D] at c1
  refine Ev.bind c1 ?_
  (repeat (first | with_reducible refine ep ?_ | with_reducible refine en ?_))
  by_cases hc : x < y
  ·have s1 := zfU (zi y) (zi x) ly lx
   rw [V_D, V_D, show zcT y x = (D (y - x), 0) by unfold zcT; rw [if_neg (by omega)]] at s1
   have hb := zbB (show y - x ≤ y by omega)
   have m1 := zb9 q (zi (y - x)) (z7 (by omega)) e
   rw [V_D, zci (by omega) (by omega), ← zdU (fun h => hs h.symm) (by omega), Int.add_comm] at m1
   refine zd (zfp.2 hc) ?_
   refine zf ?_
   simp only [zaS.j2]
   refine Ev.bind s1 ?_
   (repeat (first | with_reducible refine ep ?_ | with_reducible refine en ?_))
   refine Ev.bind m1 ?_
   (repeat (first | with_reducible refine ep ?_ | with_reducible refine en ?_))
   exact Ev.now _
  ·have s1 := zfU (zi x) (zi y) lx ly
   rw [V_D, V_D, show zcT x y = (D (x - y), 0) by unfold zcT; rw [if_neg (by omega)]] at s1
   have hb := zbB (show x - y ≤ x by omega)
   have m1 := zb9 p (zi (x - y)) (z7 (by omega)) e
   rw [V_D, zci (by omega) (by omega), ← zdU hs (by omega)] at m1
   refine ze (fun h => hc (zfp.1 h)) ?_
   refine zf ?_
   simp only [zaS.j2]
   refine Ev.bind s1 ?_
   (repeat (first | with_reducible refine ep ?_ | with_reducible refine en ?_))
   refine Ev.bind m1 ?_
   (repeat (first | with_reducible refine ep ?_ | with_reducible refine en ?_))
   exact Ev.now _
structure Sm (s : Bool) (l : List Int) (e : Int) : Prop where
 dy : Dy s l e
 len : l.length ≤ 1000
 lo : -40000 ≤ e
 hi : e ≤ 40000
theorem Sm.my {s : Bool} {l : List Int} {e : Int} (h : Sm s l e) : My s l e := ⟨h.dy, Nat.le_trans h.len (by omega), by have := h.lo; omega, by have := h.hi; omega⟩
theorem zf0 {s : Bool} {l : List Int} {e : Int} (h : Dy s l e) : ok3 (mk (sv s (V l)) e) = (s, l, e, 0) := by rw [zck h]; rfl
theorem zhL {s : Bool} {l : List Int} {e : Int} (h : Dy s l e) (hl : l.length ≤ 4096) : zcM.f s l e (!s) = some (mk (-(sv s (V l))) e) := by
 unfold zcM.f
 rw [zdB s e hl, Option.bind_some]
 by_cases c : l = []
 ·obtain ⟨h1, h2⟩ := h.none c
  subst c; subst h1; subst h2
  rfl
 ·have h1 := h.odd c
  have h0 : V l ≠ 0 := by omega
  rw [← zdT, zbO _ h0, zch h1, Nat.pow_zero, Nat.div_one, h.nm]
  have hp := zcg c
  cases s
  ·simp
   omega
  ·simp
theorem zeQ {s : Bool} {l : List Int} {e : Int} (h : Dy s l e) : (mk (-(sv s (V l))) e).2.1 = l ∧ sv (mk (-(sv s (V l))) e).1 (V l) = -(sv s (V l)) ∧ (mk (-(sv s (V l))) e).2.2 = e := by
 by_cases c : l = []
 ·obtain ⟨h1, h2⟩ := h.none c
  subst c; subst h1; subst h2
  exact ⟨rfl, by rw [zN, z9, z9]; rfl, rfl⟩
 ·have h3 := h.odd c
  have h0 : V l ≠ 0 := by omega
  rw [← zdT, zbO _ h0, zch h3, Nat.pow_zero, Nat.div_one, h.nm]
  exact ⟨rfl, rfl, by simp⟩
theorem zhI {s : Bool} {l : List Int} {e n : Int} (h : My s l e) (hn : -1000000000000 ≤ n ∧ n ≤ 1000000000000) (h1 : -16777216 ≤ e + n) (h2 : e + n ≤ 16777216) : zbI.f s l e n = some (ok3 (mk (sv s (V l)) (e + n))) := by
 have lo := h.lo
 have hi := h.hi
 unfold zbI.f
 rw [zc7 h, Option.bind_some, if_neg (by simp)]
 by_cases c : l = []
 ·subst c
  rw [if_pos (zad.2 rfl), zN, z9]; rfl
 ·have ho := h.dy.odd c
  have h0 : V l ≠ 0 := by omega
  have e1 : wrap64 (16777216 - e) = 16777216 - e := by unfold wrap64; omega
  have e2 : wrap64 (-16777216 - e) = -16777216 - e := by unfold wrap64; omega
  have e3 : wrap64 (e + n) = e + n := by unfold wrap64; omega
  rw [if_neg (fun h => c (zad.1 h)), e1, e2, if_neg (by omega), if_neg (by omega), zdB s e h.len, Option.bind_some, e3]
  rw [zbO _ h0, zch ho, Nat.pow_zero, Nat.div_one, h.dy.nm]
  simp [ok3]
theorem zfq (x y : Nat) : zO x y = ((x : Int) - (y : Int)).sign := by
 rw [zd8]
 unfold zO
 rcases Nat.lt_trichotomy x y with h | h | h
 ·rw [if_pos h, if_pos (show (x : Int) < (y : Int) by omega)]
 ·subst h; simp
 ·rw [if_neg (show ¬ x < y by omega), if_pos h, if_neg (show ¬ (x : Int) < (y : Int) by omega), if_pos (show (y : Int) < (x : Int) by omega)]
theorem zd5 {za ea zb eb m : Int} (h1 : m ≤ ea) (h2 : m ≤ eb) : (al za ea m - al zb eb m).sign = zo za ea zb eb := by
 unfold zo
 have h3 : m ≤ min ea eb := by omega
 rw [← zdt (z := za) (e := ea) (m := min ea eb) (n := m) (by omega) h3, ← zdt (z := zb) (e := eb) (m := min ea eb) (n := m) (by omega) h3]
 generalize al za ea (min ea eb) = x
 generalize al zb eb (min ea eb) = y
 have e : al x (min ea eb) m - al y (min ea eb) m = al (x - y) (min ea eb) m := by unfold al; rw [Int.sub_mul]
 rw [e, zan]
theorem zcy (n : Nat) (e m : Int) : al (n : Int) e m = ((n * 2 ^ (e - m).toNat : Nat) : Int) := by
 unfold al
 rw [Int.natCast_mul, Int.natCast_pow]; rfl
theorem zeT {s : Bool} {e : Int} (h : Dy s [] e) : s = false ∧ e = 0 := h.none rfl
theorem zhN : Ev (fun k => zay.f k false [] 0 false [] 0) 0 := by
 have hd : Dy false [] 0 := ⟨zbz, fun _ => ⟨rfl, rfl⟩, fun h => absurd rfl h⟩
 have hm : My false [] 0 := ⟨hd, by simp, by omega, by omega⟩
 have ht := zed hm
 have et : top (sv false (V [])) 0 = 0 := rfl
 rw [et] at ht
 have hn := zcP zbz (by simp : ([] : List Int).length ≤ 4096)
 have hs := zdd zbz (by simp : ([] : List Int).length ≤ 4096) 0
 have es : zbV (V []) 0 = ([], false, 0) := rfl
 rw [es] at hs
 have hc := zdM zbz zbz (by simp) (by simp)
 have ec : zO (V []) (V []) = 0 := rfl
 rw [ec] at hc
 have w0 : wrap64 (((bl (V []) : Nat) : Int) - ((bl (V []) : Nat) : Int)) = 0 := by rw [Int.sub_self, zaC (by omega) (by omega)]
 have w1 : wrap64 (-0) = 0 := by rw [Int.neg_zero, zaC (by omega) (by omega)]
 unfold zay.f
 refine Ev.bind ht ?_
 (repeat (first | with_reducible refine ep ?_ | with_reducible refine en ?_))
 refine Ev.bind ht ?_
 (repeat (first | with_reducible refine ep ?_ | with_reducible refine en ?_))
 refine Ev.bind ht ?_
 (repeat (first | with_reducible refine ep ?_ | with_reducible refine en ?_))
 refine Ev.bind ht ?_
 (repeat (first | with_reducible refine ep ?_ | with_reducible refine en ?_))
 refine Ev.bind hn ?_
 (repeat (first | with_reducible refine ep ?_ | with_reducible refine en ?_))
 refine Ev.bind hn ?_
 (repeat (first | with_reducible refine ep ?_ | with_reducible refine en ?_))
 rw [w0, w1]
 (repeat (first | with_reducible refine ep ?_ | with_reducible refine en ?_))
 refine Ev.bind hs ?_
 (repeat (first | with_reducible refine ep ?_ | with_reducible refine en ?_))
 refine zf ?_
 simp only [zay.j1]
 refine Ev.bind hc ?_
 (repeat (first | with_reducible refine ep ?_ | with_reducible refine en ?_))
 exact Ev.now _
theorem ze9 (z e m : Int) : al (-z) e m = -(al z e m) := by unfold al; rw [Int.neg_mul]
theorem zhr (x ea y eb : Int) : zo (-x) ea (-y) eb = -(zo x ea y eb) := by
 unfold zo
 rw [ze9, ze9, ← Int.sign_neg]
 congr 1
 omega
theorem zht (s : Bool) (x y : Nat) (ea eb : Int) (hx : x ≠ 0) : (sv s x).sign * zo (x : Int) ea (y : Int) eb = zo (sv s x) ea (sv s y) eb := by
 rw [zbw hx]
 cases s
 ·simp [sv]
 ·simp only [sv, if_true]
  rw [zhr]
  omega
theorem zhs (za ea zb eb : Int) : zo za ea zb eb = -1 ∨ zo za ea zb eb = 0 ∨ zo za ea zb eb = 1 := by
 unfold zo
 rcases za5 (al za ea (min ea eb) - al zb eb (min ea eb)) with ⟨_, h⟩ | ⟨_, h⟩ | ⟨_, h⟩
 ·exact .inl h
 ·exact .inr (.inl h)
 ·exact .inr (.inr h)
theorem zcD (n : Nat) (h : n < 18446744073709551616) : (BitVec.ofInt 64 (n : Int)).toNat = n := by
 rw [BitVec.ofInt_natCast, BitVec.toNat_ofNat]; exact Nat.mod_eq_of_lt (by omega)
theorem zfa (a b : Nat) (ha : a < 18446744073709551616) (hb : b < 18446744073709551616) : Go.bits .and .u64 (a : Int) (b : Int) = ((a &&& b : Nat) : Int) := by
 show IntKind.u64.wrap ((BitVec.ofInt 64 (a : Int) &&& BitVec.ofInt 64 (b : Int)).toNat : Int) = _
 have hx : a &&& b < 2 ^ 64 := Nat.and_lt_two_pow _ (by omega)
 rw [BitVec.toNat_and, zcD a ha, zcD b hb, zam]
 omega
theorem zdf (a b : Nat) (ha : a < 18446744073709551616) (hb : b < 18446744073709551616) : Go.bits .or .u64 (a : Int) (b : Int) = ((a ||| b : Nat) : Int) := by
 show IntKind.u64.wrap ((BitVec.ofInt 64 (a : Int) ||| BitVec.ofInt 64 (b : Int)).toNat : Int) = _
 have hx : a ||| b < 2 ^ 64 := Nat.or_lt_two_pow (by omega) (by omega)
 rw [BitVec.toNat_or, zcD a ha, zcD b hb, zam]
 omega
theorem zha (a b : Nat) (ha : a < 18446744073709551616) (hb : b < 18446744073709551616) : Go.bits .andNot .u64 (a : Int) (b : Int) = ((a &&& (18446744073709551616 - 1 - b) : Nat) : Int) := by
 show IntKind.u64.wrap ((BitVec.ofInt 64 (a : Int) &&& ~~~(BitVec.ofInt 64 (b : Int))).toNat : Int) = _
 have hx : a &&& (18446744073709551616 - 1 - b) < 2 ^ 64 := Nat.and_lt_two_pow _ (by omega)
 rw [BitVec.toNat_and, BitVec.toNat_not, zcD a ha, zcD b hb, zam]
 have e : 2 ^ 64 - 1 - b = 18446744073709551616 - 1 - b := by omega
 rw [e]
 omega
theorem zhc (a k : Nat) (ha : a < 18446744073709551616) (hk : k ≤ 63) : Go.bits .and .u64 (a : Int) ((2 ^ k - 1 : Nat) : Int) = ((a % 2 ^ k : Nat) : Int) := by
 have h1 : 2 ^ k ≤ 2 ^ 63 := Nat.pow_le_pow_right (by omega) hk
 rw [zfa a _ ha (by omega), Nat.and_two_pow_sub_one_eq_mod]
theorem zhb (w k : Nat) (hk : k ≤ 63) (hw : w < 2 ^ (k + 1)) : Go.bits .andNot .u64 (w : Int) ((2 ^ k : Nat) : Int) = ((w % 2 ^ k : Nat) : Int) := by
 have h1 : 2 ^ k ≤ 2 ^ 63 := Nat.pow_le_pow_right (by omega) hk
 have h2 : 2 ^ (k + 1) ≤ 2 ^ 64 := Nat.pow_le_pow_right (by omega) (by omega)
 rw [zha w _ (by omega) (by omega)]
 congr 1
 apply Nat.eq_of_testBit_eq
 intro i
 have e : 18446744073709551616 - 1 - 2 ^ k = 2 ^ 64 - (2 ^ k + 1) := by omega
 rw [Nat.testBit_and, Nat.testBit_mod_two_pow, e, Nat.testBit_two_pow_sub_succ (by omega), Nat.testBit_two_pow]
 rcases Nat.lt_trichotomy i k with h | h | h
 ·have h3 : i < 64 := by omega
  have h4 : ¬ k = i := by omega
  simp [h, h3, h4]
 ·subst h; simp
 ·have h3 : w.testBit i = false := Nat.testBit_lt_two_pow (Nat.lt_of_lt_of_le hw (Nat.pow_le_pow_right (by omega) (by omega)))
  have h4 : ¬ i < k := by omega
  simp [h3, h4]
theorem zhe (w k : Nat) (hk : k ≤ 63) (hw : w < 2 ^ (k + 1)) : Go.bits .and .u64 (w : Int) ((2 ^ k : Nat) : Int) = ((w / 2 ^ k * 2 ^ k : Nat) : Int) := by
 have h1 : 2 ^ k ≤ 2 ^ 63 := Nat.pow_le_pow_right (by omega) hk
 have h2 : 2 ^ (k + 1) ≤ 2 ^ 64 := Nat.pow_le_pow_right (by omega) (by omega)
 rw [zfa w _ (by omega) (by omega)]
 congr 1
 apply Nat.eq_of_testBit_eq
 intro i
 rw [Nat.testBit_and, Nat.testBit_two_pow, Nat.testBit_mul_two_pow, Nat.testBit_div_two_pow]
 rcases Nat.lt_trichotomy i k with h | h | h
 ·have h3 : ¬ k = i := by omega
  have h4 : ¬ k ≤ i := by omega
  simp [h3, h4]
 ·subst h; simp
 ·have h3 : w.testBit i = false := Nat.testBit_lt_two_pow (Nat.lt_of_lt_of_le hw (Nat.pow_le_pow_right (by omega) (by omega)))
  have h4 : ¬ k = i := by omega
  have h5 : i - k + k = i := by omega
  simp [h3, h4, h5]
theorem ziM (a b k : Nat) (hb : b < 2 ^ k) (h : a * 2 ^ k + b < 18446744073709551616) : Go.bits .or .u64 ((a * 2 ^ k : Nat) : Int) (b : Int) = ((a * 2 ^ k + b : Nat) : Int) := by
 rw [zdf _ _ (by omega) (by omega)]
 congr 1
 rw [Nat.mul_comm]
 exact (Nat.two_pow_add_eq_or_of_lt hb a).symm
theorem ziJ (a b : Nat) (ha : a < 18446744073709551616) (hb : b < 18446744073709551616) : Go.bits .or .u64 (a : Int) (b : Int) = Go.bits .or .u64 (b : Int) (a : Int) := by
 rw [zdf a b ha hb, zdf b a hb ha, Nat.or_comm]
def isF (f : Int) : Prop := f = 1 ∨ f = 2
def fb (f : Int) : Nat := if f = 1 then 23 else 52
def mo (f : Int) : Nat := if f = 1 then 255 else 2047
def sk (f : Int) : Nat := if f = 1 then 31 else 63
def sg (f : Int) : Nat := if f = 1 then 2147483648 else 9223372036854775808
theorem zjA {f : Int} (h : isF f) : zcs.f f = some ((fb f : Int), (mo f : Int), (sg f : Int), true) := by
 rcases h with rfl | rfl <;> rfl
theorem zjz {f : Int} (h : ¬ isF f) : zcs.f f = some (0, 0, 0, false) := by
 unfold zcs.f
 rw [if_neg (fun e => h (.inl e)), if_neg (fun e => h (.inr e))]
theorem zka {f : Int} (h : ¬ isF f) (l : List Int) : Ev (fun k => zaf.f k f l) (0, 0, 0, 4) := by
 unfold zaf.f
 refine zh (zjz h) ?_
 (repeat (first | with_reducible refine ep ?_ | with_reducible refine en ?_))
 exact Ev.now _
theorem ziz {f : Int} (h : isF f) : Go.bits .or .u64 (sg f : Int) (IntKind.u64.wrap ((sg f : Int) - 1)) = ((2 * sg f - 1 : Nat) : Int) := by
 rcases h with rfl | rfl
 ·have e : IntKind.u64.wrap (((sg 1 : Nat) : Int) - 1) = ((2147483647 : Nat) : Int) := by rw [zam]; rfl
  rw [e, zdf _ _ (by decide) (by decide)]; rfl
 ·have e : IntKind.u64.wrap (((sg 2 : Nat) : Int) - 1) = ((9223372036854775807 : Nat) : Int) := by rw [zam]; rfl
  rw [e, zdf _ _ (by decide) (by decide)]; rfl
theorem zdk {f : Int} (h : isF f) : 0 < sg f ∧ 2 * sg f ≤ 18446744073709551616 := by rcases h with rfl | rfl <;> decide
theorem zgx {f : Int} (h : isF f) : sg f = 2 ^ sk f := by rcases h with rfl | rfl <;> decide
theorem zgB {f : Int} (h : isF f) : sk f ≤ 63 := by rcases h with rfl | rfl <;> decide
def za2 (f : Int) (w : Nat) : Int := if w < 2 * sg f then 0 else 6
theorem zeN {f : Int} (h : isF f) (w : Nat) : Ev (fun k => zaf.f k f [(w : Int)]) ((fb f : Int), (mo f : Int), (sg f : Int), za2 f w) := by
 have hp := zdk h
 unfold zaf.f za2
 have e1 : wrap64 (0 + 1) = 1 := by rw [zaC (by omega) (by omega)]; rfl
 have el : (([(w : Int)] : List Int).length : Int) = 1 := rfl
 have er : rd [(w : Int)] 0 = (w : Int) := rfl
 refine zh (zjA h) ?_
 (repeat (first | with_reducible refine ep ?_ | with_reducible refine en ?_))
 refine zf ?_
 simp only [zaf.l0, el, e1, er, ziz h]
 (repeat (first | with_reducible refine ep ?_ | with_reducible refine en ?_))
 by_cases c : w < 2 * sg f
 ·rw [if_pos c]
  (repeat (first | with_reducible refine ep ?_ | with_reducible refine en ?_))
  refine zf ?_
  simp only [zaf.l0, el]
  (repeat (first | with_reducible refine ep ?_ | with_reducible refine en ?_))
  exact Ev.now _
 ·rw [if_neg c]
  (repeat (first | with_reducible refine ep ?_ | with_reducible refine en ?_))
  exact Ev.now _
theorem zjC {f : Int} (h : isF f) : shl .u64 ((mo f : Nat) : Int) ((fb f : Nat) : Int) = ((mo f * 2 ^ fb f : Nat) : Int) := by
 rcases h with rfl | rfl <;> decide
theorem zh9 {f : Int} (h : isF f) : zct.f (fb f : Int) (mo f : Int) (sg f : Int) = some ((mo f * 2 ^ fb f : Nat) : Int) := by
 unfold zct.f
 have hm : mo f < 10000 := by rcases h with rfl | rfl <;> decide
 rw [if_pos (by omega), u64 (by omega) (by omega), zjC h]
def cls (f : Int) (w : Nat) : Int :=
 if w % sg f = 0 then 1 else if w % sg f < 2 ^ fb f then 2 else if w % sg f < mo f * 2 ^ fb f then 3 else if w % sg f = mo f * 2 ^ fb f then 4 else 5
theorem zgA {f : Int} (h : isF f) {w : Nat} (hw : w < 2 * sg f) : Go.bits .andNot .u64 (w : Int) (sg f : Int) = ((w % sg f : Nat) : Int) := by
 rw [zgx h] at hw ⊢
 exact zhb w (sk f) (zgB h) (by rw [Nat.pow_succ, Nat.mul_comm]; exact hw)
theorem zde {f : Int} (h : isF f) : shl .u64 1 ((fb f : Nat) : Int) = ((2 ^ fb f : Nat) : Int) := by rcases h with rfl | rfl <;> decide
theorem zfk {f : Int} (h : isF f) {w : Nat} (hw : w < 2 * sg f) : zbX.f (fb f : Int) (mo f : Int) (sg f : Int) (w : Int) = some (cls f w) := by
 unfold zbX.f cls
 rw [zgA h hw, zde h]
 generalize w % sg f = z
 by_cases c1 : z = 0
 ·rw [if_pos (by omega), if_pos c1]
 rw [if_neg (by omega), if_neg c1, if_pos (by omega)]
 by_cases c2 : z < 2 ^ fb f
 ·rw [if_pos (by omega), if_pos c2]
 rw [if_neg (by omega), if_neg c2, zh9 h, Option.bind_some]
 by_cases c3 : z < mo f * 2 ^ fb f
 ·rw [if_pos (by omega), if_pos c3]
 rw [if_neg (by omega), if_neg c3, Option.bind_some]
 by_cases c4 : z = mo f * 2 ^ fb f
 ·rw [if_pos (by omega), if_pos c4]
 ·rw [if_neg (by omega), if_neg c4]
theorem zgW {f : Int} (h : isF f) {w : Nat} (hw : w < 2 * sg f) : Ev (fun k => zcr.f k f (w : Int)) (cls f w, 0) := by
 have ho := zeN h w
 unfold za2 at ho
 rw [if_pos hw] at ho
 unfold zcr.f
 refine Ev.bind ho ?_
 (repeat (first | with_reducible refine ep ?_ | with_reducible refine en ?_))
 refine zh (zfk h hw) ?_
 (repeat (first | with_reducible refine ep ?_ | with_reducible refine en ?_))
 exact Ev.now _
def zbc (f : Int) (w : Nat) : Bool := decide (sg f ≤ w)
def zR (f : Int) (w : Nat) : Nat := w % sg f / 2 ^ fb f
def zS (f : Int) (w : Nat) : Nat := w % sg f % 2 ^ fb f
theorem zdE {f : Int} (h : isF f) : fb f ≤ 52 := by rcases h with rfl | rfl <;> decide
theorem zeD {f : Int} (h : isF f) : sg f = 2 ^ fb f * (mo f + 1) := by rcases h with rfl | rfl <;> decide
theorem pfb {f : Int} (h : isF f) : 2 ^ fb f ≤ 4503599627370496 := by rcases h with rfl | rfl <;> decide
theorem zcl {f : Int} (h : isF f) : mo f ≤ 2047 := by rcases h with rfl | rfl <;> decide
theorem zjF {f : Int} (h : isF f) {w : Nat} (hw : w < 2 * sg f) : zcX.f (fb f : Int) (mo f : Int) (sg f : Int) (w : Int) = some (zbc f w, (zR f w : Int), (zS f w : Int)) := by
 have hp := zdk h
 have hk := zgB h
 have h52 := zdE h
 have hpw := pfb h
 have hpp := zj (fb f)
 unfold zcX.f
 rw [zgA h hw, zde h]
 have h1 : Go.bits .and .u64 (w : Int) (sg f : Int) = ((w / sg f * sg f : Nat) : Int) := by
  rw [zgx h] at hw ⊢
  exact zhe w (sk f) hk (by rw [Nat.pow_succ, Nat.mul_comm]; exact hw)
 have hz : w % sg f < sg f := Nat.mod_lt _ hp.1
 have h2 : IntKind.u64.wrap (((2 ^ fb f : Nat) : Int) - 1) = ((2 ^ fb f - 1 : Nat) : Int) := by rw [zam]; omega
 have h3 := zhc (w % sg f) (fb f) (by omega) (by omega)
 have h4 : shr .u64 ((w % sg f : Nat) : Int) ((fb f : Nat) : Int) = ((w % sg f / 2 ^ fb f : Nat) : Int) := zcp _ _ (by show fb f ≤ 64; omega)
 have h5 : wrap64 ((w % sg f / 2 ^ fb f : Nat) : Int) = ((w % sg f / 2 ^ fb f : Nat) : Int) := by
  have hq : w % sg f / 2 ^ fb f < mo f + 1 := Nat.div_lt_of_lt_mul (by rw [← zeD h]; exact hz)
  have hm := zcl h
  clear h1 h2 h3 h4
  generalize w % sg f / 2 ^ fb f = q at hq ⊢
  exact zaC (by omega) (by omega)
 rw [h1, h2, h3, h4, h5]
 have h6 : (decide (¬ (((w / sg f * sg f : Nat) : Int) = 0))) = zbc f w := by
  unfold zbc
  by_cases c : sg f ≤ w
  ·have : w / sg f = 1 := Nat.div_eq_of_lt_le (by omega) (by omega)
   rw [this, decide_eq_true c]
   exact decide_eq_true (by omega)
  ·rw [Nat.div_eq_of_lt (by omega), decide_eq_false c]
   simp
 rw [h6, if_pos (by omega)]
 rfl
def lo (f : Int) : Int := if f = 1 then -149 else -1074
theorem zfL {f : Int} (h : isF f) : zcW.f (fb f : Int) (mo f : Int) (sg f : Int) = some (lo f) := by
 unfold zcW.f
 have e : wrap64 (Int.tdiv ((mo f : Nat) : Int) 2) = ((mo f / 2 : Nat) : Int) := by
  have := zcl h
  exact zaC (by show (0 : Int) ≤ ((mo f / 2 : Nat) : Int); omega) (by show ((mo f / 2 : Nat) : Int) < _; omega)
 have hm := zcl h
 have hb := zdE h
 rw [e]
 have e2 : wrap64 (1 - ((mo f / 2 : Nat) : Int)) = 1 - ((mo f / 2 : Nat) : Int) := by unfold wrap64; omega
 rw [e2]
 have e3 : wrap64 (1 - ((mo f / 2 : Nat) : Int) - ((fb f : Nat) : Int)) = 1 - ((mo f / 2 : Nat) : Int) - ((fb f : Nat) : Int) := by unfold wrap64; omega
 rw [e3]
 rcases h with rfl | rfl <;> rfl
def zT (f : Int) (w : Nat) : Nat := if zR f w = 0 then zS f w else 2 ^ fb f + zS f w
def wex (f : Int) (w : Nat) : Int := (if zR f w = 0 then 0 else (zR f w : Int) - 1) + lo f
theorem zhP {f : Int} (h : isF f) {w : Nat} (hw : w < 2 * sg f) : Ev (fun k => zcV.f k f (w : Int)) ((fb f : Int), (mo f : Int), (sg f : Int), if cls f w ≥ 4 then 7 else 0) := by
 have ho := zeN h w
 unfold za2 at ho
 rw [if_pos hw] at ho
 unfold zcV.f
 refine Ev.bind ho ?_
 (repeat (first | with_reducible refine ep ?_ | with_reducible refine en ?_))
 refine zh (zfk h hw) ?_
 (repeat (first | with_reducible refine ep ?_ | with_reducible refine en ?_))
 by_cases c : cls f w ≥ 4
 ·refine zd c ?_
  exact zg (Ev.now _) (by rw [if_pos c])
 ·refine ze c ?_
  exact zg (Ev.now _) (by rw [if_neg c])
theorem mx1 (n : Nat) : (wrap64 ((mx (n : Int) 1) - 1) = if n = 0 then 0 else (n : Int) - 1) ∨ 4611686018427387904 ≤ n := by
 by_cases hb : n < 4611686018427387904
 ·left
  have e : mx (n : Int) 1 = ((max n 1 : Nat) : Int) := ziA n 1
  rw [e, zaC (by omega) (by omega)]
  split <;> omega
 ·right; omega
theorem zgX {f : Int} (h : isF f) {w : Nat} (hw : w < 2 * sg f) (hc : cls f w < 4) : Ev (fun k => zaW.f k f (w : Int)) (ok3 (mk (sv (zbc f w) (zT f w)) (wex f w))) := by
 have hf := zhP h hw
 rw [if_neg (by omega)] at hf
 have hp := zdk h
 have hz : w % sg f < sg f := Nat.mod_lt _ hp.1
 have he : zR f w < mo f + 1 := Nat.div_lt_of_lt_mul (by rw [← zeD h]; exact hz)
 have hm := zcl h
 have hfr : zS f w < 2 ^ fb f := Nat.mod_lt _ (zj _)
 have hpw := pfb h
 have h52 := zdE h
 have hlo : -1074 ≤ lo f ∧ lo f ≤ -149 := by rcases h with rfl | rfl <;> decide
 have hmx := (mx1 (zR f w)).resolve_right (by omega)
 have hbl : ∀ m : Nat, m < 18446744073709551616 → bl m ≤ 64 := fun m hm => zav (by omega)
 unfold zaW.f
 refine Ev.bind hf ?_
 (repeat (first | with_reducible refine ep ?_ | with_reducible refine en ?_))
 refine zh (zjF h hw) ?_
 (repeat (first | with_reducible refine ep ?_ | with_reducible refine en ?_))
 have hex : wrap64 (wrap64 ((mx (zR f w : Int) 1) - 1) + lo f) = wex f w := by
  rw [hmx]
  unfold wex wrap64
  split <;> omega
 have hwx : -1074 ≤ wex f w ∧ wex f w ≤ 3000 := by unfold wex; split <;> omega
 by_cases c : zR f w = 0
 ·have hm0 : zT f w = zS f w := by unfold zT; rw [if_pos c]
  have o1 := zel (n := (zS f w : Int)) (by omega) (by omega)
  rw [Int.toNat_natCast] at o1
  have hb := hbl (zS f w) (by omega)
  have m1 := zb9 (zbc f w) (zi (zS f w)) (z7 (by omega)) (wex f w)
  rw [V_D, zci (by omega) (by omega)] at m1
  dsimp only
  (repeat (first | with_reducible refine ep ?_ | with_reducible refine en ?_))
  refine zf ?_; simp only [zaW.j1]
  refine Ev.bind (o1) ?_; try dsimp only
  refine zh (zfL h) ?_; try dsimp only
  rw [hex, hm0]
  refine Ev.bind m1 ?_
  (repeat (first | with_reducible refine ep ?_ | with_reducible refine en ?_))
  exact Ev.now _
 ·have hm0 : zT f w = 1 * 2 ^ fb f + zS f w := by unfold zT; rw [if_neg c, Nat.one_mul]
  have eo : Go.bits .or .u64 (zS f w : Int) (shl .u64 1 ((fb f : Nat) : Int)) = ((zT f w : Nat) : Int) := by
   rw [zde h, ziJ _ _ (by omega) (by omega), hm0]
   have := ziM 1 (zS f w) (fb f) hfr (by omega)
   rw [Nat.one_mul] at this
   rw [this, Nat.one_mul]
  have hlt : zT f w < 18446744073709551616 := by omega
  have o1 := zel (n := (zT f w : Int)) (by omega) (by omega)
  rw [Int.toNat_natCast] at o1
  have hb := hbl (zT f w) hlt
  have m1 := zb9 (zbc f w) (zi (zT f w)) (z7 (by omega)) (wex f w)
  rw [V_D, zci (by omega) (by omega)] at m1
  dsimp only
  (repeat (first | with_reducible refine ep ?_ | with_reducible refine en ?_))
  refine zf ?_; simp only [zaW.j1]
  rw [eo]
  refine Ev.bind (o1) ?_; try dsimp only
  refine zh (zfL h) ?_; try dsimp only
  rw [hex]
  refine Ev.bind m1 ?_
  (repeat (first | with_reducible refine ep ?_ | with_reducible refine en ?_))
  exact Ev.now _
theorem zfK {f : Int} (h : isF f) : -1074 ≤ lo f ∧ lo f ≤ -149 := by rcases h with rfl | rfl <;> decide
theorem ziw {f : Int} (h : isF f) : 255 ≤ mo f := by rcases h with rfl | rfl <;> decide
theorem zj6 {a b : Int} (h1 : -100000000000 ≤ a) (h2 : a ≤ 100000000000) (h3 : -100000000000 ≤ b) (h4 : b ≤ 100000000000) : wrap64 (a + b) = a + b := by unfold wrap64; omega
instance (f : Int) : Decidable (isF f) := inferInstanceAs (Decidable (f = 1 ∨ f = 2))
theorem zep (f : Int) : zbF.f f = some (decide (isF f)) := by
 unfold zbF.f isF
 by_cases h : f = 1
 ·rw [if_pos h]; simp [h]
 ·rw [if_neg h]; simp [h]
def isM (m : Int) : Prop := 1 ≤ m ∧ m ≤ 5
instance (m : Int) : Decidable (isM m) := inferInstanceAs (Decidable (1 ≤ m ∧ m ≤ 5))
theorem zf9 {f : Int} (h : isF f) {w : Nat} (hw : w < 18446744073709551616) : zb5.f f (w : Int) = some (za2 f w) := by
 unfold zb5.f za2
 rw [zep, decide_eq_true h, Option.bind_some, if_neg (by simp)]
 rcases h with rfl | rfl
 ·rw [if_pos rfl]
  by_cases c : w < 2 * sg 1
  ·rw [if_neg (by simp [sg] at c; omega), if_pos c]
  ·rw [if_pos (by simp [sg] at c; omega), if_neg c]
 ·rw [if_neg (by omega), if_pos (by simp [sg]; omega)]
theorem zi2 {f : Int} (h : isF f) : zcJ.f f = some (sg f : Int) := by rcases h with rfl | rfl <;> rfl
theorem zeo {f : Int} (h : isF f) : zbf.f f = some (fb f : Int) := by rcases h with rfl | rfl <;> rfl
theorem ziY {f : Int} (h : isF f) : zcI.f f = some (mo f : Int) := by rcases h with rfl | rfl <;> rfl
theorem zga {f : Int} (h : isF f) : zcH.f f = some (lo f) := by rcases h with rfl | rfl <;> rfl
theorem zdV {f : Int} (h : isF f) (w : Nat) : zR f w ≤ mo f := by
 have hz : w % sg f < sg f := Nat.mod_lt _ (zdk h).1
 have : zR f w < mo f + 1 := Nat.div_lt_of_lt_mul (by rw [← zeD h]; exact hz)
 omega
theorem zeM (f : Int) (w : Nat) : zS f w < 2 ^ fb f := Nat.mod_lt _ (zj _)
theorem zj4 (f : Int) (w : Nat) : w % sg f = zR f w * 2 ^ fb f + zS f w := by
 unfold zR zS
 have := Nat.div_add_mod (w % sg f) (2 ^ fb f)
 rw [Nat.mul_comm] at this
 exact this.symm
theorem zgc {f : Int} (h : isF f) (w : Nat) : zbG.f f (w : Int) = some (zbc f w, (zR f w : Int), (zS f w : Int)) := by
 have hp := zdk h
 have hpp := zj (fb f)
 have hm := zcl h
 have hx := zdV h w
 have h52 := zdE h
 unfold zbG.f
 rw [zi2 h, Option.bind_some, Option.bind_some, if_neg (by omega), zeo h, Option.bind_some, if_pos (by omega), zde h, if_neg (by omega), Option.bind_some, if_pos (by omega), zgJ, zgJ, zcp _ _ (by show fb f ≤ 64; omega)]
 have e : wrap64 ((w % sg f / 2 ^ fb f : Nat) : Int) = (zR f w : Int) := by
  show wrap64 ((zR f w : Nat) : Int) = _
  exact zaC (by omega) (by omega)
 rw [e]
 have e2 : decide ((w : Int) ≥ (sg f : Int)) = zbc f w := decide_eq_decide.2 (by omega)
 rw [e2]
 rfl
theorem zfl {f : Int} (h : isF f) (w : Nat) : cls f w = if zR f w = 0 then (if zS f w = 0 then 1 else 2) else if zR f w < mo f then 3 else if zS f w = 0 then 4 else 5 := by
 have h1 := zj4 f w
 have h2 := zeM f w
 have h3 := zdV h w
 have hpp := zj (fb f)
 have hm := ziw h
 unfold cls
 rw [h1]
 generalize zS f w = r at *
 generalize zR f w = q at *
 generalize 2 ^ fb f = p at *
 by_cases c : q = 0
 ·subst c
  simp only [Nat.zero_mul, Nat.zero_add, if_true]
  by_cases c2 : r = 0
  ·simp [c2]
  ·rw [if_neg c2, if_pos h2, if_neg c2]
 ·have h4 : p ≤ q * p := Nat.le_mul_of_pos_left _ (by omega)
  rw [if_neg (by omega), if_neg (by omega), if_neg c]
  by_cases c2 : q < mo f
  ·have h5 : (q + 1) * p ≤ mo f * p := Nat.mul_le_mul_right _ c2
   rw [Nat.add_mul, Nat.one_mul] at h5
   rw [if_pos (by omega), if_pos c2]
  ·have h5 : q = mo f := by omega
   rw [h5, if_neg (by omega), if_neg (Nat.lt_irrefl _)]
   by_cases c3 : r = 0
   ·rw [if_pos (by omega), if_pos c3]
   ·rw [if_neg (by omega), if_neg c3]
theorem ziT {f : Int} (h : isF f) (w : Nat) : zcG.f f (w : Int) = some (cls f w) := by
 unfold zcG.f
 rw [zgc h, Option.bind_some, zfl h, ziY h]
 generalize zS f w = r
 generalize zR f w = q
 generalize mo f = m
 simp only [Option.bind_some]
 by_cases c : q = 0
 ·rw [if_pos (by omega), if_pos c]
  by_cases c2 : r = 0
  ·rw [if_pos (by omega), if_pos c2]
  ·rw [if_neg (by omega), if_pos (by omega), if_neg c2]
 ·rw [if_neg (by omega), if_neg (by omega), if_neg c]
  by_cases c2 : q < m
  ·rw [if_pos (by omega), if_pos c2]
  ·rw [if_neg (by omega), if_neg c2]
   by_cases c3 : r = 0
   ·rw [if_pos (by omega), if_pos c3]
   ·rw [if_neg (by omega), if_neg c3]
theorem zgU {f : Int} (h : isF f) (w : Nat) : zT f w < 18446744073709551616 := by
 have := zeM f w
 have := pfb h
 unfold zT; split <;> omega
theorem zgT {f : Int} (h : isF f) (w : Nat) : -1074 ≤ wex f w ∧ wex f w ≤ 3000 := by
 have := zdV h w
 have := zcl h
 have := zfK h
 unfold wex; split <;> omega
theorem zi5 {f : Int} (h : isF f) (w : Nat) : Ev (fun k => zbp.f k f (w : Int)) (mk (sv (zbc f w) (zT f w)) (wex f w)) := by
 have hlt := zgU h w
 have hwb := zgT h w
 have hfr := zeM f w
 have hpw := pfb h
 have hx := zdV h w
 have hm := zcl h
 have hlo := zfK h
 have o1 := zdh (n := (zT f w : Int)) (by omega) (by omega)
 rw [Int.toNat_natCast] at o1
 have f1 := za9 (zbc f w) (zi (zT f w)) (by
  have : (D (zT f w)).length ≤ 2 := zaX (by omega)
  omega) (e := wex f w) (by omega) (by omega)
 rw [V_D] at f1
 unfold zbp.f
 refine zh (zgc h w) ?_; try dsimp only
 by_cases c : zR f w = 0
 ·have e1 : zT f w = zS f w := by unfold zT; rw [if_pos c]
  have e2 : wex f w = lo f := by unfold wex; rw [if_pos c]; omega
  rw [e1] at o1
  rw [e1, e2] at f1
  refine zd (by omega) ?_
  refine Ev.bind (o1) ?_; try dsimp only
  refine zh (zga h) ?_; try dsimp only
  refine Ev.bind (f1) ?_; try dsimp only
  rw [e1, e2]
  exact Ev.now _
 ·have e1 : zT f w = 2 ^ fb f + zS f w := by unfold zT; rw [if_neg c]
  have e2 : wex f w = (zR f w : Int) - 1 + lo f := by unfold wex; rw [if_neg c]
  have e3 : IntKind.u64.wrap (((2 ^ fb f : Nat) : Int) + (zS f w : Int)) = (zT f w : Int) := by rw [e1, ← Int.natCast_add]; exact u64 (by omega) (by omega)
  have e4 : wrap64 (wrap64 ((zR f w : Int) - 1) + lo f) = wex f w := by rw [e2]; unfold wrap64; omega
  refine ze (by omega) ?_
  refine zh (zeo h) ?_; try dsimp only
  rw [zde h, e3]
  refine zd (by omega) ?_
  refine Ev.bind (o1) ?_; try dsimp only
  refine zh (zga h) ?_; try dsimp only
  rw [e4]
  refine Ev.bind (f1) ?_; try dsimp only
  exact Ev.now _
def mz (z e : Int) : Int := sv (mk z e).1 (V (mk z e).2.1)
def me (z e : Int) : Int := (mk z e).2.2
theorem zbt (e : Int) : mz 0 e = 0 := rfl
theorem zjK (z : Int) : sv (decide (z < 0)) z.natAbs = z := by
 unfold sv
 by_cases h : z < 0
 ·rw [decide_eq_true h, if_pos rfl]; omega
 ·rw [decide_eq_false h, if_neg (by simp)]; omega
theorem zat {z : Int} (h : z ≠ 0) (e : Int) : ∃ j : Nat, z = mz z e * 2 ^ j ∧ me z e = e + (j : Int) ∧ mz z e ≠ 0 ∧ bl (mz z e).natAbs + j = bl z.natAbs := by
 have hn : z.natAbs ≠ 0 := by omega
 have hw := zdH hn
 obtain ⟨q, hq⟩ := zbN hn
 have hd : z.natAbs / 2 ^ lw z.natAbs = 2 * q + 1 := by
  have : z.natAbs / 2 ^ lw z.natAbs = 2 ^ lw z.natAbs * (2 * q + 1) / 2 ^ lw z.natAbs := by rw [← hq]
  rw [this, Nat.mul_div_cancel_left _ (zj _)]
 have hm : mz z e = sv (decide (z < 0)) (z.natAbs / 2 ^ lw z.natAbs) := by
  unfold mz mk; rw [if_neg h]; show sv _ (V (D _)) = _; rw [V_D]
 have he : me z e = e + (lw z.natAbs : Nat) := by unfold me mk; rw [if_neg h]
 refine ⟨lw z.natAbs, ?_, he, ?_, ?_⟩
 ·rw [hm, hd]
  have h1 : sv (decide (z < 0)) (2 * q + 1) * 2 ^ lw z.natAbs = sv (decide (z < 0)) ((2 * q + 1) * 2 ^ lw z.natAbs) := by
   unfold sv
   split
   ·rw [Int.neg_mul, Int.natCast_mul, Int.natCast_pow]; rfl
   ·rw [Int.natCast_mul, Int.natCast_pow]; rfl
  rw [h1, Nat.mul_comm, ← hq, zjK]
 ·rw [hm, hd]; intro h2; have := zbv.1 h2; omega
 ·rw [hm, zbb, zd3]; omega
theorem ziu (z e : Int) : mk (mz z e) (me z e) = mk z e := zck (zK z e)
theorem za3 (z e : Int) : (mk z e).2.1.length ≤ (bl z.natAbs + 31) / 32 := by
 rw [ziq]
 refine z7 ?_
 rw [zd3]; omega
theorem zas (z e : Int) : me z e = 0 ∧ z = 0 ∨ e ≤ me z e ∧ me z e ≤ e + (bl z.natAbs : Nat) := by
 by_cases h : z = 0
 ·exact .inl ⟨by rw [h]; rfl, h⟩
 ·obtain ⟨j, _, h2, _, h4⟩ := zat h e
  exact .inr (by omega)
theorem ze8 {z : Int} (h : z ≠ 0) {e m : Int} (hm : m ≤ e) : al (mz z e) (me z e) m = al z e m := by
 obtain ⟨j, h1, h2, _, _⟩ := zat h e
 rw [h2]
 have h3 : al z e m = al (mz z e * 2 ^ j) e m := by rw [← h1]
 rw [h3]
 unfold al
 rw [Int.mul_assoc, ← Int.pow_add]
 congr 2
 omega
theorem zdK {z : Int} (h : z ≠ 0) (e : Int) : mz z e ≠ 0 := by obtain ⟨j, _, _, h3, _⟩ := zat h e; exact h3
theorem ze2 (za ea zb eb : Int) : zw za ea zb eb = zw zb eb za ea := by
 unfold zw; rw [Int.add_comm, Int.min_comm]
theorem zc2 (za ea zb eb : Int) : zw (mz za ea) (me za ea) zb eb = zw za ea zb eb := by
 by_cases h : za = 0
 ·subst h; rw [zbt, zds, zds]
 ·have hb := zas za ea
  have h1 : ea ≤ me za ea := by omega
  rw [← zc1 (za := mz za ea) (m := min ea eb) (by omega) (by omega), ze8 h (by omega)]
  rfl
theorem zdr (za ea zb eb : Int) : zw za ea (mz zb eb) (me zb eb) = zw za ea zb eb := by
 rw [ze2, zc2, ze2]
theorem zg6 (a b e : Int) : zw a e b e = mk (a + b) e := by
 unfold zw al
 rw [Int.min_self, Int.sub_self]; simp
theorem zfo (ea zb eb : Int) : zo 0 ea zb eb = -zb.sign := by
 unfold zo
 rw [zc3, Int.zero_sub, Int.sign_neg, zan]
theorem zfm (za ea zb eb : Int) : zo za ea zb eb = -zo zb eb za ea := by
 unfold zo
 rw [← Int.sign_neg, Int.neg_sub, Int.min_comm]
theorem zd6 (za ea zb eb : Int) : zo (mz za ea) (me za ea) zb eb = zo za ea zb eb := by
 by_cases h : za = 0
 ·subst h; rw [zbt, zfo, zfo]
 ·have hb := zas za ea
  have h1 : ea ≤ me za ea := by omega
  rw [← zd5 (za := mz za ea) (m := min ea eb) (by omega) (by omega), ze8 h (by omega)]
  rfl
theorem zfn (za ea zb eb : Int) : zo za ea (mz zb eb) (me zb eb) = zo za ea zb eb := by
 rw [zfm, zd6, ← zfm]
theorem zhS (z : Int) (j k : Nat) : z * 2 ^ j / 2 ^ (j + k) = z / 2 ^ k := by
 rw [Int.pow_add, Int.mul_comm z, Int.mul_ediv_mul_of_pos _ _ (Int.pow_pos (by omega))]
theorem zhR (z e : Int) (j : Nat) : zaI z (e + j) = zaI (z * 2 ^ j) e := by
 unfold zaI
 by_cases h : 0 ≤ e
 ·rw [if_pos (by omega), if_pos h, Int.mul_assoc, ← Int.pow_add]
  congr 2; omega
 ·rw [if_neg h]
  by_cases h2 : 0 ≤ e + (j : Int)
  ·rw [if_pos h2]
   have e1 : z * 2 ^ j = z * 2 ^ (e + (j : Int)).toNat * 2 ^ (-e).toNat := by
    rw [Int.mul_assoc, ← Int.pow_add]; congr 2; omega
   rw [e1, Int.mul_ediv_cancel _ (by have := Int.pow_pos (n := 2) (m := (-e).toNat) (by omega); omega)]
  ·rw [if_neg h2]
   have e1 : (-e).toNat = j + (-(e + (j : Int))).toNat := by omega
   rw [e1, zhS]
theorem zhQ (z e n : Int) : zaI (mz z e) (me z e + n) = zaI z (e + n) := by
 by_cases h : z = 0
 ·subst h; rw [zbt]; unfold zaI; split <;> split <;> simp
 ·obtain ⟨j, h1, h2, _, _⟩ := zat h e
  have h3 : zaI z (e + n) = zaI (mz z e * 2 ^ j) (e + n) := by rw [← h1]
  rw [h3, h2, ← zhR]
  congr 1; omega
theorem zjO (z e : Int) : top (mz z e) (me z e) = top z e := by
 by_cases h : z = 0
 ·subst h; rfl
 ·obtain ⟨j, h1, h2, h3, h4⟩ := zat h e
  unfold top
  rw [if_neg h, if_neg h3, h2]; omega
structure Rg (z e : Int) : Prop where
 b : bl z.natAbs ≤ 10000000
 lo : -40000000 ≤ e
 hi : e ≤ 40000000
theorem zex {za ea zb eb : Int} (ha : Rg za ea) (hb : Rg zb eb) : zdo (mk za ea).2.1 (me za ea) (mk zb eb).2.1 (me zb eb) := by
 have a1 := za3 za ea
 have b1 := za3 zb eb
 have a2 := zas za ea
 have b2 := zas zb eb
 obtain ⟨h1, h2, h3⟩ := ha
 obtain ⟨h4, h5, h6⟩ := hb
 refine ⟨by omega, by omega, by omega, by omega⟩
theorem zf7 {za ea zb eb : Int} (ha : Rg za ea) (hb : Rg zb eb) : Ev (fun k => zD.f k (mk za ea).1 (mk za ea).2.1 (mk za ea).2.2 (mk zb eb).1 (mk zb eb).2.1 (mk zb eb).2.2) (zw za ea zb eb) := by
 refine zg (zgj (zK za ea) (zK zb eb) (zex ha hb)) ?_
 show zw (mz za ea) (me za ea) (mz zb eb) (me zb eb) = _
 rw [zc2, zdr]
theorem zdL (z e : Int) : mz (-z) e = -mz z e ∧ me (-z) e = me z e := by
 by_cases h : z = 0
 ·subst h; exact ⟨rfl, rfl⟩
 ·have hv := zeQ (zK z e)
  have h1 : mk (-mz z e) (me z e) = mk (-z) e := by
   obtain ⟨j, h1, h2, h3, h4⟩ := zat h e
   have h5 : mk (-z) e = mk (-mz z e * 2 ^ j) e := by rw [Int.neg_mul, ← h1]
   rw [h5, zbs, h2]
  have h2 : mk (-(sv (mk z e).1 (V (mk z e).2.1))) (mk z e).2.2 = mk (-z) e := h1
  rw [h2] at hv
  refine ⟨?_, hv.2.2⟩
  have h3 : mz (-z) e = sv (mk (-z) e).1 (V (mk z e).2.1) := by unfold mz; rw [hv.1]
  rw [h3, hv.2.1]; rfl
theorem zi3 {za ea zb eb : Int} (ha : Rg za ea) (hb : Rg zb eb) : Ev (fun k => za0.f k (mk za ea).1 (mk za ea).2.1 (mk za ea).2.2 (mk zb eb).1 (mk zb eb).2.1 (mk zb eb).2.2) (zw za ea (-zb) eb) := by
 refine zg (zgm (zK za ea) (zK zb eb) (zex ha hb)) ?_
 show zw (mz za ea) (me za ea) (-mz zb eb) (me zb eb) = _
 rw [zc2, ← (zdL zb eb).1, ← (zdL zb eb).2, zdr]
theorem ziU {za ea zb eb : Int} (ha : Rg za ea) (hb : Rg zb eb) : Ev (fun k => zbD.f k (mk za ea).1 (mk za ea).2.1 (mk za ea).2.2 (mk zb eb).1 (mk zb eb).2.1 (mk zb eb).2.2) (zo za ea zb eb) := by
 refine zg (zi9 (zK za ea) (zK zb eb) (zex ha hb)) ?_
 show zo (mz za ea) (me za ea) (mz zb eb) (me zb eb) = _
 rw [zd6, zfn]
theorem zgb (z e : Int) : zaq.f (mk z e).1 (mk z e).2.1 (mk z e).2.2 = some z.sign := by
 rw [zdi (zK z e), zfP]
theorem zgd {z e : Int} (h : Rg z e) : Ev (fun k => z5.f k (mk z e).1 (mk z e).2.1 (mk z e).2.2) (top z e) := by
 have a1 := za3 z e
 have a2 := zas z e
 obtain ⟨h1, h2, h3⟩ := h
 have e1 : (mk z e).2.2 = me z e := rfl
 refine zg (zew (zK z e) (by omega) (by omega) (by omega)) ?_
 exact zjO z e
theorem zer {za ea zb eb : Int} (ha : Rg za ea) (hb : Rg zb eb) : Ev (fun k => zap.f k (mk za ea).1 (mk za ea).2.1 (mk za ea).2.2 (mk zb eb).1 (mk zb eb).2.1 (mk zb eb).2.2) (mk (za * zb) (ea + eb)) := by
 have a1 := za3 za ea
 have b1 := za3 zb eb
 have a2 := zas za ea
 have b2 := zas zb eb
 obtain ⟨h1, h2, h3⟩ := ha
 obtain ⟨h4, h5, h6⟩ := hb
 have e1 : (mk za ea).2.2 = me za ea := rfl
 have e2 : (mk zb eb).2.2 = me zb eb := rfl
 refine zg (zjd (zK za ea) (zK zb eb) (by omega) (by omega) (by omega) (by omega) (by omega) (by omega)) ?_
 show mk (mz za ea * mz zb eb) (me za ea + me zb eb) = _
 by_cases c : za = 0
 ·subst c; rw [zbt, Int.zero_mul, Int.zero_mul]; rfl
 by_cases c2 : zb = 0
 ·subst c2; rw [zbt, Int.mul_zero, Int.mul_zero]; rfl
 obtain ⟨j, p1, p2, _, _⟩ := zat c ea
 obtain ⟨i, q1, q2, _, _⟩ := zat c2 eb
 have e3 : za * zb = mz za ea * mz zb eb * 2 ^ (j + i) := by
  conv => lhs; rw [p1, q1]
  rw [Int.pow_add, Int.mul_assoc, Int.mul_assoc]
  congr 1
  rw [Int.mul_left_comm]
 rw [e3, zbs, p2, q2]
 congr 1
 omega
theorem zi1 (z : Int) {e n : Int} (hb : bl z.natAbs ≤ 10000000000) (h1 : -10000000000000 ≤ e) (h2 : e ≤ 10000000000000) (h3 : -10000000000000 ≤ n) (h4 : n ≤ 10000000000000) : zbo.f (mk z e).1 (mk z e).2.1 (mk z e).2.2 n = some (mk z (e + n)) := by
 have a2 := zas z e
 have e1 : (mk z e).2.2 = me z e := rfl
 rw [zjk (zK z e) (by omega) (by omega) (by omega) (by omega)]
 congr 1
 show mk (mz z e) (me z e + n) = _
 by_cases c : z = 0
 ·subst c; rfl
 ·obtain ⟨j, p1, p2, _, _⟩ := zat c e
  have e3 : mk z (e + n) = mk (mz z e * 2 ^ j) (e + n) := by rw [← p1]
  rw [e3, zbs, p2]
  congr 1; omega
theorem ziW {z e : Int} (hb : bl z.natAbs ≤ 20000000) (h1 : -800000000 ≤ e) (h2 : e ≤ 800000000) : Ev (fun k => zbd.f k (mk z e).1 (mk z e).2.1 (mk z e).2.2) (mk (zaI z e) 0) := by
 have a1 := za3 z e
 have a2 := zas z e
 have e1 : (mk z e).2.2 = me z e := rfl
 refine zg (zjc (zK z e) (by omega) (by omega) (by omega)) ?_
 show mk (zaI (mz z e) (me z e)) 0 = _
 have := zhQ z e 0
 rw [Int.add_zero, Int.add_zero] at this
 rw [this]
theorem zi0 (a e b e' : Int) (h : bl a.natAbs ≤ 1000000000) : Ev (fun k => zbe.f k (mk a e).1 (mk a e).2.1 (mk a e).2.2 (mk b e').1 (mk b e').2.1 (mk b e').2.2) (decide (mk a e = mk b e')) := by
 have a1 := za3 a e
 exact zji _ _ _ _ _ _ (by omega)
theorem zis {a b e : Int} (h : mk a e = mk b e) : a = b := by
 by_cases c : a = 0
 ·by_cases c2 : b = 0
  ·rw [c, c2]
  ·exfalso
   have h1 := zdK c2 e
   have h2 : mz a e = mz b e := by unfold mz; rw [h]
   rw [c, zbt] at h2
   exact h1 h2.symm
 ·by_cases c2 : b = 0
  ·exfalso
   have h1 := zdK c e
   have h2 : mz a e = mz b e := by unfold mz; rw [h]
   rw [c2, zbt] at h2
   exact h1 h2
  ·have h2 : mz a e = mz b e := by unfold mz; rw [h]
   have h3 : me a e = me b e := by unfold me; rw [h]
   obtain ⟨j, p1, p2, _, _⟩ := zat c e
   obtain ⟨i, q1, q2, _, _⟩ := zat c2 e
   have : j = i := by omega
   subst this
   rw [p1, q1, h2]
theorem zir {a b ea eb m : Int} (h1 : m ≤ ea) (h2 : m ≤ eb) : mk a ea = mk b eb ↔ al a ea m = al b eb m := by
 rw [← zdc (z := a) h1, ← zdc (z := b) h2]
 exact ⟨zis, fun h => by rw [h]⟩
def upB (m : Int) (s odd zbg more : Bool) : Bool :=
 if m = 1 then zbg && (more || odd) else if m = 2 then zbg else if m = 4 then !s && (zbg || more) else if m = 5 then s && (zbg || more) else false
def rnd (m : Int) (s : Bool) (n k : Nat) : Nat :=
 n / 2 ^ k + (if upB m s (decide (n / 2 ^ k % 2 = 1)) (decide (2 ^ k ≤ 2 * (n % 2 ^ k))) (decide (2 * (n % 2 ^ k) % 2 ^ k ≠ 0)) = true then 1 else 0)
def R (m : Int) (s : Bool) (n : Nat) (e E : Int) : Nat := rnd m s (n * 2 ^ (e - E).toNat) (E - e).toNat
theorem zg9 (z e : Int) : al z e e = z := by unfold al; rw [Int.sub_self]; simp
theorem zjG {H j r d : Nat} (hr : r < 2 ^ j) : (H * 2 ^ j + r) / 2 ^ (d + j) = H / 2 ^ d ∧ (H * 2 ^ j + r) % 2 ^ (d + j) = H % 2 ^ d * 2 ^ j + r := by
 have := zco (X := H) (P := 2 ^ j) (Q := 2 ^ d) (c := r) (zj j) hr
 rw [Nat.pow_add, Nat.mul_comm (2 ^ d)]
 exact ⟨this.1, by rw [this.2, Nat.mul_comm]⟩
theorem zd4 {f : Int} (h : isF f) (w : Nat) : 1 ≤ cls f w ∧ cls f w ≤ 5 := by
 rw [zfl h]; split
 ·split <;> omega
 ·split
  ·omega
  ·split <;> omega
theorem zj5 {s : Bool} {n : Nat} (h : n ≠ 0) : decide (sv s n < 0) = s ∧ (sv s n).natAbs = n ∧ sv s n ≠ 0 := ⟨zeF h, zbb s n, fun h2 => h (zbv.1 h2)⟩
theorem zdJ {z : Int} (h : z ≠ 0) (e : Int) : ∃ j : Nat, z.natAbs = V (mk z e).2.1 * 2 ^ j ∧ (mk z e).2.2 = e + j ∧ (mk z e).1 = decide (z < 0) ∧ V (mk z e).2.1 ≠ 0 := by
 have hza : z.natAbs ≠ 0 := by omega
 obtain ⟨q, hq⟩ := zbN hza
 have hd : z.natAbs / 2 ^ lw z.natAbs = 2 * q + 1 := by
  have : z.natAbs / 2 ^ lw z.natAbs = 2 ^ lw z.natAbs * (2 * q + 1) / 2 ^ lw z.natAbs := by rw [← hq]
  rw [this, Nat.mul_div_cancel_left _ (zj _)]
 have hm : mk z e = (decide (z < 0), D (z.natAbs / 2 ^ lw z.natAbs), e + (lw z.natAbs : Nat)) := by unfold mk; rw [if_neg h]
 refine ⟨lw z.natAbs, ?_, by rw [hm], by rw [hm], ?_⟩
 ·rw [hm]
  show _ = V (D _) * _
  rw [V_D, hd, Nat.mul_comm]; exact hq
 ·rw [hm]
  show V (D _) ≠ 0
  rw [V_D, hd]; omega
theorem zhA (n j b : Nat) (hn : n ≠ 0) (s : Bool) (e : Int) : mk (sv s (n * 2 ^ j / 2 ^ (bl (n * 2 ^ j) - b))) (e + ((bl (n * 2 ^ j) - b : Nat) : Int)) = mk (sv s (n / 2 ^ (bl n - b))) (e + j + ((bl n - b : Nat) : Int)) ∧ (n * 2 ^ j % 2 ^ (bl (n * 2 ^ j) - b) = 0 ↔ n % 2 ^ (bl n - b) = 0) := by
 rw [zcC hn]
 by_cases c : bl n ≤ b
 ·have e1 : bl n - b = 0 := by omega
  have e2 : bl n + j - b ≤ j := by omega
  generalize bl n + j - b = t at *
  have h1 : n * 2 ^ j = n * 2 ^ (j - t) * 2 ^ t := by rw [Nat.mul_assoc, ← Nat.pow_add]; congr 2; omega
  rw [e1, Nat.pow_zero, Nat.div_one, Nat.mod_one, h1, Nat.mul_div_cancel _ (zj t), Nat.mul_mod_left]
  refine ⟨?_, Iff.rfl⟩
  have h2 : sv s (n * 2 ^ (j - t)) = sv s n * 2 ^ (j - t) := by
   unfold sv; split
   ·rw [Int.neg_mul, Int.natCast_mul, Int.natCast_pow]; rfl
   ·rw [Int.natCast_mul, Int.natCast_pow]; rfl
  rw [h2, zbs]; congr 1; omega
 ·have e1 : bl n + j - b = bl n - b + j := by omega
  rw [e1]
  have h1 := zjG (H := n) (j := j) (r := 0) (d := bl n - b) (zj j)
  rw [Nat.add_zero] at h1
  rw [h1.1, h1.2]
  refine ⟨by congr 1; omega, ?_⟩
  constructor
  ·intro h
   have h2 : n % 2 ^ (bl n - b) * 2 ^ j = 0 := by omega
   rcases Nat.mul_eq_zero.1 h2 with h3 | h3
   ·exact h3
   ·have := zj j; omega
  ·intro h; rw [h]; omega
theorem ziV {z : Int} (hz : z ≠ 0) {e : Int} (hb : bl z.natAbs ≤ 20000000) (h1 : -90000000000000 ≤ e) (h2 : e ≤ 90000000000000) (b : Nat) (hbb : b ≤ 100000000) : Ev (fun k => zb3.f k (mk z e).1 (mk z e).2.1 (mk z e).2.2 b) ((mk (sv (decide (z < 0)) (z.natAbs / 2 ^ (bl z.natAbs - b))) (e + ((bl z.natAbs - b : Nat) : Int))).1, (mk (sv (decide (z < 0)) (z.natAbs / 2 ^ (bl z.natAbs - b))) (e + ((bl z.natAbs - b : Nat) : Int))).2.1, (mk (sv (decide (z < 0)) (z.natAbs / 2 ^ (bl z.natAbs - b))) (e + ((bl z.natAbs - b : Nat) : Int))).2.2, decide (z.natAbs % 2 ^ (bl z.natAbs - b) ≠ 0)) := by
 have a1 := za3 z e
 have a2 := zas z e
 have e1 : (mk z e).2.2 = me z e := rfl
 obtain ⟨j, j1, j2, j3, j4⟩ := zdJ hz e
 have := zja (zK z e) (by omega) (by omega) (by omega) b hbb
 refine zg this ?_
 have hc := zhA (V (mk z e).2.1) j b j4 (decide (z < 0)) e
 rw [← j1] at hc
 rw [j2, j3, ← hc.1]
 have : decide (V (mk z e).2.1 % 2 ^ (bl (V (mk z e).2.1) - b) ≠ 0) = decide (z.natAbs % 2 ^ (bl z.natAbs - b) ≠ 0) := decide_eq_decide.2 (not_congr hc.2.symm)
 rw [this]
def zp (A B b : Nat) : Nat := b + 1 + bl B - bl A
def zal (A B b : Nat) : Nat := bl (A * 2 ^ zp A B b / B) - b
def zaN (A B b : Nat) : Nat := A * 2 ^ zp A B b / (B * 2 ^ zal A B b)
def zcS (A B b : Nat) : Bool := decide (A * 2 ^ zp A B b % (B * 2 ^ zal A B b) ≠ 0)
theorem zj7 {ea eb : Int} {n : Nat} (h1 : -1000000000 ≤ ea) (h2 : ea ≤ 1000000000) (h3 : -1000000000 ≤ eb) (h4 : eb ≤ 1000000000) (hn : n ≤ 100000000) : wrap64 (wrap64 (ea - eb) - (n : Int)) = ea - eb - (n : Int) := by unfold wrap64; omega
theorem zj8 {b x y : Nat} (h1 : b ≤ 1000000) (h2 : x ≤ 10000000) (h3 : y ≤ 10000000) : wrap64 (wrap64 (wrap64 ((b : Int) + 1) + (x : Int)) - (y : Int)) = (b : Int) + 1 + (x : Int) - (y : Int) := by unfold wrap64; omega
theorem ziZ {sa sb : Bool} {la lb : List Int} {ea eb : Int} (ha : Dy sa la ea) (hb : Dy sb lb eb) (A0 : V la ≠ 0) (B0 : V lb ≠ 0) (l1 : la.length ≤ 100000) (l2 : lb.length ≤ 100000) (h1 : -1000000000 ≤ ea) (h2 : ea ≤ 1000000000) (h3 : -1000000000 ≤ eb) (h4 : eb ≤ 1000000000) (b : Nat) (hbb : b ≤ 1000000) :
  Ev (fun k => zaE.f k sa la ea sb lb eb b) ((mk (sv (sa != sb) (zaN (V la) (V lb) b)) (ea - eb - (zp (V la) (V lb) b : Nat) + (zal (V la) (V lb) b : Nat))).1, (mk (sv (sa != sb) (zaN (V la) (V lb) b)) (ea - eb - (zp (V la) (V lb) b : Nat) + (zal (V la) (V lb) b : Nat))).2.1, (mk (sv (sa != sb) (zaN (V la) (V lb) b)) (ea - eb - (zp (V la) (V lb) b : Nat) + (zal (V la) (V lb) b : Nat))).2.2, zcS (V la) (V lb) b) := by
 have b1 := zaw ha.nm.dg
 have b2 := zaw hb.nm.dg
 have lne : lb ≠ [] := fun h => B0 (by rw [h]; rfl)
 have ane : la ≠ [] := fun h => A0 (by rw [h]; rfl)
 have hN : zp (V la) (V lb) b = b + 1 + bl (V lb) - bl (V la) := rfl
 have hC : zal (V la) (V lb) b = bl (V la * 2 ^ zp (V la) (V lb) b / V lb) - b := rfl
 have hup := zbT ha.nm.dg (by omega) (zp (V la) (V lb) b) (by omega)
 have hul := zeK ha.nm.dg (n := zp (V la) (V lb) b)
 have hq := zjg (zi (V la * 2 ^ zp (V la) (V lb) b)) hb.nm (by omega) (by omega) lne
 rw [V_D] at hq
 have last : ∀ u v w, Ev (fun k => zaE.j1 k b sa la ea sb lb eb u v w (zp (V la) (V lb) b : Nat)) ((mk (sv (sa != sb) (zaN (V la) (V lb) b)) (ea - eb - (zp (V la) (V lb) b : Nat) + (zal (V la) (V lb) b : Nat))).1, (mk (sv (sa != sb) (zaN (V la) (V lb) b)) (ea - eb - (zp (V la) (V lb) b : Nat) + (zal (V la) (V lb) b : Nat))).2.1, (mk (sv (sa != sb) (zaN (V la) (V lb) b)) (ea - eb - (zp (V la) (V lb) b : Nat) + (zal (V la) (V lb) b : Nat))).2.2, zcS (V la) (V lb) b) := by
  intro u v w
  refine zf ?_
  simp only [zaE.j1]
  refine Ev.bind (hup) ?_; try dsimp only
  refine Ev.bind (hq) ?_; try dsimp only
  rw [zj7 h1 h2 h3 h4 (by omega), zfX]
  have eQ : zaN (V la) (V lb) b = V la * 2 ^ zp (V la) (V lb) b / V lb / 2 ^ zal (V la) (V lb) b := by unfold zaN; rw [Nat.div_div_eq_div_mul]
  have eL : zcS (V la) (V lb) b = (decide (V la * 2 ^ zp (V la) (V lb) b / V lb % 2 ^ zal (V la) (V lb) b ≠ 0) || decide (V la * 2 ^ zp (V la) (V lb) b % V lb ≠ 0)) := by
   unfold zcS
   rw [Nat.mod_mul]
   have hB : 0 < V lb := by omega
   generalize V la * 2 ^ zp (V la) (V lb) b / V lb % 2 ^ zal (V la) (V lb) b = x
   generalize V la * 2 ^ zp (V la) (V lb) b % V lb = y
   by_cases c : x = 0
   ·subst c; simp
   ·have : V lb * x ≠ 0 := Nat.mul_ne_zero (by omega) c
    rw [decide_eq_true (show y + V lb * x ≠ 0 by omega), decide_eq_true c, Bool.true_or]
  have hqb : bl (V la * 2 ^ zp (V la) (V lb) b / V lb) ≤ bl (V la) + zp (V la) (V lb) b := Nat.le_trans (zbB (Nat.div_le_self _ _)) (zb1 _ _)
  have hQ0 : V la * 2 ^ zp (V la) (V lb) b / V lb ≠ 0 := by
   have h5 := z3 (V lb)
   have h6 : 2 ^ bl (V lb) ≤ V la * 2 ^ zp (V la) (V lb) b := by
    have h7 := zbA A0
    have h8 : 2 ^ (bl (V la) - 1) * 2 ^ zp (V la) (V lb) b ≤ V la * 2 ^ zp (V la) (V lb) b := Nat.mul_le_mul_right _ h7
    rw [← Nat.pow_add] at h8
    have h9 := zcA A0
    exact Nat.le_trans (Nat.pow_le_pow_right (by omega) (by omega)) h8
   have := Nat.div_pos (show V lb ≤ V la * 2 ^ zp (V la) (V lb) b by omega) (by omega)
   omega
  rw [eL, eQ]
  generalize hNN : zp (V la) (V lb) b = n at *
  generalize hCC : zal (V la) (V lb) b = c at *
  generalize V la * 2 ^ n % V lb = y
  generalize hx : V la * 2 ^ n / V lb = x at *
  clear hup hq
  have hf := za9 (sa != sb) (zi x) (by have := z7 (x := x) (k := 300000) (by omega); omega) (e := ea - eb - (n : Int)) (by omega) (by omega)
  rw [V_D] at hf
  refine Ev.bind (hf) ?_; try dsimp only
  obtain ⟨a1, a2, a3⟩ := zj5 (s := (sa != sb)) hQ0
  have hc := ziV a3 (e := ea - eb - (n : Int)) (by rw [a2]; omega) (by omega) (by omega) b (by omega)
  rw [a1, a2, ← hC] at hc
  refine Ev.bind (hc) ?_; try dsimp only
  cases hcx : decide (x % 2 ^ c ≠ 0)
  ·refine ze (by simp) (zg (Ev.now _) ?_)
   rw [Bool.false_or]
   have : decide (((D y).length : Int) > 0) = decide (y ≠ 0) := decide_eq_decide.2 (by
    constructor
    ·intro h h2; rw [h2, zC] at h; simp at h
    ·intro h
     have : (D y) ≠ [] := fun h2 => h (by rw [← V_D y, h2]; rfl)
     exact zcg this)
   rw [this]
  ·refine zd rfl (zg (Ev.now _) ?_)
   rw [Bool.true_or]
 unfold zaE.f
 refine ze (fun h => ane (zad.1 h)) ?_
 refine Ev.bind (zba hb.nm (by omega)) ?_; try dsimp only
 refine Ev.bind (zba ha.nm (by omega)) ?_; try dsimp only
 rw [zj8 hbb (by omega) (by omega)]
 by_cases c : (b : Int) + 1 + (bl (V lb) : Nat) - (bl (V la) : Nat) < 0
 ·refine zd c ?_
  have : ((zp (V la) (V lb) b : Nat) : Int) = 0 := by omega
  rw [← this]
  exact last _ _ _
 ·refine ze c ?_
  have : (b : Int) + 1 + (bl (V lb) : Nat) - (bl (V la) : Nat) = ((zp (V la) (V lb) b : Nat) : Int) := by omega
  rw [this]
  exact last _ _ _
theorem zfg (x y : Nat) : bl (x * y) ≤ bl x + bl y := zav (by rw [Nat.pow_add]; exact Nat.mul_lt_mul'' (z3 x) (z3 y))
theorem zf8 {f : Int} (h : isF f) (w : Nat) : zb4.f f (w : Int) = some (decide (cls f w < 4)) := by
 have hb := zd4 h w
 unfold zb4.f
 rw [ziT h w, Option.bind_some]
 by_cases c : cls f w = 4
 ·rw [if_neg (fun h => h c)]
  rw [decide_eq_false (by omega)]
 ·rw [if_pos c]
  congr 1
  exact decide_eq_decide.2 (by omega)
theorem ziv {a b ea eb c : Int} (h : mk a ea = mk b eb) : mk a (ea + c) = mk b (eb + c) := by
 by_cases ha : a = 0
 ·have hb : b = 0 := by
   by_cases hb : b = 0
   ·exact hb
   ·exfalso
    have h1 := zdK hb eb
    unfold mz at h1
    rw [← h, ha] at h1
    exact h1 rfl
  rw [ha, hb]; rfl
 ·by_cases hb : b = 0
  ·exfalso
   have h1 := zdK ha ea
   unfold mz at h1
   rw [h, hb] at h1
   exact h1 rfl
  ·have hm : mz a ea = mz b eb := by unfold mz; rw [h]
   have he : me a ea = me b eb := by unfold me; rw [h]
   obtain ⟨j, j1, j2, _, _⟩ := zat ha ea
   obtain ⟨i, i1, i2, _, _⟩ := zat hb eb
   have h1 : mk a (ea + c) = mk (mz a ea) (ea + c + j) := by
    have : mk a (ea + c) = mk (mz a ea * 2 ^ j) (ea + c) := by rw [← j1]
    rw [this, zbs]
   have h2 : mk b (eb + c) = mk (mz b eb) (eb + c + i) := by
    have : mk b (eb + c) = mk (mz b eb * 2 ^ i) (eb + c) := by rw [← i1]
    rw [this, zbs]
   rw [h1, h2, hm]
   congr 1; omega
open Go.RowKit Go.Proofs.YtioialhbjmnndaaGreatDoor.Eng
theorem zfS (A Bl : List Int) (i : Nat) (x : Int) (hx : 0 ≤ x ∧ x < 4294967296) (hB : Dg Bl) (hl : A.length < 1000000000) (hlb : Bl.length < 1000000000) (hi : i < A.length) (res : List Int) : ∀ (b done r pb : List Int) (c : Int), Bl = pb ++ b → done.length = i + pb.length → b.length < r.length → Dg r → 0 ≤ c ∧ c < 4294967296 →
  Ev (fun k => zI.l0 k Bl (done ++ zW x b r c) A A.length ((i + 1 : Nat) : Int)) res →
  Ev (fun k => zI.l1 k Bl (done ++ r) i x c A A.length i Bl Bl.length pb.length) res
 | [], done, r, pb, c, he, hd, hr, hg, hc, H => by
  obtain ⟨y, r, rfl⟩ : ∃ y r', r = y :: r' := by
   cases r with
   | nil => simp at hr
   | cons y r' => exact ⟨y, r', rfl⟩
  have hlen : Bl.length = pb.length := by rw [he]; simp
  refine zf ?_
  have e : wrap64 ((i : Int) + (Bl.length : Int)) = ((i + Bl.length : Nat) : Int) := by unfold wrap64; omega
  simp only [zI.l1, e, zJ (n := i) (by omega)]
  clear e
  refine ze (by omega) (zd (by omega) (zd (by simp; omega) ?_))
  have hs : (done ++ y :: r).set (((i + Bl.length : Nat) : Int)).toNat (c % 4294967296) = done ++ zW x [] (y :: r) c := by
   rw [zbU (by omega)]; simp [zW]; omega
  rw [hs]; exact H
 | y :: b, done, r, pb, c, he, hd, hr, hg, hc, H => by
  obtain ⟨o, r, rfl⟩ : ∃ y r', r = y :: r' := by
   cases r with
   | nil => simp at hr
   | cons y r' => exact ⟨y, r', rfl⟩
  have hlen : Bl.length = pb.length + 1 + b.length := by rw [he]; simp; omega
  have hy : 0 ≤ y ∧ y < 4294967296 := by rw [he] at hB; exact hB.right.head
  have ho := hg.head
  have hp := zdI hx hy
  refine zf ?_
  have e : wrap64 ((i : Int) + (pb.length : Int)) = ((done.length : Nat) : Int) := by unfold wrap64; omega
  simp only [zI.l1, e, zJ (n := pb.length) (by omega)]
  clear e
  refine zd (by omega) (zd (by omega) (zd (by omega) (zd (by omega) (zd (by simp; omega) (zd (by omega) (zd (by simp; omega) ?_))))))
  have h1 : rd Bl (pb.length : Int) = y := by rw [he]; exact zaB rfl
  have h2 : rd (done ++ o :: r) (done.length : Int) = o := zaB rfl
  rw [h1, h2, zbU rfl, u64 hx.1 (by omega), u64 hy.1 (by omega), u64 ho.1 (by omega), u64 (n := x * y) hp.1 (by omega), u64 (n := x * y + o) (by omega) (by omega), u64 (n := x * y + o + c) (by omega) (by omega)]
  have := zfS A Bl i x hx hB hl hlb hi res b (done ++ [(x * y + o + c) % 4294967296]) r (pb ++ [y]) ((x * y + o + c) / 4294967296) (by rw [he]; simp) (by simp [hd]; omega) (by simpa using hr) hg.tail (by omega) (by simpa [zW] using H)
  simpa using this
theorem zfR (A Bl : List Int) (hA : Dg A) (hB : Dg Bl) (hl : A.length < 1000000000) (hlb : Bl.length < 1000000000) : ∀ (a done r pa : List Int), A = pa ++ a → done.length = pa.length → Dg done → Dg r → r.length = Bl.length + a.length → r.drop Bl.length = List.replicate a.length 0 →
  Ev (fun k => zI.l0 k Bl (done ++ r) A A.length done.length) (D (V (done ++ zbh a Bl r)))
 | [], done, r, pa, he, hd, hg, hr, hrl, hz => by
  have hlen : A.length = done.length := by rw [he, hd]; simp
  refine zf ?_
  simp only [zI.l0]
  refine ze (by omega) ?_
  refine Ev.bind (zcR (hg.app hr) (by simp; simp at hrl; omega)) ?_
  exact Ev.now _
 | x :: a, done, r, pa, he, hd, hg, hr, hrl, hz => by
  have hlen : A.length = done.length + 1 + a.length := by rw [he, hd]; simp; omega
  have hx : 0 ≤ x ∧ x < 4294967296 := by rw [he] at hA; exact hA.right.head
  have hrr := zeA hx Bl r 0 a.length hB hr (by omega) (by simpa using hz)
  refine zf ?_
  simp only [zI.l0]
  refine zd (by omega) (zd (by omega) (zd (by omega) ?_))
  have h1 : rd A (done.length : Int) = x := by rw [he]; exact zaB (by omega)
  rw [h1]
  refine zfS A Bl done.length x hx hB hl hlb (by omega) _ Bl done r [] 0 rfl rfl (by simp at hrl; omega) hr (by omega) ?_
  obtain ⟨r0, r', e⟩ : ∃ r0 r', zW x Bl r 0 = r0 :: r' := by
   cases h : zW x Bl r 0 with
   | nil =>
    have hl := hrr.2.2.2
    rw [h] at hl
    simp at hrl hl; omega
   | cons r0 r' => exact ⟨r0, r', rfl⟩
  rw [e] at hrr
  have := zfR A Bl hA hB hl hlb a (done ++ [r0]) r' (pa ++ [x]) (by rw [he]; simp) (by simp [hd]) (hg.app (Dg.cons hrr.2.1.head.1 hrr.2.1.head.2 Dg.nil)) hrr.2.1.tail (by have := hrr.2.2.2; simp at this hrl; omega) (by simpa using hrr.2.2.1)
  rw [List.length_append, List.length_singleton, List.append_assoc] at this
  have e2 : done ++ zbh (x :: a) Bl r = done ++ [r0] ++ zbh a Bl r' := by simp [zbh, e]
  rw [e, e2]; simpa using this
theorem ziE {a b : List Int} (ha : Dg a) (hb : Dg b) (la : a.length < 1000000000) (lb : b.length < 1000000000) : Ev (fun k => zI.f k a b) (D (V a * V b)) := by
 unfold zI.f
 have e : wrap64 ((a.length : Int) + (b.length : Int)) = ((a.length + b.length : Nat) : Int) := by unfold wrap64; omega
 simp only [e]
 clear e
 refine zd (by omega) (zd (by omega) ?_)
 have := zfR a b ha hb la lb a [] (List.replicate (a.length + b.length) 0) [] rfl rfl Dg.nil (Dg.zeros _) (by simp; omega) (by simp)
 refine zg this ?_
 have h2 := zfQ a b (List.replicate (a.length + b.length) 0) ha hb (Dg.zeros _) (by simp)
 simp [h2.1, zdq]
theorem ziC {a b : List Int} (ha : Nm a) (hb : Nm b) (la : a.length ≤ 4096) (lb : b.length ≤ 4096) : Ev (fun k => zcQ.f k a b) (zaY (V a * V b)) := by
 have h1 : may a = true := zaK.2 ⟨la, ha⟩
 have h2 : may b = true := zaK.2 ⟨lb, hb⟩
 have tail : Ev (fun k => (zI.f k a b).bind fun t => (zaz.f t).bind fun bt => some (bt.1, bt.2)) (zaY (V a * V b)) := by
  refine Ev.bind (ziE ha.dg hb.dg (by omega) (by omega)) ?_
  exact zh (zfV _) (Ev.now _)
 unfold zcQ.f
 refine Ev.bind (zdu ha.dg hb.dg (by omega) (by omega)) ?_
 refine ze (by simp [h1, h2]) ?_
 by_cases c1 : a.length > 0
 ·refine zd (by omega) ?_
  by_cases c2 : b.length > 0
  ·refine zd (by omega) ?_
   have e : wrap64 (wrap64 ((a.length : Int) + (b.length : Int)) - 1) = ((a.length + b.length - 1 : Nat) : Int) := by unfold wrap64; omega
   rw [e]
   clear e
   by_cases c3 : a.length + b.length - 1 > 4096
   ·refine zd (by omega) (zg (Ev.now _) ?_)
    have p1 := zdX ha (fun e => by subst e; simp at c1)
    have p2 := zdX hb (fun e => by subst e; simp at c2)
    have p3 := Nat.mul_le_mul p1 p2
    rw [← Nat.pow_add] at p3
    have p4 : (D (V a * V b)).length > 4096 := by
     apply Nat.lt_of_not_le
     intro k
     have p5 := zbM (V a * V b)
     have p6 := Nat.pow_lt_pow_iff_right (a := 4294967296) (by omega) |>.1 (Nat.lt_of_le_of_lt p3 p5)
     omega
    unfold zaY; rw [if_pos p4]
   ·exact ze (by omega) tail
  ·exact ze (by omega) tail
 ·exact ze (by omega) tail
theorem zhH {sa sb : Bool} {la lb : List Int} {ea eb : Int} (ha : My sa la ea) (hb : My sb lb eb) (hl : bl (V la) + bl (V lb) ≤ 131000) (h1 : -16000000 ≤ ea + eb) (h2 : ea + eb ≤ 16000000) : Ev (fun k => zca.f k sa la ea sb lb eb) (ok3 (mk (sv sa (V la) * sv sb (V lb)) (ea + eb))) := by
 have a1 := ha.lo
 have a2 := ha.hi
 have b1 := hb.lo
 have b2 := hb.hi
 have hbl := zfg (V la) (V lb)
 have hlen := z7 (x := V la * V lb) (k := 4096) (by omega)
 have e : wrap64 (ea + eb) = ea + eb := zj6 (by omega) (by omega) (by omega) (by omega)
 have m1 := ziC ha.dy.nm hb.dy.nm ha.len hb.len
 rw [zfi (by omega)] at m1
 have k1 := zb9 (sa != sb) (zi (V la * V lb)) (by omega) (ea + eb)
 rw [V_D, zci (by omega) (by omega), ← zgH] at k1
 have hne : (decide (¬ sa = sb)) = (sa != sb) := by cases sa <;> cases sb <;> rfl
 unfold zca.f
 refine Ev.bind (zdz ha hb) ?_; try dsimp only
 refine ze (by simp) ?_
 refine Ev.bind (m1) ?_; try dsimp only
 refine ze (by simp) ?_
 rw [e, hne]
 clear e
 refine Ev.bind (k1) ?_; try dsimp only
 exact Ev.now _
theorem zek {z e : Int} (hb : bl z.natAbs ≤ 131072) (h1 : -16777216 ≤ e) (h2 : e + (bl z.natAbs : Nat) ≤ 16777216) : My (mk z e).1 (mk z e).2.1 (mk z e).2.2 := by
 have a1 := za3 z e
 have a2 := zas z e
 have e1 : (mk z e).2.2 = me z e := rfl
 exact ⟨zK z e, by omega, by omega, by omega⟩
theorem zit (za ea zb eb : Int) : mk (mz za ea * mz zb eb) (me za ea + me zb eb) = mk (za * zb) (ea + eb) := by
 by_cases c : za = 0
 ·subst c; rw [zbt, Int.zero_mul, Int.zero_mul]; rfl
 by_cases c2 : zb = 0
 ·subst c2; rw [zbt, Int.mul_zero, Int.mul_zero]; rfl
 obtain ⟨j, p1, p2, _, _⟩ := zat c ea
 obtain ⟨i, q1, q2, _, _⟩ := zat c2 eb
 have e3 : za * zb = mz za ea * mz zb eb * 2 ^ (j + i) := by
  conv => lhs; rw [p1, q1]
  rw [Int.pow_add, Int.mul_assoc, Int.mul_assoc]
  congr 1
  rw [Int.mul_left_comm]
 rw [e3, zbs, p2, q2]
 congr 1
 omega
theorem zeW (z e : Int) : bl (V (mk z e).2.1) ≤ bl z.natAbs := by
 by_cases c : z = 0
 ·subst c; exact Nat.zero_le _
 ·obtain ⟨j, j1, _⟩ := zdJ c e
  rw [j1]
  have h := zb1 (V (mk z e).2.1) j
  have hp : V (mk z e).2.1 ≤ V (mk z e).2.1 * 2 ^ j := Nat.le_mul_of_pos_right _ (zj j)
  exact zbB hp
theorem ziQ {za ea zb eb : Int} (hb : bl za.natAbs + bl zb.natAbs ≤ 131000) (h1 : -8000000 ≤ ea) (h2 : ea ≤ 7000000) (h3 : -8000000 ≤ eb) (h4 : eb ≤ 7000000) : Ev (fun k => zca.f k (mk za ea).1 (mk za ea).2.1 (mk za ea).2.2 (mk zb eb).1 (mk zb eb).2.1 (mk zb eb).2.2) (ok3 (mk (za * zb) (ea + eb))) := by
 have a2 := zas za ea
 have b2 := zas zb eb
 have a3 := zeW za ea
 have b3 := zeW zb eb
 have e1 : (mk za ea).2.2 = me za ea := rfl
 have e2 : (mk zb eb).2.2 = me zb eb := rfl
 refine zg (zhH (zek (z := za) (e := ea) (by omega) (by omega) (by omega)) (zek (z := zb) (e := eb) (by omega) (by omega) (by omega)) (by omega) (by omega) (by omega)) ?_
 show ok3 (mk (mz za ea * mz zb eb) (me za ea + me zb eb)) = _
 rw [zit]
structure Wn (L H : Int) (s : Bool) (l : List Int) (e : Int) : Prop where
 dy : Dy s l e
 lo : l ≠ [] → L ≤ e
 hi : l ≠ [] → e + (bl (V l) : Nat) ≤ H
structure Wk (L H : Int) : Prop where
 lo : -1000000 ≤ L
 hi : H ≤ 1000000
 sz : H - L ≤ 130000
theorem Wn.bls {L H : Int} {s : Bool} {l : List Int} {e : Int} (h : Wn L H s l e) (k : Wk L H) : bl (V l) ≤ 130000 := by
 by_cases c : l = []
 ·subst c; exact Nat.zero_le _
 ·have h1 := h.lo c
  have h2 := h.hi c
  have h3 := k.sz
  omega
theorem Wn.ex {L H : Int} {s : Bool} {l : List Int} {e : Int} (h : Wn L H s l e) (k : Wk L H) : -1000000 ≤ e ∧ e ≤ 1000000 := by
 by_cases c : l = []
 ·have h1 := (h.dy.none c).2
  omega
 ·have h1 := h.lo c
  have h2 := h.hi c
  have h3 := k.lo
  have h4 := k.hi
  omega
theorem Wn.len {L H : Int} {s : Bool} {l : List Int} {e : Int} (h : Wn L H s l e) (k : Wk L H) : l.length ≤ 4096 := by
 have h1 := h.bls k
 have h2 := h.dy.nm
 unfold Nm at h2
 rw [← h2]
 exact z7 (by omega)
theorem Wn.my {L H : Int} {s : Bool} {l : List Int} {e : Int} (h : Wn L H s l e) (k : Wk L H) : My s l e := by
 have h1 := h.ex k
 exact ⟨h.dy, h.len k, by omega, by omega⟩
theorem zgV {e m : Int} (h1 : -1000000 ≤ e ∧ e ≤ 1000000) (h2 : -1000000 ≤ m ∧ m ≤ 1000000) (h : m ≤ e) : wrap64 (e - m) = ((e - m).toNat : Int) := by unfold wrap64; omega
theorem zj9 {n b : Nat} (hn : n ≤ 2000000) (hb : b ≤ 2000000) : wrap64 ((n : Int) + (b : Int)) = ((n + b : Nat) : Int) := by unfold wrap64; omega
theorem zgS {la lb : List Int} {sa sb : Bool} {ea : Int} (da : Nm la) (db : Nm lb) (n : Nat) (h1 : -1000000 ≤ ea ∧ ea ≤ 1000000) (hn : bl (V lb) + n ≤ 130000) (ha : bl (V la) ≤ 130000) (hb : bl (V lb) ≤ 130000) (h2 : n ≤ 130000) :
  Ev (fun k => zai.f k lb) (bl (V lb) : Nat) ∧ wrap64 ((n : Int) + ((bl (V lb) : Nat) : Int)) = ((n + bl (V lb) : Nat) : Int) ∧ Ev (fun k => zac.f k lb (n : Int)) (D (V lb * 2 ^ n), false, 0) ∧ Ev (fun k => zaS.f k sb (D (V lb * 2 ^ n)) sa la ea) (ok3 (mk (sv sb (V lb * 2 ^ n) + sv sa (V la)) ea)) := by
 have hu := zb1 (V lb) n
 have ll : lb.length ≤ 4096 := by
  have h3 := db
  unfold Nm at h3
  rw [← h3]
  exact z7 (by omega)
 have hs := zdd db ll (n : Int)
 rw [zdQ (by omega)] at hs
 have j1 := zhK sb sa (V lb * 2 ^ n) (V la) (e := ea) (by omega) (by omega) (by omega) (by omega)
 have h3 := da
 unfold Nm at h3
 rw [h3] at j1
 exact ⟨zcP db ll, zj9 (by omega) (by omega), hs, j1⟩
theorem zfy {L H : Int} (k : Wk L H) {sa sb : Bool} {la lb : List Int} {ea eb : Int} (ha : Wn L H sa la ea) (hb : Wn L H sb lb eb) : Ev (fun k => zaH.f k sa la ea sb lb eb) (ok3 (zw (sv sa (V la)) ea (sv sb (V lb)) eb)) := by
 have xa := ha.ex k
 have xb := hb.ex k
 have ba := ha.bls k
 have bb := hb.bls k
 have lla := ha.len k
 have llb := hb.len k
 have da := ha.dy
 have db := hb.dy
 unfold zaH.f
 by_cases c : la = []
 ·subst c
  clear ha hb
  (repeat (first | with_reducible refine ep ?_ | with_reducible refine en ?_))
  refine zh (zdB sb eb (by omega)) ?_
  (repeat (first | with_reducible refine ep ?_ | with_reducible refine en ?_))
  refine zg (Ev.now _) ?_
  rw [zN, z9, zds, zf0 db]
 refine ze (fun h => c (zad.1 h)) ?_
 by_cases c2 : lb = []
 ·subst c2
  clear ha hb
  (repeat (first | with_reducible refine ep ?_ | with_reducible refine en ?_))
  refine zh (zdB sa ea (by omega)) ?_
  (repeat (first | with_reducible refine ep ?_ | with_reducible refine en ?_))
  refine zg (Ev.now _) ?_
  rw [zN, z9, ze3, zf0 da]
 refine ze (fun h => c2 (zad.1 h)) ?_
 have la1 := ha.lo c
 have la2 := ha.hi c
 have lb1 := hb.lo c2
 have lb2 := hb.hi c2
 have ksz := k.sz
 clear ha hb k
 by_cases c3 : ea < eb
 ·have hw := zgV xb xa (by omega)
  have hn : bl (V lb) + (eb - ea).toNat ≤ 130000 := by omega
  have e0 : zw (sv sa (V la)) ea (sv sb (V lb)) eb = mk (sv sb (V lb * 2 ^ (eb - ea).toNat) + sv sa (V la)) ea := by
   rw [← zc1 (m := ea) (by omega) (by omega), zcz, zcz, Int.sub_self, Int.add_comm]
   show mk (_ + sv sa (V la * 2 ^ 0)) ea = _
   rw [Nat.pow_zero, Nat.mul_one]
  rw [e0]
  obtain ⟨hl, hw3, hs, j1⟩ := zgS (sa := sa) (sb := sb) (ea := ea) da.nm db.nm (eb - ea).toNat xa hn ba bb (by omega)
  clear e0
  generalize (eb - ea).toNat = n at *
  refine zd c3 ?_
  refine zf ?_
  simp only [zaH.j1, hw]
  clear hw
  refine Ev.bind hl ?_
  rw [hw3]
  refine ze (by omega) ?_
  refine Ev.bind hl ?_
  rw [hw3]
  clear hw3
  refine ze (by omega) ?_
  refine Ev.bind hs ?_
  dsimp only
  refine Ev.bind j1 ?_
  exact Ev.now _
 ·have hw := zgV xa xb (by omega)
  have hn : bl (V la) + (ea - eb).toNat ≤ 130000 := by omega
  have e0 : zw (sv sa (V la)) ea (sv sb (V lb)) eb = mk (sv sa (V la * 2 ^ (ea - eb).toNat) + sv sb (V lb)) eb := by
   rw [← zc1 (m := eb) (by omega) (by omega), zcz, zcz, Int.sub_self]
   show mk (_ + sv sb (V lb * 2 ^ 0)) eb = _
   rw [Nat.pow_zero, Nat.mul_one]
  rw [e0]
  obtain ⟨hl, hw3, hs, j1⟩ := zgS (sa := sb) (sb := sa) (ea := eb) db.nm da.nm (ea - eb).toNat xb hn bb ba (by omega)
  clear e0
  generalize (ea - eb).toNat = n at *
  refine ze c3 ?_
  refine zf ?_
  simp only [zaH.j1, hw]
  clear hw
  refine Ev.bind hl ?_
  rw [hw3]
  refine ze (by omega) ?_
  refine Ev.bind hl ?_
  rw [hw3]
  clear hw3
  refine ze (by omega) ?_
  refine Ev.bind hs ?_
  dsimp only
  refine Ev.bind j1 ?_
  exact Ev.now _
theorem zhF {L H : Int} (k : Wk L H) {sa sb : Bool} {la lb : List Int} {ea eb : Int} (ha : Wn L H sa la ea) (hb : Wn L H sb lb eb) : Ev (fun k => zb7.f k sa la ea sb lb eb) (ok3 (zw (sv sa (V la)) ea (sv sb (V lb)) eb)) := by
 unfold zb7.f
 refine Ev.bind (zdz (ha.my k) (hb.my k)) ?_
 refine ze (by simp) ?_
 refine Ev.bind (zfy k ha hb) ?_
 exact Ev.now _
theorem zhJ {L H : Int} (k : Wk L H) {sa sb : Bool} {la lb : List Int} {ea eb : Int} (ha : Wn L H sa la ea) (hb : Wn L H sb lb eb) : Ev (fun k => zcb.f k sa la ea sb lb eb) (ok3 (zw (sv sa (V la)) ea (-(sv sb (V lb))) eb)) := by
 unfold zcb.f
 have hv := zeQ hb.dy
 have hd := zK (-(sv sb (V lb))) eb
 rw [hv.1, hv.2.2] at hd
 have hn : Wn L H (mk (-(sv sb (V lb))) eb).1 lb eb := ⟨hd, hb.lo, hb.hi⟩
 have h1 := zfy k ha hn
 rw [hv.2.1] at h1
 refine Ev.bind (zdz (ha.my k) (hb.my k)) ?_
 refine ze (by simp) ?_
 refine zh (zhL hb.dy (hb.len k)) ?_
 simp only [hv.1, hv.2.2]
 refine Ev.bind h1 ?_
 exact Ev.now _
theorem zhM {L H : Int} (k : Wk L H) {sa sb : Bool} {la lb : List Int} {ea eb : Int} (ha : Wn L H sa la ea) (hb : Wn L H sb lb eb) (ca : la ≠ []) (cb : lb ≠ []) : Ev (fun k => zay.f k sa la ea sb lb eb) (zo (V la : Int) ea (V lb : Int) eb) := by
 have hma := ha.my k
 have hmb := hb.my k
 have xa := ha.ex k
 have xb := hb.ex k
 have ba := ha.bls k
 have bb := hb.bls k
 have lla := ha.len k
 have llb := hb.len k
 have da := ha.dy
 have db := hb.dy
 have la1 := ha.lo ca
 have la2 := ha.hi ca
 have lb1 := hb.lo cb
 have lb2 := hb.hi cb
 have ksz := k.sz
 clear ha hb k
 have oa := da.odd ca
 have ob := db.odd cb
 have ta := zed hma
 have tb := zed hmb
 have va : V la ≠ 0 := by omega
 have vb : V lb ≠ 0 := by omega
 have ea1 : top (sv sa (V la)) ea = ea + ((bl (V la) : Nat) : Int) := by unfold top; rw [if_neg (fun h => va (zbv.1 h)), zbb]
 have eb1 : top (sv sb (V lb)) eb = eb + ((bl (V lb) : Nat) : Int) := by unfold top; rw [if_neg (fun h => vb (zbv.1 h)), zbb]
 rw [ea1] at ta
 rw [eb1] at tb
 clear ea1 eb1
 have na := zcP da.nm lla
 have nb := zcP db.nm llb
 unfold zay.f
 refine Ev.bind ta ?_
 refine Ev.bind tb ?_
 have hm1 : min ea eb ≤ ea := by omega
 have hm2 : min ea eb ≤ eb := by omega
 have pa := zcx (z := (V la : Int)) (e := ea) (m := min ea eb) (by omega) hm1
 have pb := zcx (z := (V lb : Int)) (e := eb) (m := min ea eb) (by omega) hm2
 have qa : top (V la : Int) ea = ea + ((bl (V la) : Nat) : Int) := by unfold top; rw [if_neg (by omega)]; rfl
 have qb : top (V lb : Int) eb = eb + ((bl (V lb) : Nat) : Int) := by unfold top; rw [if_neg (by omega)]; rfl
 rw [qa] at pa
 rw [qb] at pb
 have sa1 : (al (V la : Int) ea (min ea eb)).sign = 1 := by rw [zan]; exact Int.sign_eq_one_of_pos (by omega)
 have sb1 : (al (V lb : Int) eb (min ea eb)).sign = 1 := by rw [zan]; exact Int.sign_eq_one_of_pos (by omega)
 by_cases c1 : ea + ((bl (V la) : Nat) : Int) < eb + ((bl (V lb) : Nat) : Int)
 ·refine zd c1 ?_
  refine zg (Ev.now _) ?_
  have hc := zd7 (a := al (V la : Int) ea (min ea eb)) (b := al (V lb : Int) eb (min ea eb)) (by rw [sa1, sb1]) (by rw [sa1]; decide) (by omega)
  rw [sa1, decide_eq_true (by omega : bl (al (V la : Int) ea (min ea eb)).natAbs < bl (al (V lb : Int) eb (min ea eb)).natAbs)] at hc
  unfold zo
  rw [hc]; rfl
 refine ze c1 ?_
 refine Ev.bind ta ?_
 refine Ev.bind tb ?_
 by_cases c2 : ea + ((bl (V la) : Nat) : Int) > eb + ((bl (V lb) : Nat) : Int)
 ·refine zd c2 ?_
  refine zg (Ev.now _) ?_
  have hc := zd7 (a := al (V la : Int) ea (min ea eb)) (b := al (V lb : Int) eb (min ea eb)) (by rw [sa1, sb1]) (by rw [sa1]; decide) (by omega)
  rw [sa1, decide_eq_false (by omega : ¬ bl (al (V la : Int) ea (min ea eb)).natAbs < bl (al (V lb : Int) eb (min ea eb)).natAbs)] at hc
  unfold zo
  rw [hc]; rfl
 refine ze c2 ?_
 refine Ev.bind na ?_
 refine Ev.bind nb ?_
 clear pa pb qa qb sa1 sb1 hm1 hm2
 have ew : wrap64 (((bl (V la) : Nat) : Int) - ((bl (V lb) : Nat) : Int)) = eb - ea := by unfold wrap64; omega
 rw [ew]
 clear ew
 by_cases c3 : eb - ea > 0
 ·obtain ⟨n, hn⟩ := Int.eq_ofNat_of_zero_le (show 0 ≤ eb - ea by omega)
  rw [hn]
  have hu := zb1 (V lb) n
  have hs := zdd db.nm llb (n : Int)
  rw [zdQ (by omega)] at hs
  have cc := zdM da.nm (zi (V lb * 2 ^ n)) lla (z7 (by omega))
  rw [V_D] at cc
  refine zd (by omega) ?_
  refine Ev.bind hs ?_
  dsimp only
  refine zf ?_
  simp only [zay.j1]
  refine Ev.bind cc ?_
  refine zg (Ev.now _) ?_
  rw [← zd5 (m := ea) (by omega) (by omega), zcy, zcy, Int.sub_self, hn, zfq]
  show _ = (((V la * 2 ^ 0 : Nat) : Int) - _).sign
  rw [Nat.pow_zero, Nat.mul_one]; rfl
 ·obtain ⟨n, hn⟩ := Int.eq_ofNat_of_zero_le (show 0 ≤ ea - eb by omega)
  have ew2 : wrap64 (-(eb - ea)) = (n : Int) := by unfold wrap64; omega
  rw [ew2]
  clear ew2
  have hu := zb1 (V la) n
  have hs := zdd da.nm lla (n : Int)
  rw [zdQ (by omega)] at hs
  have cc := zdM (zi (V la * 2 ^ n)) db.nm (z7 (by omega)) llb
  rw [V_D] at cc
  refine ze c3 ?_
  refine Ev.bind hs ?_
  dsimp only
  refine zf ?_
  simp only [zay.j1]
  refine Ev.bind cc ?_
  refine zg (Ev.now _) ?_
  rw [← zd5 (m := eb) (by omega) (by omega), zcy, zcy, Int.sub_self, hn, zfq]
  show _ = (_ - ((V lb * 2 ^ 0 : Nat) : Int)).sign
  rw [Nat.pow_zero, Nat.mul_one]; rfl
theorem zhG {L H : Int} (k : Wk L H) {sa sb : Bool} {la lb : List Int} {ea eb : Int} (ha : Wn L H sa la ea) (hb : Wn L H sb lb eb) : Ev (fun k => zb8.f k sa la ea sb lb eb) (zo (sv sa (V la)) ea (sv sb (V lb)) eb, 0) := by
 have s1 := zec (ha.my k)
 have s2 := zec (hb.my k)
 unfold zb8.f
 refine Ev.bind (zdz (ha.my k) (hb.my k)) ?_
 refine ze (by simp) ?_
 refine Ev.bind s1 ?_
 refine Ev.bind s2 ?_
 by_cases c1 : (sv sa (V la)).sign = (sv sb (V lb)).sign
 ·refine ze (by omega) ?_
  refine ze (by omega) ?_
  by_cases ca : la = []
  ·have hz : (sv sa (V la)).sign = 0 := by rw [ca, zN, z9]; rfl
   have cb : lb = [] := by
    by_cases cb : lb = []
    ·exact cb
    ·have h1 := hb.dy.odd cb
     rw [zbw (n := V lb) (by omega), hz] at c1
     split at c1 <;> omega
   subst ca; subst cb
   obtain ⟨e1, e2⟩ := zeT ha.dy
   obtain ⟨e3, e4⟩ := zeT hb.dy
   subst e1; subst e2; subst e3; subst e4
   refine Ev.bind zhN ?_
   refine zg (Ev.now _) ?_
   rw [Int.mul_zero, zaC (by omega) (by omega)]; rfl
  ·have h1 := ha.dy.odd ca
   have va : V la ≠ 0 := by omega
   have cb : lb ≠ [] := by
    intro cb
    rw [cb, zN, z9, zbw va] at c1
    have : (0 : Int).sign = 0 := rfl
    rw [this] at c1
    split at c1 <;> omega
   have h2 := hb.dy.odd cb
   have vb : V lb ≠ 0 := by omega
   have hs : sa = sb := by
    rw [zbw va, zbw vb] at c1
    cases sa <;> cases sb <;> simp at c1 <;> rfl
   refine Ev.bind (zhM k ha hb ca cb) ?_
   refine zg (Ev.now _) ?_
   rw [hs, zht sb (V la) (V lb) ea eb va]
   have hr := zhs (sv sb (V la)) ea (sv sb (V lb)) eb
   have e : wrap64 (zo (sv sb (V la)) ea (sv sb (V lb)) eb) = zo (sv sb (V la)) ea (sv sb (V lb)) eb := by unfold wrap64; omega
   rw [e]
 ·have hc := zfs (a := al (sv sa (V la)) ea (min ea eb)) (b := al (sv sb (V lb)) eb (min ea eb)) (by rw [zan, zan]; exact c1)
  rw [zan, zan] at hc
  unfold zo
  rw [hc]
  by_cases c2 : (sv sa (V la)).sign < (sv sb (V lb)).sign
  ·refine zd c2 ?_
   exact zg (Ev.now _) (by rw [if_pos c2])
  ·refine ze c2 ?_
   refine zd (by omega) ?_
   exact zg (Ev.now _) (by rw [if_neg c2])
structure Wg (L H z e : Int) : Prop where
 lo : z ≠ 0 → L ≤ e
 hi : z ≠ 0 → e + (bl z.natAbs : Nat) ≤ H
theorem zcU {L H z e : Int} (h : Wg L H z e) : Wn L H (mk z e).1 (mk z e).2.1 (mk z e).2.2 := by
 refine ⟨zK z e, ?_, ?_⟩
 ·intro c
  by_cases hz : z = 0
  ·subst hz; exact absurd rfl c
  ·have h1 := h.lo hz
   have h2 := zas z e
   have h3 : (mk z e).2.2 = me z e := rfl
   omega
 ·intro c
  by_cases hz : z = 0
  ·subst hz; exact absurd rfl c
  ·have h1 := h.hi hz
   obtain ⟨j, p1, p2, p3, p4⟩ := zat hz e
   have h3 : (mk z e).2.2 = me z e := rfl
   have h4 : bl (mz z e).natAbs = bl (V (mk z e).2.1) := by unfold mz; rw [zbb]
   omega
theorem zj0 {L H : Int} (k : Wk L H) {za ea zb eb : Int} (ha : Wg L H za ea) (hb : Wg L H zb eb) : Ev (fun k => zb7.f k (mk za ea).1 (mk za ea).2.1 (mk za ea).2.2 (mk zb eb).1 (mk zb eb).2.1 (mk zb eb).2.2) (ok3 (zw za ea zb eb)) := by
 refine zg (zhF k (zcU ha) (zcU hb)) ?_
 show ok3 (zw (mz za ea) (me za ea) (mz zb eb) (me zb eb)) = _
 rw [zc2, zdr]
theorem zj3 {L H : Int} (k : Wk L H) {za ea zb eb : Int} (ha : Wg L H za ea) (hb : Wg L H zb eb) : Ev (fun k => zcb.f k (mk za ea).1 (mk za ea).2.1 (mk za ea).2.2 (mk zb eb).1 (mk zb eb).2.1 (mk zb eb).2.2) (ok3 (zw za ea (-zb) eb)) := by
 refine zg (zhJ k (zcU ha) (zcU hb)) ?_
 show ok3 (zw (mz za ea) (me za ea) (-mz zb eb) (me zb eb)) = _
 rw [zc2, ← (zdL zb eb).1, ← (zdL zb eb).2, zdr]
theorem zj1 {L H : Int} (k : Wk L H) {za ea zb eb : Int} (ha : Wg L H za ea) (hb : Wg L H zb eb) : Ev (fun k => zb8.f k (mk za ea).1 (mk za ea).2.1 (mk za ea).2.2 (mk zb eb).1 (mk zb eb).2.1 (mk zb eb).2.2) (zo za ea zb eb, 0) := by
 refine zg (zhG k (zcU ha) (zcU hb)) ?_
 show (zo (mz za ea) (me za ea) (mz zb eb) (me zb eb), (0 : Int)) = _
 rw [zd6, zfn]
theorem zgR {f : Int} (h : isF f) (w : Nat) : Ev (fun k => zbx.f k f (w : Int)) (za2 f w) := by
 unfold zbx.f
 exact Ev.bind (zeN h w) (Ev.now _)
theorem zj2 {f : Int} (h : ¬ isF f) (w : Int) : Ev (fun k => zbx.f k f w) 4 := by
 unfold zbx.f
 exact Ev.bind (zka h _) (Ev.now _)
theorem ziP {f : Int} (h : isF f) (a b : Nat) : Ev (fun k => zbR.f k f (a : Int) (b : Int)) (if a < 2 * sg f ∧ b < 2 * sg f then 0 else 6) := by
 unfold zbR.f
 have ha := zgR h a
 have hb := zgR h b
 unfold za2 at ha hb
 by_cases c : a < 2 * sg f
 ·rw [if_pos c] at ha
  refine Ev.bind ha (ze (by simp) (Ev.bind hb ?_))
  by_cases d : b < 2 * sg f
  ·rw [if_pos d, if_pos ⟨c, d⟩]; exact Ev.now _
  ·rw [if_neg d, if_neg (fun hh => d hh.2)]; exact Ev.now _
 ·rw [if_neg c] at ha
  rw [if_neg (fun hh => c hh.1)]
  exact Ev.bind ha (zd (by simp) (Ev.now _))
theorem ziO {f : Int} (h : ¬ isF f) (a b : Int) : Ev (fun k => zbR.f k f a b) 4 := by
 unfold zbR.f
 exact Ev.bind (zj2 h a) (zd (by simp) (Ev.now _))
theorem zgq {f : Int} (h : isF f) (l : List (Nat × Nat)) (hl : l.length ≤ 1000) (hw : ∀ p ∈ l, p.1 < 18446744073709551616 ∧ p.2 < 18446744073709551616) : ∀ n i : Nat, i + n = l.length →
  Ev (fun k => zax.l0 k f (l.map fun p => ((p.1 : Int), (p.2 : Int))) (i : Int)) (if ∀ p ∈ l.drop i, p.1 < 2 * sg f ∧ p.2 < 2 * sg f then 0 else 6)
 | 0, i, hi => by
  refine zf ?_; simp only [zax.l0]
  rw [List.drop_eq_nil_of_le (by omega), if_pos (fun p hp => by cases hp)]
  exact ze (by rw [List.length_map]; omega) (Ev.now _)
 | n + 1, i, hi => by
  have hd : l.drop i = l[i] :: l.drop (i + 1) := List.drop_eq_getElem_cons (by omega)
  have hr : rdT [.i .u64, .i .u64] (l.map fun p => ((p.1 : Int), (p.2 : Int))) (i : Int) = ((l[i].1 : Int), (l[i].2 : Int)) := by
   unfold rdT
   rw [Int.toNat_natCast, List.getD_eq_getElem?_getD, List.getElem?_map, List.getElem?_eq_getElem (by omega)]
   rfl
  obtain ⟨b1, b2⟩ := hw l[i] (List.getElem_mem _)
  have e1 : wrap64 ((i : Int) + 1) = ((i + 1 : Nat) : Int) := by rw [w64 (by omega) (by omega)]; omega
  have ih := zgq h l hl hw n (i + 1) (by omega)
  refine zf ?_; simp only [zax.l0]
  rw [hr, e1, hd]
  refine zd (by rw [List.length_map]; omega) (zd (by omega) (zd (by rw [List.length_map]; omega) (zh (zf9 h b1) ?_)))
  by_cases c : l[i].1 < 2 * sg f
  ·refine ze (by unfold za2; rw [if_pos c]; simp) (zd (by omega) (zd (by rw [List.length_map]; omega) (zh (zf9 h b2) ?_)))
   by_cases d : l[i].2 < 2 * sg f
   ·refine ze (by unfold za2; rw [if_pos d]; simp) ?_
    refine zg ih ?_
    by_cases e : ∀ p ∈ l.drop (i + 1), p.1 < 2 * sg f ∧ p.2 < 2 * sg f
    ·rw [if_pos e, if_pos (fun p hp => by
      rcases List.mem_cons.1 hp with rfl | hp
      ·exact ⟨c, d⟩
      ·exact e p hp)]
    ·rw [if_neg e, if_neg (fun hh => e (fun p hp => hh p (List.mem_cons_of_mem _ hp)))]
   ·refine zd (by unfold za2; rw [if_neg d]; simp) ?_
    rw [if_neg (fun hh => d (hh _ (List.mem_cons_self)).2)]
    exact Ev.now _
  ·refine zd (by unfold za2; rw [if_neg c]; simp) ?_
   rw [if_neg (fun hh => c (hh _ (List.mem_cons_self)).1)]
   exact Ev.now _
theorem zjs {f : Int} (h : isF f) (l : List (Nat × Nat)) (hl : l.length ≤ 1000) (hw : ∀ p ∈ l, p.1 < 18446744073709551616 ∧ p.2 < 18446744073709551616) :
  Ev (fun k => zax.f k f (l.map fun p => ((p.1 : Int), (p.2 : Int)))) (if ∀ p ∈ l, p.1 < 2 * sg f ∧ p.2 < 2 * sg f then 0 else 6) := by
 unfold zax.f
 refine zh (zep f) ?_
 rw [decide_eq_true h]
 exact ze (by simp) (zgq h l hl hw l.length 0 (by omega))
theorem zjr {f : Int} (h : ¬ isF f) (l : List (Int × Int)) : Ev (fun k => zax.f k f l) 4 := by
 unfold zax.f
 refine zh (zep f) ?_
 rw [decide_eq_false h]
 exact zd rfl (Ev.now _)
def pcl (f : Int) (a b : Nat) : Int := if cls f a = 4 ∨ cls f b = 4 then 3 else if cls f a = 5 ∨ cls f b = 5 then 4 else if cls f a = 1 ∧ cls f b = 1 then 1 else 2
theorem zf4 (x y : Int) (u : Bool) : Ev (fun k => zae.j2 k x y u) (if u = true then (4, 0) else if x = 1 ∧ y = 1 then (1, 0) else (2, 0)) := by
 refine zf ?_; simp only [zae.j2]
 cases u
 ·refine ze (by simp) ?_
  rw [if_neg (show ¬ (false = true) by simp)]
  by_cases c : x = 1
  ·by_cases d : y = 1
   ·rw [if_pos (show x = 1 ∧ y = 1 from ⟨c, d⟩)]; exact zd c (zd d (Ev.now _))
   ·rw [if_neg (show ¬ (x = 1 ∧ y = 1) from fun hh => d hh.2)]; exact zd c (ze d (Ev.now _))
  ·rw [if_neg (show ¬ (x = 1 ∧ y = 1) from fun hh => c hh.1)]; exact ze c (Ev.now _)
 ·exact zd rfl (Ev.now _)
theorem zf3 (f x y : Int) (u : Bool) : Ev (fun k => zae.j1 k x y u) (if u = true then (3, 0) else if x = 5 ∨ y = 5 then (4, 0) else if x = 1 ∧ y = 1 then (1, 0) else (2, 0)) := by
 refine zf ?_; simp only [zae.j1]
 cases u
 ·refine ze (by simp) ?_
  rw [if_neg (show ¬ (false = true) by simp)]
  by_cases c : x = 5
  ·rw [if_pos (show x = 5 ∨ y = 5 from .inl c)]
   refine zd c (zg (zf4 x y true) ?_)
   rw [if_pos rfl]
  ·refine ze c (zg (zf4 x y _) ?_)
   by_cases d : y = 5
   ·rw [decide_eq_true d, if_pos (show true = true from rfl), if_pos (show x = 5 ∨ y = 5 from .inr d)]
   ·rw [decide_eq_false d, if_neg (show ¬ (false = true) by simp), if_neg (show ¬ (x = 5 ∨ y = 5) from fun hh => hh.elim c d)]
 ·exact zd rfl (Ev.now _)
theorem ziN {f : Int} (h : isF f) {a b : Nat} (ha : a < 2 * sg f) (hb : b < 2 * sg f) : Ev (fun k => zae.f k f (a : Int) (b : Int)) (pcl f a b, 0) := by
 unfold zae.f pcl
 refine Ev.bind (zgW h ha) (ze (by simp) (Ev.bind (zgW h hb) (ze (by simp) ?_)))
 dsimp only
 by_cases c : cls f a = 4
 ·rw [if_pos (.inl c)]
  refine zd c (zg (zf3 f _ _ true) ?_)
  rw [if_pos rfl]
 ·refine ze c (zg (zf3 f _ _ _) ?_)
  by_cases d : cls f b = 4
  ·rw [decide_eq_true d, if_pos (show true = true from rfl), if_pos (.inr d)]
  ·rw [decide_eq_false d, if_neg (show ¬ (false = true) by simp), if_neg (show ¬ (cls f a = 4 ∨ cls f b = 4) from fun hh => hh.elim c d)]
   by_cases c5 : cls f a = 5 ∨ cls f b = 5
   ·rw [if_pos c5, if_pos c5]
   ·rw [if_neg c5, if_neg c5]
    split <;> rfl
def zQ (f : Int) (a b : Nat) : Prop := cls f a < 4 ∧ cls f b < 4
instance (f : Int) (a b : Nat) : Decidable (zQ f a b) := inferInstanceAs (Decidable (_ ∧ _))
theorem zjq {f : Int} (h : isF f) (a b : Nat) : zcK.f f (a : Int) (b : Int) = some (decide (zQ f a b)) := by
 unfold zcK.f zQ
 rw [zf8 h, Option.bind_some, zf8 h, Option.bind_some]
 by_cases c : cls f a < 4
 ·rw [if_pos (decide_eq_true c)]
  congr 1
  by_cases d : cls f b < 4 <;> simp [c, d]
 ·rw [if_neg (by simpa using c)]
  simp [c]
theorem zf5 {f : Int} (h : isF f) (a b : Nat) : pcl f a b > 2 ↔ ¬ zQ f a b := by
 have h1 := zd4 h a
 have h2 := zd4 h b
 unfold pcl zQ
 split
 ·omega
 ·split
  ·omega
  ·split <;> omega
def zaM (f : Int) (l : List (Nat × Nat)) : Int := if ∀ p ∈ l, p.1 < 2 * sg f ∧ p.2 < 2 * sg f then (if ∀ p ∈ l, zQ f p.1 p.2 then 0 else 7) else 6
theorem zgi (l : List (Nat × Nat)) {i : Nat} (hi : i < l.length) : rdT [.i .u64, .i .u64] (l.map fun p => ((p.1 : Int), (p.2 : Int))) (i : Int) = ((l[i].1 : Int), (l[i].2 : Int)) := by
 unfold rdT
 rw [Int.toNat_natCast, List.getD_eq_getElem?_getD, List.getElem?_map, List.getElem?_eq_getElem hi]
 rfl
theorem zfC {f : Int} (h : isF f) (l : List (Nat × Nat)) (hl : l.length ≤ 1000) (hw : ∀ p ∈ l, p.1 < 2 * sg f ∧ p.2 < 2 * sg f) : ∀ n i : Nat, i + n = l.length →
  Ev (fun k => zM.l1 k f (l.map fun p => ((p.1 : Int), (p.2 : Int))) (l.length : Int) (i : Int)) (if ∀ p ∈ l.drop i, zQ f p.1 p.2 then 0 else 7)
 | 0, i, hi => by
  refine zf ?_; simp only [zM.l1]
  rw [List.drop_eq_nil_of_le (by omega), if_pos (fun p hp => by cases hp)]
  exact ze (by omega) (Ev.now _)
 | n + 1, i, hi => by
  have hd : l.drop i = l[i] :: l.drop (i + 1) := List.drop_eq_getElem_cons (by omega)
  have hr := zgi l (i := i) (by omega)
  have e1 : wrap64 ((i : Int) + 1) = ((i + 1 : Nat) : Int) := by rw [w64 (by omega) (by omega)]; omega
  have ih := zfC h l hl hw n (i + 1) (by omega)
  obtain ⟨b1, b2⟩ := hw l[i] (List.getElem_mem _)
  refine zf ?_; simp only [zM.l1]
  rw [hr, e1, hd]
  clear e1
  refine zd (by omega) (zd (by omega) (zd (by rw [List.length_map]; omega) (Ev.bind (ziN h b1 b2) ?_)))
  dsimp only
  by_cases c : zQ f l[i].1 l[i].2
  ·refine ze (fun hh => (zf5 h _ _).1 hh c) (zg ih ?_)
   by_cases e : ∀ p ∈ l.drop (i + 1), zQ f p.1 p.2
   ·rw [if_pos e, if_pos (fun p hp => by
     rcases List.mem_cons.1 hp with rfl | hp
     ·exact c
     ·exact e p hp)]
   ·rw [if_neg e, if_neg (fun hh => e (fun p hp => hh p (List.mem_cons_of_mem _ hp)))]
  ·refine zd ((zf5 h _ _).2 c) ?_
   rw [if_neg (fun hh => c (hh _ List.mem_cons_self))]
   exact Ev.now _
theorem zfB {f : Int} (h : isF f) (l : List (Nat × Nat)) (hl : l.length ≤ 1000) : ∀ n i : Nat, i + n = l.length → (∀ p ∈ l.take i, p.1 < 2 * sg f ∧ p.2 < 2 * sg f) →
  Ev (fun k => zM.l0 k f (l.map fun p => ((p.1 : Int), (p.2 : Int))) (l.map fun p => ((p.1 : Int), (p.2 : Int))) (l.length : Int) (i : Int)) (zaM f l)
 | 0, i, hi, hw => by
  rw [List.take_of_length_le (by omega)] at hw
  have h1 := zfC h l hl hw l.length 0 (by omega)
  have e0 : ((l.map fun p : Nat × Nat => ((p.1 : Int), (p.2 : Int))).length : Int) = (l.length : Int) := by rw [List.length_map]
  refine zf ?_; simp only [zM.l0]
  rw [e0]
  refine ze (by omega) (zg h1 ?_)
  unfold zaM
  rw [if_pos hw]; rfl
 | n + 1, i, hi, hw => by
  have hr := zgi l (i := i) (by omega)
  have e1 : wrap64 ((i : Int) + 1) = ((i + 1 : Nat) : Int) := by rw [w64 (by omega) (by omega)]; omega
  have ht : l.take (i + 1) = l.take i ++ [l[i]] := by rw [List.take_succ_eq_append_getElem]
  refine zf ?_; simp only [zM.l0]
  rw [hr, e1]
  clear e1
  refine zd (by omega) (zd (by omega) (zd (by rw [List.length_map]; omega) (Ev.bind (ziP h l[i].1 l[i].2) ?_)))
  by_cases c : l[i].1 < 2 * sg f ∧ l[i].2 < 2 * sg f
  ·rw [if_pos c]
   refine ze (by simp) (zfB h l hl n (i + 1) (by omega) ?_)
   rw [ht]
   intro p hp
   rcases List.mem_append.1 hp with hp | hp
   ·exact hw p hp
   ·rw [List.mem_singleton.1 hp]; exact c
  ·rw [if_neg c]
   refine zd (by simp) ?_
   unfold zaM
   rw [if_neg (fun hh => c (hh _ (List.getElem_mem _)))]
   exact Ev.now _
theorem zh6 {f : Int} (h : isF f) (l : List (Nat × Nat)) (hl : l.length ≤ 1000) : Ev (fun k => zM.f k f (l.map fun p => ((p.1 : Int), (p.2 : Int)))) (zaM f l) := by
 unfold zM.f
 have h1 := zfB h l hl l.length 0 (by omega) (fun p hp => by cases hp)
 have e0 : ((l.map fun p : Nat × Nat => ((p.1 : Int), (p.2 : Int))).length : Int) = (l.length : Int) := by rw [List.length_map]
 rw [e0]
 exact h1
theorem zh5 {f : Int} (h : ¬ isF f) (p : Int × Int) (l : List (Int × Int)) : Ev (fun k => zM.f k f (p :: l)) 4 := by
 unfold zM.f
 have hr : rdT [.i .u64, .i .u64] (p :: l) 0 = p := rfl
 refine zf ?_; simp only [zM.l0]
 rw [hr]
 refine zd (by rw [List.length_cons]; omega) (zd (by omega) (zd (by rw [List.length_cons]; omega) (Ev.bind (ziO h p.1 p.2) ?_)))
 exact zd (by simp) (Ev.now _)
theorem zif (m : Nat) : zbm.f (m + 100) = some true := by kernel_rfl
theorem zda : Ev (fun k => zbm.f k) true := by
 refine ⟨100, fun k hk => ?_⟩
 obtain ⟨m, rfl⟩ : ∃ m, k = m + 100 := ⟨k - 100, by omega⟩
 exact zif m
def zv (f : Int) (w : Nat) : Int := sv (zbc f w) (zT f w)
structure Wz (z e : Int) : Prop where
 b : bl z.natAbs ≤ 64
 lo : -1074 ≤ e
 hi : e ≤ 3000
theorem zkc {f : Int} (h : isF f) (w : Nat) : Wz (zv f w) (wex f w) := by
 have h1 := zgU h w
 have h2 := zgT h w
 refine ⟨?_, h2.1, h2.2⟩
 unfold zv
 rw [zbb]
 exact zav h1
theorem zfh (x y : Int) : bl (x * y).natAbs ≤ bl x.natAbs + bl y.natAbs := by
 rw [Int.natAbs_mul]; exact zfg _ _
theorem zhm (x y : Int) : bl (x + y).natAbs ≤ max (bl x.natAbs) (bl y.natAbs) + 1 :=
 Nat.le_trans (zbB (Int.natAbs_add_le x y)) (zd2 _ _)
def zcZ (za ea zb eb : Int) : Int := al za ea (min ea eb) + al zb eb (min ea eb)
theorem zff (z e m : Int) : bl (al z e m).natAbs ≤ bl z.natAbs + (e - m).toNat := by
 rw [ze6]; exact zb1 _ _
theorem zhn (za ea zb eb : Int) {n : Nat} (ha : bl za.natAbs + (ea - min ea eb).toNat ≤ n) (hb : bl zb.natAbs + (eb - min ea eb).toNat ≤ n) : bl (zcZ za ea zb eb).natAbs ≤ n + 1 := by
 have h1 := zff za ea (min ea eb)
 have h2 := zff zb eb (min ea eb)
 have h3 := zhm (al za ea (min ea eb)) (al zb eb (min ea eb))
 unfold zcZ
 omega
structure W2 (z e : Int) : Prop where
 b : bl z.natAbs ≤ 128
 lo : -2148 ≤ e
 hi : e ≤ 6000
theorem Wz.mul {za ea zb eb : Int} (ha : Wz za ea) (hb : Wz zb eb) : W2 (za * zb) (ea + eb) := by
 have h1 := zfh za zb
 obtain ⟨a1, a2, a3⟩ := ha
 obtain ⟨b1, b2, b3⟩ := hb
 exact ⟨by omega, by omega, by omega⟩
theorem W2.rg {z e : Int} (h : W2 z e) : Rg z e := by
 obtain ⟨a1, a2, a3⟩ := h
 exact ⟨by omega, by omega, by omega⟩
theorem W2.neg {z e : Int} (h : W2 z e) : W2 (-z) e := by
 obtain ⟨a1, a2, a3⟩ := h
 exact ⟨by rw [Int.natAbs_neg]; exact a1, a2, a3⟩
theorem Wz.rg {z e : Int} (h : Wz z e) : Rg z e := by
 obtain ⟨a1, a2, a3⟩ := h
 exact ⟨by omega, by omega, by omega⟩
theorem zh3 {f : Int} (h : isF f) {a b : Nat} (ha : a < 2 * sg f) (hb : b < 2 * sg f) (hf : zQ f a b) : Ev (fun k => zcd.f k f (a : Int) (b : Int)) ((mk (zv f a) (wex f a)).1, (mk (zv f a) (wex f a)).2.1, (mk (zv f a) (wex f a)).2.2, (mk (zv f b) (wex f b)).1, (mk (zv f b) (wex f b)).2.1, (mk (zv f b) (wex f b)).2.2) := by
 unfold zcd.f
 exact Ev.bind (zgX h ha hf.1) (Ev.bind (zgX h hb hf.2) (Ev.now _))
def zcj (s : Bool) (l : List Int) (e : Int) : Bool := may l && (if l = [] then !s && decide (e = 0) else decide (V l % 2 = 1) && decide (-16777216 ≤ e ∧ e ≤ 16777216))
theorem zej {s : Bool} {l : List Int} {e : Int} (h : zcj s l e = true) : My s l e := by
 unfold zcj at h
 rw [Bool.and_eq_true] at h
 obtain ⟨h1, h2⟩ := h
 obtain ⟨h3, h4⟩ := zaK.1 h1
 by_cases c : l = []
 ·rw [if_pos c, Bool.and_eq_true, decide_eq_true_iff, Bool.not_eq_true'] at h2
  obtain ⟨h5, h6⟩ := h2
  exact ⟨⟨h4, fun _ => ⟨h5, h6⟩, fun hh => absurd c hh⟩, h3, by omega, by omega⟩
 ·rw [if_neg c, Bool.and_eq_true, decide_eq_true_iff, decide_eq_true_iff] at h2
  obtain ⟨h5, h6⟩ := h2
  exact ⟨⟨h4, fun hh => absurd hh c, fun _ => h5⟩, h3, h6.1, h6.2⟩
theorem zib (e : Int) : zcc.f e = some (decide (-16777216 ≤ e ∧ e ≤ 16777216)) := by
 unfold zcc.f
 by_cases c : -16777216 ≤ e
 ·rw [if_pos c]; simp [c]
 ·rw [if_neg c]; simp [c]
theorem zd9 {s : Bool} {l : List Int} {e : Int} (h : Dg l) (hb : l.length ≤ 1000000) : zH.f s l e = some (zcj s l e) := by
 unfold zH.f zcj
 rw [zbu h (by omega), Option.bind_some]
 cases may l with
 | false => rw [if_pos (show (!false) = true from rfl), Bool.false_and]
 | true =>
  rw [if_neg (show ¬ (!true) = true by simp), Bool.true_and]
  by_cases c : l = []
  ·rw [if_pos (zad.2 c), if_pos c]
   cases s
   ·rw [if_pos (show (!false) = true from rfl)]; simp
   ·rw [if_neg (show ¬ (!true) = true by simp)]; simp
  ·rw [if_neg (fun hh => c (zad.1 hh)), if_neg c, if_pos (zcg c), zei h, zib, Option.bind_some]
   by_cases o : V l % 2 = 1
   ·rw [if_pos (by omega)]; simp [o]
   ·rw [if_neg (by omega)]; simp [o]
theorem ziI {l : List Int} (h : Dg l) : Int.tmod (rd l 0) 2 = ((V l % 2 : Nat) : Int) := by
 have h1 := zei h
 have h3 := h.rd 0
 cases l with
 | nil => rfl
 | cons d r =>
  have e : rd (d :: r) 0 = d := rfl
  rw [e] at h3 ⊢
  rw [zy, Int.tmod_eq_emod_of_nonneg h3.1]
  omega
theorem zeq {s : Bool} {l : List Int} {e : Int} (h : Dg l) (hb : l.length ≤ 1000000) : zbE.f s l e = some (zcj s l e) := by
 have e1 : zc4.f l = zak.f l := rfl
 unfold zbE.f zcj
 rw [e1, zbu h (by omega), Option.bind_some]
 cases may l with
 | false => rw [if_pos (show (!false) = true from rfl), Bool.false_and]
 | true =>
  rw [if_neg (show ¬ (!true) = true by simp), Bool.true_and]
  by_cases c : l = []
  ·rw [if_pos (zad.2 c), if_pos c]
   cases s
   ·rw [if_pos (show (!false) = true from rfl)]; simp
   ·rw [if_neg (show ¬ (!true) = true by simp)]; simp
  ·rw [if_neg (fun hh => c (zad.1 hh)), if_neg c, if_pos (zcg c), ziI h]
   by_cases o : V l % 2 = 1
   ·rw [if_pos (by omega)]
    by_cases o2 : e ≥ -16777216
    ·rw [if_pos o2]; simp [o]; intro; omega
    ·rw [if_neg o2]; simp [o]; intro; omega
   ·rw [if_neg (by omega)]; simp [o]
structure In (d : Bool × List Int × Int) : Prop where
 dg : Dg d.2.1
 len : d.2.1.length ≤ 1300
def zA (d : Bool × List Int × Int) : Prop := d.2.1.length ≤ 400 ∧ -20000 ≤ d.2.2 ∧ d.2.2 ≤ 20000
instance (d : Bool × List Int × Int) : Decidable (zA d) := inferInstanceAs (Decidable (_ ∧ _ ∧ _))
def zn (d : Bool × List Int × Int) : Bool := zcj d.1 d.2.1 d.2.2
def zX (f : Int) (a b : Nat) (k : Int) (x y z : Bool × List Int × Int) : Int :=
 if ¬ (a < 2 * sg f ∧ b < 2 * sg f) then 6 else if ¬ (zn x = true ∧ zn y = true ∧ zn z = true ∧ 0 ≤ k) then 2 else if z.2.1 = [] then 11 else if ¬ zQ f a b then 7 else if zA x ∧ zA y ∧ zA z then 0 else 3
theorem zhg (x y z : Bool × List Int × Int) : Ev (fun k => zm.l0 k x.1 x.2.1 x.2.2 y.1 y.2.1 y.2.2 z.1 z.2.1 z.2.2 0) (if zA x ∧ zA y ∧ zA z then 0 else 3) := by
 have w0 : wrap64 (0 + 1) = 1 := by unfold wrap64; omega
 have w1 : wrap64 (1 + 1) = 2 := by unfold wrap64; omega
 have w2 : wrap64 (2 + 1) = 3 := by unfold wrap64; omega
 have bad : ∀ {d : Bool × List Int × Int} {g : Nat → Option Int}, ¬ zA d → Ev (fun k => if (d.2.1.length : Int) > 400 then some 3 else if d.2.2 < -20000 then some 3 else if d.2.2 > 20000 then some 3 else g k) 3 := by
  intro d g hd
  by_cases c1 : (d.2.1.length : Int) > 400
  ·exact zd c1 (Ev.now _)
  by_cases c2 : d.2.2 < -20000
  ·exact ze c1 (zd c2 (Ev.now _))
  by_cases c3 : d.2.2 > 20000
  ·exact ze c1 (ze c2 (zd c3 (Ev.now _)))
  exact absurd (⟨by omega, by omega, by omega⟩ : zA d) hd
 have good : ∀ {d : Bool × List Int × Int} {g : Nat → Option Int} {r : Int}, zA d → Ev g r → Ev (fun k => if (d.2.1.length : Int) > 400 then some 3 else if d.2.2 < -20000 then some 3 else if d.2.2 > 20000 then some 3 else g k) r := by
  intro d g r hd hg
  obtain ⟨h1, h2, h3⟩ := hd
  exact ze (by omega) (ze (by omega) (ze (by omega) hg))
 refine zf ?_; simp only [zm.l0]
 refine zd (by omega) (zd trivial ?_)
 by_cases hx : zA x
 rotate_left
 ·rw [if_neg (fun hh => hx hh.1)]; exact bad hx
 refine good hx ?_
 rw [w0]
 refine zf ?_; simp only [zm.l0]
 refine zd (by omega) (ze (by omega) (zd trivial ?_))
 by_cases hy : zA y
 rotate_left
 ·rw [if_neg (fun hh => hy hh.2.1)]; exact bad hy
 refine good hy ?_
 rw [w1]
 refine zf ?_; simp only [zm.l0]
 refine zd (by omega) (ze (by omega) (ze (by omega) (zd trivial ?_)))
 by_cases hz : zA z
 rotate_left
 ·rw [if_neg (fun hh => hz hh.2.2)]; exact bad hz
 refine good hz ?_
 rw [w2, if_pos ⟨hx, hy, hz⟩]
 refine zf ?_; simp only [zm.l0]
 exact ze (by omega) (Ev.now _)
theorem zdR {d : Bool × List Int × Int} (h : Dy d.1 d.2.1 d.2.2) : (sv d.1 (V d.2.1)).sign = 0 ↔ d.2.1 = [] := by
 constructor
 ·intro hs
  by_cases c : d.2.1 = []
  ·exact c
  ·have h1 := h.odd c
   rw [zbw (by omega)] at hs
   split at hs <;> omega
 ·intro c
  rw [c, zN, z9]; rfl
theorem zdw {f : Int} {a b : Nat} {kk n : Int} {x y z : Bool × List Int × Int} (u : Bool) (hu : u = true ↔ ¬ (zn x = true ∧ zn y = true ∧ zn z = true ∧ 0 ≤ kk)) (hn : n = if zQ f a b then 0 else 7) (hw : a < 2 * sg f ∧ b < 2 * sg f) :
  Ev (fun k => zm.j2 k x.1 x.2.1 x.2.2 y.1 y.2.1 y.2.2 z.1 z.2.1 z.2.2 n u) (zX f a b kk x y z) := by
 unfold zX
 rw [if_neg (fun hh => hh hw)]
 refine zf ?_; simp only [zm.j2]
 by_cases c : u = true
 ·rw [if_pos (hu.1 c)]
  exact zd c (Ev.now _)
 have hm : zn x = true ∧ zn y = true ∧ zn z = true ∧ 0 ≤ kk := Classical.byContradiction fun hh => c (hu.2 hh)
 have hz := zej hm.2.2.1
 rw [if_neg (fun hh => hh hm)]
 refine ze c (Ev.bind (zec hz) ?_)
 by_cases c2 : z.2.1 = []
 ·rw [if_pos c2]
  exact zd ((zdR hz.dy).2 c2) (Ev.now _)
 rw [if_neg c2]
 refine ze (fun hh => c2 ((zdR hz.dy).1 hh)) ?_
 subst hn
 by_cases c3 : zQ f a b
 ·rw [if_pos c3, if_neg (fun hh => hh c3)]
  exact ze (by simp) (zhg x y z)
 ·rw [if_neg c3, if_pos c3]
  exact zd (by simp) (Ev.now _)
theorem zdv {f : Int} (h : isF f) (a b : Nat) (kk : Int) {x y z : Bool × List Int × Int} (hx : In x) (hy : In y) (hz : In z) :
  Ev (fun k => zm.f k f (a : Int) (b : Int) kk x.1 x.2.1 x.2.2 y.1 y.2.1 y.2.2 z.1 z.2.1 z.2.2) (zX f a b kk x y z) := by
 have ho := zh6 h [(a, b)] (by simp)
 have mx := zd9 (s := x.1) (e := x.2.2) hx.dg (by have := hx.len; omega)
 have my := zd9 (s := y.1) (e := y.2.2) hy.dg (by have := hy.len; omega)
 have mz := zd9 (s := z.1) (e := z.2.2) hz.dg (by have := hz.len; omega)
 unfold zm.f
 by_cases hw : a < 2 * sg f ∧ b < 2 * sg f
 rotate_left
 ·have e0 : zaM f [(a, b)] = 6 := by unfold zaM; rw [if_neg (fun hh => hw (hh (a, b) (by simp)))]
  rw [e0] at ho
  unfold zX
  rw [if_pos hw]
  exact Ev.bind ho (zd (by simp) (zd (by simp) (Ev.now _)))
 have e0 : zaM f [(a, b)] = if zQ f a b then 0 else 7 := by
  unfold zaM
  rw [if_pos (fun p hp => by rw [List.mem_singleton.1 hp]; exact hw)]
  by_cases c : zQ f a b
  ·rw [if_pos c, if_pos (fun p hp => by rw [List.mem_singleton.1 hp]; exact c)]
  ·rw [if_neg c, if_neg (fun hh => c (hh (a, b) (by simp)))]
 have tail : Ev (fun k => (zH.f x.1 x.2.1 x.2.2).bind fun t133 => if (!t133) = true then zm.j2 k x.1 x.2.1 x.2.2 y.1 y.2.1 y.2.2 z.1 z.2.1 z.2.2 (zaM f [(a, b)]) true else (zH.f y.1 y.2.1 y.2.2).bind fun t134 => if (!t134) = true then zm.j2 k x.1 x.2.1 x.2.2 y.1 y.2.1 y.2.2 z.1 z.2.1 z.2.2 (zaM f [(a, b)]) true else (zH.f z.1 z.2.1 z.2.2).bind fun t135 => if (!t135) = true then zm.j2 k x.1 x.2.1 x.2.2 y.1 y.2.1 y.2.2 z.1 z.2.1 z.2.2 (zaM f [(a, b)]) true else zm.j2 k x.1 x.2.1 x.2.2 y.1 y.2.1 y.2.2 z.1 z.2.1 z.2.2 (zaM f [(a, b)]) (decide (kk < 0))) (zX f a b kk x y z) := by
  refine zh mx ?_
  by_cases c1 : zn x = true
  rotate_left
  ·exact zd (by unfold zn at c1; simpa using c1) (zdw true ⟨fun _ hh => c1 hh.1, fun _ => rfl⟩ e0 hw)
  refine ze (by unfold zn at c1; simpa using c1) (zh my ?_)
  by_cases c2 : zn y = true
  rotate_left
  ·exact zd (by unfold zn at c2; simpa using c2) (zdw true ⟨fun _ hh => c2 hh.2.1, fun _ => rfl⟩ e0 hw)
  refine ze (by unfold zn at c2; simpa using c2) (zh mz ?_)
  by_cases c3 : zn z = true
  rotate_left
  ·exact zd (by unfold zn at c3; simpa using c3) (zdw true ⟨fun _ hh => c3 hh.2.2.1, fun _ => rfl⟩ e0 hw)
  refine ze (by unfold zn at c3; simpa using c3) (zdw _ ?_ e0 hw)
  rw [decide_eq_true_iff]
  exact ⟨fun hh hm => by have := hm.2.2.2; omega, fun hh => by
   refine Classical.byContradiction fun hk => hh ⟨c1, c2, c3, by omega⟩⟩
 refine Ev.bind ho ?_
 by_cases c : zQ f a b
 ·have e1 : zaM f [(a, b)] = 0 := by rw [e0, if_pos c]
  exact ze (fun hh => hh e1) tail
 ·have e1 : zaM f [(a, b)] = 7 := by rw [e0, if_neg c]
  exact zd (fun hh => by omega) (ze (fun hh => hh e1) tail)
theorem zfd {f : Int} (h : ¬ isF f) (a b : Int) (kk : Int) (x y z : Bool × List Int × Int) :
  Ev (fun k => zm.f k f a b kk x.1 x.2.1 x.2.2 y.1 y.2.1 y.2.2 z.1 z.2.1 z.2.2) 4 := by
 unfold zm.f
 exact Ev.bind (zh5 h _ _) (zd (by simp) (zd (by simp) (Ev.now _)))
theorem zju (x y z : Bool × List Int × Int) : Ev (fun k => zaF.f k [x, y, z]) (decide (zA x ∧ zA y ∧ zA z)) := by
 have w0 : wrap64 (0 + 1) = 1 := by unfold wrap64; omega
 have w1 : wrap64 (1 + 1) = 2 := by unfold wrap64; omega
 have w2 : wrap64 (2 + 1) = 3 := by unfold wrap64; omega
 have el : (([x, y, z] : List (Bool × List Int × Int)).length : Int) = 3 := rfl
 have r0 : rdT [.b, .is .u32, .i .i64] [x, y, z] 0 = x := rfl
 have r1 : rdT [.b, .is .u32, .i .i64] [x, y, z] 1 = y := rfl
 have r2 : rdT [.b, .is .u32, .i .i64] [x, y, z] 2 = z := rfl
 have bad : ∀ {d : Bool × List Int × Int} {i : Int} {g : Nat → Option Bool}, 0 ≤ i → i < 3 → ¬ zA d → Ev (fun k => if i < 3 then (if 0 ≤ i then (if i < 3 then (if (d.2.1.length : Int) > 400 then some false else if 0 ≤ i then (if i < 3 then (if d.2.2 < -20000 then some false else if 0 ≤ i then (if i < 3 then (if d.2.2 > 20000 then some false else g k) else none) else none) else none) else none) else none) else none) else some true) false := by
  intro d i g h0 h3 hd
  refine zd h3 (zd h0 (zd h3 ?_))
  by_cases c1 : (d.2.1.length : Int) > 400
  ·exact zd c1 (Ev.now _)
  by_cases c2 : d.2.2 < -20000
  ·exact ze c1 (zd h0 (zd h3 (zd c2 (Ev.now _))))
  by_cases c3 : d.2.2 > 20000
  ·exact ze c1 (zd h0 (zd h3 (ze c2 (zd h0 (zd h3 (zd c3 (Ev.now _)))))))
  exact absurd (⟨by omega, by omega, by omega⟩ : zA d) hd
 have good : ∀ {d : Bool × List Int × Int} {i : Int} {g : Nat → Option Bool} {r : Bool}, 0 ≤ i → i < 3 → zA d → Ev g r → Ev (fun k => if i < 3 then (if 0 ≤ i then (if i < 3 then (if (d.2.1.length : Int) > 400 then some false else if 0 ≤ i then (if i < 3 then (if d.2.2 < -20000 then some false else if 0 ≤ i then (if i < 3 then (if d.2.2 > 20000 then some false else g k) else none) else none) else none) else none) else none) else none) else some true) r := by
  intro d i g r h0 h3 hd hg
  obtain ⟨h1, h2, h4⟩ := hd
  exact zd h3 (zd h0 (zd h3 (ze (by omega) (zd h0 (zd h3 (ze (by omega) (zd h0 (zd h3 (ze (by omega) hg)))))))))
 unfold zaF.f
 refine zf ?_; simp only [zaF.l0]
 rw [el, r0, w0]
 by_cases hx : zA x
 rotate_left
 ·rw [decide_eq_false (fun hh => hx hh.1)]; exact bad (by omega) (by omega) hx
 refine good (by omega) (by omega) hx ?_
 refine zf ?_; simp only [zaF.l0]
 rw [el, r1, w1]
 by_cases hy : zA y
 rotate_left
 ·rw [decide_eq_false (fun hh => hy hh.2.1)]; exact bad (by omega) (by omega) hy
 refine good (by omega) (by omega) hy ?_
 refine zf ?_; simp only [zaF.l0]
 rw [el, r2, w2]
 by_cases hz : zA z
 rotate_left
 ·rw [decide_eq_false (fun hh => hz hh.2.2)]; exact bad (by omega) (by omega) hz
 refine good (by omega) (by omega) hz ?_
 rw [decide_eq_true ⟨hx, hy, hz⟩]
 refine zf ?_; simp only [zaF.l0]
 rw [el]
 exact ze (by omega) (Ev.now _)
theorem zf2 {f : Int} (h : isF f) {a b : Nat} (ha : a < 18446744073709551616) (hb : b < 18446744073709551616) (kk : Int) {x y z : Bool × List Int × Int} (hx : In x) (hy : In y) (hz : In z) :
  Ev (fun k => zbn.f k f (a : Int) (b : Int) x.1 x.2.1 x.2.2 y.1 y.2.1 y.2.2 z.1 z.2.1 z.2.2 kk) (zX f a b kk x y z) := by
 have hg := zjs h [(a, b)] (by simp) (fun p hp => by rw [List.mem_singleton.1 hp]; exact ⟨ha, hb⟩)
 have mx := zeq (s := x.1) (e := x.2.2) hx.dg (by have := hx.len; omega)
 have my := zeq (s := y.1) (e := y.2.2) hy.dg (by have := hy.len; omega)
 have mz := zeq (s := z.1) (e := z.2.2) hz.dg (by have := hz.len; omega)
 unfold zbn.f zX
 by_cases hw : a < 2 * sg f ∧ b < 2 * sg f
 rotate_left
 ·rw [if_neg (fun hh => hw (hh (a, b) (by simp)))] at hg
  rw [if_pos hw]
  exact Ev.bind hg (zd (by simp) (Ev.now _))
 rw [if_pos (fun p hp => by rw [List.mem_singleton.1 hp]; exact hw)] at hg
 rw [if_neg (fun hh => hh hw)]
 refine Ev.bind hg (ze (by simp) (zh mx ?_))
 by_cases c1 : zn x = true
 rotate_left
 ·rw [if_pos (fun hh => c1 hh.1)]
  exact zd (by unfold zn at c1; simpa using c1) (Ev.now _)
 refine ze (by unfold zn at c1; simpa using c1) (zh my ?_)
 by_cases c2 : zn y = true
 rotate_left
 ·rw [if_pos (fun hh => c2 hh.2.1)]
  exact zd (by unfold zn at c2; simpa using c2) (Ev.now _)
 refine ze (by unfold zn at c2; simpa using c2) (zh mz ?_)
 by_cases c3 : zn z = true
 rotate_left
 ·rw [if_pos (fun hh => c3 hh.2.2.1)]
  exact zd (by unfold zn at c3; simpa using c3) (Ev.now _)
 refine ze (by unfold zn at c3; simpa using c3) ?_
 by_cases c4 : kk < 0
 ·rw [if_pos (fun hh => by have := hh.2.2.2; omega)]
  exact zd c4 (Ev.now _)
 rw [if_neg (fun hh => hh ⟨c1, c2, c3, by omega⟩)]
 have hzm := zej c3
 refine ze c4 (zh (zdi hzm.dy) ?_)
 by_cases c5 : z.2.1 = []
 ·rw [if_pos c5]
  exact zd ((zdR hzm.dy).2 c5) (Ev.now _)
 rw [if_neg c5]
 refine ze (fun hh => c5 ((zdR hzm.dy).1 hh)) (zh (zjq h a b) ?_)
 by_cases c6 : zQ f a b
 rotate_left
 ·rw [if_pos c6]
  exact zd (by simpa using c6) (Ev.now _)
 rw [if_neg (fun hh => hh c6)]
 refine ze (by simpa using c6) (Ev.bind (zju x y z) ?_)
 by_cases c7 : zA x ∧ zA y ∧ zA z
 ·rw [if_pos c7, decide_eq_true c7]
  exact ze (by simp) (Ev.now _)
 ·rw [if_neg c7, decide_eq_false c7]
  exact zd rfl (Ev.now _)
theorem zf1 {f : Int} (h : ¬ isF f) (a b : Int) (kk : Int) (x y z : Bool × List Int × Int) : Ev (fun k => zbn.f k f a b x.1 x.2.1 x.2.2 y.1 y.2.1 y.2.2 z.1 z.2.1 z.2.2 kk) 4 := by
 unfold zbn.f
 exact Ev.bind (zjr h _) (zd (by simp) (Ev.now _))
end Go.Proofs.YtioialhbjmnndaaGreatDoor.Eng.K
