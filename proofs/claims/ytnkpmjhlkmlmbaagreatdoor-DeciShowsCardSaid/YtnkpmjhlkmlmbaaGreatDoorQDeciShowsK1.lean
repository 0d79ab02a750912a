import Derived.Test.YtnkpmjhlkmlmbaaGreatDoorQDeciShowsF1
import Derived.Lib.Strings
import Derived.Laws.RangeString
import Derived.Laws.BitsAllLaws
import Derived.Lib.Bytes
import Derived.KernelRfl
import Derived.Lib.Atoi
set_option linter.unusedVariables false
set_option linter.unusedSimpArgs false
namespace Go.Proofs.YtnkpmjhlkmlmbaaGreatDoor.Eng
def Ev {α : Type} (g : Nat → Option α) (r : α) : Prop := ∃ n, ∀ k, n ≤ k → g k = some r
theorem Ev.now {α : Type} (r : α) : Ev (fun _ => some r) r := ⟨0, fun _ _ => rfl⟩
theorem Ev.bind {α β : Type} {g : Nat → Option α} {f : Nat → α → Option β} {a : α} {r : β} (h : Ev g a) (k : Ev (fun n => f n a) r) : Ev (fun n => (g n).bind (f n)) r := by
 obtain ⟨n, hn⟩ := h
 obtain ⟨m, hm⟩ := k
 exact ⟨n + m, fun i hi => by show (g i).bind (f i) = some r; rw [hn i (by omega), Option.bind_some]; exact hm i (by omega)⟩
theorem Ev.step {α : Type} {g f : Nat → Option α} {r : α} (h : ∀ k, g (k + 1) = f k) (k : Ev f r) : Ev g r := by
 obtain ⟨n, hn⟩ := k
 refine ⟨n + 1, fun i hi => ?_⟩
 obtain ⟨i, rfl⟩ : ∃ j, i = j + 1 := ⟨i - 1, by omega⟩
 rw [h]; exact hn i (by omega)
end Go.Proofs.YtnkpmjhlkmlmbaaGreatDoor.Eng
namespace Go.Proofs.YtnkpmjhlkmlmbaaGreatDoor.Eng.K
open Go.RowKit
theorem w64 {n : Int} (h0 : -9223372036854775808 ≤ n) (h1 : n < 9223372036854775808) : wrap64 n = n := by unfold wrap64; omega
theorem zaE {n : Int} (h0 : 0 ≤ n) (h1 : n < 9223372036854775808) : wrap64 n = n := by unfold wrap64; omega
theorem u64 {n : Int} (h0 : 0 ≤ n) (h1 : n < 18446744073709551616) : IntKind.u64.wrap n = n := by
 simp [IntKind.wrap, IntKind.bits, IntKind.signed]; omega
theorem za6 (n : Int) : IntKind.u64.wrap n = n % 18446744073709551616 := by
 simp [IntKind.wrap, IntKind.bits, IntKind.signed]
theorem rdn (xs : List Int) (n : Nat) : rd xs (n : Int) = xs.getD n 0 := by simp [rd]
theorem zak {xs ys : List Int} {y : Int} {i : Int} (h : i = (xs.length : Int)) : rd (xs ++ y :: ys) i = y := by
 subst h; simp [rd]
theorem zcf {xs ys : List Int} {y z : Int} {i : Int} (h : i = (xs.length : Int)) : (xs ++ y :: ys).set i.toNat z = (xs ++ [z]) ++ ys := by
 subst h; simp
theorem zg {α : Type} {g : Nat → Option α} {r s : α} (h : Ev g r) (e : r = s) : Ev g s := e ▸ h
theorem zjE {α : Type} {x : Option α} {r : α} (h : x = some r) : Ev (fun _ => x) r := by subst h; exact Ev.now r
theorem zd {α : Type} {c : Prop} {_ : Decidable c} {g f : Nat → Option α} {r : α} (h : c) (k : Ev g r) : Ev (fun n => if c then g n else f n) r := by
 simpa [h] using k
theorem ze {α : Type} {c : Prop} {_ : Decidable c} {g f : Nat → Option α} {r : α} (h : ¬ c) (k : Ev f r) : Ev (fun n => if c then g n else f n) r := by
 simpa [h] using k
theorem ep {α : Type} {c : Prop} {_ : Decidable c} {g f : Nat → Option α} {r : α} (k : Ev g r) (h : c := by (first | omega | assumption | (simp; done) | (simp; omega))) : Ev (fun n => if c then g n else f n) r := zd h k
theorem en {α : Type} {c : Prop} {_ : Decidable c} {g f : Nat → Option α} {r : α} (k : Ev f r) (h : ¬ c := by (first | omega | assumption | (simp; done) | (simp; omega))) : Ev (fun n => if c then g n else f n) r := ze h k
theorem zk {α β : Type} {x : Option α} {f : Nat → α → Option β} {a : α} {r : β} (h : x = some a) (k : Ev (fun n => f n a) r) : Ev (fun n => x.bind (f n)) r := by
 subst h; exact k
theorem zf {α : Type} {g : Nat → Option α} {r : α} (k : Ev (fun n => g (n + 1)) r) : Ev g r := Ev.step (fun _ => rfl) k
theorem Ev.unique {α : Type} {g : Nat → Option α} {r s : α} (h : Ev g r) (k : Ev g s) : r = s := by
 obtain ⟨a, ha⟩ := h; obtain ⟨b, hb⟩ := k
 have h1 := ha (max a b) (Nat.le_max_left _ _); have h2 := hb (max a b) (Nat.le_max_right _ _)
 rw [h1] at h2; exact Option.some.inj h2
def Dg (l : List Int) : Prop := ∀ x ∈ l, 0 ≤ x ∧ x < 4294967296
def V : List Int → Nat
 | [] => 0
 | d :: l => d.toNat + 4294967296 * V l
def D (n : Nat) : List Int := if h : n = 0 then [] else ((n % 4294967296 : Nat) : Int) :: D (n / 4294967296)
termination_by n
decreasing_by omega
theorem Dg.nil : Dg [] := fun _ h => by simp at h
theorem Dg.cons {d : Int} {l : List Int} (h0 : 0 ≤ d) (h1 : d < 4294967296) (h : Dg l) : Dg (d :: l) := fun x hx => by
 rcases List.mem_cons.1 hx with rfl | hx
 ·exact ⟨h0, h1⟩
 ·exact h x hx
theorem Dg.head {d : Int} {l : List Int} (h : Dg (d :: l)) : 0 ≤ d ∧ d < 4294967296 := h d (by simp)
theorem Dg.tail {d : Int} {l : List Int} (h : Dg (d :: l)) : Dg l := fun x hx => h x (by simp [hx])
theorem Dg.app {a b : List Int} (h : Dg a) (k : Dg b) : Dg (a ++ b) := fun x hx => by
 rcases List.mem_append.1 hx with hx | hx
 ·exact h x hx
 ·exact k x hx
theorem Dg.left {a b : List Int} (h : Dg (a ++ b)) : Dg a := fun x hx => h x (by simp [hx])
theorem Dg.right {a b : List Int} (h : Dg (a ++ b)) : Dg b := fun x hx => h x (by simp [hx])
theorem Dg.take {a : List Int} (h : Dg a) (n : Nat) : Dg (a.take n) := fun x hx => h x (List.mem_of_mem_take hx)
theorem Dg.drop {a : List Int} (h : Dg a) (n : Nat) : Dg (a.drop n) := fun x hx => h x (List.mem_of_mem_drop hx)
theorem Dg.zeros (n : Nat) : Dg (List.replicate n 0) := fun x hx => by
 obtain ⟨_, rfl⟩ := List.mem_replicate.1 hx; omega
theorem Dg.getD {a : List Int} (h : Dg a) (n : Nat) : 0 ≤ a.getD n 0 ∧ a.getD n 0 < 4294967296 := by
 rw [List.getD_eq_getElem?_getD]
 cases e : a[n]? with
 | none => simp
 | some x => simpa using h x (List.mem_of_getElem? e)
theorem Dg.rd {a : List Int} (h : Dg a) (i : Int) : 0 ≤ rd a i ∧ rd a i < 4294967296 := h.getD i.toNat
theorem Dg.set {a : List Int} (h : Dg a) (n : Nat) {x : Int} (h0 : 0 ≤ x) (h1 : x < 4294967296) : Dg (a.set n x) := fun y hy => by
 rcases List.mem_or_eq_of_mem_set hy with hy | rfl
 ·exact h y hy
 ·exact ⟨h0, h1⟩
@[simp] theorem zaF : V [] = 0 := rfl
@[simp] theorem zG (d : Int) (l : List Int) : V (d :: l) = d.toNat + 4294967296 * V l := rfl
theorem za9 (a b : List Int) : V (a ++ b) = V a + 4294967296 ^ a.length * V b := by
 induction a with
 | nil => simp
 | cons d a ih => simp [ih, Nat.pow_succ]; grind
theorem zdY (n : Nat) : V (List.replicate n 0) = 0 := by
 induction n with
 | zero => rfl
 | succ n ih => simp [List.replicate_succ, ih]
theorem zbi {l : List Int} (h : Dg l) : V l < 4294967296 ^ l.length := by
 induction l with
 | nil => simp
 | cons d l ih =>
  have := ih h.tail; have := h.head
  simp only [zG, List.length_cons, Nat.pow_succ]
  omega
theorem zu : D 0 = [] := by unfold D; simp
theorem zaU {n : Nat} (h : n ≠ 0) : D n = ((n % 4294967296 : Nat) : Int) :: D (n / 4294967296) := by
 conv => lhs; unfold D
 simp [h]
theorem V_D (n : Nat) : V (D n) = n := by
 induction n using Nat.strongRecOn with
 | _ n ih =>
  by_cases h : n = 0
  ·subst h; simp [zu]
  ·rw [zaU h, zG, ih _ (by omega)]; omega
theorem zO (n : Nat) : Dg (D n) := by
 induction n using Nat.strongRecOn with
 | _ n ih =>
  by_cases h : n = 0
  ·subst h; rw [zu]; exact Dg.nil
  ·rw [zaU h]; exact Dg.cons (by omega) (by omega) (ih _ (by omega))
theorem zeT {d : Int} {n : Nat} (h0 : 0 ≤ d) (h1 : d < 4294967296) (h : d ≠ 0 ∨ n ≠ 0) : D (d.toNat + 4294967296 * n) = d :: D n := by
 rw [zaU (by omega)]
 congr 1
 ·omega
 ·congr 1; omega
def Nm (l : List Int) : Prop := D (V l) = l
instance (l : List Int) : Decidable (Nm l) := inferInstanceAs (Decidable (D (V l) = l))
theorem Nm.dg {l : List Int} (h : Nm l) : Dg l := h ▸ zO _
theorem zD (n : Nat) : Nm (D n) := by unfold Nm; rw [V_D]
theorem zeW : Nm [] := by unfold Nm; exact zu
theorem Nm.inj {a b : List Int} (h : Nm a) (k : Nm b) (e : V a = V b) : a = b := by rw [← h, e, k]
theorem zcF {l : List Int} (h : Nm l) : V l = 0 ↔ l = [] := by
 constructor
 ·intro e; rw [← h, e, zu]
 ·rintro rfl; rfl
theorem zdV {l : List Int} {d : Int} (h : Dg l) (h0 : 0 < d) (h1 : d < 4294967296) : Nm (l ++ [d]) := by
 unfold Nm
 induction l with
 | nil =>
  have := zeT (d := d) (n := 0) (by omega) h1 (by omega)
  simpa [zu] using this
 | cons x l ih =>
  have hx := h.head
  rw [List.cons_append, zG, zeT hx.1 hx.2, ih h.tail]
  right; rw [za9]
  have : 0 < 4294967296 ^ l.length := Nat.pow_pos (by omega)
  have : 0 < 4294967296 ^ l.length * V [d] := Nat.mul_pos this (by simp; omega)
  omega
theorem zeY (l : List Int) : V (l ++ [0]) = V l := by rw [za9]; simp
theorem zir {l : List Int} (h : Dg l) : (D (V l)).length ≤ l.length := by
 induction l with
 | nil => simp [zu]
 | cons x l ih =>
  have hx := h.head
  by_cases e : x ≠ 0 ∨ V l ≠ 0
  ·rw [zG, zeT hx.1 hx.2 e]; simpa using ih h.tail
  ·have h1 : x = 0 := by omega
   have h2 : V l = 0 := by omega
   simp [h1, h2, zu]
theorem zf8 {l : List Int} {d : Int} (h : Nm (l ++ [d])) : d ≠ 0 := by
 intro e; subst e
 have h2 := zir h.dg.left
 have h3 : D (V (l ++ [0])) = l ++ [0] := h
 rw [zeY] at h3
 rw [h3] at h2
 simp at h2
 omega
theorem zf7 {l : List Int} (h : Dg l) : Nm l ↔ l = [] ∨ l.getD (l.length - 1) 0 ≠ 0 := by
 rcases List.eq_nil_or_concat l with rfl | ⟨a, d, rfl⟩
 ·simp [zeW]
 ·rw [List.concat_eq_append] at h ⊢
  have : (a ++ [d]).getD ((a ++ [d]).length - 1) 0 = d := by simp
  rw [this]
  constructor
  ·intro k; exact .inr (zf8 k)
  ·rintro (k | k)
   ·simp at k
   ·have := h d (by simp)
    exact zdV h.left (by omega) this.2
theorem zdl {n k : Nat} (h : n < 4294967296 ^ k) : (D n).length ≤ k := by
  induction k generalizing n with
  | zero => have : n = 0 := by simpa using h
            subst this; simp [zu]
  | succ k ih =>
    by_cases e : n = 0
    · subst e; simp [zu]
    · rw [zaU e, List.length_cons]
      have := ih (n := n / 4294967296) (by rw [Nat.pow_succ] at h; omega)
      omega
theorem zbs (n : Nat) : n < 4294967296 ^ (D n).length := by
 have := zbi (zO n); rwa [V_D] at this
theorem zf5 {n : Nat} (h : n ≠ 0) : 4294967296 ^ ((D n).length - 1) ≤ n := by
 apply Nat.le_of_not_lt
 intro k
 have := zdl k
 have : (D n).length ≠ 0 := by rw [zaU h]; simp
 omega
theorem zcm {a b : Nat} (h : a ≤ b) : (D a).length ≤ (D b).length :=
 zdl (Nat.lt_of_le_of_lt h (zbs b))
theorem zkj {a b : Nat} (h : (D a).length < (D b).length) : a < b := by
 apply Nat.lt_of_not_le
 intro k
 have := zcm k
 omega
theorem Nm.len {l : List Int} (h : Nm l) : (D (V l)).length = l.length := by rw [h]
theorem Nm.lt_of_len {a b : List Int} (h : Nm a) (k : Nm b) (e : a.length < b.length) : V a < V b := by
 apply zkj; rw [h, k]; exact e
open Go.RowKit Go.Proofs Go.Proofs.YtnkpmjhlkmlmbaaGreatDoor.Eng
def tl (s : ByteArray) : List UInt8 := s.data.toList
theorem zl5 (s : ByteArray) : (tl s).length = s.size := by simp [tl]
theorem zbA {a b : ByteArray} : tl a = tl b ↔ a = b := ⟨fun h => by
 cases a; cases b
 congr
 exact Array.toList_inj.1 h, fun h => by rw [h]⟩
theorem zl4 (a b : ByteArray) : tl (a ++ b) = tl a ++ tl b := by simp [tl]
theorem zfU (s : ByteArray) (i j : Nat) : tl (s.extract i j) = ((tl s).take j).drop i := by
 simp only [tl, ByteArray.data_extract, Array.toList_extract, List.extract_eq_take_drop]
 rw [List.take_drop, List.drop_take, List.drop_take]
 congr 1
 omega
theorem zl6 {s : ByteArray} : tl s = [] ↔ s = ⟨#[]⟩ := by
 rw [← zbA]
 simp [tl]
theorem zl8 (l : List Int) : tl (qfL l) = l.map fun n => UInt8.ofNat n.toNat := rfl
theorem zl7 (s : ByteArray) : s.size = (tl s).length := (zl5 s).symm
theorem zi2 (s : ByteArray) (i : Int) : bt s i = (((tl s).getD i.toNat 0).toNat : Int) := by
 unfold bt tl
 split
 ·rename_i h
  have : i.toNat < s.data.toList.length := by simpa using h
  simp [List.getD, List.getElem?_eq_getElem this]
  rfl
 ·rename_i h
  have : ¬ i.toNat < s.data.toList.length := by simpa using h
  simp [List.getD, List.getElem?_eq_none (by omega : s.data.toList.length ≤ i.toNat)]
def hx (b : UInt8) : Option Nat := if 48 ≤ b.toNat ∧ b.toNat ≤ 57 then some (b.toNat - 48) else if 97 ≤ b.toNat ∧ b.toNat ≤ 102 then some (b.toNat - 87) else none
def zdw (l : List UInt8) (a : Nat) : Nat := l.foldl (fun a b => 16 * a + (hx b).getD 0) a
def isD (b : UInt8) : Bool := decide (48 ≤ b.toNat ∧ b.toNat ≤ 57)
def zi (l : List UInt8) (a : Nat) : Nat := l.foldl (fun a b => 10 * a + (b.toNat - 48)) a
theorem zgE {α : Type} (p : α → Bool) (l : List α) {c : α} {r : List α} (h : l.dropWhile p = c :: r) : p c = false := by
 induction l with
 | nil => simp at h
 | cons a l ih =>
  by_cases ha : p a = true
  ·simp [ha] at h; exact ih h
  ·simp [ha] at h; rw [← h.1]; simpa using ha
theorem zaa {n : Nat} (h : n < 4611686018427387904) : wrap64 ((n : Int) + 1) = ((n + 1 : Nat) : Int) := by unfold wrap64; omega
theorem zf3 {n : Nat} (h : n < 4611686018427387904) : wrap64 (((n + 1 : Nat) : Int) - 1) = (n : Int) := by unfold wrap64; omega
theorem zif : ∀ (n : Nat) (l : List Int), l.length = n → Dg l → n < 4611686018427387904 → Ev (fun k => zl.f k l) (D (V l))
 | 0, l, hn, hd, hb => by
  have : l = [] := List.eq_nil_of_length_eq_zero hn
  subst this
  refine zf (zjE ?_)
  simp [zl.f, zl.l0, zu]
 | n + 1, l, hn, hd, hb => by
  rcases List.eq_nil_or_concat l with rfl | ⟨a, d, rfl⟩
  ·simp at hn
  rw [List.concat_eq_append] at hn hd ⊢
  have hl : (a ++ [d]).length = n + 1 := hn
  have ha : a.length = n := by simpa using hn
  refine zf ?_
  show Ev (fun k => zl.l0 (k + 1) (a ++ [d])) _
  simp only [zl.l0, hl, zf3 (n := n) (by omega)]
  refine zd (by omega) (zd (by omega) (zd (by omega) ?_))
  rw [zak (by omega)]
  by_cases h0 : d = 0
  ·subst h0
   refine zd rfl (zd (by omega) ?_)
   rw [zeY]
   have : (a ++ [(0 : Int)]).take (n : Int).toNat = a := by simp [← ha]
   rw [this]
   exact zd (by omega) (zif n a ha hd.left (by omega))
  ·refine ze h0 ?_
   have := hd d (by simp)
   rw [zdV hd.left (by omega) this.2]
   exact Ev.now _
theorem zdE {l : List Int} (hd : Dg l) (hb : l.length < 4611686018427387904) : Ev (fun k => zl.f k l) (D (V l)) := zif _ l rfl hd hb
theorem zhL (l : List Int) (hd : Dg l) (hb : l.length < 4611686018427387904) : ∀ (n : Nat) (a b : List Int), a.length = n → l = a ++ b → V b = 0 → Ev (fun k => zp.l0 k l n) (D (V l))
 | 0, a, b, hn, he, h0 => by
  have : a = [] := List.eq_nil_of_length_eq_zero hn
  subst this
  refine zf ?_
  simp only [zp.l0]
  refine ze (by omega) (zd (by omega) (zd (by omega) ?_))
  rw [he]; simp [h0, zu]; exact Ev.now _
 | n + 1, a, b, hn, he, h0 => by
  rcases List.eq_nil_or_concat a with rfl | ⟨a, d, rfl⟩
  ·simp at hn
  rw [List.concat_eq_append] at hn he
  have ha : a.length = n := by simpa using hn
  have hl : l.length = n + 1 + b.length := by rw [he]; simp [ha]; omega
  refine zf ?_
  simp only [zp.l0, zf3 (n := n) (by omega)]
  refine zd (by omega) (zd (by omega) (zd (by omega) ?_))
  have hr : rd l n = d := by rw [he, List.append_assoc]; exact zak (by omega)
  rw [hr]
  by_cases hz : d = 0
  ·refine zd hz ?_
   exact zhL l hd hb n a (d :: b) ha (by rw [he]; simp) (by simp [h0, hz])
  ·refine ze hz (zd (by omega) (zd (by omega) ?_))
   have hd2 := hd
   rw [he] at hd2
   have h1 := hd2.left d (by simp)
   have h2 : V l = V (a ++ [d]) := by rw [he, za9 (a ++ [d]) b, h0]; simp
   have h3 : l.take ((n + 1 : Nat) : Int).toNat = a ++ [d] := by
    rw [he, Int.toNat_natCast]; exact List.take_left' (by simp [ha])
   rw [h3, h2, zdV hd2.left.left (by omega) h1.2]
   exact Ev.now _
theorem zcc {l : List Int} (hd : Dg l) (hb : l.length < 4611686018427387904) : Ev (fun k => zp.f k l) (D (V l)) :=
 zhL l hd hb l.length l [] rfl (by simp) rfl
theorem zge (n : Int) (h0 : 0 ≤ n) (h1 : n < 18446744073709551616) : V [n % 4294967296, (n / 4294967296) % 4294967296] = n.toNat := by
 simp; omega
theorem zf6 (n : Int) : Dg [n % 4294967296, (n / 4294967296) % 4294967296] := Dg.cons (by omega) (by omega) (Dg.cons (by omega) (by omega) Dg.nil)
theorem zey {n : Int} (h0 : 0 ≤ n) (h1 : n < 18446744073709551616) : Ev (fun k => zaQ.f k n) (D n.toNat) := by
 unfold zaQ.f
 refine Ev.bind (zdE (zf6 n) (by simp)) ?_
 rw [zge n h0 h1]; exact Ev.now _
theorem zc6 {n : Int} (h0 : 0 ≤ n) (h1 : n < 18446744073709551616) : Ev (fun k => zaw.f k n) (D n.toNat) := by
 unfold zaw.f
 refine Ev.bind (zcc (zf6 n) (by simp)) ?_
 rw [zge n h0 h1]; exact Ev.now _
def may (l : List Int) : Bool := decide (l.length ≤ 4096) && decide (Nm l)
theorem zcu {l : List Int} : may l = true ↔ l.length ≤ 4096 ∧ Nm l := by simp [may]
theorem zcw {l : List Int} (h : Dg l) (hb : l.length < 4611686018427387904) : zX.f l = some (may l) := by
 unfold zX.f may
 by_cases h1 : l.length ≤ 4096
 ·rw [if_pos (by omega)]
  by_cases h2 : l.length = 0
  ·have : l = [] := List.eq_nil_of_length_eq_zero h2
   subst this; simp [zeW]
  ·rw [if_neg (by omega)]
   have e : wrap64 ((l.length : Int) - 1) = ((l.length - 1 : Nat) : Int) := by unfold wrap64; omega
   rw [e, if_pos (by omega), if_pos (by omega), rdn]
   have h3 : l ≠ [] := fun e => h2 (by rw [e]; rfl)
   have h4 := zf7 h
   by_cases h5 : l.getD (l.length - 1) 0 = 0
   ·have : ¬ Nm l := fun k => by rcases h4.1 k with k | k <;> contradiction
    rw [h5]; simp [this]
   ·have : Nm l := h4.2 (.inr h5)
    simp only [h5, not_false_eq_true, decide_true]; simp [h1, this]
 ·rw [if_neg (by omega)]; simp [h1]
theorem ziJ {a b : List Int} (ha : Dg a) (hb : Dg b) (la : a.length < 4611686018427387904) (lb : b.length < 4611686018427387904) : Ev (fun k => zR.f k [a, b]) (may a && may b) := by
 unfold zR.f
 refine zf ?_
 simp only [zR.l0]
 refine zd (by simp) (zd (by omega) (zd (by simp) ?_))
 have e0 : rdT [.is .u32] [a, b] 0 = a := rfl
 have e1 : rdT [.is .u32] [a, b] 1 = b := rfl
 rw [e0]
 refine zk (zcw ha la) ?_
 cases may a with
 | false => exact zd (by simp) (Ev.now _)
 | true =>
  refine ze (by simp) ?_
  have w1 : wrap64 (0 + 1) = 1 := by unfold wrap64; omega
  have w2 : wrap64 (1 + 1) = 2 := by unfold wrap64; omega
  rw [w1]
  refine zf ?_
  simp only [zR.l0]
  refine zd (by simp) (zd (by omega) (zd (by simp) ?_))
  rw [e1]
  refine zk (zcw hb lb) ?_
  cases may b with
  | false => exact zd (by simp) (Ev.now _)
  | true =>
   refine ze (by simp) ?_
   rw [w2]
   refine zf ?_
   simp only [zR.l0]
   exact ze (by simp) (Ev.now _)
def zac (n : Nat) : List Int × Int := if (D n).length > 4096 then ([], 3) else (D n, 0)
theorem zkB (n : Nat) : zaC.f (D n) = some (zac n) := by
 unfold zaC.f zac
 by_cases h : (D n).length > 4096
 ·rw [if_pos (by omega), if_pos h]
 ·rw [if_neg (by omega), if_neg h]
theorem Dg.headD {b : List Int} (h : Dg b) : 0 ≤ b.headD 0 ∧ b.headD 0 < 4294967296 := by
 cases b with
 | nil => simp
 | cons y b => exact h.head
theorem Dg.tl {b : List Int} (h : Dg b) : Dg b.tail := by
 cases b with
 | nil => exact h
 | cons y b => exact h.tail
theorem zdm (b : List Int) : V b = (b.headD 0).toNat + 4294967296 * V b.tail := by
 cases b <;> simp
theorem ze6 (b : List Int) (n : Nat) : (b.drop n).headD 0 = b.getD n 0 := by
 rw [List.headD_eq_head?_getD, List.head?_drop, List.getD_eq_getElem?_getD]
def zba (m n : Nat) : Int := if m < n then -1 else if n < m then 1 else 0
theorem zdX {l : List Int} {n : Nat} (h : n < l.length) : V (l.take (n + 1)) = V (l.take n) + 4294967296 ^ n * (l.getD n 0).toNat := by
 rw [List.take_succ_eq_append_getElem h, za9]
 simp [Nat.min_eq_left (Nat.le_of_lt h), h]
theorem zia {p q P d e : Nat} (hp : p < P) (h : d < e) : p + P * d < q + P * e := by
 have : P * (d + 1) ≤ P * e := Nat.mul_le_mul_left _ h
 rw [Nat.mul_add] at this
 omega
theorem zgc {l : List Int} (h : Dg l) {n : Nat} (hn : n ≤ l.length) : V (l.take n) < 4294967296 ^ n := by
 have := zbi (h.take n); rwa [List.length_take, Nat.min_eq_left hn] at this
theorem zjd {x y : List Int} (hx : Dg x) (hy : Dg y) {n : Nat} (h1 : n < x.length) (h2 : n < y.length) :
  zba (V (x.take (n + 1))) (V (y.take (n + 1))) = if x.getD n 0 = y.getD n 0 then zba (V (x.take n)) (V (y.take n)) else if x.getD n 0 < y.getD n 0 then -1 else 1 := by
 rw [zdX h1, zdX h2]
 have a := hx.getD n
 have b := hy.getD n
 have p := zgc hx (Nat.le_of_lt h1)
 have q := zgc hy (Nat.le_of_lt h2)
 by_cases e : x.getD n 0 = y.getD n 0
 ·rw [if_pos e, e]; unfold zba; simp
 ·rw [if_neg e]
  by_cases c : x.getD n 0 < y.getD n 0
  ·rw [if_pos c]
   have := zia (q := V (y.take n)) p (show (x.getD n 0).toNat < (y.getD n 0).toNat by omega)
   unfold zba; rw [if_pos this]
  ·rw [if_neg c]
   have := zia (q := V (x.take n)) q (show (y.getD n 0).toNat < (x.getD n 0).toNat by omega)
   unfold zba; rw [if_neg (by omega), if_pos this]
theorem zbg {n : Nat} (h : n < 4611686018427387904) : wrap64 ((n : Int) - 1) = (n : Int) - 1 := by unfold wrap64; omega
theorem zhC {x y : List Int} (hx : Dg x) (hy : Dg y) (hb : x.length < 4611686018427387904) : ∀ (n : Nat), n ≤ x.length → n ≤ y.length → Ev (fun k => zav.l0 k x y ((n : Int) - 1)) (zba (V (x.take n)) (V (y.take n)))
 | 0, _, _ => by
  refine zf ?_
  simp only [zav.l0]
  (repeat (first | with_reducible refine ep ?_ | with_reducible refine en ?_)); exact Ev.now _
 | n + 1, h1, h2 => by
  refine zf ?_
  simp only [zav.l0]
  have e : ((n + 1 : Nat) : Int) - 1 = (n : Int) := by omega
  rw [e, zbg (n := n) (by omega)]
  (repeat (first | with_reducible refine ep ?_ | with_reducible refine en ?_))
  rw [zjd hx hy (by omega) (by omega), rdn, rdn]
  by_cases c2 : x.getD n 0 < y.getD n 0
  ·(repeat (first | with_reducible refine ep ?_ | with_reducible refine en ?_))
   rw [if_neg (by omega), if_pos c2]; exact Ev.now _
  ·(repeat (first | with_reducible refine ep ?_ | with_reducible refine en ?_))
   by_cases c : x.getD n 0 > y.getD n 0
   ·(repeat (first | with_reducible refine ep ?_ | with_reducible refine en ?_))
    rw [if_neg (by omega), if_neg c2]; exact Ev.now _
   ·(repeat (first | with_reducible refine ep ?_ | with_reducible refine en ?_))
    rw [if_pos (by omega)]
    exact zhC hx hy hb n (by omega) (by omega)
theorem zhD {x y : List Int} (hx : Nm x) (hy : Nm y) (hb : x.length < 4611686018427387904) : Ev (fun k => zav.f k x y) (zba (V x) (V y)) := by
 unfold zav.f
 by_cases e : x.length = y.length
 ·(repeat (first | with_reducible refine ep ?_ | with_reducible refine en ?_))
  rw [zbg (by omega)]
  have := zhC hx.dg hy.dg hb x.length (by omega) (by omega)
  rwa [List.take_length, e, List.take_length, ← e] at this
 ·(repeat (first | with_reducible refine ep ?_ | with_reducible refine en ?_))
  by_cases c : x.length < y.length
  ·(repeat (first | with_reducible refine ep ?_ | with_reducible refine en ?_))
   unfold zba; rw [if_pos (hx.lt_of_len hy c)]; exact Ev.now _
  ·(repeat (first | with_reducible refine ep ?_ | with_reducible refine en ?_))
   have := hy.lt_of_len hx (by omega)
   unfold zba; rw [if_neg (by omega), if_pos this]; exact Ev.now _
theorem zdv (n : Nat) : n >>> 31 = n / 2147483648 := by rw [Nat.shiftRight_eq_div_pow]
def zbU : List Int → List Int → Int → List Int
 | [], _, _ => []
 | x :: a, b, c => ((x - b.headD 0 - c) % 4294967296) :: zbU a b.tail (if x < b.headD 0 + c then 1 else 0)
theorem zlO {a b : List Int} {c : Int} (ha : Dg a) (hb : Dg b) (hc : 0 ≤ c ∧ c ≤ 1) (hl : b.length ≤ a.length) (h : V b + c.toNat ≤ V a) : V (zbU a b c) = V a - V b - c.toNat ∧ Dg (zbU a b c) := by
 induction a generalizing b c with
 | nil =>
  have : b = [] := List.eq_nil_of_length_eq_zero (by simpa using hl)
  subst this
  exact ⟨by simp [zbU], Dg.nil⟩
 | cons x a ih =>
  have hx := ha.head
  have hy := hb.headD
  rw [zdm b, zG] at h
  have := ih (b := b.tail) (c := if x < b.headD 0 + c then 1 else 0) ha.tail hb.tl (by split <;> omega) (by simp at hl ⊢; omega) (by split <;> omega)
  refine ⟨?_, Dg.cons (by omega) (by omega) this.2⟩
  rw [zbU, zG, this.1, zdm b, zG]
  split <;> omega
theorem zhB (A Bl : List Int) (hA : Dg A) (hB : Dg Bl) (hl : A.length < 1000000000) (hl2 : Bl.length < 1000000000) : ∀ (d : Nat) (done : List Int) (c : Int), done.length + d = max A.length Bl.length → 0 ≤ c ∧ c ≤ 1 → Dg done →
  V done + 4294967296 ^ done.length * (V (A.drop done.length) + V (Bl.drop done.length) + c.toNat) = V A + V Bl →
  Ev (fun k => zr.l0 k A Bl done c done.length) (D (V A + V Bl))
 | 0, done, c, hd, hc, hg, hv => by
  refine zf ?_
  simp only [zr.l0]
  (repeat (first | with_reducible refine ep ?_ | with_reducible refine en ?_))
  have e : c % 4294967296 = c := by omega
  rw [e]
  refine Ev.bind (zcc (hg.app (Dg.cons hc.1 (by omega) Dg.nil)) (by simp; omega)) ?_
  refine zg (Ev.now _) ?_
  rw [List.drop_eq_nil_of_le (by omega), List.drop_eq_nil_of_le (by omega)] at hv
  rw [za9, ← hv]; simp
 | d + 1, done, c, hd, hc, hg, hv => by
  have ha := hA.rd (done.length : Int)
  have hb := hB.rd (done.length : Int)
  have hx := zdm (A.drop done.length)
  have hy := zdm (Bl.drop done.length)
  rw [ze6, List.tail_drop] at hx hy
  have key : ∀ (s : Int), s = A.getD done.length 0 + Bl.getD done.length 0 + c → Ev (fun k => zr.l0 k A Bl (done ++ [s % 4294967296]) (s / 4294967296) ((done.length + 1 : Nat) : Int)) (D (V A + V Bl)) := by
   intro s hs
   have ha' := hA.getD done.length
   have hb' := hB.getD done.length
   have := zhB A Bl hA hB hl hl2 d (done ++ [s % 4294967296]) (s / 4294967296) (by simp; omega) (by omega) (hg.app (Dg.cons (by omega) (by omega) Dg.nil)) (by
    rw [za9, List.length_append, List.length_singleton, Nat.pow_succ, Nat.mul_assoc, Nat.add_assoc, ← Nat.mul_add, ← hv]
    congr 2
    simp only [zG, zaF]
    omega)
   rwa [List.length_append, List.length_singleton] at this
  have hr : ∀ l : List Int, rd l (done.length : Int) = l.getD done.length 0 := fun l => rdn l _
  refine zf ?_
  simp only [zr.l0]
  by_cases c1 : done.length < A.length
  ·(repeat (first | with_reducible refine ep ?_ | with_reducible refine en ?_))
   refine zf ?_
   simp only [zr.j2]
   by_cases c2 : done.length < Bl.length
   ·(repeat (first | with_reducible refine ep ?_ | with_reducible refine en ?_))
    refine zf ?_
    simp only [zr.j3, zaa (n := done.length) (by omega)]
    (repeat (first | with_reducible refine ep ?_ | with_reducible refine en ?_))
    rw [u64 ha.1 (by omega), u64 hb.1 (by omega), u64 (n := c + rd A (done.length : Int)) (by omega) (by omega), u64 (by omega) (by omega)]
    exact key _ (by rw [hr, hr]; omega)
   ·(repeat (first | with_reducible refine ep ?_ | with_reducible refine en ?_))
    refine zf ?_
    simp only [zr.j3, zaa (n := done.length) (by omega)]
    (repeat (first | with_reducible refine ep ?_ | with_reducible refine en ?_))
    rw [u64 ha.1 (by omega), u64 (by omega) (by omega)]
    refine key _ ?_
    have : Bl.getD done.length 0 = 0 := by rw [List.getD_eq_getElem?_getD, List.getElem?_eq_none (by omega)]; rfl
    rw [hr, this]; omega
  ·(repeat (first | with_reducible refine ep ?_ | with_reducible refine en ?_))
   have c2 : done.length < Bl.length := by omega
   refine zf ?_
   simp only [zr.j2]
   (repeat (first | with_reducible refine ep ?_ | with_reducible refine en ?_))
   refine zf ?_
   simp only [zr.j3, zaa (n := done.length) (by omega)]
   (repeat (first | with_reducible refine ep ?_ | with_reducible refine en ?_))
   rw [u64 hb.1 (by omega), u64 (by omega) (by omega)]
   refine key _ ?_
   have : A.getD done.length 0 = 0 := by rw [List.getD_eq_getElem?_getD, List.getElem?_eq_none (by omega)]; rfl
   rw [hr, this]; omega
theorem zeE {a b : List Int} (ha : Dg a) (hb : Dg b) (la : a.length < 1000000000) (lb : b.length < 1000000000) : Ev (fun k => zr.f k a b) (D (V a + V b)) := by
 unfold zr.f
 have := zhB a b ha hb la lb (max a.length b.length) [] 0 (by simp) (by omega) Dg.nil (by simp)
 simpa using this
theorem zhJ (A Bl : List Int) (hA : Dg A) (hB : Dg Bl) (hl : A.length < 1000000000) : ∀ (d : Nat) (done : List Int) (c : Int), done.length + d = A.length → 0 ≤ c ∧ c ≤ 1 → Dg done →
  Ev (fun k => zz.l0 k A Bl done c done.length) (D (V (done ++ zbU (A.drop done.length) (Bl.drop done.length) c)))
 | 0, done, c, hd, hc, hg => by
  refine zf ?_
  simp only [zz.l0]
  (repeat (first | with_reducible refine ep ?_ | with_reducible refine en ?_))
  rw [List.drop_eq_nil_of_le (show A.length ≤ done.length by omega)]
  simp only [zbU, List.append_nil]
  refine Ev.bind (zcc hg (by omega)) ?_
  exact Ev.now _
 | d + 1, done, c, hd, hc, hg => by
  have ha := hA.rd (done.length : Int)
  have hb := hB.rd (done.length : Int)
  have hc1 : done.length < A.length := by omega
  have hx : A.drop done.length = A.getD done.length 0 :: A.drop (done.length + 1) := by
   rw [List.drop_eq_getElem_cons hc1]; simp [hc1]
  have key : ∀ (s z : Int), z = Bl.getD done.length 0 → s % 4294967296 = (A.getD done.length 0 - z - c) % 4294967296 → ∀ c', c' = (if A.getD done.length 0 < z + c then 1 else 0) → Ev (fun k => zz.l0 k A Bl (done ++ [s % 4294967296]) c' ((done.length + 1 : Nat) : Int)) (D (V (done ++ zbU (A.drop done.length) (Bl.drop done.length) c))) := by
   rintro s z rfl hs c' rfl
   have := zhJ A Bl hA hB hl d (done ++ [s % 4294967296]) (if A.getD done.length 0 < Bl.getD done.length 0 + c then 1 else 0) (by simp; omega) (by split <;> omega) (hg.app (Dg.cons (by omega) (by omega) Dg.nil))
   rw [List.length_append, List.length_singleton] at this
   refine zg this ?_
   rw [hx, zbU, ze6, List.tail_drop, hs]; simp
  have hr : ∀ l : List Int, rd l (done.length : Int) = l.getD done.length 0 := fun l => rdn l _
  refine zf ?_
  simp only [zz.l0, zaa (n := done.length) (by omega)]
  (repeat (first | with_reducible refine ep ?_ | with_reducible refine en ?_))
  rw [hr] at ha hb
  by_cases c2 : done.length < Bl.length
  ·(repeat (first | with_reducible refine ep ?_ | with_reducible refine en ?_))
   refine zf ?_
   simp only [zz.j1]
   (repeat (first | with_reducible refine ep ?_ | with_reducible refine en ?_))
   rw [hr, hr, u64 ha.1 (by omega), u64 hb.1 (by omega), u64 (n := c + Bl.getD done.length 0) (by omega) (by omega)]
   by_cases c3 : A.getD done.length 0 < c + Bl.getD done.length 0
   ·(repeat (first | with_reducible refine ep ?_ | with_reducible refine en ?_))
    rw [u64 (n := A.getD done.length 0 + 4294967296) (by omega) (by omega)]
    refine zf ?_
    simp only [zz.j2, zaa (n := done.length) (by omega)]
    (repeat (first | with_reducible refine ep ?_ | with_reducible refine en ?_))
    rw [u64 (by omega) (by omega)]
    exact key _ (Bl.getD done.length 0) rfl (by omega) 1 (by rw [if_pos (by omega)])
   ·(repeat (first | with_reducible refine ep ?_ | with_reducible refine en ?_))
    refine zf ?_
    simp only [zz.j2, zaa (n := done.length) (by omega)]
    (repeat (first | with_reducible refine ep ?_ | with_reducible refine en ?_))
    rw [u64 (by omega) (by omega)]
    exact key _ (Bl.getD done.length 0) rfl (by omega) 0 (by rw [if_neg (by omega)])
  ·(repeat (first | with_reducible refine ep ?_ | with_reducible refine en ?_))
   have hz : Bl.getD done.length 0 = 0 := by rw [List.getD_eq_getElem?_getD, List.getElem?_eq_none (by omega)]; rfl
   refine zf ?_
   simp only [zz.j1]
   (repeat (first | with_reducible refine ep ?_ | with_reducible refine en ?_))
   rw [hr, u64 ha.1 (by omega)]
   by_cases c3 : A.getD done.length 0 < c
   ·(repeat (first | with_reducible refine ep ?_ | with_reducible refine en ?_))
    rw [u64 (n := A.getD done.length 0 + 4294967296) (by omega) (by omega)]
    refine zf ?_
    simp only [zz.j2, zaa (n := done.length) (by omega)]
    (repeat (first | with_reducible refine ep ?_ | with_reducible refine en ?_))
    rw [u64 (by omega) (by omega)]
    exact key _ (Bl.getD done.length 0) rfl (by omega) 1 (by rw [if_pos (by omega)])
   ·(repeat (first | with_reducible refine ep ?_ | with_reducible refine en ?_))
    refine zf ?_
    simp only [zz.j2, zaa (n := done.length) (by omega)]
    (repeat (first | with_reducible refine ep ?_ | with_reducible refine en ?_))
    rw [u64 (by omega) (by omega)]
    exact key _ (Bl.getD done.length 0) rfl (by omega) 0 (by rw [if_neg (by omega)])
theorem zfJ {a b : List Int} (ha : Nm a) (hb : Nm b) (la : a.length < 1000000000) (h : V b ≤ V a) : Ev (fun k => zz.f k a b) (D (V a - V b)) := by
 unfold zz.f
 have hl : b.length ≤ a.length := by rw [← ha.len, ← hb.len]; exact zcm h
 have := zhJ a b ha.dg hb.dg la a.length [] 0 (by simp) (by omega) Dg.nil
 refine zg this ?_
 have h2 := zlO ha.dg hb.dg (c := 0) (by omega) hl (by simpa using h)
 simp [h2.1]
theorem zew {x y : Int} (hx : 0 ≤ x ∧ x < 4294967296) (hy : 0 ≤ y ∧ y < 4294967296) : 0 ≤ x * y ∧ x * y ≤ 18446744065119617025 := by
 constructor
 ·exact Int.mul_nonneg hx.1 hy.1
 ·have h1 : x * y ≤ 4294967295 * y := Int.mul_le_mul_of_nonneg_right (by omega) hy.1
  have h2 : 4294967295 * y ≤ 4294967295 * 4294967295 := Int.mul_le_mul_of_nonneg_left (by omega) (by omega)
  omega
def zT : Int → List Int → List Int → Int → List Int
 | _, [], o, c => c :: o.tail
 | x, y :: b, o, c => ((x * y + o.headD 0 + c) % 4294967296) :: zT x b o.tail ((x * y + o.headD 0 + c) / 4294967296)
theorem zfW {x y : Int} (hx : 0 ≤ x) (hy : 0 ≤ y) : (x * y).toNat = x.toNat * y.toNat := Int.toNat_mul hx hy
theorem zfN {x : Int} (hx : 0 ≤ x ∧ x < 4294967296) : ∀ (b o : List Int) (c : Int) (m : Nat), Dg b → Dg o → 0 ≤ c ∧ c < 4294967296 → o.drop b.length = List.replicate (m + 1) 0 →
  V (zT x b o c) = V o + x.toNat * V b + c.toNat ∧ Dg (zT x b o c) ∧ (zT x b o c).tail.drop b.length = List.replicate m 0 ∧ (zT x b o c).length = o.length
 | [], o, c, m, hb, ho, hc, hz => by
  have hz' : o = 0 :: List.replicate m 0 := by simpa [List.replicate_succ] using hz
  subst hz'
  refine ⟨?_, ?_, ?_, ?_⟩
  ·simp [zT, zdY]
  ·exact Dg.cons hc.1 hc.2 (Dg.zeros m)
  ·simp [zT]
  ·simp [zT]
 | y :: b, o, c, m, hb, ho, hc, hz => by
  obtain ⟨o0, o, rfl⟩ : ∃ o0 o', o = o0 :: o' := by
   cases o with
   | nil => simp at hz
   | cons o0 o' => exact ⟨o0, o', rfl⟩
  have hy := hb.head
  have h0 := ho.head
  have hp := zew hx hy
  have hz2 : o.drop b.length = List.replicate (m + 1) 0 := by simpa using hz
  have := zfN hx b o ((x * y + o0 + c) / 4294967296) m hb.tail ho.tail (by omega) hz2
  simp only [zT, List.headD_cons, List.tail_cons]
  refine ⟨?_, Dg.cons (by omega) (by omega) this.2.1, ?_, by simp [this.2.2.2]⟩
  ·have e1 : x.toNat * (y.toNat + 4294967296 * V b) = (x * y).toNat + 4294967296 * (x.toNat * V b) := by
    rw [Nat.mul_add, Nat.mul_left_comm, zfW hx.1 hy.1]
   rw [zG, this.1, zG, zG, e1]
   omega
  ·obtain ⟨r0, r, hr⟩ : ∃ r0 r', zT x b o ((x * y + o0 + c) / 4294967296) = r0 :: r' := by
    cases h : zT x b o ((x * y + o0 + c) / 4294967296) with
    | nil =>
     have hl := this.2.2.2
     rw [h] at hl
     have : o = [] := List.eq_nil_of_length_eq_zero (by simpa using hl.symm)
     subst this; simp at hz2
    | cons r0 r' => exact ⟨r0, r', rfl⟩
   have h3 := this.2.2.1
   rw [hr] at h3 ⊢
   simpa using h3
def zbt : List Int → List Int → List Int → List Int
 | [], _, o => o
 | x :: a, b, o => (zT x b o 0).headD 0 :: zbt a b (zT x b o 0).tail
theorem zg5 : ∀ (a b o : List Int), Dg a → Dg b → Dg o → o.drop b.length = List.replicate a.length 0 → V (zbt a b o) = V o + V a * V b ∧ Dg (zbt a b o) ∧ (zbt a b o).length = o.length
 | [], b, o, ha, hb, ho, hz => by simp [zbt, ho]
 | x :: a, b, o, ha, hb, ho, hz => by
  have hr := zfN ha.head b o 0 a.length hb ho (by omega) (by simpa using hz)
  obtain ⟨r0, r, he⟩ : ∃ r0 r', zT x b o 0 = r0 :: r' := by
   cases h : zT x b o 0 with
   | nil =>
    have hl := hr.2.2.2
    rw [h] at hl
    have : o = [] := List.eq_nil_of_length_eq_zero (by simpa using hl.symm)
    subst this; simp at hz
   | cons r0 r' => exact ⟨r0, r', rfl⟩
  rw [he] at hr
  have := zg5 a b r ha.tail hb hr.2.1.tail (by simpa using hr.2.2.1)
  simp only [zbt, he, List.headD_cons, List.tail_cons]
  refine ⟨?_, Dg.cons hr.2.1.head.1 hr.2.1.head.2 this.2.1, ?_⟩
  ·have h1 := hr.1
   rw [zG] at h1
   rw [zG, this.1, zG, Nat.add_mul, Nat.mul_add, Nat.mul_assoc]
   simp at h1
   omega
  ·have := hr.2.2.2
   simp at this ⊢; omega
theorem zeU {l : List Int} (h : Nm l) (h0 : l ≠ []) : 4294967296 ^ (l.length - 1) ≤ V l := by
 have h1 : V l ≠ 0 := fun e => h0 ((zcF h).1 e)
 have := zf5 h1
 rwa [h.len] at this
def conv : List Int → List Int → Nat → Nat
 | [], _, _ => 0
 | x :: _, b, 0 => x.toNat * (b.getD 0 0).toNat
 | x :: a, b, k + 1 => x.toNat * (b.getD (k + 1) 0).toNat + conv a b k
def zaW (a b : List Int) : Nat → Nat
 | 0 => 0
 | n + 1 => zaW a b n + 4294967296 ^ n * conv a b n
theorem zgd (l : List Int) (n : Nat) : V (l.take (n + 1)) = V (l.take n) + 4294967296 ^ n * (l.getD n 0).toNat := by
 by_cases h : n < l.length
 ·exact zdX h
 ·have e : l.getD n 0 = 0 := by rw [List.getD_eq_getElem?_getD, List.getElem?_eq_none (by omega)]; rfl
  rw [List.take_of_length_le (by omega), List.take_of_length_le (by omega), e]; simp
theorem zjg (b : List Int) (n : Nat) : zaW [] b n = 0 := by
 induction n with
 | zero => rfl
 | succ n ih => simp [zaW, ih, conv]
theorem zjf (x : Int) (a b : List Int) (n : Nat) : zaW (x :: a) b (n + 1) = x.toNat * V (b.take (n + 1)) + 4294967296 * zaW a b n := by
 induction n with
 | zero =>
  have := zgd b 0
  simp at this
  simp [zaW, conv, this]
 | succ n ih =>
  have e := zgd b (n + 1)
  rw [zaW, ih, conv, e, zaW, Nat.pow_succ]
  grind
theorem zje (a b : List Int) (n : Nat) (h : a.length + b.length ≤ n) : zaW a b n = V a * V b := by
 induction a generalizing n with
 | nil => simp [zjg]
 | cons x a ih =>
  cases n with
  | zero => simp at h
  | succ n =>
   rw [zjf, ih n (by simp at h; omega), List.take_of_length_le (by simp at h; omega), zG, Nat.add_mul, Nat.mul_assoc]
theorem zji {a b : List Int} (ha : Dg a) (hb : Dg b) (k : Nat) : conv a b k ≤ a.length * 18446744065119617025 := by
 induction a generalizing k with
 | nil => simp [conv]
 | cons x a ih =>
  have hx := ha.head
  have key : ∀ j, x.toNat * (b.getD j 0).toNat ≤ 18446744065119617025 := by
   intro j
   have hy := hb.getD j
   have hp := zew hx hy
   rw [← zfW hx.1 hy.1]; omega
  cases k with
  | zero => rw [conv]; have := key 0; simp only [List.length_cons]; omega
  | succ k => rw [conv]; have := key (k + 1); have := ih ha.tail k; simp only [List.length_cons]; omega
theorem zjh {a b : List Int} {k : Nat} (h : b.length ≤ k) (hk : 0 < k) : conv a b k = conv (a.drop 1) b (k - 1) := by
 cases a with
 | nil => simp [conv]
 | cons x a =>
  obtain ⟨k, rfl⟩ : ∃ m, k = m + 1 := ⟨k - 1, by omega⟩
  have e : b.getD (k + 1) 0 = 0 := by rw [List.getD_eq_getElem?_getD, List.getElem?_eq_none (by omega)]; rfl
  rw [conv, e]; simp
theorem zgx (a b : List Int) (k : Nat) : ∀ n, n + b.length ≤ k + 1 → n ≤ k → conv a b k = conv (a.drop n) b (k - n)
 | 0, _, _ => by simp
 | n + 1, h, hk => by
  rw [zgx a b k n (by omega) (by omega), zjh (by omega) (by omega), List.drop_drop]
  rw [Nat.sub_sub]
theorem zkM {x y : Int} (h0 : 0 ≤ x ∧ x < 4294967296) (h1 : 0 ≤ y) : Go.bits .or .u64 x (IntKind.u64.wrap (y * 4294967296)) = x + (y % 4294967296) * 4294967296 := by
 rw [za6]
 obtain ⟨X, rfl⟩ := Int.eq_ofNat_of_zero_le h0.1
 obtain ⟨Y, rfl⟩ := Int.eq_ofNat_of_zero_le h1
 have e : (Y : Int) * 4294967296 % 18446744073709551616 = ((2 ^ 32 * (Y % 4294967296) : Nat) : Int) := by omega
 rw [e, u64_or_nat _ _ (by omega) (by omega), Nat.or_comm, ← Nat.two_pow_add_eq_or_of_lt (by omega)]
 omega
theorem zfM (A Bl : List Int) (hA : Dg A) (hB : Dg Bl) (hl : A.length < 1000000000) (hlb : Bl.length < 1000000000) (out : List Int) (k : Nat) (hk : k < A.length + Bl.length) (hout : out.length < 1000000000) (T : Nat) (hT : T < 79228162514264337593543950336000) (res : List Int)
  (H : Ev (fun q => zv.l0 q A Bl (out ++ [((T % 4294967296 : Nat) : Int)]) (((T / 4294967296) % 18446744073709551616 : Nat) : Int) (((T / 4294967296) / 18446744073709551616 : Nat) : Int) ((k + 1 : Nat) : Int)) res) :
  ∀ (d i : Nat) (low high : Int), i + d = k + 1 → 0 ≤ low ∧ low < 18446744073709551616 → 0 ≤ high → k < i + Bl.length → low.toNat + 18446744073709551616 * high.toNat + (if i ≤ k then conv (A.drop i) Bl (k - i) else 0) = T →
  Ev (fun q => zv.l1 q A Bl out low high k i) res
 | d, i, low, high, hd, hlow, hhigh, hi, he => by
  have fin : low.toNat + 18446744073709551616 * high.toNat = T → Ev (fun q => if out.length + ([low % 4294967296] : List Int).length < 35184372088832 then zv.l0 q A Bl (out ++ [low % 4294967296]) (Go.bits .or .u64 (low / 4294967296) (IntKind.u64.wrap (high * 4294967296))) (high / 4294967296) ((k + 1 : Nat) : Int) else none) res := by
   intro e
   (repeat (first | with_reducible refine ep ?_ | with_reducible refine en ?_))
   rw [zkM (by omega) hhigh]
   have e1 : low % 4294967296 = ((T % 4294967296 : Nat) : Int) := by omega
   have e2 : low / 4294967296 + high % 4294967296 * 4294967296 = (((T / 4294967296) % 18446744073709551616 : Nat) : Int) := by omega
   have e3 : high / 4294967296 = (((T / 4294967296) / 18446744073709551616 : Nat) : Int) := by omega
   rw [e1, e2, e3]; exact H
  refine zf ?_
  have e : wrap64 ((k : Int) - (i : Int)) = (k : Int) - (i : Int) := by unfold wrap64; omega
  simp only [zv.l1, e, zaa (n := i) (by omega), zaa (n := k) (by omega)]
  clear e
  by_cases c1 : i ≤ k
  ·rw [if_pos c1] at he
   by_cases c2 : i < A.length
   ·have hx : A.drop i = A.getD i 0 :: A.drop (i + 1) := by rw [List.drop_eq_getElem_cons c2]; simp [c2]
    have ha := hA.getD i
    have hb := hB.getD (k - i)
    have hp := zew ha hb
    have hpN := zfW ha.1 hb.1
    have e : (k : Int) - (i : Int) = ((k - i : Nat) : Int) := by omega
    (repeat (first | with_reducible refine ep ?_ | with_reducible refine en ?_))
    rw [e]
    rw [rdn, rdn, u64 ha.1 (by omega), u64 hb.1 (by omega), u64 hp.1 (by omega)]
    generalize hP : A.getD i 0 * Bl.getD (k - i) 0 = P at *
    have hc : conv (A.drop i) Bl (k - i) = P.toNat + (if i + 1 ≤ k then conv (A.drop (i + 1)) Bl (k - (i + 1)) else 0) := by
     rw [hx, hpN]
     by_cases c3 : i + 1 ≤ k
     ·rw [if_pos c3, show k - i = (k - (i + 1)) + 1 by omega, conv]
     ·rw [if_neg c3, show k - i = 0 by omega, conv]; simp
    rw [hc] at he
    obtain ⟨d, rfl⟩ : ∃ m, d = m + 1 := ⟨d - 1, by omega⟩
    by_cases c4 : low + P < 18446744073709551616
    ·rw [u64 (n := low + P) (by omega) (by omega)]
     (repeat (first | with_reducible refine ep ?_ | with_reducible refine en ?_))
     exact zfM A Bl hA hB hl hlb out k hk hout T hT res H d (i + 1) (low + P) high (by omega) (by omega) hhigh (by omega) (by omega)
    ·have e5 : IntKind.u64.wrap (low + P) = low + P - 18446744073709551616 := by rw [za6]; omega
     rw [e5]
     (repeat (first | with_reducible refine ep ?_ | with_reducible refine en ?_))
     rw [u64 (n := high + 1) (by omega) (by omega)]
     exact zfM A Bl hA hB hl hlb out k hk hout T hT res H d (i + 1) (low + P - 18446744073709551616) (high + 1) (by omega) (by omega) (by omega) (by omega) (by omega)
   ·refine zd (by omega) (ze (by omega) (fin ?_))
    rw [List.drop_eq_nil_of_le (by omega), conv] at he
    omega
  ·rw [if_neg c1] at he
   exact ze (by omega) (fin (by omega))
theorem zhH (A Bl : List Int) (hA : Dg A) (hB : Dg Bl) (hl : A.length < 100000000) (hlb : Bl.length < 100000000) (hb0 : 0 < Bl.length) : ∀ (d : Nat) (out : List Int) (T : Nat), out.length + d = A.length + Bl.length → Dg out → T < 79228162514264337593543950336 → V out + 4294967296 ^ out.length * T = zaW A Bl out.length →
  Ev (fun q => zv.l0 q A Bl out ((T % 18446744073709551616 : Nat) : Int) ((T / 18446744073709551616 : Nat) : Int) out.length) (D (V A * V Bl))
 | 0, out, T, hd, hg, hT, hv => by
  refine zf ?_
  have e : wrap64 ((A.length : Int) + (Bl.length : Int)) = ((A.length + Bl.length : Nat) : Int) := by unfold wrap64; omega
  simp only [zv.l0, e]
  clear e
  refine ze (by omega) (Ev.bind (zcc hg (by omega)) (zg (Ev.now _) ?_))
  rw [zje A Bl _ (by omega)] at hv
  have h1 := zbi hA
  have h2 := zbi hB
  have h3 : V A * V Bl < 4294967296 ^ out.length := by
   rw [show out.length = A.length + Bl.length by omega, Nat.pow_add]
   exact Nat.mul_lt_mul'' h1 h2
  have h4 : T = 0 := by
   rcases Nat.eq_zero_or_pos T with h | h
   ·exact h
   ·have := Nat.mul_le_mul_left (4294967296 ^ out.length) h
    omega
  subst h4
  rw [← hv]; simp
 | d + 1, out, T, hd, hg, hT, hv => by
  refine zf ?_
  have e : wrap64 ((A.length : Int) + (Bl.length : Int)) = ((A.length + Bl.length : Nat) : Int) := by unfold wrap64; omega
  simp only [zv.l0, e]
  clear e
  have hcl := zji hA hB out.length
  have hcl2 : A.length * 18446744065119617025 ≤ 100000000 * 18446744065119617025 := Nat.mul_le_mul_right _ (by omega)
  have next : Ev (fun q => zv.l0 q A Bl (out ++ [(((T + conv A Bl out.length) % 4294967296 : Nat) : Int)]) ((((T + conv A Bl out.length) / 4294967296) % 18446744073709551616 : Nat) : Int) ((((T + conv A Bl out.length) / 4294967296) / 18446744073709551616 : Nat) : Int) ((out.length + 1 : Nat) : Int)) (D (V A * V Bl)) := by
   have := zhH A Bl hA hB hl hlb hb0 d (out ++ [(((T + conv A Bl out.length) % 4294967296 : Nat) : Int)]) ((T + conv A Bl out.length) / 4294967296) (by simp; omega) (hg.app (Dg.cons (by omega) (by omega) Dg.nil)) (by omega) (by
    rw [za9, List.length_append, List.length_singleton, zaW, ← hv, Nat.pow_succ, Nat.mul_assoc, Nat.add_assoc, ← Nat.mul_add, Nat.add_assoc, ← Nat.mul_add]
    congr 2
    simp only [zG, zaF]
    omega)
   rwa [List.length_append, List.length_singleton] at this
  (repeat (first | with_reducible refine ep ?_ | with_reducible refine en ?_))
  have j2 : ∀ (i : Nat), i ≤ out.length → out.length < i + Bl.length → conv A Bl out.length = conv (A.drop i) Bl (out.length - i) → Ev (fun q => zv.j3 q A Bl out ((T % 18446744073709551616 : Nat) : Int) ((T / 18446744073709551616 : Nat) : Int) out.length i) (D (V A * V Bl)) := by
   intro i h1 h2 h3
   refine zf ?_
   simp only [zv.j3]
   exact zfM A Bl hA hB (by omega) (by omega) out out.length (by omega) (by omega) (T + conv A Bl out.length) (by omega) _ next (out.length + 1 - i) i _ _ (by omega) (by omega) (by omega) h2 (by rw [if_pos h1, ← h3]; omega)
  by_cases c1 : out.length ≥ Bl.length
  ·(repeat (first | with_reducible refine ep ?_ | with_reducible refine en ?_))
   have c2 := hb0
   ·have e : wrap64 (wrap64 ((out.length : Int) - (Bl.length : Int)) + 1) = ((out.length + 1 - Bl.length : Nat) : Int) := by unfold wrap64; omega
    rw [e]
    clear e
    exact j2 _ (by omega) (by omega) (zgx A Bl out.length _ (by omega) (by omega))
  ·(repeat (first | with_reducible refine ep ?_ | with_reducible refine en ?_)); exact j2 0 (by omega) (by omega) (by simp)
theorem zfH {a b : List Int} (ha : Dg a) (hb : Dg b) (la : a.length < 100000000) (lb : b.length < 100000000) : Ev (fun k => zv.f k a b) (D (V a * V b)) := by
 unfold zv.f
 by_cases c1 : a.length = 0
 ·(repeat (first | with_reducible refine ep ?_ | with_reducible refine en ?_))
  have : a = [] := List.eq_nil_of_length_eq_zero c1
  subst this
  refine zg (Ev.now _) ?_
  simp [zu]
 ·(repeat (first | with_reducible refine ep ?_ | with_reducible refine en ?_))
  by_cases c2 : b.length = 0
  ·(repeat (first | with_reducible refine ep ?_ | with_reducible refine en ?_))
   have : b = [] := List.eq_nil_of_length_eq_zero c2
   subst this
   refine zg (Ev.now _) ?_
   simp [zu]
  ·(repeat (first | with_reducible refine ep ?_ | with_reducible refine en ?_))
   have := zhH a b ha hb la lb (by omega) (a.length + b.length) [] 0 (by simp) Dg.nil (by omega) (by simp [zaW])
   simpa using this
theorem ze1 {m n : Nat} (h : (D m).length > 4096) (k : m ≤ n) : zac n = ([], 3) := by
 have := zcm k
 unfold zac; rw [if_pos (by omega)]
theorem zkh {m e : Nat} (he : 4096 = e) (h : 4294967296 ^ e ≤ m) : (D m).length > 4096 := by
 apply Nat.lt_of_not_le
 rw [he]
 intro k
 exact absurd (Nat.lt_of_lt_of_le (zbs m) (Nat.le_trans (Nat.pow_le_pow_right (by decide) k) h)) (Nat.lt_irrefl _)
theorem zmd {m e k : Nat} (he : 32 * k ≤ e) (h : 2 ^ e ≤ m) : 4294967296 ^ k ≤ m := by
 have e1 : (4294967296 : Nat) ^ k = 2 ^ (32 * k) := by rw [Nat.pow_mul]
 rw [e1]
 exact Nat.le_trans (Nat.pow_le_pow_right (by decide) he) h
theorem zmc {m e : Nat} (he : 131072 ≤ e) (h : 2 ^ e ≤ m) : zac m = ([], 3) :=
 have key : ∀ k, 4096 = k → zac m = ([], 3) := fun k hk => ze1 (zkh hk (zmd (by omega) h)) (Nat.le_refl _)
 key 4096 rfl
def bl (n : Nat) : Nat := if n = 0 then 0 else n.log2 + 1
theorem zd4 : bl 0 = 0 := rfl
theorem ze0 {n : Nat} (h : n ≠ 0) : 2 ^ (bl n - 1) ≤ n := by
 unfold bl; rw [if_neg h]; exact Nat.log2_self_le h
theorem zar (n : Nat) : n < 2 ^ bl n := by
 unfold bl
 split
 ·subst n; simp
 ·exact Nat.lt_log2_self
theorem zd2 {n : Nat} (h : n ≠ 0) : 0 < bl n := by unfold bl; rw [if_neg h]; omega
theorem zau {n k : Nat} (h : n < 2 ^ k) : bl n ≤ k := by
 by_cases e : n = 0
 ·subst e; simp [zd4]
 ·have h1 := ze0 e
  have h2 := zd2 e
  have : bl n - 1 < k := (Nat.pow_lt_pow_iff_right (a := 2) (by omega)).1 (Nat.lt_of_le_of_lt h1 h)
  omega
theorem ziY {n k : Nat} (h1 : 2 ^ k ≤ n) (h2 : n < 2 ^ (k + 1)) : bl n = k + 1 := by
 have := zau h2
 have h3 : 2 ^ k < 2 ^ bl n := Nat.lt_of_le_of_lt h1 (zar n)
 have := (Nat.pow_lt_pow_iff_right (a := 2) (by omega)).1 h3
 omega
theorem zbG {n k : Nat} (h : 2 ^ k ≤ n) : bl n = k + bl (n / 2 ^ k) := by
 have hp : 0 < 2 ^ k := Nat.pow_pos (by omega)
 have h0 : n / 2 ^ k ≠ 0 := by
  have := (Nat.le_div_iff_mul_le hp (x := 1) (y := n)).2 (by omega)
  omega
 have h1 := ze0 h0
 have h2 := zar (n / 2 ^ k)
 have h3 := zd2 h0
 have e : k + bl (n / 2 ^ k) = (k + (bl (n / 2 ^ k) - 1)) + 1 := by omega
 rw [e]
 apply ziY
 ·rw [Nat.pow_add]
  have := (Nat.le_div_iff_mul_le hp).1 h1
  rw [Nat.mul_comm]; exact this
 ·have := (Nat.div_lt_iff_lt_mul hp).1 h2
  rw [show k + (bl (n / 2 ^ k) - 1) + 1 = bl (n / 2 ^ k) + k by omega, Nat.pow_add]
  exact this
theorem zgo {n : Nat} (h : n ≠ 0) : bl n = bl (n / 2) + 1 := by
 by_cases h1 : n = 1
 ·subst h1; rfl
 ·have := zbG (n := n) (k := 1) (by omega)
  simp at this; omega
theorem zcJ {a b : Nat} (h : a ≤ b) : bl a ≤ bl b := zau (Nat.lt_of_le_of_lt h (zar b))
def zh1 : ByteArray := ⟨#[0, 1, 2, 2, 3, 3, 3, 3, 4, 4, 4, 4, 4, 4, 4, 4, 5, 5, 5, 5, 5, 5, 5, 5, 5, 5, 5, 5, 5, 5, 5, 5, 6, 6, 6, 6, 6, 6, 6, 6, 6, 6, 6, 6, 6, 6, 6, 6, 6, 6, 6, 6, 6, 6, 6, 6, 6, 6, 6, 6, 6, 6, 6, 6, 7, 7, 7, 7, 7, 7, 7, 7, 7, 7, 7, 7, 7, 7, 7, 7, 7, 7, 7, 7, 7, 7, 7, 7, 7, 7, 7, 7, 7, 7, 7, 7, 7, 7, 7, 7, 7, 7, 7, 7, 7, 7, 7, 7, 7, 7, 7, 7, 7, 7, 7, 7, 7, 7, 7, 7, 7, 7, 7, 7, 7, 7, 7, 7, 8, 8, 8, 8, 8, 8, 8, 8, 8, 8, 8, 8, 8, 8, 8, 8, 8, 8, 8, 8, 8, 8, 8, 8, 8, 8, 8, 8, 8, 8, 8, 8, 8, 8, 8, 8, 8, 8, 8, 8, 8, 8, 8, 8, 8, 8, 8, 8, 8, 8, 8, 8, 8, 8, 8, 8, 8, 8, 8, 8, 8, 8, 8, 8, 8, 8, 8, 8, 8, 8, 8, 8, 8, 8, 8, 8, 8, 8, 8, 8, 8, 8, 8, 8, 8, 8, 8, 8, 8, 8, 8, 8, 8, 8, 8, 8, 8, 8, 8, 8, 8, 8, 8, 8, 8, 8, 8, 8, 8, 8, 8, 8, 8, 8, 8, 8, 8, 8, 8, 8, 8, 8, 8, 8, 8, 8, 8, 8]⟩
theorem zlT : (List.range 256).all (fun i => bt zh1 (i : Int) == (bl i : Int)) = true := by decide +kernel
theorem bt8 {t : ByteArray} {n : Nat} (h : n < 256) (ht : t = zh1) : bt t (n : Int) = (bl n : Int) := by
 subst ht
 have := List.all_eq_true.1 zlT n (List.mem_range.2 h)
 exact eq_of_beq this
theorem zgn {n : Nat} (h : n < 256) : bl n ≤ 8 := zau h
theorem zgX : zdO.size = 256 := by decide +kernel
theorem zgT {n : Nat} (h : n < 256) {m : Int} (hm : 0 ≤ m ∧ m ≤ 64) : Ev (fun k => zU.j1 k (n : Int) m) (m + (bl n : Nat)) := by
 refine zf ?_
 simp only [zU.j1]
 have e : (n : Int) % 256 = n := by omega
 have l := zgn h
 rw [e, zgX]
 (repeat (first | with_reducible refine ep ?_ | with_reducible refine en ?_))
 rw [bt8 h (by rfl), zaE (n := ((bl n : Nat) : Int)) (by omega) (by omega), zaE (by omega) (by omega)]
 exact Ev.now _
theorem zgS {n : Nat} (h : n < 65536) {m : Int} (hm : 0 ≤ m ∧ m ≤ 32) : Ev (fun k => zU.j0 k (n : Int) m) (m + (bl n : Nat)) := by
 refine zf ?_
 simp only [zU.j0]
 by_cases c : n ≥ 256
 ·(repeat (first | with_reducible refine ep ?_ | with_reducible refine en ?_))
  have e2 : bl n = 8 + bl (n / 256) := zbG (k := 8) c
  have := zgT (n := n / 256) (by omega) (m := m + 8) (by omega)
  rw [zaE (by omega) (by omega), show (n : Int) / 256 = ((n / 256 : Nat) : Int) by omega]
  exact zg this (by rw [e2]; omega)
 ·(repeat (first | with_reducible refine ep ?_ | with_reducible refine en ?_))
  exact zgT (by omega) (by omega)
theorem zj8 {x : Int} (h : 0 ≤ x ∧ x < 4294967296) : Ev (fun k => zU.f k x) ((bl x.toNat : Nat) : Int) := by
 obtain ⟨n, rfl⟩ := Int.eq_ofNat_of_zero_le h.1
 unfold zU.f
 rw [Int.toNat_natCast]
 by_cases c : n ≥ 65536
 ·(repeat (first | with_reducible refine ep ?_ | with_reducible refine en ?_))
  have e1 : bl n = 16 + bl (n / 65536) := zbG (k := 16) c
  rw [show (n : Int) / 65536 = ((n / 65536 : Nat) : Int) by omega]
  exact zg (zgS (by omega) (by omega)) (by rw [e1]; omega)
 ·(repeat (first | with_reducible refine ep ?_ | with_reducible refine en ?_))
  exact zg (zgS (by omega) (by omega)) (by omega)
theorem zgW {n : Nat} (h : n < 256) {m : Int} (hm : 0 ≤ m ∧ m ≤ 128) : Ev (fun k => zy.j2 k (n : Int) m) (m + (bl n : Nat)) := by
 refine zf ?_
 simp only [zy.j2]
 have e : (n : Int) % 256 = n := by omega
 have l := zgn h
 rw [e, zgX]
 (repeat (first | with_reducible refine ep ?_ | with_reducible refine en ?_))
 rw [bt8 h (by rfl), zaE (n := ((bl n : Nat) : Int)) (by omega) (by omega), zaE (by omega) (by omega)]
 exact Ev.now _
theorem zgV {n : Nat} (h : n < 65536) {m : Int} (hm : 0 ≤ m ∧ m ≤ 100) : Ev (fun k => zy.j1 k (n : Int) m) (m + (bl n : Nat)) := by
 refine zf ?_
 simp only [zy.j1]
 by_cases c : n ≥ 256
 ·(repeat (first | with_reducible refine ep ?_ | with_reducible refine en ?_))
  have e2 : bl n = 8 + bl (n / 256) := zbG (k := 8) c
  have := zgW (n := n / 256) (by omega) (m := m + 8) (by omega)
  rw [zaE (by omega) (by omega), show (n : Int) / 256 = ((n / 256 : Nat) : Int) by omega]
  exact zg this (by rw [e2]; omega)
 ·(repeat (first | with_reducible refine ep ?_ | with_reducible refine en ?_))
  exact zgW (by omega) (by omega)
theorem zgU {n : Nat} (h : n < 4294967296) {m : Int} (hm : 0 ≤ m ∧ m ≤ 64) : Ev (fun k => zy.j0 k n m) (m + (bl n : Nat)) := by
 refine zf ?_
 simp only [zy.j0]
 by_cases c : n ≥ 65536
 ·(repeat (first | with_reducible refine ep ?_ | with_reducible refine en ?_))
  have e2 : bl n = 16 + bl (n / 65536) := zbG (k := 16) c
  have := zgV (n := n / 65536) (by omega) (m := m + 16) (by omega)
  rw [zaE (by omega) (by omega), show (n : Int) / 65536 = ((n / 65536 : Nat) : Int) by omega]
  exact zg this (by rw [e2]; omega)
 ·(repeat (first | with_reducible refine ep ?_ | with_reducible refine en ?_))
  exact zgV (by omega) (by omega)
theorem zj9 {x : Int} (h : 0 ≤ x ∧ x < 18446744073709551616) : Ev (fun k => zy.f k x) ((bl x.toNat : Nat) : Int) := by
 obtain ⟨n, rfl⟩ := Int.eq_ofNat_of_zero_le h.1
 rw [Int.toNat_natCast]
 unfold zy.f
 by_cases c : n ≥ 4294967296
 ·(repeat (first | with_reducible refine ep ?_ | with_reducible refine en ?_))
  have e : bl n = 32 + bl (n / 4294967296) := zbG (k := 32) c
  have := zgU (n := n / 4294967296) (by omega) (m := 32) (by omega)
  refine zg this ?_
  omega
 ·(repeat (first | with_reducible refine ep ?_ | with_reducible refine en ?_))
  have := zgU (n := n) (by omega) (m := 0) (by omega)
  exact zg this (by omega)
theorem zlu : ∀ (n : Nat) (m : Int), 0 ≤ m ∧ m + (bl n : Nat) < 4611686018427387904 → n < 4294967296 → Ev (fun k => zae.l0 k m n) (m + (bl n : Nat)) := by
 intro n
 induction n using Nat.strongRecOn with
 | _ n ih =>
  intro m hm hn
  refine zf ?_
  simp only [zae.l0]
  by_cases c : n = 0
  ·subst c
   (repeat (first | with_reducible refine ep ?_ | with_reducible refine en ?_))
   exact zg (Ev.now _) (by simp [zd4])
  ·(repeat (first | with_reducible refine ep ?_ | with_reducible refine en ?_))
   have e : (n : Int) / 2 = ((n / 2 : Nat) : Int) := by omega
   have hb := zgo c
   rw [e, zaE (by omega) (by omega)]
   refine zg (ih (n / 2) (by omega) (m + 1) (by omega) (by omega)) ?_
   omega
theorem zgl {l : List Int} (h : Nm l) (h0 : l ≠ []) : bl (V l) = 32 * (l.length - 1) + bl (l.getD (l.length - 1) 0).toNat := by
 rcases List.eq_nil_or_concat l with rfl | ⟨a, d, rfl⟩
 ·exact absurd rfl h0
 rw [List.concat_eq_append] at h ⊢
 have hd := h.dg d (by simp)
 have hn := zf8 h
 have e : (a ++ [d]).getD ((a ++ [d]).length - 1) 0 = d := by simp
 rw [e]
 have hl : (a ++ [d]).length - 1 = a.length := by simp
 rw [hl, za9]
 simp only [zG, zaF, Nat.mul_zero, Nat.add_zero]
 have hv := zbi h.dg.left
 have hp : (4294967296 : Nat) ^ a.length = 2 ^ (32 * a.length) := by rw [Nat.pow_mul]
 rw [hp] at hv ⊢
 have hpos : 0 < 2 ^ (32 * a.length) := Nat.pow_pos (by omega)
 have hd1 : 2 ^ (32 * a.length) * 1 ≤ 2 ^ (32 * a.length) * d.toNat := Nat.mul_le_mul_left _ (by omega)
 rw [zbG (n := V a + 2 ^ (32 * a.length) * d.toNat) (k := 32 * a.length) (by omega)]
 rw [Nat.add_mul_div_left _ _ hpos, Nat.div_eq_of_lt hv, Nat.zero_add]
theorem zcz {l : List Int} (h : Nm l) (hb : l.length < 1000000000) : Ev (fun k => zae.f k l) ((bl (V l) : Nat) : Int) := by
 unfold zae.f
 by_cases c : l.length = 0
 ·have : l = [] := List.eq_nil_of_length_eq_zero c
  subst this
  (repeat (first | with_reducible refine ep ?_ | with_reducible refine en ?_)); exact Ev.now _
 ·(repeat (first | with_reducible refine ep ?_ | with_reducible refine en ?_))
  have e : wrap64 ((l.length : Int) - 1) = ((l.length - 1 : Nat) : Int) := by unfold wrap64; omega
  rw [e]
  clear e
  (repeat (first | with_reducible refine ep ?_ | with_reducible refine en ?_))
  have hd := h.dg.getD (l.length - 1)
  rw [rdn, zaE (by omega) (by omega)]
  generalize hx : l.getD (l.length - 1) 0 = x at hd
  obtain ⟨n, rfl⟩ := Int.eq_ofNat_of_zero_le hd.1
  have hbn : bl n ≤ 32 := zau (by omega)
  refine zg (zlu n _ (by omega) (by omega)) ?_
  have hne : l ≠ [] := fun e => c (by rw [e]; rfl)
  have hm := zf7 h.dg |>.1 h
  rw [zgl h hne, hx]
  simp
theorem zhk {x y : Int} (h0 : 0 ≤ x ∧ x < 4294967296) (h1 : 0 ≤ y ∧ y < 4294967296) : Go.bits .or .u64 (x * 4294967296) y = x * 4294967296 + y := by
 obtain ⟨X, rfl⟩ := Int.eq_ofNat_of_zero_le h0.1
 obtain ⟨Y, rfl⟩ := Int.eq_ofNat_of_zero_le h1.1
 have e : (X : Int) * 4294967296 = ((2 ^ 32 * X : Nat) : Int) := by omega
 rw [e, u64_or_nat _ _ (by omega) (by omega), ← Nat.two_pow_add_eq_or_of_lt (by omega)]
 omega
theorem zfX {r x d : Int} (hr : 0 ≤ r ∧ r < d) (hx : 0 ≤ x ∧ x < 4294967296) (hd : d < 4294967296) : 0 ≤ (r * 4294967296 + x) / d ∧ (r * 4294967296 + x) / d < 4294967296 := by
 constructor
 ·exact Int.ediv_nonneg (by omega) (by omega)
 ·apply Int.ediv_lt_of_lt_mul (by omega)
  have : r * 4294967296 + 4294967296 ≤ d * 4294967296 := by omega
  rw [Int.mul_comm]; omega
theorem zjq {r x d : Int} (hr : 0 ≤ r ∧ r < d) (hx : 0 ≤ x ∧ x < 4294967296) (hd : d < 4294967296) : zcH.f r x d = some ((r * 4294967296 + x) / d, (r * 4294967296 + x) % d) := by
 have hn : 0 ≤ r * 4294967296 + x := by omega
 have hd0 : d ≠ 0 := by omega
 have hr0 : ¬ d ≤ r := by omega
 have ur := u64 (n := r) (by omega) (by omega)
 have ur2 := u64 (n := r * 4294967296) (by omega) (by omega)
 have ux := u64 (n := x) (by omega) (by omega)
 have ud := u64 (n := d) (by omega) (by omega)
 have ho := zhk (x := r) (by omega) hx
 have h1 := zfX hr hx hd
 have h2 : 0 ≤ (r * 4294967296 + x) % d := Int.emod_nonneg _ hd0
 have h3 : (r * 4294967296 + x) % d < d := Int.emod_lt_of_pos _ (by omega)
 unfold zcH.f
 rw [if_pos hd0, if_neg hr0, ud, if_neg hd0, if_neg hd0, ur, ur2, ux, ho, Int.tdiv_eq_ediv_of_nonneg hn, Int.tmod_eq_emod_of_nonneg hn]
 clear ur ur2 ux ud ho
 generalize (r * 4294967296 + x) / d = q at *
 generalize (r * 4294967296 + x) % d = m at *
 rw [u64 h1.1 (by omega), Int.emod_eq_of_lt h1.1 h1.2, Int.emod_eq_of_lt h2 (by omega)]
theorem zip (n : Nat) (l : List Int) : List.replicate (n + 1) (0 : Int) ++ l = List.replicate n 0 ++ 0 :: l := by
 rw [List.replicate_succ', List.append_assoc]; rfl
theorem zlK (t P X R E w : Nat) (hE : 0 < E) :
  (t + P * X + P * 4294967296 * R) / E + P * 4294967296 * w = (t + P * ((R * 4294967296 + X) % E)) / E + P * ((R * 4294967296 + X) / E + 4294967296 * w) ∧
  (t + P * X + P * 4294967296 * R) % E = (t + P * ((R * 4294967296 + X) % E)) % E := by
 have h := Nat.div_add_mod (R * 4294967296 + X) E
 have e4 : P * (R * 4294967296 + X) = P * 4294967296 * R + P * X := by rw [Nat.mul_add, Nat.mul_comm R, Nat.mul_assoc]
 generalize (R * 4294967296 + X) / E = q at *
 generalize (R * 4294967296 + X) % E = m at *
 have e3 : P * (E * q + m) = E * (P * q) + P * m := by rw [Nat.mul_add, Nat.mul_left_comm]
 rw [h, e4] at e3
 have key : t + P * X + P * 4294967296 * R = t + P * m + E * (P * q) := by
  rw [Nat.add_assoc, Nat.add_comm (P * X), e3, Nat.add_assoc, Nat.add_comm (P * m)]
 rw [key, Nat.add_mul_div_left _ _ hE, Nat.add_mul_mod_self_left, Nat.mul_add, Nat.mul_assoc P, Nat.add_assoc]
 exact ⟨rfl, rfl⟩
theorem zhV {a : List Int} (ha : Dg a) {i : Nat} (hi : i < a.length) {r d : Int} (hr : 0 ≤ r ∧ r < d) (w : Nat) :
  (V (a.take (i + 1)) + 4294967296 ^ (i + 1) * r.toNat) / d.toNat + 4294967296 ^ (i + 1) * w =
   (V (a.take i) + 4294967296 ^ i * ((r * 4294967296 + a.getD i 0) % d).toNat) / d.toNat + 4294967296 ^ i * (((r * 4294967296 + a.getD i 0) / d).toNat + 4294967296 * w) ∧
  (V (a.take (i + 1)) + 4294967296 ^ (i + 1) * r.toNat) % d.toNat = (V (a.take i) + 4294967296 ^ i * ((r * 4294967296 + a.getD i 0) % d).toNat) % d.toNat := by
 have hx := ha.getD i
 rw [zdX hi]
 obtain ⟨R, rfl⟩ := Int.eq_ofNat_of_zero_le hr.1
 obtain ⟨E, rfl⟩ := Int.eq_ofNat_of_zero_le (show 0 ≤ d by omega)
 obtain ⟨X, hX⟩ := Int.eq_ofNat_of_zero_le hx.1
 rw [hX]
 have hE : 0 < E := by omega
 clear hx hX hr ha hi
 have e1 : ((R : Int) * 4294967296 + X) % E = (((R * 4294967296 + X) % E : Nat) : Int) := by
  rw [Int.natCast_emod, Int.natCast_add, Int.natCast_mul, Int.cast_ofNat_Int]
 have e2 : ((R : Int) * 4294967296 + X) / E = (((R * 4294967296 + X) / E : Nat) : Int) := by
  rw [Int.natCast_ediv, Int.natCast_add, Int.natCast_mul, Int.cast_ofNat_Int]
 rw [e1, e2]
 rw [Int.toNat_natCast, Int.toNat_natCast, Int.toNat_natCast, Int.toNat_natCast, Int.toNat_natCast, Nat.pow_succ]
 exact zlK _ _ _ _ _ _ hE
theorem zhU {a : List Int} (ha : Dg a) (hl : a.length < 1000000000) {d : Int} (hd : 0 < d ∧ d < 4294967296) : ∀ (i : Nat) (r : Int) (done : List Int), i + done.length = a.length → 0 ≤ r ∧ r < d → Dg done →
  Ev (fun k => zaD.l0 k a d (List.replicate i 0 ++ done) r ((i : Int) - 1)) (D ((V (a.take i) + 4294967296 ^ i * r.toNat) / d.toNat + 4294967296 ^ i * V done), (((V (a.take i) + 4294967296 ^ i * r.toNat) % d.toNat : Nat) : Int))
 | 0, r, done, hi, hr, hg => by
  refine zf ?_
  simp only [zaD.l0]
  (repeat (first | with_reducible refine ep ?_ | with_reducible refine en ?_))
  refine Ev.bind (zdE (l := List.replicate 0 0 ++ done) (by simpa using hg) (by simp; omega)) (zg (Ev.now _) ?_)
  have h1 : r.toNat / d.toNat = 0 := Nat.div_eq_of_lt (by omega)
  have h2 : r.toNat % d.toNat = r.toNat := Nat.mod_eq_of_lt (by omega)
  simp [h1, h2]; omega
 | i + 1, r, done, hi, hr, hg => by
  have e0 : ((i + 1 : Nat) : Int) - 1 = (i : Int) := by omega
  have hx := ha.getD i
  have ht := zfX hr hx hd.2
  have st := zhV ha (i := i) (by omega) hr (V done)
  have hm0 : 0 ≤ (r * 4294967296 + a.getD i 0) % d := Int.emod_nonneg _ (by omega)
  have hm1 : (r * 4294967296 + a.getD i 0) % d < d := Int.emod_lt_of_pos _ (by omega)
  have ih := zhU ha hl hd i ((r * 4294967296 + a.getD i 0) % d) (((r * 4294967296 + a.getD i 0) / d) :: done) (by simp; omega) ⟨hm0, hm1⟩ (Dg.cons ht.1 ht.2 hg)
  rw [e0]
  refine zf ?_
  simp only [zaD.l0, zbg (n := i) (by omega)]
  (repeat (first | with_reducible refine ep ?_ | with_reducible refine en ?_))
  rw [rdn]
  refine zk (zjq hr hx hd.2) ?_
  refine zd (by omega) (zd (by simp; omega) ?_)
  have hs : (List.replicate (i + 1) (0 : Int) ++ done).set ((i : Int)).toNat ((r * 4294967296 + a.getD i 0) / d) = List.replicate i 0 ++ ((r * 4294967296 + a.getD i 0) / d) :: done := by
   rw [zip, zcf (by simp)]; simp
  rw [hs]
  refine zg ih ?_
  rw [zG, st.1, st.2]
theorem zkD {a : List Int} (ha : Dg a) (hl : a.length < 1000000000) {d : Int} (hd : 0 < d ∧ d < 4294967296) : Ev (fun k => zaD.f k a d) (D (V a / d.toNat), ((V a % d.toNat : Nat) : Int)) := by
 unfold zaD.f
 (repeat (first | with_reducible refine ep ?_ | with_reducible refine en ?_))
 have := zhU ha hl hd a.length 0 [] (by simp) (by omega) Dg.nil
 rw [zbg (by omega)]
 simpa using this
theorem zhI {a : List Int} (ha : Dg a) (hl : a.length < 1000000000) {d : Int} (hd : 0 < d ∧ d < 4294967296) : ∀ (i : Nat) (r : Int) (done : List Int), i + done.length = a.length → 0 ≤ r ∧ r < d → Dg done →
  Ev (fun k => zax.l0 k a d (List.replicate i 0 ++ done) r ((i : Int) - 1)) (D ((V (a.take i) + 4294967296 ^ i * r.toNat) / d.toNat + 4294967296 ^ i * V done), D ((V (a.take i) + 4294967296 ^ i * r.toNat) % d.toNat))
 | 0, r, done, hi, hr, hg => by
  refine zf ?_
  simp only [zax.l0]
  (repeat (first | with_reducible refine ep ?_ | with_reducible refine en ?_))
  refine Ev.bind (zcc (l := List.replicate 0 0 ++ done) (by simpa using hg) (by simp; omega)) (Ev.bind (zc6 hr.1 (by omega)) (zg (Ev.now _) ?_))
  have h1 : r.toNat / d.toNat = 0 := Nat.div_eq_of_lt (by omega)
  have h2 : r.toNat % d.toNat = r.toNat := Nat.mod_eq_of_lt (by omega)
  simp [h1, h2]
 | i + 1, r, done, hi, hr, hg => by
  have e0 : ((i + 1 : Nat) : Int) - 1 = (i : Int) := by omega
  have hx := ha.getD i
  have ht := zfX hr hx hd.2
  have st := zhV ha (i := i) (by omega) hr (V done)
  have hm0 : 0 ≤ (r * 4294967296 + a.getD i 0) % d := Int.emod_nonneg _ (by omega)
  have hm1 : (r * 4294967296 + a.getD i 0) % d < d := Int.emod_lt_of_pos _ (by omega)
  have ih := zhI ha hl hd i ((r * 4294967296 + a.getD i 0) % d) (((r * 4294967296 + a.getD i 0) / d) :: done) (by simp; omega) ⟨hm0, hm1⟩ (Dg.cons ht.1 ht.2 hg)
  rw [e0]
  refine zf ?_
  simp only [zax.l0, zbg (n := i) (by omega)]
  (repeat (first | with_reducible refine ep ?_ | with_reducible refine en ?_))
  rw [rdn, u64 (n := d) (by omega) (by omega), u64 (n := r * 4294967296) (by omega) (by omega), u64 (n := a.getD i 0) (by omega) (by omega), zhk (by omega) hx,
   Int.tdiv_eq_ediv_of_nonneg (by omega), Int.tmod_eq_emod_of_nonneg (by omega), u64 ht.1 (by omega), Int.emod_eq_of_lt ht.1 ht.2]
  (repeat (first | with_reducible refine ep ?_ | with_reducible refine en ?_))
  have hs : (List.replicate (i + 1) (0 : Int) ++ done).set ((i : Int)).toNat ((r * 4294967296 + a.getD i 0) / d) = List.replicate i 0 ++ ((r * 4294967296 + a.getD i 0) / d) :: done := by
   rw [zip, zcf (by simp)]; simp
  rw [hs]
  refine zg ih ?_
  rw [zG, st.1, st.2]
theorem zhF {a : List Int} (ha : Dg a) (hl : a.length < 1000000000) {d : Int} (hd : 0 < d ∧ d < 4294967296) : Ev (fun k => zax.f k a d) (D (V a / d.toNat), D (V a % d.toNat)) := by
 unfold zax.f
 (repeat (first | with_reducible refine ep ?_ | with_reducible refine en ?_))
 have := zhI ha hl hd a.length 0 [] (by simp) (by omega) Dg.nil
 rw [zbg (by omega)]
 simpa using this
theorem pw {s : Nat} (h : s ≤ 32) : 2 ^ s * 2 ^ (32 - s) = 4294967296 := by
 rw [← Nat.pow_add]; have : s + (32 - s) = 32 := by omega
 rw [this]
theorem zm (s : Nat) : 0 < 2 ^ s := Nat.pow_pos (by omega)
theorem zc9 {X P Q c : Nat} (hP : 0 < P) (hc : c < P) : (X * P + c) / (P * Q) = X / Q ∧ (X * P + c) % (P * Q) = P * (X % Q) + c := by
 have h1 : (X * P + c) / P = X := by rw [Nat.mul_comm, Nat.mul_add_div hP, Nat.div_eq_of_lt hc, Nat.add_zero]
 have h2 : (X * P + c) % P = c := by rw [Nat.mul_comm, Nat.mul_add_mod, Nat.mod_eq_of_lt hc]
 exact ⟨by rw [← Nat.div_div_eq_div_mul, h1], by rw [Nat.mod_mul, h1, h2, Nat.add_comm]⟩
theorem zfv (s : Nat) : ((2 : Int) ^ s) = ((2 ^ s : Nat) : Int) := by simp
theorem zhQ (X s : Nat) (hs : s < 32) : shl .u32 (X : Int) (s : Int) = ((X * 2 ^ s % 4294967296 : Nat) : Int) := by
 unfold shl
 rw [Int.toNat_natCast, Nat.min_eq_left (by simp [IntKind.bits]; omega), zfv, ← Int.natCast_mul]
 simp [IntKind.wrap, IntKind.bits, IntKind.signed]
theorem zfR (X s : Nat) (hs : s ≤ 32) (hX : X < 4294967296) : shl .u64 (X : Int) (s : Int) = ((X * 2 ^ s : Nat) : Int) := by
 unfold shl
 rw [Int.toNat_natCast, Nat.min_eq_left (by simp [IntKind.bits]; omega), zfv, ← Int.natCast_mul]
 have h1 : 2 ^ s ≤ 2 ^ 32 := Nat.pow_le_pow_right (by omega) hs
 have h2 : X * 2 ^ s ≤ 4294967295 * 2 ^ 32 := Nat.mul_le_mul (by omega) h1
 exact u64 (by omega) (by omega)
theorem zcC {k : IntKind} (X s : Nat) (hs : s ≤ k.bits) : shr k (X : Int) (s : Int) = ((X / 2 ^ s : Nat) : Int) := by
 unfold shr
 rw [Int.toNat_natCast, Nat.min_eq_left hs, zfv, ← Int.natCast_ediv]
theorem zdk (X : Nat) (hX : X < 4294967296) : IntKind.u64.wrap (X : Int) = (X : Int) := u64 (by omega) (by omega)
theorem zf2 {s : Nat} (hs : s ≤ 32) : wrap64 (32 - (s : Int)) = ((32 - s : Nat) : Int) := by unfold wrap64; omega
theorem zds {X s : Nat} (hs : s ≤ 32) (hX : X < 4294967296) : X / 2 ^ s < 2 ^ (32 - s) := by
 rw [Nat.div_lt_iff_lt_mul (zm _), Nat.mul_comm, pw hs]; exact hX
theorem zmo (X s c : Nat) (hs : s < 32) (hX : X < 4294967296) (hc : c < 2 ^ s) : Go.bits .or .u32 (shl .u32 (X : Int) (s : Int)) (c : Int) = (((X * 2 ^ s + c) % 4294967296 : Nat) : Int) := by
 have h1 := (zc9 (X := X) (Q := 2 ^ (32 - s)) (zm s) hc).2
 have h0 := (zc9 (X := X) (Q := 2 ^ (32 - s)) (c := 0) (zm s) (zm s)).2
 have hle : 2 ^ s ≤ 2 ^ 31 := Nat.pow_le_pow_right (by omega) (by omega)
 rw [pw (by omega)] at h1 h0
 rw [zhQ _ _ hs, u32_or_nat _ _ (by omega) (by omega), h1]
 rw [Nat.add_zero, Nat.add_zero] at h0
 rw [h0, ← Nat.two_pow_add_eq_or_of_lt hc]
theorem zmn (X s c : Nat) (hs : s < 32) (hX : X < 4294967296) (hc : c < 2 ^ s) : (shr .u64 (IntKind.u64.wrap (X : Int)) (wrap64 (32 - (s : Int)))) % 4294967296 = (((X * 2 ^ s + c) / 4294967296 : Nat) : Int) := by
 have h1 := (zc9 (X := X) (Q := 2 ^ (32 - s)) (zm s) hc).1
 rw [pw (by omega)] at h1
 rw [zdk _ hX, zf2 (by omega), zcC _ _ (by simp [IntKind.bits]; omega), h1]
 have := zds (s := 32 - s) (by omega) hX
 have h3 : X / 2 ^ (32 - s) ≤ X := Nat.div_le_self _ _
 omega
theorem zf1 (X s c : Nat) (hs : s < 32) (hX : X < 4294967296) (hc : c < 2 ^ s) : (X * 2 ^ s + c) / 4294967296 < 2 ^ s := by
 have h1 := (zc9 (X := X) (Q := 2 ^ (32 - s)) (zm s) hc).1
 rw [pw (by omega)] at h1
 rw [h1]
 have := zds (s := 32 - s) (by omega) hX
 have e : 32 - (32 - s) = s := by omega
 rwa [e] at this
theorem zlB (X s c : Nat) (hs : s < 32) (hX : X < 4294967296) (hc : c < 2 ^ s) : Go.bits .or .u64 (c : Int) (shl .u64 (IntKind.u64.wrap (X : Int)) (s : Int)) = ((X * 2 ^ s + c : Nat) : Int) := by
 have hle : 2 ^ s ≤ 2 ^ 31 := Nat.pow_le_pow_right (by omega) (by omega)
 have h2 : X * 2 ^ s ≤ 4294967295 * 2 ^ 31 := Nat.mul_le_mul (by omega) hle
 rw [zdk _ hX, zfR _ _ (by omega) hX, u64_or_nat _ _ (by omega) (by omega), Nat.or_comm, Nat.mul_comm X, ← Nat.two_pow_add_eq_or_of_lt hc]
def zbC (P : Nat) : List Int → Nat → List Int
 | [], c => [(c : Int)]
 | d :: l, c => (((d.toNat * P + c) % 4294967296 : Nat) : Int) :: zbC P l ((d.toNat * P + c) / 4294967296)
theorem zig {s : Nat} (hs : s < 32) : ∀ (l : List Int) (c : Nat), Dg l → c < 2 ^ s → V (zbC (2 ^ s) l c) = V l * 2 ^ s + c ∧ Dg (zbC (2 ^ s) l c)
 | [], c, _, hc => by
  have hle : 2 ^ s ≤ 2 ^ 31 := Nat.pow_le_pow_right (by omega) (by omega)
  simp only [zbC, zG, zaF]
  exact ⟨by omega, Dg.cons (by omega) (by omega) Dg.nil⟩
 | d :: l, c, hg, hc => by
  have hd := hg.head
  have hX : d.toNat < 4294967296 := by omega
  have ih := zig hs l _ hg.tail (zf1 d.toNat s c hs hX hc)
  simp only [zbC, zG, ih.1]
  refine ⟨?_, Dg.cons (by omega) (by omega) ih.2⟩
  generalize hm : d.toNat * 2 ^ s + c = m
  rw [Nat.add_mul, Nat.mul_assoc]
  generalize V l * 2 ^ s = z
  omega
theorem nn {i : Nat} : 0 ≤ (i : Int) := Int.natCast_nonneg i
theorem zii (A : List Int) (hA : Dg A) (hl : A.length < 1000000000) {s : Nat} (hs : s < 32) : ∀ (a done pa : List Int) (c : Nat), A = pa ++ a → c < 2 ^ s → Dg done → done.length + a.length < 2000000000 →
  Ev (fun k => zat.l0 k done s c A A.length pa.length) (D (V (done ++ zbC (2 ^ s) a c)))
 | [], done, pa, c, he, hc, hg, hb => by
  have hlen : A.length = pa.length := by rw [he]; simp
  have hle : 2 ^ s ≤ 2 ^ 31 := Nat.pow_le_pow_right (by omega) (by omega)
  refine zf ?_
  simp only [zat.l0]
  (repeat (first | with_reducible refine ep ?_ | with_reducible refine en ?_))
  exact Ev.bind (zdE (hg.app (Dg.cons (by omega) (by omega) Dg.nil)) (by simp at hb ⊢; omega)) (Ev.now _)
 | d :: a, done, pa, c, he, hc, hg, hb => by
  have hlen : A.length = pa.length + 1 + a.length := by rw [he]; simp; omega
  have hd : 0 ≤ d ∧ d < 4294967296 := by rw [he] at hA; exact hA.right.head
  obtain ⟨X, rfl⟩ := Int.eq_ofNat_of_zero_le hd.1
  have hX : X < 4294967296 := by omega
  have h1 : rd A (pa.length : Int) = (X : Int) := by rw [he]; exact zak rfl
  refine zf ?_
  simp only [zat.l0, h1, zaa (n := pa.length) (by omega), zmo X s c hs hX hc, zmn X s c hs hX hc]
  have w32 : wrap64 (32 - (s : Int)) = 32 - (s : Int) := by unfold wrap64; omega
  (repeat (first | with_reducible refine ep ?_ | with_reducible refine en ?_))
  have := zii A hA hl hs a (done ++ [(((X * 2 ^ s + c) % 4294967296 : Nat) : Int)]) (pa ++ [(X : Int)]) ((X * 2 ^ s + c) / 4294967296) (by rw [he]; simp) (zf1 X s c hs hX hc) (hg.app (Dg.cons (by omega) (by omega) Dg.nil)) (by simp at hb ⊢; omega)
  rw [List.length_append, List.length_singleton] at this
  refine zg this ?_
  simp [zbC]
theorem zhN (A : List Int) (hA : Dg A) (hl : A.length < 1000000000) {s : Nat} (hs : s < 32) : ∀ (a done pa : List Int) (c : Nat), A = pa ++ a → c < 2 ^ s → Dg done → done.length + a.length < 2000000000 →
  Ev (fun k => zK.l0 k A done s c pa.length) (D (V (done ++ zbC (2 ^ s) a c)))
 | [], done, pa, c, he, hc, hg, hb => by
  have hlen : A.length = pa.length := by rw [he]; simp
  have hle : 2 ^ s ≤ 2 ^ 31 := Nat.pow_le_pow_right (by omega) (by omega)
  refine zf ?_
  have e : (c : Int) % 4294967296 = (c : Int) := by omega
  simp only [zK.l0, e]
  (repeat (first | with_reducible refine ep ?_ | with_reducible refine en ?_))
  exact Ev.bind (zcc (hg.app (Dg.cons (by omega) (by omega) Dg.nil)) (by simp at hb ⊢; omega)) (Ev.now _)
 | d :: a, done, pa, c, he, hc, hg, hb => by
  have hlen : A.length = pa.length + 1 + a.length := by rw [he]; simp; omega
  have hd : 0 ≤ d ∧ d < 4294967296 := by rw [he] at hA; exact hA.right.head
  obtain ⟨X, rfl⟩ := Int.eq_ofNat_of_zero_le hd.1
  have hX : X < 4294967296 := by omega
  have h1 : rd A (pa.length : Int) = (X : Int) := by rw [he]; exact zak rfl
  have e1 : ((X * 2 ^ s + c : Nat) : Int) % 4294967296 = (((X * 2 ^ s + c) % 4294967296 : Nat) : Int) := by omega
  have e2 : ((X * 2 ^ s + c : Nat) : Int) / 4294967296 = (((X * 2 ^ s + c) / 4294967296 : Nat) : Int) := by omega
  refine zf ?_
  simp only [zK.l0, h1, zaa (n := pa.length) (by omega), zlB X s c hs hX hc, e1, e2]
  (repeat (first | with_reducible refine ep ?_ | with_reducible refine en ?_))
  have := zhN A hA hl hs a (done ++ [(((X * 2 ^ s + c) % 4294967296 : Nat) : Int)]) (pa ++ [(X : Int)]) ((X * 2 ^ s + c) / 4294967296) (by rw [he]; simp) (zf1 X s c hs hX hc) (hg.app (Dg.cons (by omega) (by omega) Dg.nil)) (by simp at hb ⊢; omega)
  rw [List.length_append, List.length_singleton] at this
  refine zg this ?_
  simp [zbC]
theorem t32 {n : Nat} (h : n < 4611686018427387904) : wrap64 (Int.tdiv (n : Int) 32) = ((n / 32 : Nat) : Int) := by
 rw [Int.tdiv_eq_ediv_of_nonneg (by omega)]; unfold wrap64; omega
theorem m32 (n : Nat) : Int.tmod (n : Int) 32 = ((n % 32 : Nat) : Int) := by
 rw [Int.tmod_eq_emod_of_nonneg (by omega)]; omega
theorem zcy (n : Nat) : 2 ^ n = 4294967296 ^ (n / 32) * 2 ^ (n % 32) := by
 have h : (4294967296 : Nat) = 2 ^ 32 := by decide
 rw [h, ← Nat.pow_mul, ← Nat.pow_add]; congr 1; omega
theorem zih {a : List Int} (ha : Dg a) (n : Nat) : V (List.replicate (n / 32) 0 ++ zbC (2 ^ (n % 32)) a 0) = V a * 2 ^ n := by
 have h := (zig (s := n % 32) (by omega) a 0 ha (zm _)).1
 rw [za9, zdY, List.length_replicate, h, Nat.zero_add, Nat.add_zero, zcy n, Nat.mul_left_comm]
theorem zkE {a : List Int} (ha : Dg a) (la : a.length < 1000000000) (n : Nat) (hn : n < 1000000000) : Ev (fun k => zat.f k a n) (D (V a * 2 ^ n)) := by
 unfold zat.f
 have e1 : wrap64 (wrap64 (((n / 32 : Nat) : Int) + (a.length : Int)) + 1) = ((n / 32 + a.length + 1 : Nat) : Int) := by unfold wrap64; omega
 simp only [t32 (n := n) (by omega), m32, e1]
 clear e1
 by_cases h0 : a = []
 ·subst h0
  (repeat (first | with_reducible refine ep ?_ | with_reducible refine en ?_))
  exact zg (Ev.now _) (by simp [zu])
 ·have : 0 < a.length := List.length_pos_iff.2 h0
  (repeat (first | with_reducible refine ep ?_ | with_reducible refine en ?_))
  have h := zii a ha la (s := n % 32) (by omega) a (List.replicate (n / 32) 0) [] 0 rfl (zm _) (Dg.zeros _) (by simp; omega)
  rw [zih ha] at h
  simp only [Int.toNat_natCast]
  simpa using h
theorem zcd {a : List Int} (ha : Dg a) (la : a.length < 1000000000) (n : Nat) (hn : n < 1000000000) : Ev (fun k => zK.f k a n) (D (V a * 2 ^ n)) := by
 unfold zK.f
 simp only [t32 (n := n) (by omega), m32]
 by_cases h0 : a = []
 ·subst h0
  (repeat (first | with_reducible refine ep ?_ | with_reducible refine en ?_))
  exact zg (Ev.now _) (by simp [zu])
 ·have : 0 < a.length := List.length_pos_iff.2 h0
  (repeat (first | with_reducible refine ep ?_ | with_reducible refine en ?_))
  have h := zhN a ha la (s := n % 32) (by omega) a (List.replicate (n / 32) 0) [] 0 rfl (zm _) (Dg.zeros _) (by simp; omega)
  rw [zih ha] at h
  simp only [Int.toNat_natCast]
  simpa using h
theorem pw' {s : Nat} (h : s ≤ 32) : 2 ^ (32 - s) * 2 ^ s = 4294967296 := by rw [Nat.mul_comm]; exact pw h
theorem zcE {l : List Int} (h : Dg l) (q : Nat) : V (l.drop q) = V l / 4294967296 ^ q := by
 by_cases hq : q ≤ l.length
 ·have e : V l = V (l.take q) + 4294967296 ^ q * V (l.drop q) := by
   conv => lhs; rw [← List.take_append_drop q l, za9, List.length_take, Nat.min_eq_left hq]
  have hlt : V (l.take q) < 4294967296 ^ q := by
   have := zbi (h.take q); rwa [List.length_take, Nat.min_eq_left hq] at this
  rw [e, Nat.add_mul_div_left _ _ (Nat.pow_pos (by omega)), Nat.div_eq_of_lt hlt, Nat.zero_add]
 ·rw [List.drop_eq_nil_of_le (by omega), zaF, Nat.div_eq_of_lt]
  exact Nat.lt_of_lt_of_le (zbi h) (Nat.pow_le_pow_right (by omega) (by omega))
theorem zes {m : Nat} (h : m < 4294967296) : (m : Int) < 4294967296 := by omega
theorem zjy (Y s : Nat) (hs : s < 32) (hY : Y < 4294967296) : (shl .u64 (IntKind.u64.wrap (Y : Int)) (wrap64 (32 - (s : Int)))) % 4294967296 = ((2 ^ (32 - s) * (Y % 2 ^ s) : Nat) : Int) := by
 rw [zdk _ hY, zf2 (by omega), zfR _ _ (by omega) hY]
 have h := (zc9 (X := Y) (P := 2 ^ (32 - s)) (Q := 2 ^ s) (c := 0) (zm _) (zm _)).2
 rw [pw' (by omega), Nat.add_zero, Nat.add_zero] at h
 rw [← h]; omega
theorem zed (X Y s : Nat) (hs : s < 32) (hX : X < 4294967296) : X / 2 ^ s + 2 ^ (32 - s) * (Y % 2 ^ s) < 4294967296 := by
 have h1 := zds (s := s) (by omega) hX
 have h2 : Y % 2 ^ s + 1 ≤ 2 ^ s := Nat.mod_lt _ (zm _)
 have h3 := Nat.mul_le_mul_left (2 ^ (32 - s)) h2
 rw [pw' (by omega), Nat.mul_add] at h3
 omega
theorem zjx (X Y s : Nat) (hs : s < 32) (hX : X < 4294967296) (hY : Y < 4294967296) : Go.bits .or .u32 ((X / 2 ^ s : Nat) : Int) ((shl .u64 (IntKind.u64.wrap (Y : Int)) (wrap64 (32 - (s : Int)))) % 4294967296) = ((X / 2 ^ s + 2 ^ (32 - s) * (Y % 2 ^ s) : Nat) : Int) := by
 have hl := zed X Y s hs hX
 rw [zjy Y s hs hY, u32_or_nat _ _ (Nat.lt_of_le_of_lt (Nat.le_add_right _ _) hl) (Nat.lt_of_le_of_lt (Nat.le_add_left _ _) hl), Nat.or_comm, ← Nat.two_pow_add_eq_or_of_lt (zds (by omega) hX), Nat.add_comm]
theorem zlg (X Y s : Nat) (hs : s < 32) (hX : X < 4294967296) (hY : Y < 4294967296) : (Go.bits .or .u64 (shr .u64 (IntKind.u64.wrap (X : Int)) (s : Int)) (shl .u64 (IntKind.u64.wrap (Y : Int)) (wrap64 (32 - (s : Int))))) % 4294967296 = ((X / 2 ^ s + 2 ^ (32 - s) * (Y % 2 ^ s) : Nat) : Int) := by
 have hl := zds (s := s) (by omega) hX
 have hle : 2 ^ (32 - s) ≤ 2 ^ 32 := Nat.pow_le_pow_right (by omega) (by omega)
 have h2 : Y * 2 ^ (32 - s) ≤ 4294967295 * 2 ^ 32 := Nat.mul_le_mul (by omega) hle
 have hX2 : X / 2 ^ s ≤ X := Nat.div_le_self _ _
 rw [zdk _ hX, zdk _ hY, zf2 (by omega), zfR _ _ (by omega) hY, zcC _ _ (by simp [IntKind.bits]; omega), u64_or_nat _ _ (by omega) (by omega), Nat.or_comm, Nat.mul_comm Y, ← Nat.two_pow_add_eq_or_of_lt hl, Nat.mul_comm _ Y]
 have h := (zc9 (X := Y) (P := 2 ^ (32 - s)) (Q := 2 ^ s) (c := X / 2 ^ s) (zm _) hl).2
 rw [pw' (by omega)] at h
 rw [Nat.add_comm (X / 2 ^ s), ← h]; omega
def zan (s : Nat) : List Int → List Int
 | [] => []
 | d :: l => ((d.toNat / 2 ^ s + 2 ^ (32 - s) * ((l.headD 0).toNat % 2 ^ s) : Nat) : Int) :: zan s l
theorem ziD {l : List Int} {s : Nat} (hs : s ≤ 32) : V l % 2 ^ s = (l.headD 0).toNat % 2 ^ s := by
 cases l with
 | nil => simp
 | cons d l =>
  have h := pw (s := s) hs
  simp only [zG, List.headD_cons]
  rw [← h, Nat.mul_assoc, Nat.add_mul_mod_self_left]
theorem zgB {s : Nat} (hs : s < 32) : ∀ (l : List Int), Dg l → V (zan s l) = V l / 2 ^ s ∧ Dg (zan s l)
 | [], _ => by simp [zan, Dg.nil]
 | d :: l, hg => by
  have hd := hg.head
  have ih := zgB hs l hg.tail
  have hl := zed d.toNat (l.headD 0).toNat s hs (by omega)
  simp only [zan, zG, ih.1]
  refine ⟨?_, Dg.cons nn (zes hl) ih.2⟩
  rw [← ziD (l := l) (by omega), Int.toNat_natCast]
  have h := pw (s := s) (by omega)
  have h' := pw' (s := s) (by omega)
  have e1 : (d.toNat + 4294967296 * V l) / 2 ^ s = d.toNat / 2 ^ s + 2 ^ (32 - s) * V l := by
   rw [← h, Nat.mul_assoc, Nat.add_mul_div_left _ _ (zm _)]
  have e2 : 2 ^ (32 - s) * V l = 2 ^ (32 - s) * (V l % 2 ^ s) + 4294967296 * (V l / 2 ^ s) := by
   rw [← h', Nat.mul_assoc, ← Nat.mul_add, Nat.mod_add_div]
  rw [e1, e2, Nat.add_assoc]
theorem ze5 {a : List Int} (ha : Dg a) (n : Nat) : V (zan (n % 32) (a.drop (n / 32))) = V a / 2 ^ n := by
 rw [(zgB (by omega) _ (ha.drop _)).1, zcE ha, Nat.div_div_eq_div_mul, ← zcy]
theorem zgC (A : List Int) (hA : Dg A) (hl : A.length < 1000000000) {s : Nat} (hs : s < 32) : ∀ (a done pa : List Int), A = pa ++ a → done.length = pa.length → Dg done →
  Ev (fun k => zas.l0 k A s (done ++ List.replicate a.length 0) A A.length pa.length) (D (V (done ++ zan s a)))
 | [], done, pa, he, hd, hg => by
  have hlen : A.length = pa.length := by rw [he]; simp
  refine zf ?_
  simp only [zas.l0]
  (repeat (first | with_reducible refine ep ?_ | with_reducible refine en ?_))
  simp only [List.length_nil, List.replicate_zero, zan]
  exact Ev.bind (zdE (l := done ++ []) (by simpa using hg) (by simp; omega)) (Ev.now _)
 | d :: a, done, pa, he, hd, hg => by
  have hlen : A.length = pa.length + 1 + a.length := by rw [he]; simp; omega
  have hdd : 0 ≤ d ∧ d < 4294967296 := by rw [he] at hA; exact hA.right.head
  obtain ⟨X, rfl⟩ := Int.eq_ofNat_of_zero_le hdd.1
  have hX : X < 4294967296 := by omega
  have h1 : rd A (pa.length : Int) = (X : Int) := by rw [he]; exact zak rfl
  have hg2 : Dg (a) := by rw [he] at hA; exact hA.right.tail
  have hy := hg2.headD
  have ih := zgC A hA hl hs a (done ++ [((X / 2 ^ s + 2 ^ (32 - s) * ((a.headD 0).toNat % 2 ^ s) : Nat) : Int)]) (pa ++ [(X : Int)]) (by rw [he]; simp) (by simp [hd])
   (hg.app (Dg.cons nn (zes (zed X (a.headD 0).toNat s hs hX)) Dg.nil))
  rw [@List.length_append _ pa, List.length_singleton] at ih
  refine zf ?_
  have hset : (done ++ List.replicate ((X : Int) :: a).length 0).set ((pa.length : Int)).toNat ((X / 2 ^ s : Nat) : Int) = (done ++ [((X / 2 ^ s : Nat) : Int)]) ++ List.replicate a.length 0 := by
   rw [List.length_cons, List.replicate_succ, zcf (by omega)]
  simp only [zas.l0, h1, zaa (n := pa.length) (by omega), zcC (k := .u32) X s (by simp [IntKind.bits]; omega), hset, Option.bind_some]
  have w32 : wrap64 (32 - (s : Int)) = 32 - (s : Int) := by unfold wrap64; omega
  (repeat (first | with_reducible refine ep ?_ | with_reducible refine en ?_))
  by_cases hn : a = []
  ·subst hn
   simp only [List.length_nil, Nat.add_zero] at hlen
   (repeat (first | with_reducible refine ep ?_ | with_reducible refine en ?_))
   refine zg (by simpa [zan] using ih) ?_
   simp [zan]
  ·obtain ⟨y, a', rfl⟩ := List.exists_cons_of_ne_nil hn
   obtain ⟨Y, rfl⟩ := Int.eq_ofNat_of_zero_le hy.1
   simp only [List.headD_cons] at hy ih
   have hlen' := hlen
   simp only [List.length_cons] at hlen'
   have h2 : rd A ((pa.length + 1 : Nat) : Int) = (Y : Int) := by rw [he, show pa ++ (X : Int) :: (Y : Int) :: a' = (pa ++ [(X : Int)]) ++ (Y : Int) :: a' by simp]; exact zak (by simp)
   have h3 : rd (done ++ [((X / 2 ^ s : Nat) : Int)] ++ List.replicate ((Y : Int) :: a').length 0) (pa.length : Int) = ((X / 2 ^ s : Nat) : Int) := by rw [List.append_assoc, List.singleton_append]; exact zak (by omega)
   have hset2 : (done ++ [((X / 2 ^ s : Nat) : Int)] ++ List.replicate ((Y : Int) :: a').length 0).set ((pa.length : Int)).toNat ((X / 2 ^ s + 2 ^ (32 - s) * (Y % 2 ^ s) : Nat) : Int) = done ++ [((X / 2 ^ s + 2 ^ (32 - s) * (Y % 2 ^ s) : Nat) : Int)] ++ List.replicate ((Y : Int) :: a').length 0 := by
    rw [List.append_assoc, List.singleton_append, zcf (by omega)]
   simp only [h2, h3, zjx X Y s hs hX (by omega), hset2]
   (repeat (first | with_reducible refine ep ?_ | with_reducible refine en ?_))
   rw [Int.toNat_natCast] at ih
   refine zg ih ?_
   simp [zan]
theorem zkC {a : List Int} (ha : Dg a) (la : a.length < 1000000000) (n : Nat) (hn : n < 100000000000) : Ev (fun k => zas.f k a n) (D (V a / 2 ^ n)) := by
 unfold zas.f
 simp only [t32 (n := n) (by omega), m32]
 by_cases h : n / 32 ≥ a.length
 ·(repeat (first | with_reducible refine ep ?_ | with_reducible refine en ?_))
  have : V a / 2 ^ n = 0 := by
   rw [zcy, ← Nat.div_div_eq_div_mul, ← zcE ha, List.drop_eq_nil_of_le h]; simp
  rw [this, zu]; exact Ev.now _
 ·(repeat (first | with_reducible refine ep ?_ | with_reducible refine en ?_))
  have h := zgC (a.drop (n / 32)) (ha.drop _) (by simp; omega) (s := n % 32) (by omega) (a.drop (n / 32)) [] [] rfl rfl Dg.nil
  simp only [List.nil_append, ze5 ha] at h
  simp only [Int.toNat_natCast]
  simpa using h
theorem zeF {l : List Int} (h : Dg l) (hl : l.length < 1000000000) (i : Nat) (hi : i < 4611686018427387904) : zbm.f l i = some ((V l / 2 ^ i % 2 : Nat) : Int) := by
 unfold zbm.f
 simp only [t32 hi, m32]
 rw [if_neg (by omega)]
 by_cases hq : i / 32 ≥ l.length
 ·rw [if_pos (by omega)]
  have : V l / 2 ^ i = 0 := by
   rw [zcy, ← Nat.div_div_eq_div_mul, ← zcE h, List.drop_eq_nil_of_le hq]; simp
  rw [this]; rfl
 ·rw [if_neg (by omega), if_pos nn, if_pos (by omega), if_pos nn]
  rw [rdn]
  have hx := h.getD (i / 32)
  obtain ⟨X, hX⟩ := Int.eq_ofNat_of_zero_le hx.1
  have hX2 : X < 4294967296 := by omega
  rw [hX, zcC _ _ (by simp [IntKind.bits]; omega)]
  have hle : X / 2 ^ (i % 32) ≤ X := Nat.div_le_self _ _
  have e := u32_and_nat (X / 2 ^ (i % 32)) 1 (by omega) (by omega)
  rw [Nat.and_one_is_mod] at e
  rw [show (1 : Int) = ((1 : Nat) : Int) from rfl, e]
  congr 2
  rw [zcy i, ← Nat.div_div_eq_div_mul, ← zcE h]
  have hd : l.drop (i / 32) = (X : Int) :: l.drop (i / 32 + 1) := by
   rw [List.drop_eq_getElem_cons (by omega)]
   congr 1
   rw [← hX, List.getD_eq_getElem?_getD, List.getElem?_eq_getElem (by omega)]; rfl
  rw [hd, zG, Int.toNat_natCast, ← pw (s := i % 32) (by omega), Nat.mul_assoc, Nat.add_mul_div_left _ _ (zm _)]
  have e3 : 2 ^ (32 - i % 32) = 2 * 2 ^ (31 - i % 32) := by
   rw [show 32 - i % 32 = (31 - i % 32) + 1 by omega, Nat.pow_succ, Nat.mul_comm]
  rw [e3, Nat.mul_assoc, Nat.add_mul_mod_self_left]
theorem zaV {l : List Int} (h : Dg l) : bl (V l) ≤ 32 * l.length := by
 apply zau
 have := zbi h
 rwa [show (4294967296 : Nat) = 2 ^ 32 from rfl, ← Nat.pow_mul] at this
theorem zbh {n k : Nat} (h : n < 4294967296 ^ k) : (D n).length ≤ k := by
 rcases Nat.lt_or_ge k (D n).length with h1 | h1
 ·have h2 := zeU (zD n) (by intro e; rw [e] at h1; simp at h1)
  rw [V_D] at h2
  have h3 : 4294967296 ^ k ≤ 4294967296 ^ ((D n).length - 1) := Nat.pow_le_pow_right (by omega) (by omega)
  omega
 ·exact h1
theorem zfG {l : List Int} (h : Dg l) (hl : l.length < 1000000000) : ∀ (n i : Nat), 32 * l.length - i ≤ n → i < 100000000000 → ∃ b : Nat, Ev (fun k => zQ.l0 k l i) (b : Int)
 | n, i, hn, hi => by
  have e32 : wrap64 (32 * (l.length : Int)) = ((32 * l.length : Nat) : Int) := by unfold wrap64; omega
  by_cases hlt : i < 32 * l.length
  ·have hb := zeF h hl i (by omega)
   generalize V l / 2 ^ i % 2 = z at hb
   by_cases h0 : z = 0
   ·have e1 : wrap64 ((i : Int) + 32) = ((i + 32 : Nat) : Int) := by unfold wrap64; omega
    have e2 : wrap64 ((i : Int) + 1) = ((i + 1 : Nat) : Int) := by unfold wrap64; omega
    cases n with
    | zero => omega
    | succ n =>
     obtain ⟨b1, hb1⟩ := zfG h hl n (i + 32) (by omega) (by omega)
     obtain ⟨b2, hb2⟩ := zfG h hl n (i + 1) (by omega) (by omega)
     by_cases hz : rd l (((i / 32 : Nat) : Int)) = 0
     ·refine ⟨b1, zf ?_⟩
      simp only [zQ.l0, e32, t32 (n := i) (by omega), e1, e2]
      subst h0
      refine zd (by omega) (zk hb ?_)
      exact zd (by simp) (zd nn (zd (by omega) (zd hz hb1)))
     ·refine ⟨b2, zf ?_⟩
      simp only [zQ.l0, e32, t32 (n := i) (by omega), e1, e2]
      subst h0
      refine zd (by omega) (zk hb ?_)
      exact zd (by simp) (zd nn (zd (by omega) (ze hz hb2)))
   ·refine ⟨i, zf ?_⟩
    simp only [zQ.l0, e32]
    refine zd (by omega) (zk hb ?_)
    exact ze (by simpa using h0) (ze (by omega) (Ev.now _))
  ·by_cases he : i = 32 * l.length
   ·refine ⟨0, zf ?_⟩
    simp only [zQ.l0, e32]
    exact ze (by omega) (zd (by omega) (Ev.now _))
   ·refine ⟨i, zf ?_⟩
    simp only [zQ.l0, e32]
    exact ze (by omega) (ze (by omega) (Ev.now _))
termination_by n => n
theorem zfF (A : List Int) (hA : Dg A) (hl : A.length < 1000000000) (b : Bool) {s : Nat} (hs : s < 32) : ∀ (a done pa : List Int), A = pa ++ a → done.length + a.length < 1000000000 → Dg done →
  Ev (fun k => z6.l0 k A b done s pa.length) (D (V (done ++ zan s a)), b)
 | [], done, pa, he, hd, hg => by
  have hlen : A.length = pa.length := by rw [he]; simp
  refine zf ?_
  simp only [z6.l0]
  (repeat (first | with_reducible refine ep ?_ | with_reducible refine en ?_))
  simp only [zan, List.append_nil]
  exact Ev.bind (zcc hg (by simp at hd; omega)) (Ev.now _)
 | d :: a, done, pa, he, hd, hg => by
  have hlen : A.length = pa.length + 1 + a.length := by rw [he]; simp; omega
  have hdd : 0 ≤ d ∧ d < 4294967296 := by rw [he] at hA; exact hA.right.head
  obtain ⟨X, rfl⟩ := Int.eq_ofNat_of_zero_le hdd.1
  have hX : X < 4294967296 := by omega
  have h1 : rd A (pa.length : Int) = (X : Int) := by rw [he]; exact zak rfl
  have hg2 : Dg (a) := by rw [he] at hA; exact hA.right.tail
  have hy := hg2.headD
  have ih := zfF A hA hl b hs a (done ++ [((X / 2 ^ s + 2 ^ (32 - s) * ((a.headD 0).toNat % 2 ^ s) : Nat) : Int)]) (pa ++ [(X : Int)]) (by rw [he]; simp) (by simp at hd ⊢; omega)
   (hg.app (Dg.cons nn (zes (zed X (a.headD 0).toNat s hs hX)) Dg.nil))
  rw [@List.length_append _ pa, List.length_singleton] at ih
  have hXs : X / 2 ^ s ≤ X := Nat.div_le_self _ _
  have e0 : ((X / 2 ^ s : Nat) : Int) % 4294967296 = ((X / 2 ^ s : Nat) : Int) := by
   generalize X / 2 ^ s = z at *; omega
  refine zf ?_
  simp only [z6.l0, h1, zaa (n := pa.length) (by omega)]
  (repeat (first | with_reducible refine ep ?_ | with_reducible refine en ?_))
  by_cases hn : a = []
  ·subst hn
   simp only [List.length_nil, Nat.add_zero] at hlen
   (repeat (first | with_reducible refine ep ?_ | with_reducible refine en ?_))
   rw [zdk _ hX, zcC _ _ (by simp [IntKind.bits]; omega), e0]
   refine zg (by simpa [zan] using ih) ?_
   simp [zan]
  ·obtain ⟨y, a', rfl⟩ := List.exists_cons_of_ne_nil hn
   obtain ⟨Y, rfl⟩ := Int.eq_ofNat_of_zero_le hy.1
   simp only [List.headD_cons] at hy ih
   have hlen' := hlen
   have w32 : wrap64 (32 - (s : Int)) = 32 - (s : Int) := by unfold wrap64; omega
   have hd' := hd
   simp only [List.length_cons] at hd'
   simp only [List.length_cons] at hlen'
   have h2 : rd A ((pa.length + 1 : Nat) : Int) = (Y : Int) := by rw [he, show pa ++ (X : Int) :: (Y : Int) :: a' = (pa ++ [(X : Int)]) ++ (Y : Int) :: a' by simp]; exact zak (by simp)
   simp only [h2, zlg X Y s hs hX (by omega)]
   (repeat (first | with_reducible refine ep ?_ | with_reducible refine en ?_))
   rw [Int.toNat_natCast] at ih
   refine zg ih ?_
   simp [zan]
theorem zlj {a : List Int} (ha : Nm a) (la : a.length < 100000000) (n : Nat) (hn : n < 1000000000) : ∃ b, Ev (fun k => z6.f k a n) (D (V a / 2 ^ n), b) := by
 unfold z6.f
 by_cases h : n ≥ bl (V a)
 ·refine ⟨decide ((a.length : Int) > 0), Ev.bind (zcz ha (by omega)) (zd (by omega) (zg (Ev.now _) ?_))⟩
  rw [Nat.div_eq_of_lt (Nat.lt_of_lt_of_le (zar _) (Nat.pow_le_pow_right (by omega) h)), zu]
 ·obtain ⟨b, hb⟩ := zfG ha.dg (by omega) _ 0 (Nat.le_refl _) (by omega)
  refine ⟨decide ((n : Int) > (b : Int)), Ev.bind (zcz ha (by omega)) (ze (by omega) (Ev.bind hb ?_))⟩
  simp only [t32 (n := n) (by omega), m32]
  have hbl := zaV ha.dg
  have hq : n / 32 ≤ a.length := by omega
  have h1 := zfF a ha.dg (by omega) (decide ((n : Int) > (b : Int))) (s := n % 32) (by omega) (a.drop (n / 32)) [] (a.take (n / 32)) (by simp) (by simp; omega) Dg.nil
  rw [List.length_take, Nat.min_eq_left hq, List.nil_append, ze5 ha.dg] at h1
  exact h1
theorem zgb : ∀ (q : List Int) (j y : Nat), Dg q → j < q.length → V (q.set j (q.getD j 0 + (y : Int))) = V q + 4294967296 ^ j * y
 | [], j, y, _, h => by simp at h
 | d :: q, 0, y, hg, _ => by
  have := hg.head
  simp; omega
 | d :: q, j + 1, y, hg, h => by
  have ih := zgb q j y hg.tail (by simpa using h)
  simp only [List.set_cons_succ, zG, List.getD_cons_succ, ih, Nat.pow_succ]
  generalize 4294967296 ^ j = p
  rw [Nat.mul_add, Nat.mul_comm p 4294967296, Nat.mul_assoc, Nat.add_assoc]
theorem ziU {q : List Int} (hg : Dg q) {i Qv : Nat} (hi : i / 32 < q.length) (hv : V q = Qv * 2 ^ (i + 1)) :
  V (q.set (i / 32) (Go.bits .or .u32 (rd q ((i / 32 : Nat) : Int)) (shl .u32 1 ((i % 32 : Nat) : Int)))) = V q + 2 ^ i ∧ Dg (q.set (i / 32) (Go.bits .or .u32 (rd q ((i / 32 : Nat) : Int)) (shl .u32 1 ((i % 32 : Nat) : Int)))) := by
 have hx := hg.getD (i / 32)
 obtain ⟨X, hX⟩ := Int.eq_ofNat_of_zero_le hx.1
 have hX2 : X < 4294967296 := by omega
 have hd : q.drop (i / 32) = (X : Int) :: q.drop (i / 32 + 1) := by
  rw [List.drop_eq_getElem_cons (by omega)]
  congr 1
  rw [← hX, List.getD_eq_getElem?_getD, List.getElem?_eq_getElem (by omega)]; rfl
 have h1 := zcE hg (i / 32)
 have hp : 0 < 4294967296 ^ (i / 32) := Nat.pow_pos (by omega)
 have e1 : 2 ^ (i + 1) = 4294967296 ^ (i / 32) * 2 ^ (i % 32 + 1) := by rw [Nat.pow_succ, zcy i, Nat.mul_assoc, ← Nat.pow_succ]
 rw [hv, e1, Nat.mul_left_comm, Nat.mul_div_cancel_left _ hp, hd, zG, Int.toNat_natCast] at h1
 have e2 : X % 2 ^ (i % 32 + 1) = 0 := by
  have h3 := congrArg (· % 2 ^ (i % 32 + 1)) h1
  simp only [Nat.mul_mod_left] at h3
  rw [← pw (s := i % 32 + 1) (by omega), Nat.mul_assoc, Nat.add_mul_mod_self_left] at h3
  exact h3
 obtain ⟨z, hz⟩ := Nat.dvd_of_mod_eq_zero e2
 have hlt : 2 ^ (i % 32) < 2 ^ (i % 32 + 1) := Nat.pow_lt_pow_right (by omega) (by omega)
 have hor : X ||| 2 ^ (i % 32) = X + 2 ^ (i % 32) := by rw [hz, ← Nat.two_pow_add_eq_or_of_lt hlt]
 have hple : 2 ^ (i % 32) ≤ 2 ^ 31 := Nat.pow_le_pow_right (by omega) (by omega)
 have hsum : X + 2 ^ (i % 32) < 4294967296 := by
  have h4 := pw (s := i % 32 + 1) (by omega)
  have h5 : z < 2 ^ (32 - (i % 32 + 1)) := by
   apply Nat.lt_of_mul_lt_mul_left (a := 2 ^ (i % 32 + 1)); rw [h4, ← hz]; exact hX2
  have h6 := Nat.mul_le_mul_left (2 ^ (i % 32 + 1)) (Nat.succ_le_of_lt h5)
  rw [h4, Nat.mul_succ, ← hz] at h6
  omega
 have hsh : shl .u32 1 ((i % 32 : Nat) : Int) = ((2 ^ (i % 32) : Nat) : Int) := by
  rw [show (1 : Int) = ((1 : Nat) : Int) from rfl, zhQ 1 (i % 32) (by omega), Nat.one_mul, Nat.mod_eq_of_lt (by omega)]
 have zdw : Go.bits .or .u32 (rd q ((i / 32 : Nat) : Int)) (shl .u32 1 ((i % 32 : Nat) : Int)) = q.getD (i / 32) 0 + ((2 ^ (i % 32) : Nat) : Int) := by
  rw [rdn, hX, hsh, u32_or_nat _ _ hX2 (by omega), hor]; simp
 rw [zdw]
 refine ⟨?_, hg.set _ (by omega) ?_⟩
 ·rw [zgb q _ _ hg hi, ← zcy]
 ·rw [hX]
  have := zes hsum
  rwa [Int.natCast_add] at this
theorem zdW {l : List Int} (h : Nm l) (h0 : l ≠ []) : V l ≠ 0 := fun e => h0 ((zcF h).1 e)
theorem zd8 {m n : Nat} : (zba m n ≥ 0) ↔ n ≤ m := by
 unfold zba; split
 ·constructor <;> intro h <;> omega
 ·split <;> constructor <;> intro h <;> omega
theorem zjr (n i : Nat) : n / 2 ^ i = 2 * (n / 2 ^ (i + 1)) + n / 2 ^ i % 2 := by
 rw [Nat.pow_succ, ← Nat.div_div_eq_div_mul]; omega
theorem zfO {a b : List Int} (ha : Nm a) (hb : Nm b) (la : a.length < 100000000) (lb : b.length < 100000000) : ∀ (i R Qv : Nat) (q : List Int), Dg q → q.length = a.length → i ≤ 32 * a.length → R < V b → V q = Qv * 2 ^ i → V a / 2 ^ i = Qv * V b + R →
  Ev (fun k => zV.l0 k a b q (D R) ((i : Int) - 1)) (D (V a / V b), D (V a % V b))
 | 0, R, Qv, q, hg, hq, hi, hR, hv, hs => by
  refine zf ?_
  simp only [zV.l0]
  refine ze (by omega) (Ev.bind (zcc hg (by omega)) (zg (Ev.now _) ?_))
  simp only [Nat.pow_zero, Nat.mul_one, Nat.div_one] at hv hs
  have h1 : V a / V b = Qv := by
   rw [hs, Nat.mul_comm, Nat.mul_add_div (by omega), Nat.div_eq_of_lt hR, Nat.add_zero]
  have h2 : V a % V b = R := by
   rw [hs, Nat.mul_comm, Nat.mul_add_mod, Nat.mod_eq_of_lt hR]
  rw [h1, h2, hv]
 | i + 1, R, Qv, q, hg, hq, hi, hR, hv, hs => by
  have e0 : ((i + 1 : Nat) : Int) - 1 = (i : Int) := by omega
  have e1 : wrap64 ((i : Int) - 1) = (i : Int) - 1 := zbg (by omega)
  have hbv := zbi hb.dg
  have hRl : (D R).length ≤ b.length := zbh (Nat.lt_trans hR hbv)
  have hpow : 4294967296 ^ (b.length + 1) = 4294967296 ^ b.length * 4294967296 := Nat.pow_succ ..
  have hdb := zjr (V a) i
  rw [hs] at hdb
  have hbit : V a / 2 ^ i % 2 = 0 ∨ V a / 2 ^ i % 2 = 1 := by omega
  have hup := zcd (zO R) (by omega) 1 (by omega)
  rw [V_D, Nat.pow_one] at hup
  have hr2 : (D (R * 2)).length ≤ b.length + 1 := zbh (by rw [hpow]; generalize 4294967296 ^ b.length = p at *; omega)
  have rest : ∀ r : Nat, r = R * 2 + V a / 2 ^ i % 2 → Ev (fun k => zV.j2 k a b q (D r) (i : Int)) (D (V a / V b), D (V a % V b)) := by
   intro r hr
   have hrl : (D r).length ≤ b.length + 1 := zbh (by rw [hpow]; generalize 4294967296 ^ b.length = p at *; omega)
   have hs2 : V a / 2 ^ i = 2 * Qv * V b + r := by rw [hdb, hr, Nat.mul_add, Nat.mul_assoc]; omega
   refine zf ?_
   simp only [zV.j2, t32 (n := i) (by omega), m32, e1]
   refine Ev.bind (zhD (zD r) hb (by omega)) ?_
   rw [V_D]
   by_cases hc : V b ≤ r
   ·refine zd (zd8.2 hc) ?_
    have hsub := zfJ (zD r) hb (by omega) (by rw [V_D]; exact hc)
    rw [V_D] at hsub
    refine Ev.bind hsub (zd nn (zd (by omega) (zd nn (zd nn (zd (by omega) ?_)))))
    have hset := ziU hg (i := i) (Qv := Qv) (by omega) hv
    rw [Int.toNat_natCast]
    refine zfO ha hb la lb i (r - V b) (2 * Qv + 1) _ hset.2 (by simp [hq]) (by omega) (by omega) ?_ ?_
    ·rw [hset.1, hv, Nat.pow_succ, Nat.add_mul, Nat.one_mul]
     congr 1
     rw [Nat.mul_comm (2 ^ i), Nat.mul_comm 2 Qv, Nat.mul_assoc]
    ·rw [hs2, Nat.add_mul, Nat.one_mul]; omega
   ·refine ze (fun h => hc (zd8.1 h)) ?_
    refine zfO ha hb la lb i r (2 * Qv) _ hg hq (by omega) (by omega) ?_ hs2
    rw [hv, Nat.pow_succ, Nat.mul_comm (2 ^ i), Nat.mul_comm 2 Qv, Nat.mul_assoc]
  rw [e0]
  refine zf ?_
  simp only [zV.l0]
  refine zd (by omega) (Ev.bind hup (zk (zeF ha.dg (by omega) i (by omega)) ?_))
  rcases hbit with h | h
  ·rw [h]
   exact ze (by omega) (rest _ (by rw [h]; omega))
  ·rw [h]
   refine zd rfl ?_
   have hadd := zeE (a := D (R * 2)) (b := [1]) (zO _) (Dg.cons (by omega) (by omega) Dg.nil) (by omega) (by simp)
   rw [V_D] at hadd
   exact Ev.bind hadd (rest _ (by rw [h]; simp))
theorem zlo {a b : List Int} (ha : Nm a) (hb : Nm b) (la : a.length < 10000000) (lb : b.length < 10000000) (h0 : b ≠ []) : Ev (fun k => zV.f k a b) (D (V a / V b), D (V a % V b)) := by
 unfold zV.f
 by_cases h1 : b.length = 1
 ·obtain ⟨d, rfl⟩ := List.length_eq_one_iff.1 h1
  have hd := hb.dg.head
  have hdne : d ≠ 0 := by
   have h2 := zdW hb (by simp)
   simp at h2; omega
  (repeat (first | with_reducible refine ep ?_ | with_reducible refine en ?_))
  have h3 := zhF ha.dg (by omega) (d := d) (by omega)
  have h4 : rd [d] 0 = d := by simp [rd]
  rw [h4]
  refine Ev.bind h3 (zg (Ev.now _) ?_)
  simp
 ·have hla := zaV ha.dg
  have hlb := zaV hb.dg
  have hb0 := zdW hb h0
  have hbp := zd2 hb0
  refine ze (by omega) (zd nn (zd (by simp; omega) (Ev.bind (zcz ha (by omega)) (Ev.bind (zcz hb (by omega)) ?_))))
  generalize hL : (bl (V a) + 1 - bl (V b)) = left
  have e1 : mx 0 (wrap64 (wrap64 (((bl (V a) : Nat) : Int) - ((bl (V b) : Nat) : Int)) + 1)) = (left : Int) := by
   unfold mx wrap64; split <;> omega
  have e2 : wrap64 ((left : Int) - 1) = (left : Int) - 1 := by unfold wrap64; omega
  simp only [e1, e2, Int.toNat_natCast]
  obtain ⟨x, hx⟩ := zlj ha (by omega) left (by omega)
  refine Ev.bind hx ?_
  have hq : V a / 2 ^ left < V b := by
   have h2 := ze0 hb0
   refine Nat.lt_of_lt_of_le ?_ h2
   rw [Nat.div_lt_iff_lt_mul (zm _), ← Nat.pow_add]
   exact Nat.lt_of_lt_of_le (zar _) (Nat.pow_le_pow_right (by omega) (by omega))
  exact zfO ha hb (by omega) (by omega) left (V a / 2 ^ left) 0 (List.replicate a.length 0) (Dg.zeros _) (by simp) (by omega) hq (by rw [zdY]; omega) (by omega)
theorem zh8 (a b : Nat) : Int.tmod (a : Int) (b : Int) = ((a % b : Nat) : Int) := rfl
theorem zkw (a b : Nat) : mx (a : Int) (b : Int) = ((max a b : Nat) : Int) := by unfold mx; split <;> omega
theorem zky {l : List Int} (h : Nm l) (hb : l.length ≤ 4096) : Ev (fun k => zai.f k l) ((bl (V l) : Nat) : Int) := by
 unfold zai.f
 refine zk (zcw h.dg (by omega)) ?_
 rw [zcu.2 ⟨hb, h⟩]
 (repeat (first | with_reducible refine ep ?_ | with_reducible refine en ?_))
 by_cases c : l.length = 0
 ·have : l = [] := List.eq_nil_of_length_eq_zero c
  subst this
  (repeat (first | with_reducible refine ep ?_ | with_reducible refine en ?_))
  exact zg (Ev.now _) rfl
 ·have e : wrap64 ((l.length : Int) - 1) = ((l.length - 1 : Nat) : Int) := by unfold wrap64; omega
  rw [e]
  clear e
  have hd := h.dg.getD (l.length - 1)
  have hne : l ≠ [] := fun e => c (by rw [e]; rfl)
  rw [rdn]
  (repeat (first | with_reducible refine ep ?_ | with_reducible refine en ?_))
  refine Ev.bind (zj8 hd) (zg (Ev.now _) ?_)
  rw [zgl h hne]
  generalize l.getD (l.length - 1) 0 = x at hd
  have hbn : bl x.toNat ≤ 32 := zau (by omega)
  unfold wrap64
  omega
def zab (n b : Nat) : Prop := ∃ m, n = 2 ^ b * (2 * m + 1)
theorem zab.ne {n b : Nat} (h : zab n b) : n ≠ 0 := by
 obtain ⟨m, h⟩ := h
 have := Nat.mul_pos (zm b) (show 0 < 2 * m + 1 by omega)
 omega
theorem zab.le {n b : Nat} (h : zab n b) : 2 ^ b ≤ n := by
 obtain ⟨m, h⟩ := h
 rw [h]; exact Nat.le_mul_of_pos_right _ (by omega)
theorem zab.mod {n b k : Nat} (h : zab n b) : n % 2 ^ k = 0 ↔ k ≤ b := by
 obtain ⟨m, h⟩ := h
 constructor
 ·intro hk
  rcases Nat.lt_or_ge b k with h1 | h1
  ·exfalso
   obtain ⟨d, rfl⟩ := Nat.exists_eq_add_of_lt h1
   have hd : 2 ^ (b + d + 1) ∣ 2 ^ b * (2 * m + 1) := by rw [← h]; exact Nat.dvd_of_mod_eq_zero hk
   rw [Nat.add_assoc, Nat.pow_add] at hd
   have h2 := Nat.dvd_of_mul_dvd_mul_left (zm b) hd
   rw [Nat.pow_succ] at h2
   have h3 : 2 ∣ 2 * m + 1 := Nat.dvd_trans (Nat.dvd_mul_left 2 _) h2
   omega
  ·exact h1
 ·intro hk
  obtain ⟨d, rfl⟩ := Nat.exists_eq_add_of_le hk
  rw [h, Nat.pow_add, Nat.mul_assoc]
  exact Nat.mul_mod_right _ _
theorem zab.unique {n b c : Nat} (h : zab n b) (k : zab n c) : b = c := by
 have h1 := (h.mod (k := b)).2 (Nat.le_refl _)
 have h2 := (k.mod (k := c)).2 (Nat.le_refl _)
 have h3 := k.mod.1 h1
 have h4 := h.mod.1 h2
 omega
theorem zjW {n b : Nat} (h : n % 2 ^ b = 0) (k : n / 2 ^ b % 2 = 1) : zab n b :=
 ⟨n / 2 ^ b / 2, by
  have h1 := Nat.div_add_mod n (2 ^ b)
  rw [h, Nat.add_zero] at h1
  have h2 : 2 * (n / 2 ^ b / 2) + 1 = n / 2 ^ b := by omega
  rw [h2, h1]⟩
theorem zgP {n b k : Nat} (h : zab n b) : zab (n * 2 ^ k) (b + k) := by
 obtain ⟨m, h⟩ := h
 exact ⟨m, by rw [h, Nat.pow_add, Nat.mul_assoc, Nat.mul_comm (2 * m + 1), ← Nat.mul_assoc]⟩
theorem zjX {x : Nat} (h : x ≠ 0) (hx : x < 4294967296) : zab x (Lib.ctz 32 x) ∧ Lib.ctz 32 x < 32 := by
 obtain ⟨m, h1, h2⟩ := Lib.ctzFrom_spec 32 x (by omega) hx
 unfold Lib.ctz
 rw [if_neg h]
 exact ⟨⟨m, h1⟩, h2⟩
theorem zjV {x r b : Nat} (h : zab x b) (hb : b < 32) : zab (x + 4294967296 * r) b := by
 obtain ⟨m, h⟩ := h
 obtain ⟨d, hd⟩ : ∃ d, 32 = b + (d + 1) := ⟨31 - b, by omega⟩
 have e : 4294967296 = 2 ^ b * (2 ^ d * 2) := by
  rw [← Nat.pow_succ, ← Nat.pow_add, Nat.succ_eq_add_one, ← hd]
 have e2 : 2 ^ b * (2 ^ d * 2) * r = 2 ^ b * (2 * (2 ^ d * r)) := by
  rw [Nat.mul_assoc, Nat.mul_comm (2 ^ d) 2, Nat.mul_assoc]
 refine ⟨m + 2 ^ d * r, ?_⟩
 rw [h, e, e2, ← Nat.mul_add]
 congr 1
 omega
def lw (n : Nat) : Nat := if n = 0 then 0 else Lib.ctzFrom n n
theorem zca {n : Nat} (h : n ≠ 0) : zab n (lw n) := by
 obtain ⟨m, h1, _⟩ := Lib.ctzFrom_spec n n (by omega) Nat.lt_two_pow_self
 unfold lw
 rw [if_neg h]
 exact ⟨m, h1⟩
theorem zet {n b : Nat} (h : zab n b) : lw n = b := (zca h.ne).unique h
theorem zmj {x : Int} (h : 0 ≤ x ∧ x < 4294967296) : zaG.f x = some ((Lib.ctz 32 x.toNat : Nat) : Int) := by
 unfold zaG.f
 rw [if_pos h]
theorem zmp {i b : Nat} (hi : i < 1000000) (hb : b < 32) : wrap64 (wrap64 (32 * (i : Int)) + (b : Int)) = ((b + 32 * i : Nat) : Int) := by unfold wrap64; omega
theorem zhf (A : List Int) (hA : Dg A) (hl : A.length < 1000000) : ∀ (a pa : List Int), A = pa ++ a → V pa = 0 → Ev (fun k => zaB.l0 k A A.length pa.length) ((lw (V A) : Nat) : Int)
 | [], pa, he, hv => by
  have hlen : A.length = pa.length := by rw [he]; simp
  refine zf ?_
  simp only [zaB.l0]
  (repeat (first | with_reducible refine ep ?_ | with_reducible refine en ?_))
  refine zg (Ev.now _) ?_
  have : V A = 0 := by rw [he, List.append_nil, hv]
  rw [this]; rfl
 | d :: a, pa, he, hv => by
  have hlen : A.length = pa.length + 1 + a.length := by rw [he]; simp; omega
  have hdd : 0 ≤ d ∧ d < 4294967296 := by rw [he] at hA; exact hA.right.head
  have h1 : rd A (pa.length : Int) = d := by rw [he]; exact zak rfl
  refine zf ?_
  simp only [zaB.l0, h1, zaa (n := pa.length) (by omega)]
  (repeat (first | with_reducible refine ep ?_ | with_reducible refine en ?_))
  by_cases h0 : d = 0
  ·refine ze (fun h => h h0) ?_
   have := zhf A hA hl a (pa ++ [0]) (by rw [he, h0]; simp) (by rw [zeY, hv])
   rwa [@List.length_append _ pa, List.length_singleton] at this
  ·refine zd h0 ?_
   refine zk (zmj hdd) ?_
   (repeat (first | with_reducible refine ep ?_ | with_reducible refine en ?_))
   refine zg (Ev.now _) ?_
   have hz := zjX (x := d.toNat) (by omega) (by omega)
   have e : V A = (d.toNat + 4294967296 * V a) * 2 ^ (32 * pa.length) := by
    rw [he, za9, hv, zG, Nat.zero_add, Nat.mul_comm, Nat.pow_mul]
   rw [e, zet (zgP (zjV hz.1 hz.2)), zmp (by omega) hz.2]
theorem zhb {a : List Int} (ha : Nm a) (la : a.length ≤ 4096) : Ev (fun k => zaB.f k a) ((lw (V a) : Nat) : Int) := by
 unfold zaB.f
 refine zk (zcw ha.dg (by omega)) ?_
 rw [zcu.2 ⟨la, ha⟩]
 (repeat (first | with_reducible refine ep ?_ | with_reducible refine en ?_))
 exact zhf a ha.dg (by omega) a [] rfl rfl
theorem ziC {l : List Int} (h : Dg l) (q : Nat) : V l / 4294967296 ^ q % 4294967296 = (l.getD q 0).toNat := by
 have h1 := zdm (l.drop q)
 rw [ze6, zcE h] at h1
 have h2 := h.getD q
 rw [h1, Nat.add_mul_mod_self_left, Nat.mod_eq_of_lt (by omega)]
theorem zkt {n i : Nat} (h : n % 2 ^ i = 0) (k : n / 2 ^ i % 2 = 0) : n % 2 ^ (i + 1) = 0 := by
 rw [Nat.pow_succ, Nat.mod_mul, h, k, Nat.mul_zero]
theorem zks {n q : Nat} (h : n % 2 ^ (32 * q) = 0) (k : n / 4294967296 ^ q % 4294967296 = 0) : n % 2 ^ (32 * q + 32) = 0 := by
 have e : 2 ^ (32 * q + 32) = 2 ^ (32 * q) * 4294967296 := by rw [Nat.pow_add]
 have e2 : 4294967296 ^ q = 2 ^ (32 * q) := by rw [Nat.pow_mul]
 rw [e, Nat.mod_mul, h, ← e2, k, Nat.mul_zero]
theorem zlv {l : List Int} (h : Dg l) {i : Nat} (hi : i = 32 * l.length) (hm : V l % 2 ^ i = 0) : V l = 0 := by
 have hv := zbi h
 have e2 : 4294967296 ^ l.length = 2 ^ (32 * l.length) := by rw [Nat.pow_mul]
 rw [e2, ← hi] at hv
 rwa [Nat.mod_eq_of_lt hv] at hm
theorem zjz {i m : Nat} (h : i < 32 * m) : ((i / 32 : Nat) : Int) < (m : Int) := by omega
theorem zhX {i : Nat} (h : i < 100000000000) : wrap64 ((i : Int) + 1) = ((i + 1 : Nat) : Int) ∧ wrap64 ((i : Int) + 32) = ((i + 32 : Nat) : Int) := by unfold wrap64; omega
theorem zlw {l : List Int} (h : Dg l) (hl : l.length < 1000000000) (n : Nat) : ∀ (i : Nat), 32 * l.length - i ≤ n → i ≤ 32 * l.length → V l % 2 ^ i = 0 → (i % 32 = 0 ∨ l.getD (i / 32) 0 ≠ 0) → Ev (fun k => zQ.l0 k l i) ((lw (V l) : Nat) : Int) := by
 induction n using Nat.strongRecOn with
 | _ n ih =>
  intro i hn hi hm hd
  have e32 : wrap64 (32 * (l.length : Int)) = ((32 * l.length : Nat) : Int) := by unfold wrap64; omega
  refine zf ?_
  simp only [zQ.l0, e32]
  by_cases hlt : i < 32 * l.length
  ·have hb := zeF h hl i (by clear hm hd; omega)
   refine zd (by clear hm hd; omega) ?_
   refine zk hb ?_
   have hi9 : i < 100000000000 := by clear hm hd; omega
   have hn1 : 32 * l.length - (i + 1) < n := by clear hm hd; omega
   have hn32 : 32 * l.length - (i + 32) < n := by clear hm hd; omega
   have hi1 : i + 1 ≤ 32 * l.length := hlt
   have hi32 : i % 32 = 0 → i + 32 ≤ 32 * l.length := by clear hm hd; omega
   have hne : i ≠ 32 * l.length := by clear hm hd; omega
   have et : wrap64 (Int.tdiv (i : Int) 32) = ((i / 32 : Nat) : Int) := t32 (by clear hm hd; omega)
   have hdv := zjz hlt
   simp only [et, rdn]
   rw [(zhX hi9).1, (zhX hi9).2]
   clear et e32
   rcases Nat.mod_two_eq_zero_or_one (V l / 2 ^ i) with hz | hz
   ·rw [hz]
    refine zd rfl (zd nn (zd hdv ?_))
    by_cases h0 : l.getD (i / 32) 0 = 0
    ·have hi0 : i % 32 = 0 := hd.resolve_right (fun h => h h0)
     have hi33 := hi32 hi0
     obtain ⟨q, hq0⟩ : ∃ q, i = 32 * q := ⟨i / 32, by clear hm hd hz; omega⟩
     subst hq0
     have hq : 32 * q / 32 = q := by clear hm hd hz; omega
     rw [hq] at h0
     rw [hq]
     refine zd h0 ?_
     refine ih _ hn32 (32 * q + 32) (Nat.le_refl _) hi33 (zks hm ?_) (.inl ?_)
     ·rw [ziC h, h0]; rfl
     ·clear hm hd hz; omega
    ·refine ze h0 ?_
     refine ih _ hn1 (i + 1) (Nat.le_refl _) hi1 (zkt hm hz) ?_
     clear hm hd hz
     rcases Nat.eq_zero_or_pos ((i + 1) % 32) with h1 | h1
     ·exact .inl h1
     ·have : (i + 1) / 32 = i / 32 := by omega
      rw [this]; exact .inr h0
   ·rw [hz]
    refine ze (by decide) ?_
    refine ze (fun e => hne (Int.ofNat.inj e)) ?_
    refine zg (Ev.now _) ?_
    rw [zet (zjW hm hz)]
  ·have hi2 : i = 32 * l.length := by clear hm hd; omega
   refine ze (by clear hm hd; omega) ?_
   refine zd (by rw [hi2]) ?_
   refine zg (Ev.now _) ?_
   rw [zlv h hi2 hm]; rfl
theorem zhE {l : List Int} (h : Dg l) (hl : l.length < 1000000000) : Ev (fun k => zQ.f k l) ((lw (V l) : Nat) : Int) := by
 unfold zQ.f
 exact zlw h hl _ 0 (Nat.le_refl _) (by omega) (by rw [Nat.pow_zero, Nat.mod_one]) (.inl rfl)
theorem zg2 {n k : Nat} (h : n ≠ 0) : k > lw n ↔ n % 2 ^ k ≠ 0 := by
 have := (zca h).mod (k := k)
 constructor
 ·intro h1 h2; have := this.1 h2; omega
 ·intro h1; rcases Nat.lt_or_ge (lw n) k with h2 | h2
  ·exact h2
  ·exact absurd (this.2 h2) h1
theorem zlk {a : List Int} (ha : Nm a) (la : a.length < 100000000) (n : Nat) (hn : n < 1000000000) : Ev (fun k => z6.f k a n) (D (V a / 2 ^ n), decide (V a % 2 ^ n ≠ 0)) := by
 unfold z6.f
 have hlt := zar (V a)
 by_cases h : n ≥ bl (V a)
 ·have hp : V a < 2 ^ n := Nat.lt_of_lt_of_le hlt (Nat.pow_le_pow_right (by omega) h)
  refine Ev.bind (zcz ha (by omega)) ?_
  (repeat (first | with_reducible refine ep ?_ | with_reducible refine en ?_))
  refine zg (Ev.now _) ?_
  rw [Nat.div_eq_of_lt hp, zu, Nat.mod_eq_of_lt hp]
  congr 1
  refine decide_eq_decide.2 ?_
  have := zcF ha
  have hl : a.length = 0 ↔ a = [] := List.length_eq_zero_iff
  constructor
  ·intro h1 h2; have := hl.2 (this.1 h2); omega
  ·intro h1
   rcases Nat.eq_zero_or_pos a.length with h3 | h3
   ·exact absurd (this.2 (hl.1 h3)) h1
   ·omega
 ·have h0 : V a ≠ 0 := by
   intro h0; rw [h0, zd4] at h; omega
  refine Ev.bind (zcz ha (by omega)) ?_
  (repeat (first | with_reducible refine ep ?_ | with_reducible refine en ?_))
  refine Ev.bind (zhE ha.dg (by omega)) ?_
  (repeat (first | with_reducible refine ep ?_ | with_reducible refine en ?_))
  have hd : decide ((n : Int) > ((lw (V a) : Nat) : Int)) = decide (V a % 2 ^ n ≠ 0) := decide_eq_decide.2 (by rw [← zg2 h0]; omega)
  rw [hd]
  simp only [t32 (n := n) (by omega), m32]
  have hbl := zaV ha.dg
  have hq : n / 32 ≤ a.length := by omega
  have h1 := zfF a ha.dg (by omega) (decide (V a % 2 ^ n ≠ 0)) (s := n % 32) (by omega) (a.drop (n / 32)) [] (a.take (n / 32)) (by simp) (by simp; omega) Dg.nil
  rw [List.length_take, Nat.min_eq_left hq, List.nil_append, ze5 ha.dg] at h1
  exact h1
def zbS (v : Nat) (n : Int) : List Int × Bool × Int :=
 if v = 0 then ([], false, 0) else if n < -131072 then ([], true, 0) else if n < 0 then (D (v / 2 ^ (-n).toNat), decide (v % 2 ^ (-n).toNat ≠ 0), 0) else if n > 131072 - (bl v : Int) then ([], false, 3) else (D (v * 2 ^ n.toNat), false, 0)
theorem zhc {a : List Int} (ha : Nm a) (la : a.length ≤ 4096) (n : Int) : Ev (fun k => zaj.f k a n) (zbS (V a) n) := by
 unfold zaj.f zbS
 refine zk (zcw ha.dg (by omega)) ?_
 rw [zcu.2 ⟨la, ha⟩]
 (repeat (first | with_reducible refine ep ?_ | with_reducible refine en ?_))
 by_cases c : a = []
 ·subst c
  (repeat (first | with_reducible refine ep ?_ | with_reducible refine en ?_))
  exact zg (Ev.now _) (by simp)
 have h0 : V a ≠ 0 := fun h => c ((zcF ha).1 h)
 have hl : a.length ≠ 0 := fun h => c (List.eq_nil_of_length_eq_zero h)
 have hbl := zaV ha.dg
 rw [if_neg h0]
 (repeat (first | with_reducible refine ep ?_ | with_reducible refine en ?_))
 by_cases h1 : n < -131072
 ·rw [if_pos h1]; exact zd h1 (Ev.now _)
 rw [if_neg h1]
 refine ze h1 ?_
 by_cases h2 : n < 0
 ·rw [if_pos h2]
  have e : wrap64 (-n) = (((-n).toNat : Nat) : Int) := by unfold wrap64; omega
  rw [e]
  clear e
  have hm : (-n).toNat ≤ 131072 := by omega
  generalize (-n).toNat = m at *
  refine zd h2 ?_
  refine Ev.bind (zkC ha.dg (by omega) m (by omega)) ?_
  (repeat (first | with_reducible refine ep ?_ | with_reducible refine en ?_))
  refine Ev.bind (zhb ha la) ?_
  (repeat (first | with_reducible refine ep ?_ | with_reducible refine en ?_))
  refine zg (Ev.now _) ?_
  congr 2
  exact decide_eq_decide.2 (by rw [← zg2 h0]; omega)
 ·rw [if_neg h2]
  have e : wrap64 (131072 - ((bl (V a) : Nat) : Int)) = 131072 - ((bl (V a) : Nat) : Int) := by unfold wrap64; omega
  refine ze h2 ?_
  refine Ev.bind (zky ha la) ?_
  (repeat (first | with_reducible refine ep ?_ | with_reducible refine en ?_))
  rw [e]
  clear e
  by_cases h3 : n > 131072 - ((bl (V a) : Nat) : Int)
  ·rw [if_pos h3]; exact zd h3 (Ev.now _)
  ·rw [if_neg h3]
   obtain ⟨m, rfl⟩ := Int.eq_ofNat_of_zero_le (show 0 ≤ n by omega)
   refine ze h3 ?_
   refine Ev.bind (zkE ha.dg (by omega) m (by omega)) ?_
   (repeat (first | with_reducible refine ep ?_ | with_reducible refine en ?_))
   refine zg (Ev.now _) ?_
   rw [Int.toNat_natCast]
theorem zdx {x k : Nat} (h : bl x ≤ 32 * k) : (D x).length ≤ k := by
 refine zbh ?_
 have e : 4294967296 ^ k = 2 ^ (32 * k) := by rw [Nat.pow_mul]
 rw [e]
 exact Nat.lt_of_lt_of_le (zar x) (Nat.pow_le_pow_right (by omega) h)
theorem zco (v m : Nat) : bl (v * 2 ^ m) ≤ bl v + m := by
 refine zau ?_
 rw [Nat.pow_add]
 exact Nat.mul_lt_mul_of_pos_right (zar v) (zm m)
theorem zd3 {v : Nat} (h : v ≠ 0) (m : Nat) : bl (v * 2 ^ m) = bl v + m := by
 rw [zbG (n := v * 2 ^ m) (k := m) (Nat.le_mul_of_pos_left _ (by omega)), Nat.mul_div_cancel _ (zm m), Nat.add_comm]
theorem zgm (v m : Nat) : bl (v / 2 ^ m) = bl v - m := by
 rcases Nat.lt_or_ge v (2 ^ m) with h | h
 ·rw [Nat.div_eq_of_lt h, zd4]
  have := zau h
  omega
 ·rw [zbG h]; omega
theorem zlF {v m : Nat} (h : bl v + m ≤ 131072) : zbS v (m : Int) = (D (v * 2 ^ m), false, 0) := by
 unfold zbS
 by_cases hv : v = 0
 ·rw [if_pos hv, hv, Nat.zero_mul, zu]
 ·rw [if_neg hv, if_neg (by omega), if_neg (by omega), if_neg (by omega), Int.toNat_natCast]
theorem zlE {v m : Nat} (h : bl v ≤ 131072) (hm : m ≤ 131072) : zbS v (-(m : Int)) = (D (v / 2 ^ m), decide (v % 2 ^ m ≠ 0), 0) := by
 by_cases hv : v = 0
 ·unfold zbS
  rw [if_pos hv, hv, Nat.zero_div, Nat.zero_mod, zu]; rfl
 rcases Nat.eq_zero_or_pos m with h0 | h0
 ·subst h0
  have e := zlF (v := v) (m := 0) (by omega)
  rw [Nat.pow_zero, Nat.mul_one] at e
  rw [Nat.pow_zero, Nat.div_one, Nat.mod_one]
  exact e
 ·unfold zbS
  have e : (-(-(m : Int))).toNat = m := by omega
  rw [if_neg hv, if_neg (by omega), if_pos (by omega), e]
theorem zka {a b L M : Nat} (ha : (D a).length ≤ L) (hb : (D b).length ≤ M) : (D (a * b)).length ≤ L + M := by
 refine zbh ?_
 rw [Nat.pow_add]
 exact Nat.mul_lt_mul'' (Nat.lt_of_lt_of_le (zbs a) (Nat.pow_le_pow_right (by omega) ha)) (Nat.lt_of_lt_of_le (zbs b) (Nat.pow_le_pow_right (by omega) hb))
theorem zlP {q x Q X N : Nat} (hq : q < 4294967296 ^ Q) (hx : x < 4294967296 ^ X) (h1 : Q < N) (h2 : X < N) : q + x < 4294967296 ^ N := by
 obtain ⟨m, rfl⟩ := Nat.exists_eq_add_of_lt (show 0 < N by omega)
 have a : 4294967296 ^ Q ≤ 4294967296 ^ m := Nat.pow_le_pow_right (by omega) (by omega)
 have b : 4294967296 ^ X ≤ 4294967296 ^ m := Nat.pow_le_pow_right (by omega) (by omega)
 rw [Nat.zero_add, Nat.pow_succ]
 generalize 4294967296 ^ m = p at *
 omega
def sv (s : Bool) (n : Nat) : Int := if s = true then -(n : Int) else n
theorem zda (s : Bool) (n : Nat) : (sv s n).natAbs = n := by unfold sv; split <;> simp
theorem zdb {s : Bool} {n : Nat} : sv s n = 0 ↔ n = 0 := by unfold sv; split <;> omega
theorem zfT {s : Bool} {n : Nat} (h : n ≠ 0) : decide (sv s n < 0) = s := by
 unfold sv
 cases s
 ·exact decide_eq_false (by simp)
 ·exact decide_eq_true (by simp; omega)
theorem zbV (s : Bool) : sv s 0 = 0 := by unfold sv; split <;> rfl
def mk (z e : Int) : Bool × List Int × Int := if z = 0 then (false, [], 0) else (decide (z < 0), D (z.natAbs / 2 ^ lw z.natAbs), e + (lw z.natAbs : Nat))
theorem zkk {n : Nat} (h : n ≠ 0) (k : Nat) : lw (n * 2 ^ k) = lw n + k := zet (zgP (zca h))
theorem zev (z e : Int) (k : Nat) : mk (z * 2 ^ k) e = mk z (e + k) := by
 unfold mk
 by_cases h : z = 0
 ·subst h; simp
 ·have hp : (0 : Int) < 2 ^ k := Int.pow_pos (by omega)
  have h1 : z * 2 ^ k ≠ 0 := Int.mul_ne_zero h (by omega)
  have hn : z.natAbs ≠ 0 := by omega
  have h2 : (z * 2 ^ k).natAbs = z.natAbs * 2 ^ k := by rw [Int.natAbs_mul, Int.natAbs_pow]; rfl
  have h3 : decide (z * 2 ^ k < 0) = decide (z < 0) := decide_eq_decide.2 (by
   constructor
   ·intro h4
    rcases (show z < 0 ∨ 0 ≤ z by omega) with h5 | h5
    ·exact h5
    ·have := Int.mul_nonneg h5 (Int.le_of_lt hp); omega
   ·intro h4; exact Int.mul_neg_of_neg_of_pos h4 hp)
  rw [if_neg h, if_neg h1, h2, h3, zkk hn]
  have h4 : z.natAbs * 2 ^ k / 2 ^ (lw z.natAbs + k) = z.natAbs / 2 ^ lw z.natAbs := by
   rw [Nat.pow_add]; exact Nat.mul_div_mul_right _ _ (zm k)
  rw [h4]
  congr 2
  omega
structure Dy (s : Bool) (l : List Int) (e : Int) : Prop where
 nm : Nm l
 none : l = [] → s = false ∧ e = 0
 odd : l ≠ [] → V l % 2 = 1
theorem zdz {n : Nat} (h : n % 2 = 1) : lw n = 0 := zet ⟨n / 2, by rw [Nat.pow_zero, Nat.one_mul]; omega⟩
theorem zfj {s : Bool} {l : List Int} {e : Int} (h : Dy s l e) : mk (sv s (V l)) e = (s, l, e) := by
 unfold mk
 by_cases c : l = []
 ·obtain ⟨h1, h2⟩ := h.none c
  subst c; subst h1; subst h2
  rfl
 ·have h1 := h.odd c
  have h0 : V l ≠ 0 := by omega
  rw [if_neg (fun h => h0 (zdb.1 h)), zda, zfT h0, zdz h1, Nat.pow_zero, Nat.div_one, h.nm]
  simp
theorem za8 (z e : Int) : Dy (mk z e).1 (mk z e).2.1 (mk z e).2.2 := by
 unfold mk
 by_cases h : z = 0
 ·rw [if_pos h]; exact ⟨zeW, fun _ => ⟨rfl, rfl⟩, fun h => absurd rfl h⟩
 ·rw [if_neg h]
  obtain ⟨m, hm⟩ := zca (n := z.natAbs) (by omega)
  have h1 : z.natAbs / 2 ^ lw z.natAbs = 2 * m + 1 := by
   have : z.natAbs / 2 ^ lw z.natAbs = 2 ^ lw z.natAbs * (2 * m + 1) / 2 ^ lw z.natAbs := by rw [← hm]
   rw [this, Nat.mul_div_cancel_left _ (zm _)]
  have h2 : D (z.natAbs / 2 ^ lw z.natAbs) ≠ [] := by rw [h1, zaU (by omega)]; simp
  exact ⟨zD _, fun h => absurd h h2, fun _ => by show V (D _) % 2 = 1; rw [V_D, h1]; omega⟩
theorem zdB (s : Bool) {n : Nat} (h : n ≠ 0) (e : Int) : mk (sv s n) e = (s, D (n / 2 ^ lw n), e + (lw n : Nat)) := by
 unfold mk
 rw [if_neg (fun h2 => h (zdb.1 h2)), zda, zfT h]
theorem zeu {n : Nat} (h : n ≠ 0) : lw n < bl n := by
 have h1 := (zca h).le
 rcases Nat.lt_or_ge (lw n) (bl n) with h2 | h2
 ·exact h2
 ·have h3 := zar n
  have h4 : 2 ^ bl n ≤ 2 ^ lw n := Nat.pow_le_pow_right (by omega) h2
  omega
theorem zcx {l : List Int} : (l.length : Int) = 0 ↔ l = [] := by
 constructor
 ·intro h; exact List.eq_nil_of_length_eq_zero (by omega)
 ·intro h; rw [h]; rfl
theorem zf4 {e : Int} {b : Nat} (h1 : -1000000000000000 ≤ e) (h2 : e ≤ 1000000000000000) (hb : b < 100000000000) : wrap64 (e + (b : Int)) = e + (b : Int) := by unfold wrap64; omega
theorem zbR (s : Bool) {l : List Int} (hl : Nm l) (ll : l.length < 10000000) {e : Int} (h1 : -1000000000000000 ≤ e) (h2 : e ≤ 1000000000000000) : Ev (fun k => zZ.f k s l e) (mk (sv s (V l)) e) := by
 unfold zZ.f
 by_cases c : l = []
 ·subst c
  (repeat (first | with_reducible refine ep ?_ | with_reducible refine en ?_))
  exact zg (Ev.now _) (by rw [zaF, zbV]; rfl)
 ·have h0 : V l ≠ 0 := fun h => c ((zcF hl).1 h)
  have hb := zaV hl.dg
  have hw := zeu h0
  refine ze (fun h => c (zcx.1 h)) ?_
  refine Ev.bind (zhE hl.dg (by omega)) ?_
  (repeat (first | with_reducible refine ep ?_ | with_reducible refine en ?_))
  refine Ev.bind (zlk hl (by omega) (lw (V l)) (by omega)) ?_
  (repeat (first | with_reducible refine ep ?_ | with_reducible refine en ?_))
  refine zg (Ev.now _) ?_
  rw [zdB s h0, zf4 h1 h2 (by omega)]
def zdA (s : Bool) (n : Nat) (e : Int) : Bool × List Int × Int × Int :=
 if n = 0 then (false, [], 0, 0) else if e > 16777216 - (lw n : Nat) then (false, [], 0, 20) else if e < -16777216 - (lw n : Nat) then (false, [], 0, 20) else ((mk (sv s n) e).1, (mk (sv s n) e).2.1, (mk (sv s n) e).2.2, 0)
theorem zgG (s : Bool) {l : List Int} (hl : Nm l) (ll : l.length ≤ 4096) (e : Int) : Ev (fun k => zao.f k s l e) (zdA s (V l) e) := by
 unfold zao.f zdA
 refine zk (zcw hl.dg (by omega)) ?_
 rw [zcu.2 ⟨ll, hl⟩]
 (repeat (first | with_reducible refine ep ?_ | with_reducible refine en ?_))
 by_cases c : l = []
 ·subst c
  (repeat (first | with_reducible refine ep ?_ | with_reducible refine en ?_))
  exact zg (Ev.now _) (by rw [zaF, if_pos rfl])
 ·have h0 : V l ≠ 0 := fun h => c ((zcF hl).1 h)
  have hb := zaV hl.dg
  have hw := zeu h0
  rw [if_neg h0]
  refine ze (fun h => c (zcx.1 h)) ?_
  refine Ev.bind (zhb hl ll) ?_
  (repeat (first | with_reducible refine ep ?_ | with_reducible refine en ?_))
  have e1 : wrap64 (16777216 - ((lw (V l) : Nat) : Int)) = 16777216 - ((lw (V l) : Nat) : Int) := by unfold wrap64; omega
  have e2 : wrap64 (-16777216 - ((lw (V l) : Nat) : Int)) = -16777216 - ((lw (V l) : Nat) : Int) := by unfold wrap64; omega
  have e3 : wrap64 (-((lw (V l) : Nat) : Int)) = -((lw (V l) : Nat) : Int) := by unfold wrap64; omega
  rw [e1, e2, e3]
  clear e1 e2 e3
  by_cases h1 : e > 16777216 - ((lw (V l) : Nat) : Int)
  ·rw [if_pos h1]; exact zd h1 (Ev.now _)
  rw [if_neg h1]
  refine ze h1 ?_
  by_cases h2 : e < -16777216 - ((lw (V l) : Nat) : Int)
  ·rw [if_pos h2]; exact zd h2 (Ev.now _)
  rw [if_neg h2]
  have hs := zhc hl ll (-((lw (V l) : Nat) : Int))
  rw [zlE (by omega) (by omega)] at hs
  refine ze h2 ?_
  refine Ev.bind hs ?_
  (repeat (first | with_reducible refine ep ?_ | with_reducible refine en ?_))
  refine zg (Ev.now _) ?_
  rw [zdB s h0, zf4 (by omega) (by omega) (by omega)]
def al (z e m : Int) : Int := z * 2 ^ (e - m).toNat
theorem zfi {z e m : Int} (h : m ≤ e) : mk (al z e m) m = mk z e := by
 unfold al
 rw [zev]
 congr 1
 omega
theorem zdn (e m : Int) : al 0 e m = 0 := by unfold al; rw [Int.zero_mul]
theorem zdZ {z e m n : Int} (h1 : m ≤ e) (h2 : n ≤ m) : al (al z e m) m n = al z e n := by
 unfold al
 rw [Int.mul_assoc, ← Int.pow_add]
 congr 2
 omega
theorem ziH (x y e m : Int) : al (x + y) e m = al x e m + al y e m := by unfold al; rw [Int.add_mul]
theorem zgh (s : Bool) (n : Nat) (e m : Int) : al (sv s n) e m = sv s (n * 2 ^ (e - m).toNat) := by
 unfold al sv
 split
 ·rw [Int.neg_mul, Int.natCast_mul, Int.natCast_pow]; rfl
 ·rw [Int.natCast_mul, Int.natCast_pow]; rfl
theorem zlQ (s : Bool) (x y : Nat) : sv s x + sv s y = sv s (x + y) := by unfold sv; split <;> omega
theorem zh0 {s t : Bool} (h : s ≠ t) {x y : Nat} (hl : y ≤ x) : sv s x + sv t y = sv s (x - y) := by
 unfold sv
 cases s <;> cases t <;> simp at h ⊢ <;> omega
theorem zhY (s : Bool) (n : Nat) : sv (!s) n = -sv s n := by unfold sv; cases s <;> simp
def zbE (za ea zb eb : Int) : Bool × List Int × Int := mk (al za ea (min ea eb) + al zb eb (min ea eb)) (min ea eb)
theorem zgf {za ea zb eb m : Int} (h1 : m ≤ ea) (h2 : m ≤ eb) : mk (al za ea m + al zb eb m) m = zbE za ea zb eb := by
 unfold zbE
 have h3 : m ≤ min ea eb := by omega
 rw [← zdZ (z := za) (e := ea) (m := min ea eb) (n := m) (by omega) h3, ← zdZ (z := zb) (e := eb) (m := min ea eb) (n := m) (by omega) h3, ← ziH]
 exact zfi h3
theorem ziE (ea zb eb : Int) : zbE 0 ea zb eb = mk zb eb := by
 unfold zbE; rw [zdn, Int.zero_add]; exact zfi (by omega)
theorem ziF (za ea eb : Int) : zbE za ea 0 eb = mk za ea := by
 unfold zbE; rw [zdn, Int.add_zero]; exact zfi (by omega)
theorem zij {l : List Int} (h : Dg l) {n : Nat} : (D (V l * 2 ^ n)).length ≤ l.length + n / 32 + 1 := by
 refine zdx (Nat.le_trans (zco _ _) ?_)
 have := zaV h
 omega
theorem zin {e m : Int} (h1 : -1000000000000000 ≤ e) (h2 : e ≤ 1000000000000000) (h3 : -1000000000000000 ≤ m) (h4 : m ≤ e) : wrap64 (e - m) = ((e - m).toNat : Int) := by unfold wrap64; omega
theorem zhA {sa sb : Bool} {la lb : List Int} {ea eb m : Int} (na : Nm la) (nb : Nm lb) (ha : la.length ≤ 1000000) (hb : lb.length ≤ 1000000) (h1 : m ≤ ea) (h2 : m ≤ eb) (h3 : (ea - m).toNat ≤ 100000000) (h4 : (eb - m).toNat ≤ 100000000) (hm : -100000000000000 ≤ m) (hM : m ≤ 100000000000000) :
  Ev (fun k => zaY.j2 k sa la ea sb lb eb false [] 0 m) (mk (al (sv sa (V la)) ea m + al (sv sb (V lb)) eb m) m) := by
 refine zf ?_
 simp only [zaY.j2]
 rw [zin (e := ea) (by omega) (by omega) (by omega) h1, zin (e := eb) (by omega) (by omega) (by omega) h2]
 rw [zgh, zgh]
 generalize (ea - m).toNat = p at *
 generalize (eb - m).toNat = q at *
 have l1 := zij na.dg (n := p)
 have l2 := zij nb.dg (n := q)
 refine Ev.bind (zcd na.dg (by omega) p (by omega)) ?_
 (repeat (first | with_reducible refine ep ?_ | with_reducible refine en ?_))
 refine Ev.bind (zcd nb.dg (by omega) q (by omega)) ?_
 (repeat (first | with_reducible refine ep ?_ | with_reducible refine en ?_))
 generalize V la * 2 ^ p = x at *
 generalize V lb * 2 ^ q = y at *
 by_cases hs : sa = sb
 ·subst hs
  have hadd := zeE (zO x) (zO y) (by omega) (by omega)
  rw [V_D, V_D] at hadd
  have l3 : (D (x + y)).length ≤ la.length + lb.length + p / 32 + q / 32 + 3 := by
   refine zbh ?_
   have h5 := zbs x
   have h6 := zbs y
   refine zlP (N := la.length + lb.length + p / 32 + q / 32 + 3) h5 h6 (by omega) (by omega)
  have hf := zbR sa (zD (x + y)) (by omega) (e := m) (by omega) (by omega)
  rw [V_D] at hf
  (repeat (first | with_reducible refine ep ?_ | with_reducible refine en ?_))
  refine Ev.bind hadd ?_
  (repeat (first | with_reducible refine ep ?_ | with_reducible refine en ?_))
  refine Ev.bind hf ?_
  (repeat (first | with_reducible refine ep ?_ | with_reducible refine en ?_))
  refine zg (Ev.now _) ?_
  rw [zlQ]
 ·refine ze (by simpa using hs) ?_
  refine Ev.bind (zhD (zD x) (zD y) (by omega)) ?_
  (repeat (first | with_reducible refine ep ?_ | with_reducible refine en ?_))
  rw [V_D, V_D]
  by_cases hc : y ≤ x
  ·have hsub := zfJ (zD x) (zD y) (by omega) (by rw [V_D, V_D]; exact hc)
   rw [V_D, V_D] at hsub
   have l3 : (D (x - y)).length ≤ (D x).length := zcm (Nat.sub_le _ _)
   have hf := zbR sa (zD (x - y)) (by omega) (e := m) (by omega) (by omega)
   rw [V_D] at hf
   refine zd (zd8.2 hc) ?_
   refine Ev.bind hsub ?_
   (repeat (first | with_reducible refine ep ?_ | with_reducible refine en ?_))
   refine Ev.bind hf ?_
   (repeat (first | with_reducible refine ep ?_ | with_reducible refine en ?_))
   refine zg (Ev.now _) ?_
   rw [zh0 hs hc]
  ·have hsub := zfJ (zD y) (zD x) (by omega) (by rw [V_D, V_D]; omega)
   rw [V_D, V_D] at hsub
   have l3 : (D (y - x)).length ≤ (D y).length := zcm (Nat.sub_le _ _)
   have hf := zbR sb (zD (y - x)) (by omega) (e := m) (by omega) (by omega)
   rw [V_D] at hf
   refine ze (fun h => hc (zd8.1 h)) ?_
   refine Ev.bind hsub ?_
   (repeat (first | with_reducible refine ep ?_ | with_reducible refine en ?_))
   refine Ev.bind hf ?_
   (repeat (first | with_reducible refine ep ?_ | with_reducible refine en ?_))
   refine zg (Ev.now _) ?_
   rw [Int.add_comm, zh0 (fun h => hs h.symm) (by omega)]
structure zdU (la : List Int) (ea : Int) (lb : List Int) (eb : Int) : Prop where
 a : la.length ≤ 1000000
 b : lb.length ≤ 1000000
 d : (ea - eb).natAbs ≤ 100000000
 e : -10000000000000 ≤ ea ∧ ea ≤ 10000000000000
theorem zlh {sa sb : Bool} {la lb : List Int} {ea eb : Int} (ha : Dy sa la ea) (hb : Dy sb lb eb) (h : zdU la ea lb eb) : Ev (fun k => zaY.f k sa la ea sb lb eb) (zbE (sv sa (V la)) ea (sv sb (V lb)) eb) := by
 obtain ⟨h1, h2, h3, h4⟩ := h
 unfold zaY.f
 by_cases c : la = []
 ·subst c
  (repeat (first | with_reducible refine ep ?_ | with_reducible refine en ?_))
  refine zg (Ev.now _) ?_
  rw [zaF, zbV, ziE, zfj hb]
 refine ze (fun h => c (zcx.1 h)) ?_
 by_cases c2 : lb = []
 ·subst c2
  (repeat (first | with_reducible refine ep ?_ | with_reducible refine en ?_))
  refine zg (Ev.now _) ?_
  rw [zaF, zbV, ziF, zfj ha]
 refine ze (fun h => c2 (zcx.1 h)) ?_
 by_cases c3 : eb < ea
 ·refine zd c3 ?_
  exact zg (zhA ha.nm hb.nm h1 h2 (by omega) (by omega) (by omega) (by omega) (by omega) (by omega)) (zgf (by omega) (by omega))
 ·refine ze c3 ?_
  exact zg (zhA ha.nm hb.nm h1 h2 (by omega) (by omega) (by omega) (by omega) (by omega) (by omega)) (zgf (by omega) (by omega))
theorem zgZ {l : List Int} (c : l ≠ []) : (l.length : Int) > 0 := by
 have := List.length_pos_iff.2 c
 omega
theorem zlm {s : Bool} {l : List Int} {e : Int} (h : Dy s l e) : zcM.f s l e = some (mk (-(sv s (V l))) e) := by
 unfold zcM.f
 by_cases c : l = []
 ·obtain ⟨h1, h2⟩ := h.none c
  subst c; subst h1; subst h2
  rfl
 ·have hl := zgZ c
  have h1 := h.odd c
  have h0 : V l ≠ 0 := by omega
  rw [if_pos hl, ← zhY, zdB _ h0, zdz h1, Nat.pow_zero, Nat.div_one, h.nm]
  simp
theorem zkm {z e : Int} : (mk z e).2.1 = D (z.natAbs / 2 ^ lw z.natAbs) := by
 unfold mk
 by_cases h : z = 0
 ·subst h; rw [if_pos rfl]; simp [zu]
 ·rw [if_neg h]
theorem zhZ {s : Bool} {n : Nat} (h : n ≠ 0) : (sv s n).sign = if s = true then -1 else 1 := by
 unfold sv
 split
 ·exact Int.sign_eq_neg_one_of_neg (by omega)
 ·exact Int.sign_eq_one_of_pos (by omega)
theorem zfI {s : Bool} {l : List Int} {e : Int} (h : Dy s l e) : zbY.f s l e = some (sv s (V l)).sign := by
 unfold zbY.f
 by_cases c : l = []
 ·subst c
  rw [if_pos (zcx.2 rfl), zaF, zbV]; rfl
 ·have h1 := h.odd c
  have h0 : V l ≠ 0 := by omega
  rw [if_neg (fun h => c (zcx.1 h)), zhZ h0]
  split <;> rfl
def top (z e : Int) : Int := if z = 0 then 0 else e + (bl z.natAbs : Nat)
theorem zfK {s : Bool} {l : List Int} {e : Int} (h : Dy s l e) (hl : l.length ≤ 1000000) (h1 : -1000000000000000 ≤ e) (h2 : e ≤ 1000000000000000) : Ev (fun k => zbb.f k s l e) (top (sv s (V l)) e) := by
 unfold zbb.f top
 by_cases c : l = []
 ·subst c
  (repeat (first | with_reducible refine ep ?_ | with_reducible refine en ?_))
  exact zg (Ev.now _) (by rw [zaF, zbV]; rfl)
 ·have h3 := h.odd c
  have h0 : V l ≠ 0 := by omega
  have hb := zaV h.nm.dg
  refine ze (fun h => c (zcx.1 h)) ?_
  refine Ev.bind (zcz h.nm (by omega)) ?_
  (repeat (first | with_reducible refine ep ?_ | with_reducible refine en ?_))
  refine zg (Ev.now _) ?_
  rw [if_neg (fun h => h0 (zdb.1 h)), zda, zf4 h1 h2 (by omega)]
theorem zlR (s t : Bool) (x y : Nat) : sv s x * sv t y = sv (s != t) (x * y) := by
 unfold sv
 cases s <;> cases t <;> simp [Int.mul_neg, Int.neg_mul]
theorem zkF (s t : Bool) : decide (¬ s = t) = (s != t) := by cases s <;> cases t <;> rfl
theorem zll {sa sb : Bool} {la lb : List Int} {ea eb : Int} (ha : Dy sa la ea) (hb : Dy sb lb eb) (l1 : la.length ≤ 1000000) (l2 : lb.length ≤ 1000000) (h1 : -100000000000000 ≤ ea) (h2 : ea ≤ 100000000000000) (h3 : -100000000000000 ≤ eb) (h4 : eb ≤ 100000000000000) :
  Ev (fun k => zaM.f k sa la ea sb lb eb) (mk (sv sa (V la) * sv sb (V lb)) (ea + eb)) := by
 unfold zaM.f
 have e : wrap64 (ea + eb) = ea + eb := by unfold wrap64; omega
 rw [e]
 have hl : (D (V la * V lb)).length ≤ la.length + lb.length := zka (by rw [ha.nm.len]; exact Nat.le_refl _) (by rw [hb.nm.len]; exact Nat.le_refl _)
 have hf := zbR (sa != sb) (zD (V la * V lb)) (by omega) (e := ea + eb) (by omega) (by omega)
 rw [V_D] at hf
 refine Ev.bind (zfH ha.nm.dg hb.nm.dg (by omega) (by omega)) ?_
 (repeat (first | with_reducible refine ep ?_ | with_reducible refine en ?_))
 rw [zkF]
 refine Ev.bind hf ?_
 (repeat (first | with_reducible refine ep ?_ | with_reducible refine en ?_))
 refine zg (Ev.now _) ?_
 rw [zlR]
theorem zlq {sa sb : Bool} {la lb : List Int} {ea eb : Int} (ha : Dy sa la ea) (hb : Dy sb lb eb) (h : zdU la ea lb eb) : Ev (fun k => zcN.f k sa la ea sb lb eb) (zbE (sv sa (V la)) ea (-(sv sb (V lb))) eb) := by
 unfold zcN.f
 have hn := za8 (-(sv sb (V lb))) eb
 have e1 : mk (-(sv sb (V lb))) eb = ((mk (-(sv sb (V lb))) eb).1, (mk (-(sv sb (V lb))) eb).2.1, (mk (-(sv sb (V lb))) eb).2.2) := rfl
 have hv : (mk (-(sv sb (V lb))) eb).2.1 = lb ∧ sv (mk (-(sv sb (V lb))) eb).1 (V lb) = -(sv sb (V lb)) ∧ (mk (-(sv sb (V lb))) eb).2.2 = eb := by
  by_cases c : lb = []
  ·obtain ⟨h1, h2⟩ := hb.none c
   subst c; subst h1; subst h2
   exact ⟨rfl, by rw [zaF, zbV, zbV]; rfl, rfl⟩
  ·have h3 := hb.odd c
   have h0 : V lb ≠ 0 := by omega
   rw [← zhY, zdB _ h0, zdz h3, Nat.pow_zero, Nat.div_one, hb.nm]
   exact ⟨rfl, rfl, by simp⟩
 refine zk (zlm hb) ?_
 (repeat (first | with_reducible refine ep ?_ | with_reducible refine en ?_))
 rw [hv.1, hv.2.2] at hn
 have ha2 := zlh ha hn h
 rw [hv.2.1] at ha2
 simp only [hv.1, hv.2.2]
 refine Ev.bind ha2 ?_
 (repeat (first | with_reducible refine ep ?_ | with_reducible refine en ?_))
 exact Ev.now _
theorem zlp {s : Bool} {l : List Int} {e n : Int} (h : Dy s l e) (h1 : -100000000000000 ≤ e) (h2 : e ≤ 100000000000000) (h3 : -100000000000000 ≤ n) (h4 : n ≤ 100000000000000) : zcq.f s l e n = some (mk (sv s (V l)) (e + n)) := by
 unfold zcq.f
 have ew : wrap64 (e + n) = e + n := by unfold wrap64; omega
 by_cases c : l = []
 ·obtain ⟨h1, h2⟩ := h.none c
  subst c; subst h1; subst h2
  rw [if_neg (by simp), zaF, zbV]; rfl
 ·have h5 := h.odd c
  have h0 : V l ≠ 0 := by omega
  rw [if_pos (zgZ c), zdB _ h0, zdz h5, Nat.pow_zero, Nat.div_one, h.nm, ew]
  simp
theorem zkp (z e : Int) : (sv (mk z e).1 (V (mk z e).2.1)).sign = z.sign := by
 unfold mk
 by_cases h : z = 0
 ·subst h; rfl
 ·rw [if_neg h]
  have hn : z.natAbs ≠ 0 := by omega
  have h1 : V (D (z.natAbs / 2 ^ lw z.natAbs)) ≠ 0 := by
   rw [V_D]
   have h2 := (zca hn).le
   have := Nat.div_pos h2 (zm _)
   omega
  show (sv (decide (z < 0)) (V (D (z.natAbs / 2 ^ lw z.natAbs)))).sign = z.sign
  rw [zhZ h1]
  by_cases h3 : z < 0
  ·rw [decide_eq_true h3, if_pos rfl, Int.sign_eq_neg_one_of_neg h3]
  ·rw [decide_eq_false h3, if_neg (by simp), Int.sign_eq_one_of_pos (by omega)]
theorem zkW (k : Nat) : (0 : Int) < 2 ^ k := Int.pow_pos (by omega)
theorem zbj (z e m : Int) : (al z e m).sign = z.sign := by
 unfold al
 rw [Int.sign_mul, Int.sign_eq_one_of_pos (zkW _), Int.mul_one]
theorem ziG (z e m : Int) : (al z e m).natAbs = z.natAbs * 2 ^ (e - m).toNat := by
 unfold al
 rw [Int.natAbs_mul, Int.natAbs_pow]; rfl
theorem zgg {z e m : Int} (h : z ≠ 0) (hm : m ≤ e) : ((bl (al z e m).natAbs : Nat) : Int) + m = top z e := by
 rw [ziG, zd3 (by omega)]
 unfold top
 rw [if_neg h]
 omega
theorem zg1 {x y : Nat} (h : bl x < bl y) : x < y := by
 rcases Nat.lt_or_ge x y with h1 | h1
 ·exact h1
 ·have := zcJ h1; omega
def zad (za ea zb eb : Int) : Int := (al za ea (min ea eb) - al zb eb (min ea eb)).sign
theorem zgw {a b : Int} : (a - b).sign = if a < b then -1 else if b < a then 1 else 0 := by
 split
 ·exact Int.sign_eq_neg_one_of_neg (by omega)
 ·split
  ·exact Int.sign_eq_one_of_pos (by omega)
  ·have : a - b = 0 := by omega
   rw [this]; rfl
theorem zby (z : Int) : (z < 0 ∧ z.sign = -1) ∨ (z = 0 ∧ z.sign = 0) ∨ (0 < z ∧ z.sign = 1) := by
 rcases Int.lt_trichotomy z 0 with h | h | h
 ·exact .inl ⟨h, Int.sign_eq_neg_one_of_neg h⟩
 ·exact .inr (.inl ⟨h, by rw [h]; rfl⟩)
 ·exact .inr (.inr ⟨h, Int.sign_eq_one_of_pos h⟩)
theorem zjc {a b : Int} (h : a.sign ≠ b.sign) : (a - b).sign = if a.sign < b.sign then -1 else 1 := by
 rw [zgw]
 rcases zby a with ⟨h1, e1⟩ | ⟨h1, e1⟩ | ⟨h1, e1⟩ <;> rcases zby b with ⟨h2, e2⟩ | ⟨h2, e2⟩ | ⟨h2, e2⟩ <;> rw [e1, e2] at h ⊢ <;> first | exact absurd rfl h | (simp <;> omega)
theorem zjb {a b : Int} (h : a.sign = b.sign) (h0 : a.sign ≠ 0) (hl : bl a.natAbs ≠ bl b.natAbs) : (a - b).sign = if (decide (bl a.natAbs < bl b.natAbs) == decide (a.sign > 0)) = true then -1 else 1 := by
 rw [zgw]
 have hlt : bl a.natAbs < bl b.natAbs ∨ bl b.natAbs < bl a.natAbs := by omega
 have hn : a.natAbs ≠ b.natAbs := fun e => hl (by rw [e])
 rcases hlt with h1 | h1
 ·have h2 := zg1 h1
  rw [decide_eq_true h1]
  rcases zby a with ⟨h3, e1⟩ | ⟨h3, e1⟩ | ⟨h3, e1⟩
  ·rw [e1] at h ⊢
   have : b < 0 := by rcases zby b with ⟨h4, e2⟩ | ⟨h4, e2⟩ | ⟨h4, e2⟩ <;> omega
   rw [if_neg (by omega), if_pos (by omega)]; rfl
  ·exact absurd e1 h0
  ·rw [e1] at h ⊢
   have : 0 < b := by rcases zby b with ⟨h4, e2⟩ | ⟨h4, e2⟩ | ⟨h4, e2⟩ <;> omega
   rw [if_pos (by omega)]; rfl
 ·have h2 := zg1 h1
  rw [decide_eq_false (by omega : ¬ bl a.natAbs < bl b.natAbs)]
  rcases zby a with ⟨h3, e1⟩ | ⟨h3, e1⟩ | ⟨h3, e1⟩
  ·rw [e1] at h ⊢
   have : b < 0 := by rcases zby b with ⟨h4, e2⟩ | ⟨h4, e2⟩ | ⟨h4, e2⟩ <;> omega
   rw [if_pos (by omega)]; rfl
  ·exact absurd e1 h0
  ·rw [e1] at h ⊢
   have : 0 < b := by rcases zby b with ⟨h4, e2⟩ | ⟨h4, e2⟩ | ⟨h4, e2⟩ <;> omega
   rw [if_neg (by omega), if_pos (by omega)]; rfl
theorem zi9 (za ea zb eb : Int) : zad za ea zb eb = (al za ea (min ea eb) - al zb eb (min ea eb)).sign := rfl
theorem zhR {z : Int} (h : z.sign ≠ 0) : z ≠ 0 := fun e => h (by rw [e]; rfl)
theorem zli {sa sb : Bool} {la lb : List Int} {ea eb : Int} (ha : Dy sa la ea) (hb : Dy sb lb eb) (h : zdU la ea lb eb) : Ev (fun k => zaI.f k sa la ea sb lb eb) (zad (sv sa (V la)) ea (sv sb (V lb)) eb) := by
 have hs := zlq ha hb h
 obtain ⟨h1, h2, h3, h4⟩ := h
 have ta := zfK ha h1 (by omega) (by omega)
 have tb := zfK hb h2 (by omega) (by omega)
 unfold zaI.f
 refine zk (zfI ha) ?_
 (repeat (first | with_reducible refine ep ?_ | with_reducible refine en ?_))
 refine zk (zfI hb) ?_
 (repeat (first | with_reducible refine ep ?_ | with_reducible refine en ?_))
 rw [zi9]
 generalize hza : sv sa (V la) = za at *
 generalize hzb : sv sb (V lb) = zb at *
 have hm1 : min ea eb ≤ ea := by omega
 have hm2 : min ea eb ≤ eb := by omega
 by_cases c : za.sign = zb.sign
 ·refine ze (fun h => h c) ?_
  by_cases c0 : za.sign = 0
  ·refine zd c0 ?_
   refine zg (Ev.now _) ?_
   have e1 : za = 0 := by rcases zby za with ⟨_, e⟩ | ⟨e, _⟩ | ⟨_, e⟩ <;> omega
   have e2 : zb = 0 := by rcases zby zb with ⟨_, e⟩ | ⟨e, _⟩ | ⟨_, e⟩ <;> omega
   rw [e1, e2, zdn, zdn]; rfl
  ·refine ze c0 ?_
   refine Ev.bind ta ?_
   (repeat (first | with_reducible refine ep ?_ | with_reducible refine en ?_))
   refine Ev.bind tb ?_
   (repeat (first | with_reducible refine ep ?_ | with_reducible refine en ?_))
   have ba := zgg (zhR c0) hm1
   have bb := zgg (z := zb) (zhR (by rw [← c]; exact c0)) hm2
   by_cases ct : top za ea = top zb eb
   ·refine ze (fun h => h ct) ?_
    refine Ev.bind hs ?_
    (repeat (first | with_reducible refine ep ?_ | with_reducible refine en ?_))
    have hd := za8 (al za ea (min ea eb) + al (-zb) eb (min ea eb)) (min ea eb)
    have hg : zbE za ea (-zb) eb = mk (al za ea (min ea eb) + al (-zb) eb (min ea eb)) (min ea eb) := rfl
    rw [hg]
    refine zk (zfI hd) ?_
    (repeat (first | with_reducible refine ep ?_ | with_reducible refine en ?_))
    refine zg (Ev.now _) ?_
    rw [zkp]
    congr 1
    unfold al
    rw [Int.neg_mul]; rfl
   ·refine zd ct ?_
    refine Ev.bind ta ?_
    (repeat (first | with_reducible refine ep ?_ | with_reducible refine en ?_))
    refine Ev.bind tb ?_
    (repeat (first | with_reducible refine ep ?_ | with_reducible refine en ?_))
    have hne : bl (al za ea (min ea eb)).natAbs ≠ bl (al zb eb (min ea eb)).natAbs := fun e => ct (by rw [← ba, ← bb, e])
    have hc := zjb (a := al za ea (min ea eb)) (b := al zb eb (min ea eb)) (by rw [zbj, zbj]; exact c) (by rw [zbj]; exact c0) hne
    rw [zbj] at hc
    have hd : decide (top za ea < top zb eb) = decide (bl (al za ea (min ea eb)).natAbs < bl (al zb eb (min ea eb)).natAbs) := decide_eq_decide.2 (by omega)
    rw [hc, hd]
    generalize decide (bl (al za ea (min ea eb)).natAbs < bl (al zb eb (min ea eb)).natAbs) = p
    generalize decide (za.sign > 0) = q
    by_cases cq : p = q
    ·exact zd cq (zg (Ev.now _) (by rw [if_pos (beq_iff_eq.2 cq)]))
    ·exact ze cq (zg (Ev.now _) (by rw [if_neg (fun h => cq (beq_iff_eq.1 h))]))
 ·refine zd c ?_
  have hc := zjc (a := al za ea (min ea eb)) (b := al zb eb (min ea eb)) (by rw [zbj, zbj]; exact c)
  rw [zbj, zbj] at hc
  rw [hc]
  by_cases c1 : za.sign < zb.sign
  ·refine zd c1 ?_
   exact zg (Ev.now _) (if_pos c1).symm
  ·refine ze c1 ?_
   exact zg (Ev.now _) (if_neg c1).symm
theorem zkG {n : Int} (h1 : -9223372036854775808 ≤ n) (h2 : n < 0) : IntKind.u64.wrap (-(IntKind.u64.wrap n)) = ((-n).toNat : Int) := by
 rw [za6, za6]; omega
theorem zc5 {n : Int} (h1 : -9223372036854775808 ≤ n) (h2 : n < 9223372036854775808) : Ev (fun k => zaf.f k n) (mk n 0) := by
 unfold zaf.f
 have hlen : ∀ m : Nat, m < 18446744073709551616 → (D m).length < 10000000 := fun m hm => by
  have : (D m).length ≤ 2 := zbh (by omega)
  omega
 by_cases c : n < 0
 ·rw [zkG h1 c]
  have o1 := zc6 (n := ((-n).toNat : Int)) (by omega) (by omega)
  rw [Int.toNat_natCast] at o1
  have f1 := zbR (decide (n < 0)) (zD (-n).toNat) (hlen _ (by omega)) (e := 0) (by omega) (by omega)
  rw [V_D, decide_eq_true c] at f1
  have e1 : sv true (-n).toNat = n := by unfold sv; rw [if_pos rfl]; omega
  rw [e1] at f1
  refine zd c ?_
  refine zf ?_
  simp only [zaf.j0]
  rw [decide_eq_true c]
  refine Ev.bind o1 ?_
  (repeat (first | with_reducible refine ep ?_ | with_reducible refine en ?_))
  refine Ev.bind f1 ?_
  (repeat (first | with_reducible refine ep ?_ | with_reducible refine en ?_))
  exact Ev.now _
 ·have e0 : IntKind.u64.wrap n = (n.toNat : Int) := by rw [za6]; omega
  rw [e0]
  have o1 := zc6 (n := (n.toNat : Int)) (by omega) (by omega)
  rw [Int.toNat_natCast] at o1
  have f1 := zbR (decide (n < 0)) (zD n.toNat) (hlen _ (by omega)) (e := 0) (by omega) (by omega)
  rw [V_D, decide_eq_false c] at f1
  have e1 : sv false n.toNat = n := by unfold sv; rw [if_neg (by simp)]; omega
  rw [e1] at f1
  refine ze c ?_
  refine zf ?_
  simp only [zaf.j0]
  rw [decide_eq_false c]
  refine Ev.bind o1 ?_
  (repeat (first | with_reducible refine ep ?_ | with_reducible refine en ?_))
  refine Ev.bind f1 ?_
  (repeat (first | with_reducible refine ep ?_ | with_reducible refine en ?_))
  exact Ev.now _
structure My (s : Bool) (l : List Int) (e : Int) : Prop where
 dy : Dy s l e
 len : l.length ≤ 4096
 lo : -16777216 ≤ e
 hi : e ≤ 16777216
theorem zkl {s : Bool} {n : Nat} {e : Int} (h1 : -16777216 ≤ e) (h2 : e + (bl n : Nat) ≤ 16777216) : zdA s n e = ((mk (sv s n) e).1, (mk (sv s n) e).2.1, (mk (sv s n) e).2.2, 0) := by
 unfold zdA
 by_cases h0 : n = 0
 ·rw [if_pos h0, h0, zbV]; rfl
 ·have := zeu h0
  rw [if_neg h0, if_neg (by omega), if_neg (by omega)]
def ok3 (d : Bool × List Int × Int) : Bool × List Int × Int × Int := (d.1, d.2.1, d.2.2, 0)
theorem zg3 {s : Bool} {n : Nat} {e : Int} (h1 : -16777216 ≤ e) (h2 : e + (bl n : Nat) ≤ 16777216) : zdA s n e = ok3 (mk (sv s n) e) := zkl h1 h2
structure Sm (s : Bool) (l : List Int) (e : Int) : Prop where
 dy : Dy s l e
 len : l.length ≤ 1000
 lo : -40000 ≤ e
 hi : e ≤ 40000
theorem Sm.my {s : Bool} {l : List Int} {e : Int} (h : Sm s l e) : My s l e := ⟨h.dy, Nat.le_trans h.len (by omega), by have := h.lo; omega, by have := h.hi; omega⟩
theorem ze3 {za ea zb eb m : Int} (h1 : m ≤ ea) (h2 : m ≤ eb) : (al za ea m - al zb eb m).sign = zad za ea zb eb := by
 unfold zad
 have h3 : m ≤ min ea eb := by omega
 rw [← zdZ (z := za) (e := ea) (m := min ea eb) (n := m) (by omega) h3, ← zdZ (z := zb) (e := eb) (m := min ea eb) (n := m) (by omega) h3]
 generalize al za ea (min ea eb) = x
 generalize al zb eb (min ea eb) = y
 have e : al x (min ea eb) m - al y (min ea eb) m = al (x - y) (min ea eb) m := by unfold al; rw [Int.sub_mul]
 rw [e, zbj]
theorem zcK (n : Nat) (h : n < 18446744073709551616) : (BitVec.ofInt 64 (n : Int)).toNat = n := by
 rw [BitVec.ofInt_natCast, BitVec.toNat_ofNat]; exact Nat.mod_eq_of_lt (by omega)
theorem zgj (a b : Nat) (ha : a < 18446744073709551616) (hb : b < 18446744073709551616) : Go.bits .and .u64 (a : Int) (b : Int) = ((a &&& b : Nat) : Int) := by
 show IntKind.u64.wrap ((BitVec.ofInt 64 (a : Int) &&& BitVec.ofInt 64 (b : Int)).toNat : Int) = _
 have hx : a &&& b < 2 ^ 64 := Nat.and_lt_two_pow _ (by omega)
 rw [BitVec.toNat_and, zcK a ha, zcK b hb, za6]
 omega
theorem zdG (a b : Nat) (ha : a < 18446744073709551616) (hb : b < 18446744073709551616) : Go.bits .or .u64 (a : Int) (b : Int) = ((a ||| b : Nat) : Int) := by
 show IntKind.u64.wrap ((BitVec.ofInt 64 (a : Int) ||| BitVec.ofInt 64 (b : Int)).toNat : Int) = _
 have hx : a ||| b < 2 ^ 64 := Nat.or_lt_two_pow (by omega) (by omega)
 rw [BitVec.toNat_or, zcK a ha, zcK b hb, za6]
 omega
theorem ziM (a b : Nat) (ha : a < 18446744073709551616) (hb : b < 18446744073709551616) : Go.bits .andNot .u64 (a : Int) (b : Int) = ((a &&& (18446744073709551616 - 1 - b) : Nat) : Int) := by
 show IntKind.u64.wrap ((BitVec.ofInt 64 (a : Int) &&& ~~~(BitVec.ofInt 64 (b : Int))).toNat : Int) = _
 have hx : a &&& (18446744073709551616 - 1 - b) < 2 ^ 64 := Nat.and_lt_two_pow _ (by omega)
 rw [BitVec.toNat_and, BitVec.toNat_not, zcK a ha, zcK b hb, za6]
 have e : 2 ^ 64 - 1 - b = 18446744073709551616 - 1 - b := by omega
 rw [e]
 omega
theorem ziP (a k : Nat) (ha : a < 18446744073709551616) (hk : k ≤ 63) : Go.bits .and .u64 (a : Int) ((2 ^ k - 1 : Nat) : Int) = ((a % 2 ^ k : Nat) : Int) := by
 have h1 : 2 ^ k ≤ 2 ^ 63 := Nat.pow_le_pow_right (by omega) hk
 rw [zgj a _ ha (by omega), Nat.and_two_pow_sub_one_eq_mod]
theorem ziN (w k : Nat) (hk : k ≤ 63) (hw : w < 2 ^ (k + 1)) : Go.bits .andNot .u64 (w : Int) ((2 ^ k : Nat) : Int) = ((w % 2 ^ k : Nat) : Int) := by
 have h1 : 2 ^ k ≤ 2 ^ 63 := Nat.pow_le_pow_right (by omega) hk
 have h2 : 2 ^ (k + 1) ≤ 2 ^ 64 := Nat.pow_le_pow_right (by omega) (by omega)
 rw [ziM w _ (by omega) (by omega)]
 congr 1
 apply Nat.eq_of_testBit_eq
 intro i
 have e : 18446744073709551616 - 1 - 2 ^ k = 2 ^ 64 - (2 ^ k + 1) := by omega
 rw [Nat.testBit_and, Nat.testBit_mod_two_pow, e, Nat.testBit_two_pow_sub_succ (by omega), Nat.testBit_two_pow]
 rcases Nat.lt_trichotomy i k with h | h | h
 ·have h3 : i < 64 := by omega
  have h4 : ¬ k = i := by omega
  simp [h, h3, h4]
 ·subst h; simp
 ·have h3 : w.testBit i = false := Nat.testBit_lt_two_pow (Nat.lt_of_lt_of_le hw (Nat.pow_le_pow_right (by omega) (by omega)))
  have h4 : ¬ i < k := by omega
  simp [h3, h4]
theorem ziQ (w k : Nat) (hk : k ≤ 63) (hw : w < 2 ^ (k + 1)) : Go.bits .and .u64 (w : Int) ((2 ^ k : Nat) : Int) = ((w / 2 ^ k * 2 ^ k : Nat) : Int) := by
 have h1 : 2 ^ k ≤ 2 ^ 63 := Nat.pow_le_pow_right (by omega) hk
 have h2 : 2 ^ (k + 1) ≤ 2 ^ 64 := Nat.pow_le_pow_right (by omega) (by omega)
 rw [zgj w _ (by omega) (by omega)]
 congr 1
 apply Nat.eq_of_testBit_eq
 intro i
 rw [Nat.testBit_and, Nat.testBit_two_pow, Nat.testBit_mul_two_pow, Nat.testBit_div_two_pow]
 rcases Nat.lt_trichotomy i k with h | h | h
 ·have h3 : ¬ k = i := by omega
  have h4 : ¬ k ≤ i := by omega
  simp [h3, h4]
 ·subst h; simp
 ·have h3 : w.testBit i = false := Nat.testBit_lt_two_pow (Nat.lt_of_lt_of_le hw (Nat.pow_le_pow_right (by omega) (by omega)))
  have h4 : ¬ k = i := by omega
  have h5 : i - k + k = i := by omega
  simp [h3, h4, h5]
theorem zhl (a b k : Nat) (hb : b < 2 ^ k) (h : a * 2 ^ k + b < 18446744073709551616) : Go.bits .or .u64 ((a * 2 ^ k : Nat) : Int) (b : Int) = ((a * 2 ^ k + b : Nat) : Int) := by
 rw [zdG _ _ (by omega) (by omega)]
 congr 1
 rw [Nat.mul_comm]
 exact (Nat.two_pow_add_eq_or_of_lt hb a).symm
theorem zhj (a b : Nat) (ha : a < 18446744073709551616) (hb : b < 18446744073709551616) : Go.bits .or .u64 (a : Int) (b : Int) = Go.bits .or .u64 (b : Int) (a : Int) := by
 rw [zdG a b ha hb, zdG b a hb ha, Nat.or_comm]
def isF (f : Int) : Prop := f = 1 ∨ f = 2
def fb (f : Int) : Nat := if f = 1 then 23 else 52
def mo (f : Int) : Nat := if f = 1 then 255 else 2047
def sk (f : Int) : Nat := if f = 1 then 31 else 63
def sg (f : Int) : Nat := if f = 1 then 2147483648 else 9223372036854775808
theorem zhP {f : Int} (h : isF f) : zdS.f f = some ((fb f : Int), (mo f : Int), (sg f : Int), true) := by
 rcases h with rfl | rfl <;> rfl
theorem zim {f : Int} (h : isF f) : Ev (fun k => zF.f k f []) ((fb f : Int), (mo f : Int), (sg f : Int), 0) := by
 unfold zF.f
 refine zk (zhP h) ?_
 (repeat (first | with_reducible refine ep ?_ | with_reducible refine en ?_))
 refine zf ?_
 simp only [zF.l0]
 (repeat (first | with_reducible refine ep ?_ | with_reducible refine en ?_))
 exact Ev.now _
theorem zkv {f : Int} (h : isF f) : Go.bits .or .u64 (sg f : Int) (IntKind.u64.wrap ((sg f : Int) - 1)) = ((2 * sg f - 1 : Nat) : Int) := by
 rcases h with rfl | rfl
 ·have e : IntKind.u64.wrap (((sg 1 : Nat) : Int) - 1) = ((2147483647 : Nat) : Int) := by rw [za6]; rfl
  rw [e, zdG _ _ (by decide) (by decide)]; rfl
 ·have e : IntKind.u64.wrap (((sg 2 : Nat) : Int) - 1) = ((9223372036854775807 : Nat) : Int) := by rw [za6]; rfl
  rw [e, zdG _ _ (by decide) (by decide)]; rfl
theorem zcB {f : Int} (h : isF f) : 0 < sg f ∧ 2 * sg f ≤ 18446744073709551616 := by rcases h with rfl | rfl <;> decide
theorem zdJ {f : Int} (h : isF f) : sg f = 2 ^ sk f := by rcases h with rfl | rfl <;> decide
theorem zhT {f : Int} (h : isF f) : sk f ≤ 63 := by rcases h with rfl | rfl <;> decide
def zbM (f : Int) (w : Nat) : Int := if w < 2 * sg f then 0 else 6
theorem zeQ {f : Int} (h : isF f) (w : Nat) : Ev (fun k => zF.f k f [(w : Int)]) ((fb f : Int), (mo f : Int), (sg f : Int), zbM f w) := by
 have hp := zcB h
 unfold zF.f zbM
 have e1 : wrap64 (0 + 1) = 1 := by rw [zaE (by omega) (by omega)]; rfl
 have el : (([(w : Int)] : List Int).length : Int) = 1 := rfl
 have er : rd [(w : Int)] 0 = (w : Int) := rfl
 refine zk (zhP h) ?_
 (repeat (first | with_reducible refine ep ?_ | with_reducible refine en ?_))
 refine zf ?_
 simp only [zF.l0, el, e1, er, zkv h]
 (repeat (first | with_reducible refine ep ?_ | with_reducible refine en ?_))
 by_cases c : w < 2 * sg f
 ·rw [if_pos c]
  (repeat (first | with_reducible refine ep ?_ | with_reducible refine en ?_))
  refine zf ?_
  simp only [zF.l0, el]
  (repeat (first | with_reducible refine ep ?_ | with_reducible refine en ?_))
  exact Ev.now _
 ·rw [if_neg c]
  (repeat (first | with_reducible refine ep ?_ | with_reducible refine en ?_))
  exact Ev.now _
theorem zlG {f : Int} (h : isF f) : shl .u64 ((mo f : Nat) : Int) ((fb f : Nat) : Int) = ((mo f * 2 ^ fb f : Nat) : Int) := by
 rcases h with rfl | rfl <;> decide
theorem zfg {f : Int} (h : isF f) : zaT.f (fb f : Int) (mo f : Int) (sg f : Int) = some ((mo f * 2 ^ fb f : Nat) : Int) := by
 unfold zaT.f
 have hm : mo f < 10000 := by rcases h with rfl | rfl <;> decide
 rw [if_pos (by omega), u64 (by omega) (by omega), zlG h]
def cls (f : Int) (w : Nat) : Int :=
 if w % sg f = 0 then 1 else if w % sg f < 2 ^ fb f then 2 else if w % sg f < mo f * 2 ^ fb f then 3 else if w % sg f = mo f * 2 ^ fb f then 4 else 5
theorem zhS {f : Int} (h : isF f) {w : Nat} (hw : w < 2 * sg f) : Go.bits .andNot .u64 (w : Int) (sg f : Int) = ((w % sg f : Nat) : Int) := by
 rw [zdJ h] at hw ⊢
 exact ziN w (sk f) (zhT h) (by rw [Nat.pow_succ, Nat.mul_comm]; exact hw)
theorem zdF {f : Int} (h : isF f) : shl .u64 1 ((fb f : Nat) : Int) = ((2 ^ fb f : Nat) : Int) := by rcases h with rfl | rfl <;> decide
theorem zgs {f : Int} (h : isF f) {w : Nat} (hw : w < 2 * sg f) : zck.f (fb f : Int) (mo f : Int) (sg f : Int) (w : Int) = some (cls f w) := by
 unfold zck.f cls
 rw [zhS h hw, zdF h]
 generalize w % sg f = z
 by_cases c1 : z = 0
 ·rw [if_pos (by omega), if_pos c1]
 rw [if_neg (by omega), if_neg c1, if_pos (by omega)]
 by_cases c2 : z < 2 ^ fb f
 ·rw [if_pos (by omega), if_pos c2]
 rw [if_neg (by omega), if_neg c2, zfg h, Option.bind_some]
 by_cases c3 : z < mo f * 2 ^ fb f
 ·rw [if_pos (by omega), if_pos c3]
 rw [if_neg (by omega), if_neg c3, Option.bind_some]
 by_cases c4 : z = mo f * 2 ^ fb f
 ·rw [if_pos (by omega), if_pos c4]
 ·rw [if_neg (by omega), if_neg c4]
theorem zmx {f : Int} (h : isF f) {w : Nat} (hw : w < 2 * sg f) : Ev (fun k => zci.f k f (w : Int)) (cls f w, 0) := by
 have ho := zeQ h w
 unfold zbM at ho
 rw [if_pos hw] at ho
 unfold zci.f
 refine Ev.bind ho ?_
 (repeat (first | with_reducible refine ep ?_ | with_reducible refine en ?_))
 refine zk (zgs h hw) ?_
 (repeat (first | with_reducible refine ep ?_ | with_reducible refine en ?_))
 exact Ev.now _
def zn (f : Int) (w : Nat) : Bool := decide (sg f ≤ w)
def zI (f : Int) (w : Nat) : Nat := w % sg f / 2 ^ fb f
def zN (f : Int) (w : Nat) : Nat := w % sg f % 2 ^ fb f
theorem zcZ {f : Int} (h : isF f) : fb f ≤ 52 := by rcases h with rfl | rfl <;> decide
theorem zfP {f : Int} (h : isF f) : sg f = 2 ^ fb f * (mo f + 1) := by rcases h with rfl | rfl <;> decide
theorem pfb {f : Int} (h : isF f) : 2 ^ fb f ≤ 4503599627370496 := by rcases h with rfl | rfl <;> decide
theorem zcv {f : Int} (h : isF f) : mo f ≤ 2047 := by rcases h with rfl | rfl <;> decide
theorem zhW {f : Int} (h : isF f) {w : Nat} (hw : w < 2 * sg f) : zcl.f (fb f : Int) (mo f : Int) (sg f : Int) (w : Int) = some (zn f w, (zI f w : Int), (zN f w : Int)) := by
 have hp := zcB h
 have hk := zhT h
 have h52 := zcZ h
 have hpw := pfb h
 have hpp := zm (fb f)
 unfold zcl.f
 rw [zhS h hw, zdF h]
 have h1 : Go.bits .and .u64 (w : Int) (sg f : Int) = ((w / sg f * sg f : Nat) : Int) := by
  rw [zdJ h] at hw ⊢
  exact ziQ w (sk f) hk (by rw [Nat.pow_succ, Nat.mul_comm]; exact hw)
 have hz : w % sg f < sg f := Nat.mod_lt _ hp.1
 have h2 : IntKind.u64.wrap (((2 ^ fb f : Nat) : Int) - 1) = ((2 ^ fb f - 1 : Nat) : Int) := by rw [za6]; omega
 have h3 := ziP (w % sg f) (fb f) (by omega) (by omega)
 have h4 : shr .u64 ((w % sg f : Nat) : Int) ((fb f : Nat) : Int) = ((w % sg f / 2 ^ fb f : Nat) : Int) := zcC _ _ (by show fb f ≤ 64; omega)
 have h5 : wrap64 ((w % sg f / 2 ^ fb f : Nat) : Int) = ((w % sg f / 2 ^ fb f : Nat) : Int) := by
  have hq : w % sg f / 2 ^ fb f < mo f + 1 := Nat.div_lt_of_lt_mul (by rw [← zfP h]; exact hz)
  have hm := zcv h
  clear h1 h2 h3 h4
  generalize w % sg f / 2 ^ fb f = q at hq ⊢
  exact zaE (by omega) (by omega)
 rw [h1, h2, h3, h4, h5]
 have h6 : (decide (¬ (((w / sg f * sg f : Nat) : Int) = 0))) = zn f w := by
  unfold zn
  by_cases c : sg f ≤ w
  ·have : w / sg f = 1 := Nat.div_eq_of_lt_le (by omega) (by omega)
   rw [this, decide_eq_true c]
   exact decide_eq_true (by omega)
  ·rw [Nat.div_eq_of_lt (by omega), decide_eq_false c]
   simp
 rw [h6, if_pos (by omega)]
 rfl
theorem zmA {f : Int} (h : isF f) {w : Nat} (hw : w < 2 * sg f) : Ev (fun k => zdh.f k f (w : Int)) (zn f w, (zI f w : Int), (zN f w : Int), 0) := by
 have ho := zeQ h w
 unfold zbM at ho
 rw [if_pos hw] at ho
 unfold zdh.f
 refine Ev.bind ho ?_
 (repeat (first | with_reducible refine ep ?_ | with_reducible refine en ?_))
 refine zk (zhW h hw) ?_
 (repeat (first | with_reducible refine ep ?_ | with_reducible refine en ?_))
 exact Ev.now _
def lo (f : Int) : Int := if f = 1 then -149 else -1074
theorem zg0 {f : Int} (h : isF f) : za7.f (fb f : Int) (mo f : Int) (sg f : Int) = some (lo f) := by
 unfold za7.f
 have e : wrap64 (Int.tdiv ((mo f : Nat) : Int) 2) = ((mo f / 2 : Nat) : Int) := by
  have := zcv h
  exact zaE (by show (0 : Int) ≤ ((mo f / 2 : Nat) : Int); omega) (by show ((mo f / 2 : Nat) : Int) < _; omega)
 have hm := zcv h
 have hb := zcZ h
 rw [e]
 have e2 : wrap64 (1 - ((mo f / 2 : Nat) : Int)) = 1 - ((mo f / 2 : Nat) : Int) := by unfold wrap64; omega
 rw [e2]
 have e3 : wrap64 (1 - ((mo f / 2 : Nat) : Int) - ((fb f : Nat) : Int)) = 1 - ((mo f / 2 : Nat) : Int) - ((fb f : Nat) : Int) := by unfold wrap64; omega
 rw [e3]
 rcases h with rfl | rfl <;> rfl
def zB (f : Int) (w : Nat) : Nat := if zI f w = 0 then zN f w else 2 ^ fb f + zN f w
def wex (f : Int) (w : Nat) : Int := (if zI f w = 0 then 0 else (zI f w : Int) - 1) + lo f
theorem zjK {f : Int} (h : isF f) {w : Nat} (hw : w < 2 * sg f) : Ev (fun k => zdj.f k f (w : Int)) ((fb f : Int), (mo f : Int), (sg f : Int), if cls f w ≥ 4 then 7 else 0) := by
 have ho := zeQ h w
 unfold zbM at ho
 rw [if_pos hw] at ho
 unfold zdj.f
 refine Ev.bind ho ?_
 (repeat (first | with_reducible refine ep ?_ | with_reducible refine en ?_))
 refine zk (zgs h hw) ?_
 (repeat (first | with_reducible refine ep ?_ | with_reducible refine en ?_))
 by_cases c : cls f w ≥ 4
 ·refine zd c ?_
  exact zg (Ev.now _) (by rw [if_pos c])
 ·refine ze c ?_
  exact zg (Ev.now _) (by rw [if_neg c])
theorem mx1 (n : Nat) : (wrap64 ((mx (n : Int) 1) - 1) = if n = 0 then 0 else (n : Int) - 1) ∨ 4611686018427387904 ≤ n := by
 by_cases hb : n < 4611686018427387904
 ·left
  have e : mx (n : Int) 1 = ((max n 1 : Nat) : Int) := zkw n 1
  rw [e, zaE (by omega) (by omega)]
  split <;> omega
 ·right; omega
theorem zmB {f : Int} (h : isF f) {w : Nat} (hw : w < 2 * sg f) (hc : cls f w < 4) : Ev (fun k => zaS.f k f (w : Int)) (ok3 (mk (sv (zn f w) (zB f w)) (wex f w))) := by
 have hf := zjK h hw
 rw [if_neg (by omega)] at hf
 have hp := zcB h
 have hz : w % sg f < sg f := Nat.mod_lt _ hp.1
 have he : zI f w < mo f + 1 := Nat.div_lt_of_lt_mul (by rw [← zfP h]; exact hz)
 have hm := zcv h
 have hfr : zN f w < 2 ^ fb f := Nat.mod_lt _ (zm _)
 have hpw := pfb h
 have h52 := zcZ h
 have hlo : -1074 ≤ lo f ∧ lo f ≤ -149 := by rcases h with rfl | rfl <;> decide
 have hmx := (mx1 (zI f w)).resolve_right (by omega)
 have hbl : ∀ m : Nat, m < 18446744073709551616 → bl m ≤ 64 := fun m hm => zau (by omega)
 unfold zaS.f
 refine Ev.bind hf ?_
 (repeat (first | with_reducible refine ep ?_ | with_reducible refine en ?_))
 refine zk (zhW h hw) ?_
 (repeat (first | with_reducible refine ep ?_ | with_reducible refine en ?_))
 have hex : wrap64 (wrap64 ((mx (zI f w : Int) 1) - 1) + lo f) = wex f w := by
  rw [hmx]
  unfold wex wrap64
  split <;> omega
 have hwx : -1074 ≤ wex f w ∧ wex f w ≤ 3000 := by unfold wex; split <;> omega
 by_cases c : zI f w = 0
 ·have hm0 : zB f w = zN f w := by unfold zB; rw [if_pos c]
  have o1 := zey (n := (zN f w : Int)) (by omega) (by omega)
  rw [Int.toNat_natCast] at o1
  have hb := hbl (zN f w) (by omega)
  have m1 := zgG (zn f w) (zD (zN f w)) (zdx (by omega)) (wex f w)
  rw [V_D, zg3 (by omega) (by omega)] at m1
  dsimp only
  (repeat (first | with_reducible refine ep ?_ | with_reducible refine en ?_))
  refine zf ?_; simp only [zaS.j1]
  refine Ev.bind (o1) ?_; try dsimp only
  refine zk (zg0 h) ?_; try dsimp only
  rw [hex, hm0]
  refine Ev.bind m1 ?_
  (repeat (first | with_reducible refine ep ?_ | with_reducible refine en ?_))
  exact Ev.now _
 ·have hm0 : zB f w = 1 * 2 ^ fb f + zN f w := by unfold zB; rw [if_neg c, Nat.one_mul]
  have eo : Go.bits .or .u64 (zN f w : Int) (shl .u64 1 ((fb f : Nat) : Int)) = ((zB f w : Nat) : Int) := by
   rw [zdF h, zhj _ _ (by omega) (by omega), hm0]
   have := zhl 1 (zN f w) (fb f) hfr (by omega)
   rw [Nat.one_mul] at this
   rw [this, Nat.one_mul]
  have hlt : zB f w < 18446744073709551616 := by omega
  have o1 := zey (n := (zB f w : Int)) (by omega) (by omega)
  rw [Int.toNat_natCast] at o1
  have hb := hbl (zB f w) hlt
  have m1 := zgG (zn f w) (zD (zB f w)) (zdx (by omega)) (wex f w)
  rw [V_D, zg3 (by omega) (by omega)] at m1
  dsimp only
  (repeat (first | with_reducible refine ep ?_ | with_reducible refine en ?_))
  refine zf ?_; simp only [zaS.j1]
  rw [eo]
  refine Ev.bind (o1) ?_; try dsimp only
  refine zk (zg0 h) ?_; try dsimp only
  rw [hex]
  refine Ev.bind m1 ?_
  (repeat (first | with_reducible refine ep ?_ | with_reducible refine en ?_))
  exact Ev.now _
def pr (f : Int) : Nat := if f = 1 then 24 else 53
def wd (f : Int) : Int := if f = 1 then 128 else 1024
def sgn (f : Int) (s : Bool) : Nat := if s = true then sg f else 0
theorem zfw {f : Int} (h : isF f) : pr f = fb f + 1 := by rcases h with rfl | rfl <;> rfl
theorem zdy {f : Int} (h : isF f) : -1074 ≤ lo f ∧ lo f ≤ -149 := by rcases h with rfl | rfl <;> decide
theorem zik {f : Int} (h : isF f) : 128 ≤ wd f ∧ wd f ≤ 1024 := by rcases h with rfl | rfl <;> decide
theorem zjL {f : Int} (h : isF f) : wd f - (pr f : Nat) - lo f = ((mo f - 2 : Nat) : Int) := by rcases h with rfl | rfl <;> rfl
theorem zfk {f : Int} (h : isF f) : 255 ≤ mo f := by rcases h with rfl | rfl <;> decide
theorem zgN {f : Int} (h : isF f) : mo f * 2 ^ fb f + 2 ^ fb f = sg f := by rcases h with rfl | rfl <;> decide
theorem zkN {f : Int} (h : isF f) {x : Nat} (hx : x < sg f) : Go.bits .or .u64 (x : Int) (sg f : Int) = ((x + sg f : Nat) : Int) := by
 have hp := zcB h
 rw [zhj _ _ (by omega) (by omega)]
 have h1 := zhl 1 x (sk f) (by rw [← zdJ h]; exact hx) (by rw [← zdJ h]; omega)
 rw [Nat.one_mul, ← zdJ h] at h1
 rw [h1, Nat.add_comm]
theorem zg8 {f : Int} (h : isF f) (s : Bool) {x : Nat} (hx : x < sg f) : Ev (fun _ => if s = true then (some (Go.bits .or .u64 (x : Int) (sg f : Int), (0 : Int))) else (some ((x : Int), 0))) (((x + sgn f s : Nat) : Int), 0) := by
 unfold sgn
 cases s
 ·(repeat (first | with_reducible refine ep ?_ | with_reducible refine en ?_))
  exact Ev.now _
 ·(repeat (first | with_reducible refine ep ?_ | with_reducible refine en ?_))
  rw [zkN h hx, if_pos rfl]
  exact Ev.now _
theorem zmz {f : Int} (h : isF f) (s : Bool) : Ev (fun k => zcj.f k f s) (((mo f * 2 ^ fb f + sgn f s : Nat) : Int), 0) := by
 have hil := zgN h
 have hp := zm (fb f)
 have hn := zg8 h s (x := mo f * 2 ^ fb f) (by omega)
 unfold zcj.f zdR.f
 refine Ev.bind (a := (((mo f * 2 ^ fb f + sgn f s : Nat) : Int), 0)) ?_ (Ev.now _)
 refine Ev.bind (zim h) ?_; try dsimp only
 (repeat (first | with_reducible refine ep ?_ | with_reducible refine en ?_))
 exact zk (zfg h) hn
theorem zmy {f : Int} (h : isF f) (s : Bool) : Ev (fun k => zdf.f k f s) (((mo f * 2 ^ fb f - 1 + sgn f s : Nat) : Int), 0) := by
 have hil := zgN h
 have hp := zm (fb f)
 have hsp := zcB h
 have hm := zfk h
 have hq : 1 ≤ mo f * 2 ^ fb f := Nat.mul_pos (by omega) hp
 have hl : zdg.f ((fb f : Nat) : Int) ((mo f : Nat) : Int) ((sg f : Nat) : Int) = some ((mo f * 2 ^ fb f - 1 : Nat) : Int) := by
  unfold zdg.f
  rw [zfg h, Option.bind_some, za6]
  congr 1
  omega
 have hn := zg8 h s (x := mo f * 2 ^ fb f - 1) (by omega)
 unfold zdf.f zdQ.f
 refine Ev.bind (a := (((mo f * 2 ^ fb f - 1 + sgn f s : Nat) : Int), 0)) ?_ (Ev.now _)
 refine Ev.bind (zim h) ?_; try dsimp only
 (repeat (first | with_reducible refine ep ?_ | with_reducible refine en ?_))
 exact zk hl hn
instance (f : Int) : Decidable (isF f) := inferInstanceAs (Decidable (f = 1 ∨ f = 2))
theorem zfC (f : Int) : zb0.f f = some (decide (isF f)) := by
 unfold zb0.f isF
 by_cases h : f = 1
 ·rw [if_pos h]; simp [h]
 ·rw [if_neg h]; simp [h]
def isM (m : Int) : Prop := 1 ≤ m ∧ m ≤ 5
instance (m : Int) : Decidable (isM m) := inferInstanceAs (Decidable (1 ≤ m ∧ m ≤ 5))
theorem zhx (m : Int) : zcU.f m = some (decide (isM m)) := by
 unfold zcU.f isM
 by_cases h : m ≥ 1
 ·rw [if_pos h]; simp [show 1 ≤ m from h]
 ·rw [if_neg h]; simp [show ¬ 1 ≤ m from h]
theorem zk5 {f : Int} (h : isF f) {w : Nat} (hw : w < 18446744073709551616) : zcQ.f f (w : Int) = some (zbM f w) := by
 unfold zcQ.f zbM
 rw [zfC, decide_eq_true h, Option.bind_some, if_neg (by simp)]
 rcases h with rfl | rfl
 ·rw [if_pos rfl]
  by_cases c : w < 2 * sg 1
  ·rw [if_neg (by simp [sg] at c; omega), if_pos c]
  ·rw [if_pos (by simp [sg] at c; omega), if_neg c]
 ·rw [if_neg (by omega), if_pos (by simp [sg]; omega)]
theorem zlb {f : Int} (h : isF f) : zcT.f f = some (sg f : Int) := by rcases h with rfl | rfl <;> rfl
theorem zhw {f : Int} (h : isF f) : zbZ.f f = some (fb f : Int) := by rcases h with rfl | rfl <;> rfl
theorem zk6 {f : Int} (h : isF f) : zcS.f f = some (mo f : Int) := by rcases h with rfl | rfl <;> rfl
theorem zhy {f : Int} (h : isF f) : zcR.f f = some (lo f) := by rcases h with rfl | rfl <;> rfl
theorem zeK {f : Int} (h : isF f) (w : Nat) : zI f w ≤ mo f := by
 have hz : w % sg f < sg f := Nat.mod_lt _ (zcB h).1
 have : zI f w < mo f + 1 := Nat.div_lt_of_lt_mul (by rw [← zfP h]; exact hz)
 omega
theorem zdP (f : Int) (w : Nat) : zN f w < 2 ^ fb f := Nat.mod_lt _ (zm _)
theorem zmq (f : Int) (w : Nat) : w % sg f = zI f w * 2 ^ fb f + zN f w := by
 unfold zI zN
 have := Nat.div_add_mod (w % sg f) (2 ^ fb f)
 rw [Nat.mul_comm] at this
 exact this.symm
theorem zfE {f : Int} (h : isF f) (w : Nat) : zbn.f f (w : Int) = some (zn f w, (zI f w : Int), (zN f w : Int)) := by
 have hp := zcB h
 have hpp := zm (fb f)
 have hm := zcv h
 have hx := zeK h w
 have h52 := zcZ h
 unfold zbn.f
 rw [zlb h, Option.bind_some, Option.bind_some, if_neg (by omega), zhw h, Option.bind_some, if_pos (by omega), zdF h, if_neg (by omega), Option.bind_some, if_pos (by omega), zh8, zh8, zcC _ _ (by show fb f ≤ 64; omega)]
 have e : wrap64 ((w % sg f / 2 ^ fb f : Nat) : Int) = (zI f w : Int) := by
  show wrap64 ((zI f w : Nat) : Int) = _
  exact zaE (by omega) (by omega)
 rw [e]
 have e2 : decide ((w : Int) ≥ (sg f : Int)) = zn f w := decide_eq_decide.2 (by omega)
 rw [e2]
 rfl
theorem zd7 {f : Int} (h : isF f) (w : Nat) : cls f w = if zI f w = 0 then (if zN f w = 0 then 1 else 2) else if zI f w < mo f then 3 else if zN f w = 0 then 4 else 5 := by
 have h1 := zmq f w
 have h2 := zdP f w
 have h3 := zeK h w
 have hpp := zm (fb f)
 have hm := zfk h
 unfold cls
 rw [h1]
 generalize zN f w = r at *
 generalize zI f w = q at *
 generalize 2 ^ fb f = p at *
 by_cases c : q = 0
 ·subst c
  simp only [Nat.zero_mul, Nat.zero_add, if_true]
  by_cases c2 : r = 0
  ·simp [c2]
  ·rw [if_neg c2, if_pos h2, if_neg c2]
 ·have h4 : p ≤ q * p := Nat.le_mul_of_pos_left _ (by omega)
  rw [if_neg (by omega), if_neg (by omega), if_neg c]
  by_cases c2 : q < mo f
  ·have h5 : (q + 1) * p ≤ mo f * p := Nat.mul_le_mul_right _ c2
   rw [Nat.add_mul, Nat.one_mul] at h5
   rw [if_pos (by omega), if_pos c2]
  ·have h5 : q = mo f := by omega
   rw [h5, if_neg (by omega), if_neg (Nat.lt_irrefl _)]
   by_cases c3 : r = 0
   ·rw [if_pos (by omega), if_pos c3]
   ·rw [if_neg (by omega), if_neg c3]
theorem zk4 {f : Int} (h : isF f) (w : Nat) : zcP.f f (w : Int) = some (cls f w) := by
 unfold zcP.f
 rw [zfE h, Option.bind_some, zd7 h, zk6 h]
 generalize zN f w = r
 generalize zI f w = q
 generalize mo f = m
 simp only [Option.bind_some]
 by_cases c : q = 0
 ·rw [if_pos (by omega), if_pos c]
  by_cases c2 : r = 0
  ·rw [if_pos (by omega), if_pos c2]
  ·rw [if_neg (by omega), if_pos (by omega), if_neg c2]
 ·rw [if_neg (by omega), if_neg (by omega), if_neg c]
  by_cases c2 : q < m
  ·rw [if_pos (by omega), if_pos c2]
  ·rw [if_neg (by omega), if_neg c2]
   by_cases c3 : r = 0
   ·rw [if_pos (by omega), if_pos c3]
   ·rw [if_neg (by omega), if_neg c3]
theorem zmv {f : Int} (h : isF f) (w : Nat) : zB f w < 18446744073709551616 := by
 have := zdP f w
 have := pfb h
 unfold zB; split <;> omega
theorem zmu {f : Int} (h : isF f) (w : Nat) : -1074 ≤ wex f w ∧ wex f w ≤ 3000 := by
 have := zeK h w
 have := zcv h
 have := zdy h
 unfold wex; split <;> omega
theorem zlf {f : Int} (h : isF f) (w : Nat) : Ev (fun k => zcr.f k f (w : Int)) (mk (sv (zn f w) (zB f w)) (wex f w)) := by
 have hlt := zmv h w
 have hwb := zmu h w
 have hfr := zdP f w
 have hpw := pfb h
 have hx := zeK h w
 have hm := zcv h
 have hlo := zdy h
 have o1 := zc6 (n := (zB f w : Int)) (by omega) (by omega)
 rw [Int.toNat_natCast] at o1
 have f1 := zbR (zn f w) (zD (zB f w)) (by
  have : (D (zB f w)).length ≤ 2 := zbh (by omega)
  omega) (e := wex f w) (by omega) (by omega)
 rw [V_D] at f1
 unfold zcr.f
 refine zk (zfE h w) ?_; try dsimp only
 by_cases c : zI f w = 0
 ·have e1 : zB f w = zN f w := by unfold zB; rw [if_pos c]
  have e2 : wex f w = lo f := by unfold wex; rw [if_pos c]; omega
  rw [e1] at o1
  rw [e1, e2] at f1
  refine zd (by omega) ?_
  refine Ev.bind (o1) ?_; try dsimp only
  refine zk (zhy h) ?_; try dsimp only
  refine Ev.bind (f1) ?_; try dsimp only
  rw [e1, e2]
  exact Ev.now _
 ·have e1 : zB f w = 2 ^ fb f + zN f w := by unfold zB; rw [if_neg c]
  have e2 : wex f w = (zI f w : Int) - 1 + lo f := by unfold wex; rw [if_neg c]
  have e3 : IntKind.u64.wrap (((2 ^ fb f : Nat) : Int) + (zN f w : Int)) = (zB f w : Int) := by rw [e1, ← Int.natCast_add]; exact u64 (by omega) (by omega)
  have e4 : wrap64 (wrap64 ((zI f w : Int) - 1) + lo f) = wex f w := by rw [e2]; unfold wrap64; omega
  refine ze (by omega) ?_
  refine zk (zhw h) ?_; try dsimp only
  rw [zdF h, e3]
  refine zd (by omega) ?_
  refine Ev.bind (o1) ?_; try dsimp only
  refine zk (zhy h) ?_; try dsimp only
  rw [e4]
  refine Ev.bind (f1) ?_; try dsimp only
  exact Ev.now _
def mz (z e : Int) : Int := sv (mk z e).1 (V (mk z e).2.1)
def me (z e : Int) : Int := (mk z e).2.2
theorem zfm (e : Int) : mz 0 e = 0 := rfl
theorem zlS (z : Int) : sv (decide (z < 0)) z.natAbs = z := by
 unfold sv
 by_cases h : z < 0
 ·rw [decide_eq_true h, if_pos rfl]; omega
 ·rw [decide_eq_false h, if_neg (by simp)]; omega
theorem zdC {z : Int} (h : z ≠ 0) (e : Int) : ∃ j : Nat, z = mz z e * 2 ^ j ∧ me z e = e + (j : Int) ∧ mz z e ≠ 0 ∧ bl (mz z e).natAbs + j = bl z.natAbs := by
 have hn : z.natAbs ≠ 0 := by omega
 have hw := zeu hn
 obtain ⟨q, hq⟩ := zca hn
 have hd : z.natAbs / 2 ^ lw z.natAbs = 2 * q + 1 := by
  have : z.natAbs / 2 ^ lw z.natAbs = 2 ^ lw z.natAbs * (2 * q + 1) / 2 ^ lw z.natAbs := by rw [← hq]
  rw [this, Nat.mul_div_cancel_left _ (zm _)]
 have hm : mz z e = sv (decide (z < 0)) (z.natAbs / 2 ^ lw z.natAbs) := by
  unfold mz mk; rw [if_neg h]; show sv _ (V (D _)) = _; rw [V_D]
 have he : me z e = e + (lw z.natAbs : Nat) := by unfold me mk; rw [if_neg h]
 refine ⟨lw z.natAbs, ?_, he, ?_, ?_⟩
 ·rw [hm, hd]
  have h1 : sv (decide (z < 0)) (2 * q + 1) * 2 ^ lw z.natAbs = sv (decide (z < 0)) ((2 * q + 1) * 2 ^ lw z.natAbs) := by
   unfold sv
   split
   ·rw [Int.neg_mul, Int.natCast_mul, Int.natCast_pow]; rfl
   ·rw [Int.natCast_mul, Int.natCast_pow]; rfl
  rw [h1, Nat.mul_comm, ← hq, zlS]
 ·rw [hm, hd]; intro h2; have := zdb.1 h2; omega
 ·rw [hm, zda, zgm]; omega
theorem zc2 (z e : Int) : (mk z e).2.1.length ≤ (bl z.natAbs + 31) / 32 := by
 rw [zkm]
 refine zdx ?_
 rw [zgm]; omega
theorem zc1 (z e : Int) : me z e = 0 ∧ z = 0 ∨ e ≤ me z e ∧ me z e ≤ e + (bl z.natAbs : Nat) := by
 by_cases h : z = 0
 ·exact .inl ⟨by rw [h]; rfl, h⟩
 ·obtain ⟨j, _, h2, _, h4⟩ := zdC h e
  exact .inr (by omega)
theorem ziI {z : Int} (h : z ≠ 0) {e m : Int} (hm : m ≤ e) : al (mz z e) (me z e) m = al z e m := by
 obtain ⟨j, h1, h2, _, _⟩ := zdC h e
 rw [h2]
 have h3 : al z e m = al (mz z e * 2 ^ j) e m := by rw [← h1]
 rw [h3]
 unfold al
 rw [Int.mul_assoc, ← Int.pow_add]
 congr 2
 omega
theorem zgv (ea zb eb : Int) : zad 0 ea zb eb = -zb.sign := by
 unfold zad
 rw [zdn, Int.zero_sub, Int.sign_neg, zbj]
theorem zgt (za ea zb eb : Int) : zad za ea zb eb = -zad zb eb za ea := by
 unfold zad
 rw [← Int.sign_neg, Int.neg_sub, Int.min_comm]
theorem zgu (za ea zb eb : Int) : zad (mz za ea) (me za ea) zb eb = zad za ea zb eb := by
 by_cases h : za = 0
 ·subst h; rw [zfm, zgv, zgv]
 ·have hb := zc1 za ea
  have h1 : ea ≤ me za ea := by omega
  rw [← ze3 (za := mz za ea) (m := min ea eb) (by omega) (by omega), ziI h (by omega)]
  rfl
theorem zja (za ea zb eb : Int) : zad za ea (mz zb eb) (me zb eb) = zad za ea zb eb := by
 rw [zgt, zgu, ← zgt]
structure Rg (z e : Int) : Prop where
 b : bl z.natAbs ≤ 10000000
 lo : -40000000 ≤ e
 hi : e ≤ 40000000
theorem zlt {za ea zb eb : Int} (ha : Rg za ea) (hb : Rg zb eb) : zdU (mk za ea).2.1 (me za ea) (mk zb eb).2.1 (me zb eb) := by
 have a1 := zc2 za ea
 have b1 := zc2 zb eb
 have a2 := zc1 za ea
 have b2 := zc1 zb eb
 obtain ⟨h1, h2, h3⟩ := ha
 obtain ⟨h4, h5, h6⟩ := hb
 refine ⟨by omega, by omega, by omega, by omega⟩
theorem zc4 {za ea zb eb : Int} (ha : Rg za ea) (hb : Rg zb eb) : Ev (fun k => zaI.f k (mk za ea).1 (mk za ea).2.1 (mk za ea).2.2 (mk zb eb).1 (mk zb eb).2.1 (mk zb eb).2.2) (zad za ea zb eb) := by
 refine zg (zli (za8 za ea) (za8 zb eb) (zlt ha hb)) ?_
 show zad (mz za ea) (me za ea) (mz zb eb) (me zb eb) = _
 rw [zgu, zja]
theorem zfD {za ea zb eb : Int} (ha : Rg za ea) (hb : Rg zb eb) : Ev (fun k => zaM.f k (mk za ea).1 (mk za ea).2.1 (mk za ea).2.2 (mk zb eb).1 (mk zb eb).2.1 (mk zb eb).2.2) (mk (za * zb) (ea + eb)) := by
 have a1 := zc2 za ea
 have b1 := zc2 zb eb
 have a2 := zc1 za ea
 have b2 := zc1 zb eb
 obtain ⟨h1, h2, h3⟩ := ha
 obtain ⟨h4, h5, h6⟩ := hb
 have e1 : (mk za ea).2.2 = me za ea := rfl
 have e2 : (mk zb eb).2.2 = me zb eb := rfl
 refine zg (zll (za8 za ea) (za8 zb eb) (by omega) (by omega) (by omega) (by omega) (by omega) (by omega)) ?_
 show mk (mz za ea * mz zb eb) (me za ea + me zb eb) = _
 by_cases c : za = 0
 ·subst c; rw [zfm, Int.zero_mul, Int.zero_mul]; rfl
 by_cases c2 : zb = 0
 ·subst c2; rw [zfm, Int.mul_zero, Int.mul_zero]; rfl
 obtain ⟨j, p1, p2, _, _⟩ := zdC c ea
 obtain ⟨i, q1, q2, _, _⟩ := zdC c2 eb
 have e3 : za * zb = mz za ea * mz zb eb * 2 ^ (j + i) := by
  conv => lhs; rw [p1, q1]
  rw [Int.pow_add, Int.mul_assoc, Int.mul_assoc]
  congr 1
  rw [Int.mul_left_comm]
 rw [e3, zev, p2, q2]
 congr 1
 omega
theorem zk9 (z : Int) {e n : Int} (hb : bl z.natAbs ≤ 10000000000) (h1 : -10000000000000 ≤ e) (h2 : e ≤ 10000000000000) (h3 : -10000000000000 ≤ n) (h4 : n ≤ 10000000000000) : zcq.f (mk z e).1 (mk z e).2.1 (mk z e).2.2 n = some (mk z (e + n)) := by
 have a2 := zc1 z e
 have e1 : (mk z e).2.2 = me z e := rfl
 rw [zlp (za8 z e) (by omega) (by omega) (by omega) (by omega)]
 congr 1
 show mk (mz z e) (me z e + n) = _
 by_cases c : z = 0
 ·subst c; rfl
 ·obtain ⟨j, p1, p2, _, _⟩ := zdC c e
  have e3 : mk z (e + n) = mk (mz z e * 2 ^ j) (e + n) := by rw [← p1]
  rw [e3, zev, p2]
  congr 1; omega
def upB (m : Int) (s odd zdv more : Bool) : Bool :=
 if m = 1 then zdv && (more || odd) else if m = 2 then zdv else if m = 4 then !s && (zdv || more) else if m = 5 then s && (zdv || more) else false
def rnd (m : Int) (s : Bool) (n k : Nat) : Nat :=
 n / 2 ^ k + (if upB m s (decide (n / 2 ^ k % 2 = 1)) (decide (2 ^ k ≤ 2 * (n % 2 ^ k))) (decide (2 * (n % 2 ^ k) % 2 ^ k ≠ 0)) = true then 1 else 0)
def R (m : Int) (s : Bool) (n : Nat) (e E : Int) : Nat := rnd m s (n * 2 ^ (e - E).toNat) (E - e).toNat
theorem ziX (q : Nat) : bl (q + 1) ≤ bl q + 1 := by
 refine zau ?_
 have := zar q
 rw [Nat.pow_succ]
 have := zm (bl q)
 omega
theorem zko (e : Int) : mk 1 e = (false, [1], e) := by
 unfold mk
 have h : lw (1 : Int).natAbs = 0 := zdz rfl
 have hd : D 1 = [1] := by rw [zaU (by omega)]; simp [zu]
 rw [if_neg (by omega), h]
 show (false, D (1 / 1), e + 0) = (false, ([1] : List Int), e)
 rw [Nat.div_one, hd, Int.add_zero]
theorem zle (e : Int) : zcO.f e = some (mk 1 e) := by
 unfold zcO.f
 rw [zko]
def inw (m : Int) (s : Bool) : Bool := decide (m = 3) || (decide (m = 4) && s) || (decide (m = 5) && !s)
def zhm (f m : Int) (s : Bool) : Nat := (if inw m s = true then mo f * 2 ^ fb f - 1 else mo f * 2 ^ fb f) + sgn f s
theorem zgL {f : Int} (h : isF f) : zcA.f f = some ((pr f : Int), lo f, wd f, true) := by rcases h with rfl | rfl <;> rfl
theorem zjO {f : Int} (h : ¬ isF f) : zcA.f f = some (0, 0, 0, false) := by
 unfold zcA.f
 rw [if_neg (fun e => h (.inl e)), if_neg (fun e => h (.inr e))]
def fmE (f m : Int) : Int := if isF f then (if isM m then 0 else 5) else 4
theorem zkL {f m : Int} (h : isF f) (hm : isM m) : Ev (fun k => zS.f k f m []) ((pr f : Int), lo f, wd f, 0) := by
 unfold zS.f
 unfold isM at hm
 refine zk (zgL h) ?_; try dsimp only
 refine ze (by simp) (ze (by omega) (ze (by omega) ?_))
 refine zf ?_
 simp only [zS.l0]
 exact ze (by simp) (Ev.now _)
theorem zkK {f m : Int} (h : fmE f m ≠ 0) : ∃ r : Int × Int × Int × Int, r.2.2.2 = fmE f m ∧ Ev (fun k => zS.f k f m []) r ∧ ∀ d, Ev (fun k => zS.f k f m [d]) r := by
 unfold fmE at *
 by_cases c : isF f
 ·rw [if_pos c] at h ⊢
  by_cases hm : isM m
  ·rw [if_pos hm] at h; exact absurd rfl h
  ·rw [if_neg hm]
   unfold isM at hm
   have : ∀ l, Ev (fun k => zS.f k f m l) ((pr f : Int), lo f, wd f, 5) := by
    intro l
    unfold zS.f
    refine zk (zgL c) ?_; try dsimp only
    refine ze (by simp) ?_
    by_cases c : m < 1
    ·exact zd c (Ev.now _)
    ·exact ze c (zd (by omega) (Ev.now _))
   exact ⟨((pr f : Int), lo f, wd f, 5), rfl, this _, fun d => this _⟩
 ·rw [if_neg c]
  have : ∀ l, Ev (fun k => zS.f k f m l) (0, 0, 0, 4) := by
   intro l
   unfold zS.f
   refine zk (zjO c) ?_; try dsimp only
   exact zd (by simp) (Ev.now _)
  exact ⟨(0, 0, 0, 4), rfl, this _, fun d => this _⟩
theorem ziv {f : Int} (h : isF f) (s b : Bool) : Ev (fun k => zP.j1 k f s b) ((((if b = true then mo f * 2 ^ fb f - 1 else mo f * 2 ^ fb f) + sgn f s : Nat) : Int), 0) := by
 refine zf ?_
 simp only [zP.j1]
 cases b
 ·refine ze (by simp) ?_
  refine Ev.bind (zmz h s) ?_; try dsimp only
  exact Ev.now _
 ·refine zd rfl ?_
  refine Ev.bind (zmy h s) ?_; try dsimp only
  exact Ev.now _
theorem zeX {f m : Int} (h : isF f) (hm : isM m) (s : Bool) : Ev (fun k => zP.f k f m s) ((zhm f m s : Int), 0) := by
 have j := fun b => ziv h s b
 unfold zP.f zhm
 refine Ev.bind (zkL h hm) ?_; try dsimp only
 refine ze (by simp) ?_
 by_cases c3 : m = 3
 ·refine zd c3 ?_
  have e : inw m s = true := by unfold inw; simp [c3]
  rw [e]; exact j true
 refine ze c3 ?_
 by_cases c4 : m = 4
 ·refine zd c4 ?_
  have e : inw m s = s := by unfold inw; simp [c4]
  rw [e]
  cases s
  ·exact ze (by simp) (ze (by omega) (j false))
  ·exact zd rfl (j true)
 refine ze c4 ?_
 by_cases c5 : m = 5
 ·refine zd c5 ?_
  have e : inw m s = !s := by unfold inw; simp [c5]
  rw [e]; exact j (!s)
 ·refine ze c5 ?_
  have e : inw m s = false := by unfold inw; simp [c3, c4, c5]
  rw [e]; exact j false
theorem ziu {f m : Int} (h : fmE f m ≠ 0) (s : Bool) : Ev (fun k => zP.f k f m s) (0, fmE f m) := by
 obtain ⟨r, hr, ho, _⟩ := zkK h
 unfold zP.f
 refine Ev.bind (ho) ?_; try dsimp only
 rw [hr]
 exact zd h (Ev.now _)
theorem zi8 {f : Int} (h : isF f) {w : Nat} (h1 : cls f w ≠ 1) (h2 : cls f w < 4) : zB f w ≠ 0 := by
 rw [zd7 h] at h1 h2
 have hp := zm (fb f)
 unfold zB
 by_cases c : zI f w = 0
 ·rw [if_pos c] at h1 h2 ⊢
  intro h3
  rw [if_pos h3] at h1
  exact h1 rfl
 ·rw [if_neg c]; omega
theorem zi7 {f : Int} (h : isF f) (w : Nat) : 1 ≤ cls f w ∧ cls f w ≤ 5 := by
 rw [zd7 h]; split
 ·split <;> omega
 ·split
  ·omega
  ·split <;> omega
theorem zil {f : Int} (h : isF f) (w : Nat) : bl (zB f w) ≤ pr f := by
 have h1 := zdP f w
 have h2 := zfw h
 refine zau ?_
 rw [h2, Nat.pow_succ]
 unfold zB; split <;> omega
theorem zms {s : Bool} {n : Nat} (h : n ≠ 0) : decide (sv s n < 0) = s ∧ (sv s n).natAbs = n ∧ sv s n ≠ 0 := ⟨zfT h, zda s n, fun h2 => h (zdb.1 h2)⟩
theorem zmw {f : Int} (h : isF f) {w : Nat} (hw : ¬ w < 2 * sg f) : Ev (fun k => zci.f k f (w : Int)) (0, 6) := by
 have ho := zeQ h w
 unfold zbM at ho
 rw [if_neg hw] at ho
 unfold zci.f
 refine Ev.bind (ho) ?_; try dsimp only
 exact zd (by simp) (Ev.now _)
theorem zfl {z : Int} (h : z ≠ 0) (e : Int) : ∃ j : Nat, z.natAbs = V (mk z e).2.1 * 2 ^ j ∧ (mk z e).2.2 = e + j ∧ (mk z e).1 = decide (z < 0) ∧ V (mk z e).2.1 ≠ 0 := by
 have hza : z.natAbs ≠ 0 := by omega
 obtain ⟨q, hq⟩ := zca hza
 have hd : z.natAbs / 2 ^ lw z.natAbs = 2 * q + 1 := by
  have : z.natAbs / 2 ^ lw z.natAbs = 2 ^ lw z.natAbs * (2 * q + 1) / 2 ^ lw z.natAbs := by rw [← hq]
  rw [this, Nat.mul_div_cancel_left _ (zm _)]
 have hm : mk z e = (decide (z < 0), D (z.natAbs / 2 ^ lw z.natAbs), e + (lw z.natAbs : Nat)) := by unfold mk; rw [if_neg h]
 refine ⟨lw z.natAbs, ?_, by rw [hm], by rw [hm], ?_⟩
 ·rw [hm]
  show _ = V (D _) * _
  rw [V_D, hd, Nat.mul_comm]; exact hq
 ·rw [hm]
  show V (D _) ≠ 0
  rw [V_D, hd]; omega
theorem zdo (x y : Nat) : bl (x * y) ≤ bl x + bl y := zau (by rw [Nat.pow_add]; exact Nat.mul_lt_mul'' (zar x) (zar y))
def wv (f : Int) (w : Nat) : Bool × List Int × Int := mk (sv (zn f w) (zB f w)) (wex f w)
structure Wv (f : Int) (w : Nat) : Prop where
 dy : Dy (wv f w).1 (wv f w).2.1 (wv f w).2.2
 ne : V (wv f w).2.1 ≠ 0
 b : bl (V (wv f w).2.1) ≤ pr f
 lo : lo f ≤ (wv f w).2.2
 hi : (wv f w).2.2 + (bl (V (wv f w).2.1) : Nat) = wex f w + (bl (zB f w) : Nat)
 s : (wv f w).1 = zn f w
theorem zgK {f : Int} (h : isF f) {w : Nat} (h2 : cls f w < 4) : wex f w + (bl (zB f w) : Nat) ≤ wd f := by
 rw [zd7 h] at h2
 have h3 := zil h w
 have h4 := zjL h
 have h5 := zdP f w
 have h6 := zfw h
 have h7 := zfk h
 have hlo := zdy h
 have hwd := zik h
 by_cases c : zI f w = 0
 ·unfold wex; rw [if_pos c]
  have := zcZ h
  omega
 ·rw [if_neg c] at h2
  have : zI f w < mo f := by
   rcases Nat.lt_or_ge (zI f w) (mo f) with c2 | c2
   ·exact c2
   ·rw [if_neg (by omega)] at h2; split at h2 <;> omega
  unfold wex; rw [if_neg c]
  omega
theorem zio {f : Int} (h : isF f) {w : Nat} (h1 : cls f w ≠ 1) (h2 : cls f w < 4) : Wv f w := by
 have hn := zi8 h h1 h2
 obtain ⟨a1, a2, a3⟩ := zms (s := zn f w) hn
 obtain ⟨j, j1, j2, j3, j4⟩ := zfl a3 (wex f w)
 have hb := zil h w
 have hl : lo f ≤ wex f w := by
  unfold wex
  split <;> omega
 rw [a2] at j1
 have hbl : bl (zB f w) = bl (V (wv f w).2.1) + j := by rw [j1]; exact zd3 j4 j
 have e2 : (wv f w).2.2 = wex f w + j := j2
 refine ⟨za8 _ _, j4, by omega, by omega, by omega, ?_⟩
 show (mk _ _).1 = _
 rw [j3, a1]
theorem zmD {f : Int} (h : isF f) {w : Nat} (hw : Wv f w) (h2 : cls f w < 4) : -5000 ≤ (wv f w).2.2 ∧ (wv f w).2.2 ≤ 5000 ∧ bl (V (wv f w).2.1) ≤ 64 := by
 have := hw.lo
 have := hw.hi
 have := hw.b
 have := zdy h
 have := zik h
 have := zgK h h2
 have := zfw h
 have := zcZ h
 refine ⟨by omega, by omega, by omega⟩
theorem zmm {n : Int} (h : IntKind.u64.min ≤ n ∧ n ≤ IntKind.u64.max) : ∃ w : Nat, n = (w : Int) ∧ w < 18446744073709551616 := by
 simp [IntKind.min, IntKind.max, IntKind.signed, IntKind.bits] at h
 exact ⟨n.toNat, by omega, by omega⟩
theorem zjA (a b : List UInt8) (n : Nat) : zi (a ++ b) n = zi b (zi a n) := by unfold zi; rw [List.foldl_append]
theorem zd5 {s : ByteArray} {A B : List UInt8} {b : UInt8} (h : tl s = A ++ b :: B) : bt s (A.length : Int) = (b.toNat : Int) := by
 rw [zi2, h, Int.toNat_natCast]
 simp [List.getD]
set_option maxRecDepth 100000
def zdt : Nat → Nat → List UInt8
 | 0, _ => []
 | k + 1, n => (if n < 10 then [] else zdt k (n / 10)) ++ [UInt8.ofNat (48 + n % 10)]
def dtx (n : Nat) : List UInt8 := zdt 6 n
def etx (e : Int) : List UInt8 := (if e < 0 then [45] else []) ++ dtx e.natAbs
def zbN (o : Option ByteArray) (l : List UInt8) : Bool := match o with | some t => tl t == l | none => false
theorem zgR {g : Nat → Option ByteArray} {l : List UInt8} {n : Nat} (h : ∀ k, zbN (g (k + n)) l = true) : ∃ t, Ev g t ∧ tl t = l := by
 have h0 := h 0
 unfold zbN at h0
 split at h0
 ·rename_i t ht
  have e0 : tl t = l := by simpa using h0
  refine ⟨t, ⟨n, fun k hk => ?_⟩, e0⟩
  have h1 := h (k - n)
  rw [Nat.sub_add_cancel hk] at h1
  unfold zbN at h1
  split at h1
  ·rename_i u hu
   have e1 : tl u = l := by simpa using h1
   rw [hu, zbA.1 (e1.trans e0.symm)]
  ·cases h1
 ·cases h0
def zbP (a : Int) (k : Nat) : Bool := (List.range 275).all (fun i => zbN (zbT.f (k + 40) (a + (i : Int))) (etx (a + (i : Int))))
theorem zjZ (k : Nat) : zbP (-1100) k = true := by kernel_rfl
theorem zj0 (k : Nat) : zbP (-825) k = true := by kernel_rfl
theorem zj1 (k : Nat) : zbP (-550) k = true := by kernel_rfl
theorem zj2 (k : Nat) : zbP (-275) k = true := by kernel_rfl
theorem zj3 (k : Nat) : zbP (0) k = true := by kernel_rfl
theorem zj4 (k : Nat) : zbP (275) k = true := by kernel_rfl
theorem zj5 (k : Nat) : zbP (550) k = true := by kernel_rfl
theorem zj6 (k : Nat) : zbP (825) k = true := by kernel_rfl
theorem zj7 (k : Nat) {e : Int} (h1 : -1100 ≤ e) (h2 : e < 1100) : zbN (zbT.f (k + 40) e) (etx e) = true := by
 have go : ∀ a, zbP a k = true → a ≤ e → e < a + 275 → zbN (zbT.f (k + 40) e) (etx e) = true := by
  intro a h h3 h4
  have h := List.all_eq_true.1 h (e - a).toNat (List.mem_range.2 (by omega))
  have he : a + (((e - a).toNat : Nat) : Int) = e := by omega
  rw [he] at h
  exact h
 by_cases c0 : e < -825
 ·exact go _ (zjZ k) (by omega) (by omega)
 by_cases c1 : e < -550
 ·exact go _ (zj0 k) (by omega) (by omega)
 by_cases c2 : e < -275
 ·exact go _ (zj1 k) (by omega) (by omega)
 by_cases c3 : e < 0
 ·exact go _ (zj2 k) (by omega) (by omega)
 by_cases c4 : e < 275
 ·exact go _ (zj3 k) (by omega) (by omega)
 by_cases c5 : e < 550
 ·exact go _ (zj4 k) (by omega) (by omega)
 by_cases c6 : e < 825
 ·exact go _ (zj5 k) (by omega) (by omega)
 exact go _ (zj6 k) (by omega) (by omega)
def zdc (a : Nat) (k : Nat) : Bool := (List.range 220).all (fun i => zbN (zo.f (k + 60) (if a + i = 0 then [] else [((a + i : Nat) : Int)])) (dtx (a + i)))
theorem zlW (k : Nat) : zdc 0 k = true := by kernel_rfl
theorem zlX (k : Nat) : zdc 220 k = true := by kernel_rfl
theorem zlY (k : Nat) : zdc 440 k = true := by kernel_rfl
theorem zlZ (k : Nat) : zdc 660 k = true := by kernel_rfl
theorem zl0 (k : Nat) : zdc 880 k = true := by kernel_rfl
theorem zl1 (k : Nat) {n : Nat} (h2 : n < 1100) : zbN (zo.f (k + 60) (if n = 0 then [] else [(n : Int)])) (dtx n) = true := by
 have go : ∀ a, zdc a k = true → a ≤ n → n < a + 220 → zbN (zo.f (k + 60) (if n = 0 then [] else [(n : Int)])) (dtx n) = true := by
  intro a h h3 h4
  have h := List.all_eq_true.1 h (n - a) (List.mem_range.2 (by omega))
  have he : a + (n - a) = n := by omega
  rw [he] at h
  exact h
 by_cases c0 : n < 220
 ·exact go _ (zlW k) (by omega) (by omega)
 by_cases c1 : n < 440
 ·exact go _ (zlX k) (by omega) (by omega)
 by_cases c2 : n < 660
 ·exact go _ (zlY k) (by omega) (by omega)
 by_cases c3 : n < 880
 ·exact go _ (zlZ k) (by omega) (by omega)
 exact go _ (zl0 k) (by omega) (by omega)
theorem zit {e : Int} (h1 : -1100 ≤ e) (h2 : e < 1100) : ∃ t, Ev (fun k => zbT.f k e) t ∧ tl t = etx e := by
 refine zgR (n := 40) fun k => ?_
 exact zj7 k h1 h2
theorem zld {n : Nat} (h : n < 1100) : ∃ t, Ev (fun k => zo.f k (D n)) t ∧ tl t = dtx n := by
 refine zgR (n := 60) fun k => ?_
 have h := zl1 k h
 have he : (if n = 0 then [] else [(n : Int)]) = D n := by
  by_cases c : n = 0
  ·subst c; rw [if_pos rfl, zu]
  ·rw [if_neg c, zaU c, Nat.mod_eq_of_lt (by omega), Nat.div_eq_of_lt (by omega), zu]
 rw [he] at h
 exact h
theorem zhG (b : UInt8) : ∀ n, Lib.repeatL [b] n = List.replicate n b
 | 0 => rfl
 | n + 1 => by rw [Lib.repeatL, zhG b n]; rfl
def sgT (s : Bool) : List UInt8 := if s = true then [45] else []
theorem zlD (s : Bool) : (sgT s).length ≤ 1 := by unfold sgT; split <;> simp
structure Pr (f : Int) (w : Nat) : Prop where
 my : My (wv f w).1 (wv f w).2.1 (wv f w).2.2
 ne : V (wv f w).2.1 ≠ 0
 b : bl (V (wv f w).2.1) ≤ 53
 lo : -1074 ≤ (wv f w).2.2
 hi : (wv f w).2.2 + (bl (V (wv f w).2.1) : Nat) ≤ 1024
 s : (wv f w).1 = zn f w
theorem zkY {f : Int} (h : isF f) {w : Nat} (c1 : cls f w ≠ 1) (c4 : cls f w < 4) : Pr f w := by
 have W := zio h c1 c4
 have hb := zmD h W c4
 have hpr : pr f ≤ 53 := by rcases h with rfl | rfl <;> decide
 have hWb := W.b
 have hft := zgK h c4
 have hwd : wd f ≤ 1024 := by rcases h with rfl | rfl <;> decide
 have hlo := zdy h
 have hWlo := W.lo
 have hWhi := W.hi
 refine ⟨⟨W.dy, ?_, by omega, by omega⟩, W.ne, by omega, by omega, by omega, W.s⟩
 have hl := W.dy.nm.len
 have h2 : V (wv f w).2.1 < 4294967296 ^ 2 := Nat.lt_of_lt_of_le (zar _) (Nat.le_trans (Nat.pow_le_pow_right (by omega) (by omega : bl (V (wv f w).2.1) ≤ 64)) (by decide))
 have h3 := zbh h2
 omega
theorem zgH {α : Type} {g : Nat → Option α} {r : α} {n : Nat} (h : ∀ k, g (k + n) = some r) : Ev g r := ⟨n, fun k hk => by have := h (k - n); rwa [Nat.sub_add_cancel hk] at this⟩
theorem zfc (e : Int) : (etx e).length ≤ 7 := by
 have : ∀ k n, (zdt k n).length ≤ k := by
  intro k
  induction k with
  | zero => intro n; simp [zdt]
  | succ k ih => intro n; unfold zdt; have := ih (n / 10); split <;> simp; omega
 unfold etx dtx
 have := this 6 e.natAbs
 split <;> simp <;> omega
theorem zgD (l : List UInt8) (n : Nat) : zi l n = n * 10 ^ l.length + zi l 0 := by
 induction l generalizing n with
 | nil => simp [zi]
 | cons a l ih =>
  have h : ∀ m, zi (a :: l) m = zi l (10 * m + (a.toNat - 48)) := fun m => rfl
  rw [h, h, ih, ih (10 * 0 + _), List.length_cons, Nat.pow_succ]
  grind
open Go.RowKit Go.Proofs.YtnkpmjhlkmlmbaaGreatDoor.Eng
theorem zgp (a b : ByteArray) : qcB (a ++ b) = qcB a ++ qcB b := by unfold qcB; simp
theorem ziZ {a b : ByteArray} (h : qcB a = qcB b) : a = b := by
 unfold qcB at h
 have := List.map_inj_right (f := fun b : UInt8 => (b.toNat : Int)) (by intro x y h; exact UInt8.toNat_inj.1 (by omega)) |>.1 h
 cases a; cases b; simp_all
theorem zgq (xs : List Int) (h : ∀ x ∈ xs, 0 ≤ x ∧ x < 256) : qcB (qfL xs) = xs := by
 show (xs.map fun n : Int => UInt8.ofNat n.toNat).map (fun b : UInt8 => (b.toNat : Int)) = xs
 rw [List.map_map]
 have e : xs.map ((fun b : UInt8 => (b.toNat : Int)) ∘ fun n : Int => UInt8.ofNat n.toNat) = xs.map id := by
  apply List.map_congr_left
  intro x hx
  have := h x hx
  simp
  omega
 rw [e, List.map_id]
theorem zjo {d : Nat} (h : d < 10) : qcB ((⟨#[48, 49, 50, 51, 52, 53, 54, 55, 56, 57]⟩ : ByteArray).extract d (d + 1)) = [48 + (d : Int)] := by
 have : ∀ d < 10, qcB ((⟨#[48, 49, 50, 51, 52, 53, 54, 55, 56, 57]⟩ : ByteArray).extract d (d + 1)) = [48 + (d : Int)] := by decide +kernel
 exact this d h
def dcl (n : Nat) : List Int := if h : n = 0 then [] else (48 + (n % 10 : Nat) : Int) :: dcl (n / 10)
termination_by n
decreasing_by omega
theorem zay : dcl 0 = [] := by unfold dcl; simp
theorem zb1 {n : Nat} (h : n ≠ 0) : dcl n = (48 + (n % 10 : Nat) : Int) :: dcl (n / 10) := by
 conv => lhs; unfold dcl
 simp [h]
def pd : Nat → Nat → List Int
 | 0, _ => []
 | j + 1, n => (48 + (n % 10 : Nat) : Int) :: pd j (n / 10)
theorem zhn : ∀ (j n : Nat), n < 10 ^ j → ∃ m, pd j n = dcl n ++ List.replicate m 48
  | 0, n, h => ⟨0, by have : n = 0 := by simpa using h
                      subst this; simp [pd, zay]⟩
  | j + 1, n, h => by
    obtain ⟨m, hm⟩ := zhn j (n / 10) (by rw [Nat.pow_succ] at h; omega)
    by_cases h0 : n = 0
    · subst h0
      refine ⟨m + 1, ?_⟩
      have h1 : dcl (0 / 10) = [] := zay
      rw [h1] at hm
      rw [pd, hm, zay]; simp [List.replicate_succ]
    · exact ⟨m, by rw [pd, hm, zb1 h0]; simp⟩
theorem zfs : ∀ (j n : Nat), n / 10 ^ j ≠ 0 → pd j (n % 10 ^ j) ++ dcl (n / 10 ^ j) = dcl n
 | 0, n, h => by simp [pd]
 | j + 1, n, h => by
  have e1 : n / 10 ^ (j + 1) = n / 10 / 10 ^ j := by rw [Nat.pow_succ, Nat.mul_comm, Nat.div_div_eq_div_mul]
  have e2 : n % 10 ^ (j + 1) % 10 = n % 10 := Nat.mod_mod_of_dvd _ ⟨10 ^ j, by rw [Nat.pow_succ, Nat.mul_comm]⟩
  have e3 : n % 10 ^ (j + 1) / 10 = n / 10 % 10 ^ j := by
   rw [Nat.pow_succ, Nat.mul_comm, Nat.mod_mul_right_div_self]
  have h0 : n ≠ 0 := by rintro rfl; simp at h
  rw [pd, e2, e3, e1, zb1 h0, List.cons_append, zfs j (n / 10) (by rw [← e1]; exact h)]
theorem zjl : ∀ (n : Nat), ∀ x ∈ dcl n, 48 ≤ x ∧ x ≤ 57 := by
 intro n
 induction n using Nat.strongRecOn with
 | _ n ih =>
  intro x hx
  by_cases h : n = 0
  ·subst h; rw [zay] at hx; simp at hx
  ·rw [zb1 h] at hx
   rcases List.mem_cons.1 hx with rfl | hx
   ·omega
   ·exact ih _ (by omega) x hx
theorem zjk : ∀ (n : Nat), n ≠ 0 → ∃ l d, dcl n = l ++ [d] ∧ 48 < d ∧ d ≤ 57 := by
 intro n
 induction n using Nat.strongRecOn with
 | _ n ih =>
  intro h
  rw [zb1 h]
  by_cases h1 : n / 10 = 0
  ·exact ⟨[], 48 + (n % 10 : Nat), by rw [h1, zay]; simp, by omega, by omega⟩
  ·obtain ⟨l, d, e, hd⟩ := ih (n / 10) (by omega) h1
   exact ⟨_ :: l, d, by rw [e]; rfl, hd⟩
theorem zgy : ∀ (j n : Nat), n < 10 ^ j → (dcl n).length ≤ j
  | 0, n, h => by have : n = 0 := by simpa using h
                  subst this; simp [zay]
  | j + 1, n, h => by
    by_cases h0 : n = 0
    · subst h0; simp [zay]
    · rw [zb1 h0]
      have := zgy j (n / 10) (by rw [Nat.pow_succ] at h; omega)
      simp; omega
def txt (n : Nat) : List Int := if n = 0 then [48] else (dcl n).reverse
theorem zfY (n : Nat) : ∀ x ∈ txt n, 48 ≤ x ∧ x ≤ 57 := by
 intro x hx
 unfold txt at hx
 split at hx
 ·simp at hx; omega
 ·exact zjl n x (by simpa using hx)
theorem zft : ∀ (j n : Nat), (pd j n).length = j
 | 0, _ => rfl
 | j + 1, n => by simp [pd, zft j]
theorem zh4 {n : Int} (h : 0 ≤ n ∧ n < 4294967296) : (Int.tdiv n 10) % 4294967296 = n / 10 := by
 rw [Int.tdiv_eq_ediv_of_nonneg h.1]; omega
theorem zfV {n : Int} (h : 0 ≤ n) : Int.tmod n 10 = n % 10 := Int.tmod_eq_emod_of_nonneg h
theorem zeZ {n : Nat} (h : n ≠ 0) : bl (n / 1000000000) + 1 ≤ bl n := by
 rw [zgo h]
 have : n / 1000000000 ≤ n / 2 := by omega
 have := zcJ this
 omega
def zbl (n : Nat) : List Int := if h : n = 0 then [] else pd 9 (n % 1000000000) ++ zbl (n / 1000000000)
termination_by n
decreasing_by omega
theorem zd6 : zbl 0 = [] := by unfold zbl; simp
theorem ze2 {n : Nat} (h : n ≠ 0) : zbl n = pd 9 (n % 1000000000) ++ zbl (n / 1000000000) := by
 conv => lhs; unfold zbl
 simp [h]
theorem zi6 : ∀ (n : Nat), ∃ m, zbl n = dcl n ++ List.replicate m 48 := by
 intro n
 induction n using Nat.strongRecOn with
 | _ n ih =>
  by_cases h : n = 0
  ·exact ⟨0, by subst h; rw [zd6, zay]; rfl⟩
  ·rw [ze2 h]
   by_cases h1 : n / 1000000000 = 0
   ·rw [h1, zd6, List.append_nil, Nat.mod_eq_of_lt (by omega)]
    exact zhn 9 n (by omega)
   ·obtain ⟨m, hm⟩ := ih (n / 1000000000) (by omega)
    refine ⟨m, ?_⟩
    have := zfs 9 n h1
    rw [hm, ← List.append_assoc]
    exact congrArg (· ++ List.replicate m 48) this
theorem zh6 (q : List Int) {res : ByteArray × Int} : ∀ (j : Nat) (low : List Int) (r : Int), j ≤ 9 → 0 ≤ r ∧ r < 4294967296 → low.length + j < 1000000000000 → Ev (fun k => zt.l0 k q (low ++ pd j r.toNat)) res → Ev (fun k => zt.l1 k q low r ((9 - j : Nat) : Int)) res
 | 0, low, r, hj, hr, hl, H => by
  refine zf ?_
  simp only [zt.l1]
  refine ze (by omega) ?_
  simpa [pd] using H
 | j + 1, low, r, hj, hr, hl, H => by
  have e : wrap64 (((9 - (j + 1) : Nat) : Int) + 1) = ((9 - j : Nat) : Int) := by unfold wrap64; omega
  have e2 : (48 + Int.tmod r 10) % 4294967296 % 256 = 48 + ((r.toNat % 10 : Nat) : Int) := by rw [zfV hr.1]; omega
  refine zf ?_
  simp only [zt.l1, e, e2, zh4 hr]
  clear e e2
  refine zd (by omega) (zd (by simp; omega) ?_)
  have hr10 : 0 ≤ r / 10 ∧ r / 10 < 4294967296 := by omega
  refine zh6 q j _ _ (by omega) hr10 (by simp; omega) ?_
  have e3 : (r / 10).toNat = r.toNat / 10 := by omega
  rw [e3]
  simpa [pd] using H
theorem zl2 {res : ByteArray × Int} : ∀ (n : Nat) (low : List Int), low.length + 9 * bl n < 100000000000 → (D n).length < 1000000000 → Ev (fun k => zt.l2 k (low ++ zbl n)) res → Ev (fun k => zt.l0 k (D n) low) res := by
 intro n
 induction n using Nat.strongRecOn with
 | _ n ih =>
  intro low hl hd H
  refine zf ?_
  simp only [zt.l0]
  by_cases h : n = 0
  ·subst h
   rw [zd6, List.append_nil] at H
   refine ze ?_ H
   rw [zu]; simp
  ·refine zd ?_ ?_
   ·rw [zaU h]; simp
   ·refine Ev.bind (zkD (zO n) hd (by omega)) ?_
    rw [V_D]
    have hb := zeZ h
    have hle : n / 1000000000 ≤ n := Nat.div_le_self _ _
    have hdl := zcm hle
    have hm9 : 0 ≤ ((n % (1000000000 : Int).toNat : Nat) : Int) ∧ ((n % (1000000000 : Int).toNat : Nat) : Int) < 4294967296 := by
     rw [show (1000000000 : Int).toNat = 1000000000 from rfl]; omega
    refine zh6 _ 9 low _ (by omega) hm9 (by omega) ?_
    refine ih (n / 1000000000) (by omega) _ ?_ (by omega) ?_
    ·rw [List.length_append, zft]; omega
    ·rw [ze2 h, ← List.append_assoc] at H
     exact H
theorem zl3 : ∀ (m : Nat) (p s q : List Int), s.length = m → (p ++ s ++ q).length < 1000000000000 → Ev (fun k => zt.l3 k (p ++ s ++ q) p.length (((p.length + s.length : Nat) : Int) - 1)) (qfL (p ++ s.reverse ++ q), 0) := by
 intro m
 induction m using Nat.strongRecOn with
 | _ m ih =>
  intro p s q hs hl
  have hl2 : p.length + s.length + q.length < 1000000000000 := by simpa [Nat.add_assoc] using hl
  refine zf ?_
  simp only [zt.l3]
  match s, hs with
  | [], hs => exact ze (by simp; omega) (Ev.now _)
  | [x], hs => exact ze (by simp) (Ev.now _)
  | x :: y :: t, hs =>
   obtain ⟨u, z, hu⟩ : ∃ u z, y :: t = u ++ [z] := by
    rcases List.eq_nil_or_concat (y :: t) with h | ⟨u, z, h⟩
    ·simp at h
    ·exact ⟨u, z, by rw [h, List.concat_eq_append]⟩
   rw [hu] at hs hl2 ⊢
   have hul : u.length + 2 = m := by simpa using hs
   have hlen : (x :: (u ++ [z])).length = u.length + 2 := by simp
   rw [hlen] at hl2 ⊢
   have e0 : ((p.length + (u.length + 2) : Nat) : Int) - 1 = ((p.length + 1 + u.length : Nat) : Int) := by omega
   rw [e0]
   have hL : (p ++ x :: (u ++ [z]) ++ q).length = p.length + u.length + 2 + q.length := by simp; omega
   rw [hL]
   have r1 : rd (p ++ x :: (u ++ [z]) ++ q) ((p.length : Nat) : Int) = x := by
    rw [List.append_assoc, List.cons_append]; exact zak rfl
   have r2 : rd (p ++ x :: (u ++ [z]) ++ q) ((p.length + 1 + u.length : Nat) : Int) = z := by
    have : p ++ x :: (u ++ [z]) ++ q = (p ++ x :: u) ++ z :: q := by simp
    rw [this]; exact zak (by simp; omega)
   have s1 : (p ++ x :: (u ++ [z]) ++ q).set ((p.length : Nat) : Int).toNat z = p ++ z :: (u ++ [z]) ++ q := by
    rw [List.append_assoc, List.cons_append, zcf rfl]; simp
   have s2 : (p ++ z :: (u ++ [z]) ++ q).set ((p.length + 1 + u.length : Nat) : Int).toNat x = (p ++ [z]) ++ u ++ (x :: q) := by
    have : p ++ z :: (u ++ [z]) ++ q = (p ++ z :: u) ++ z :: q := by simp
    rw [this, zcf (by simp; omega)]; simp
   rw [r1, r2, s1, s2, zaa (n := p.length) (by omega), zbg (by omega)]
   refine zd (by omega) (zd (by omega) (zd (by omega) (zd (by omega) (zd (by omega) (zd (by omega) (zd (by omega) (zd (by omega) (zd (by simp; omega) ?_))))))))
   have := ih u.length (by omega) (p ++ [z]) u (x :: q) rfl (by simp; omega)
   rw [List.length_append, List.length_singleton] at this
   have e1 : ((p.length + 1 + u.length : Nat) : Int) - 1 = ((p.length + 1 + u.length : Nat) : Int) - 1 := rfl
   refine zg this ?_
   simp
theorem zh7 {l : List Int} {d : Int} (hd : 48 < d) : ∀ (m : Nat), (l ++ [d]).length + m < 1000000000000 → Ev (fun k => zt.l2 k (l ++ [d] ++ List.replicate m 48)) (qfL (l ++ [d]).reverse, 0)
 | 0, hl => by
  simp only [List.replicate_zero, List.append_nil]
  have e : wrap64 (((l ++ [d]).length : Int) - 1) = (((l ++ [d]).length : Nat) : Int) - 1 := zbg (by omega)
  refine zf ?_
  simp only [zt.l2, e]
  clear e
  have hl1 : (l ++ [d]).length = l.length + 1 := by simp
  have hr : rd (l ++ [d]) (((l ++ [d]).length : Int) - 1) = d := zak (by omega)
  refine zd (by omega) (zd (by omega) (ze (by rw [hr]; omega) ?_))
  have := zl3 _ [] (l ++ [d]) [] rfl (by simp; omega)
  simpa using this
 | m + 1, hl => by
  rw [List.replicate_succ', ← List.append_assoc]
  have hX : ((l ++ [d]) ++ List.replicate m 48).length = (l ++ [d]).length + m := by rw [List.length_append, List.length_replicate]
  generalize hx : (l ++ [d]) ++ List.replicate m 48 = X at hX
  have hXl : (X ++ [48]).length = X.length + 1 := by simp
  have e : wrap64 (((X ++ [48]).length : Int) - 1) = (X.length : Int) := by rw [hXl]; exact zf3 (by omega)
  refine zf ?_
  simp only [zt.l2, e]
  clear e
  refine zd (by omega) (zd (by omega) (zd (zak rfl) (zd (by omega) (zd (by omega) ?_))))
  have ht : (X ++ [(48 : Int)]).take ((X.length : Int)).toNat = X := by simp
  rw [ht, ← hx]
  exact zh7 hd m (by omega)
theorem zhd {a : List Int} (h : Nm a) (hl : a.length ≤ 4096) : Ev (fun k => zt.f k a) (qfL (txt (V a)), 0) := by
 unfold zt.f
 refine zk (zcw h.dg (by omega)) (ze (by rw [zcu.2 ⟨hl, h⟩]; simp) ?_)
 by_cases c : a.length = 0
 ·have : a = [] := List.eq_nil_of_length_eq_zero c
  subst this
  exact zd (by simp) (Ev.now _)
 ·refine ze (by omega) ?_
  have hne : a ≠ [] := fun e => c (by rw [e]; rfl)
  have h0 := zdW h hne
  have hb := zaV h.dg
  obtain ⟨l, d, e, hd⟩ := zjk (V a) h0
  obtain ⟨m, hm⟩ := zi6 (V a)
  have hml : (zbl (V a)).length < 100000000000 := by
   have : ∀ n, (zbl n).length ≤ 9 * bl n := by
    intro n
    induction n using Nat.strongRecOn with
    | _ n ih =>
     by_cases h : n = 0
     ·subst h; rw [zd6]; simp
     ·rw [ze2 h, List.length_append, zft]
      have := ih (n / 1000000000) (by omega)
      have := zeZ h
      omega
   have := this (V a)
   omega
  have key := zl2 (res := (qfL (txt (V a)), 0)) (V a) [] (by simp; omega) (by rw [h]; omega) ?_
  ·rwa [h] at key
  ·rw [List.nil_append, hm, e]
   have ht : txt (V a) = (l ++ [d]).reverse := by unfold txt; rw [if_neg h0, e]
   rw [ht]
   refine zh7 hd.1 m ?_
   rw [hm, e, List.length_append, List.length_replicate] at hml
   omega
theorem zjJ {r : Int} (h : 0 ≤ r ∧ r < 4294967296) : qcB ((⟨#[48, 49, 50, 51, 52, 53, 54, 55, 56, 57]⟩ : ByteArray).extract ((Int.tmod r 10) : Int).toNat ((((Int.tmod r 10) + 1) % 4294967296) : Int).toNat) = [48 + ((r.toNat % 10 : Nat) : Int)] := by
 rw [zfV h.1]
 have e1 : (r % 10).toNat = r.toNat % 10 := by omega
 have e2 : (((r % 10) + 1) % 4294967296).toNat = r.toNat % 10 + 1 := by omega
 rw [e1, e2]
 exact zjo (by omega)
theorem zi0 (s : ByteArray) : s.size = (qcB s).length := by unfold qcB; rw [List.length_map, Array.length_toList]; rfl
theorem zhK {n : Nat} :
  ∀ (j : Nat) (s : ByteArray) (r : Nat), j ≤ 9 → r < 10 ^ j → r < 4294967296 → s.size + j < 1000000000000 →
  ∃ u, qcB u = (if n = 0 then dcl r else pd j r).reverse ++ qcB s ∧ u.size ≤ s.size + j ∧ ∀ res, Ev (fun k => zo.l0 k (D n) u) res → Ev (fun k => zo.l1 k (D n) s (r : Int) ((9 - j : Nat) : Int)) res
 | 0, s, r, hj, hr, hr2, hs => by
  have : r = 0 := by simpa using hr
  subst this
  refine ⟨s, by rw [zay]; simp [pd], by omega, fun res h => ?_⟩
  refine zf ?_
  simp only [zo.l1]
  exact ze (by omega) h
 | j + 1, s, r, hj, hr, hr2, hs => by
  have e : wrap64 (((9 - (j + 1) : Nat) : Int) + 1) = ((9 - j : Nat) : Int) := by unfold wrap64; omega
  have hx := zjJ (r := (r : Int)) (by omega)
  have hd : Int.tdiv (r : Int) 10 % 4294967296 = ((r / 10 : Nat) : Int) := by rw [zh4 (by omega)]; omega
  generalize hE : (⟨#[48, 49, 50, 51, 52, 53, 54, 55, 56, 57]⟩ : ByteArray).extract ((Int.tmod (r : Int) 10) : Int).toNat ((((Int.tmod (r : Int) 10) + 1) % 4294967296) : Int).toNat = E at hx
  have hEs : E.size = 1 := by rw [zi0, hx]; rfl
  have hm := zfV (n := (r : Int)) (by omega)
  obtain ⟨u, h1, h2, h3⟩ := zhK j (E ++ s) (r / 10) (by omega) (by rw [Nat.pow_succ] at hr; omega) (by omega) (by rw [ByteArray.size_append]; omega)
  have hsz : E.size + s.size < 35184372088832 := by omega
  by_cases c : n = 0
  ·by_cases c2 : r = 0
   ·subst c2
    refine ⟨s, by rw [if_pos c, zay]; simp, by omega, fun res h => ?_⟩
    refine zf ?_
    simp only [zo.l1]
    refine zd (by omega) (ze (by rw [c, zu]; simp) (ze (by omega) h))
   ·refine ⟨u, ?_, by rw [ByteArray.size_append] at h2; omega, fun res h => ?_⟩
    ·rw [h1, if_pos c, if_pos c, zgp, hx, zb1 c2]; simp
    ·refine zf ?_
     simp only [zo.l1, hE, e, hd]
     clear e
     refine zd (by omega) (ze (by rw [c, zu]; simp) (zd (by omega) (zd (by omega) (zd (by omega) (zd (show _ ≤ ((10 : Nat) : Int) by omega) (zd hsz ?_))))))
     exact h3 res h
  ·refine ⟨u, ?_, by rw [ByteArray.size_append] at h2; omega, fun res h => ?_⟩
   ·rw [h1, if_neg c, if_neg c, zgp, hx, pd]; simp
   ·refine zf ?_
    simp only [zo.l1, hE, e, hd]
    clear e
    refine zd (by omega) (zd (by rw [zaU c]; simp) (zd (by omega) (zd (by omega) (zd (show _ ≤ ((10 : Nat) : Int) by omega) (zd hsz ?_)))))
    exact h3 res h
theorem zlz : ∀ (n : Nat) (s : ByteArray), s.size + 9 * bl n < 100000000000 → (D n).length < 1000000000 → ∃ u, qcB u = (dcl n).reverse ++ qcB s ∧ Ev (fun k => zo.l0 k (D n) s) u := by
 intro n
 induction n using Nat.strongRecOn with
 | _ n ih =>
  intro s hl hd
  by_cases h : n = 0
  ·subst h
   refine ⟨s, by rw [zay]; simp, zf ?_⟩
   simp only [zo.l0]
   exact ze (by rw [zu]; simp) (Ev.now _)
  ·have hb := zeZ h
   have hdl := zcm (Nat.div_le_self n 1000000000)
   obtain ⟨u, h1, h2, h3⟩ := zhK (n := n / 1000000000) 9 s (n % 1000000000) (by omega) (by omega) (by omega) (by omega)
   obtain ⟨v, h4, h5⟩ := ih (n / 1000000000) (by omega) u (by omega) (by omega)
   refine ⟨v, ?_, zf ?_⟩
   ·rw [h4, h1]
    by_cases c : n / 1000000000 = 0
    ·rw [if_pos c, c, zay, Nat.mod_eq_of_lt (by omega)]; simp
    ·rw [if_neg c]
     have := zfs 9 n c
     rw [← List.append_assoc, ← List.reverse_append]
     exact congrArg (fun l => l.reverse ++ qcB s) this
   ·simp only [zo.l0]
    refine zd (by rw [zaU h]; simp) ?_
    refine Ev.bind (zhF (zO n) hd (by omega)) ?_
    rw [V_D, show (1000000000 : Int).toNat = 1000000000 from rfl]
    have go : Ev (fun k => zo.j2 k (D (n / 1000000000)) s ((n % 1000000000 : Nat) : Int)) v := by
     refine zf ?_
     simp only [zo.j2]
     exact h3 v h5
    by_cases c : n % 1000000000 = 0
    ·refine ze (by rw [c, zu]; simp) ?_
     rw [c] at go; exact go
    ·have e : D (n % 1000000000) = [((n % 1000000000 : Nat) : Int)] := by
      rw [zaU c, Nat.div_eq_of_lt (by omega), zu, Nat.mod_eq_of_lt (by omega)]
     refine zd (by rw [e]; simp) (zd (by rw [e]; simp) ?_)
     have hr : rd (D (n % 1000000000)) 0 = ((n % 1000000000 : Nat) : Int) := by rw [e]; rfl
     rw [hr]; exact go
theorem zlr {a : List Int} (h : Nm a) (hl : a.length ≤ 4096) : Ev (fun k => zo.f k a) (qfL (txt (V a))) := by
 unfold zo.f
 by_cases c : a.length = 0
 ·have : a = [] := List.eq_nil_of_length_eq_zero c
  subst this
  exact zd (by simp) (Ev.now _)
 ·refine ze (by omega) ?_
  have hne : a ≠ [] := fun e => c (by rw [e]; rfl)
  have h0 := zdW h hne
  have hb := zaV h.dg
  obtain ⟨u, h1, h2⟩ := zlz (V a) ⟨#[]⟩ (by show 0 + _ < _; omega) (by rw [h]; omega)
  rw [h] at h2
  refine zg h2 (ziZ ?_)
  rw [h1, zgq _ (fun x hx => by have := zfY _ x hx; omega)]
  have e : qcB (⟨#[]⟩ : ByteArray) = [] := rfl
  unfold txt
  rw [e, if_neg h0, List.append_nil]
def pvA : Nat → List Int → Nat
 | a, [] => a
 | a, c :: l => pvA (10 * a + (c - 48).toNat) l
theorem zfy : ∀ (l : List Int) (a : Nat), pvA a l = a * 10 ^ l.length + pvA 0 l
 | [], a => by simp [pvA]
 | c :: l, a => by
  rw [pvA, pvA, zfy l (10 * a + (c - 48).toNat), zfy l (10 * 0 + (c - 48).toNat), List.length_cons, Nat.pow_succ]
  grind
theorem zkZ (l m : List Int) (a : Nat) : pvA a (l ++ m) = pvA (pvA a l) m := by
 induction l generalizing a with
 | nil => rfl
 | cons c l ih => simp [pvA, ih]
def pv (l : List Int) : Nat := pvA 0 l
theorem zfz (l m : List Int) : pv (l ++ m) = pv l * 10 ^ m.length + pv m := by
 unfold pv; rw [zkZ, zfy]
theorem zhv (l : List Int) (c : Int) : pv (l ++ [c]) = 10 * pv l + (c - 48).toNat := by
 rw [zfz]; simp [pv, pvA]; omega
def zb4 (l : List Int) : Prop := ∀ x ∈ l, 48 ≤ x ∧ x ≤ 57
instance (l : List Int) : Decidable (zb4 l) := inferInstanceAs (Decidable (∀ x ∈ l, 48 ≤ x ∧ x ≤ 57))
theorem zk2 {l : List Int} (h : zb4 l) : pv l < 10 ^ l.length := by
 induction l with
 | nil => simp [pv, pvA]
 | cons c l ih =>
  have h1 := h c (by simp)
  have h2 := ih (fun x hx => h x (by simp [hx]))
  have e : pv (c :: l) = (c - 48).toNat * 10 ^ l.length + pv l := by
   have := zfz [c] l
   simpa [pv, pvA] using this
  rw [e, List.length_cons, Nat.pow_succ]
  have h3 : (c - 48).toNat * 10 ^ l.length ≤ 9 * 10 ^ l.length := Nat.mul_le_mul_right _ (by omega)
  omega
def isT (l : List Int) : Bool := decide (zb4 l) && (decide (l.length = 1) || decide (1 < l.length) && decide (l.getD 0 0 ≠ 48))
section
variable (s : ByteArray)
end
section
variable (s : ByteArray)
end
theorem zk1 {c : Int} {l : List Int} : pv (c :: l) = (c - 48).toNat * 10 ^ l.length + pv l := by
 have := zfz [c] l
 simpa [pv, pvA] using this
theorem zfB {l : List Int} (hd : zb4 l) (h0 : l.getD 0 0 ≠ 48) (hl : l ≠ []) : 10 ^ (l.length - 1) ≤ pv l := by
 cases l with
 | nil => exact absurd rfl hl
 | cons c l =>
  have hc := hd c (by simp)
  have h1 : c ≠ 48 := by simpa using h0
  rw [zk1]
  have : 1 * 10 ^ l.length ≤ (c - 48).toNat * 10 ^ l.length := Nat.mul_le_mul_right _ (by omega)
  simp; omega
theorem zk0 : ∀ (n : Nat), pv (dcl n).reverse = n := by
 intro n
 induction n using Nat.strongRecOn with
 | _ n ih =>
  by_cases h : n = 0
  ·subst h; rw [zay]; rfl
  ·rw [zb1 h, List.reverse_cons, zhv, ih _ (by omega)]; omega
theorem zk3 (n : Nat) : pv (txt n) = n := by
 unfold txt
 split
 ·subst n; rfl
 ·exact zk0 n
theorem zgA {n : Nat} {c : Int} (hc : 48 ≤ c ∧ c ≤ 57) (h : n ≠ 0 ∨ c ≠ 48) : dcl (10 * n + (c - 48).toNat) = c :: dcl n := by
 rw [zb1 (by omega)]
 congr 1
 ·omega
 ·congr 1; omega
theorem zgz : ∀ (m : Nat) (l : List Int), l.length = m → zb4 l → l.getD 0 0 ≠ 48 → dcl (pv l) = l.reverse
 | 0, l, hm, _, _ => by
  have : l = [] := List.eq_nil_of_length_eq_zero hm
  subst this; simp [pv, pvA, zay]
 | m + 1, l, hm, hd, h0 => by
  rcases List.eq_nil_or_concat l with rfl | ⟨a, c, rfl⟩
  ·simp at hm
  rw [List.concat_eq_append] at hm hd h0 ⊢
  have hc := hd c (by simp)
  have hda : zb4 a := fun x hx => hd x (by simp [hx])
  rw [zhv, List.reverse_append, List.reverse_singleton, List.singleton_append]
  by_cases ha : a = []
  ·subst ha
   have : c ≠ 48 := by simpa using h0
   rw [zgA hc (.inr this)]; simp [pv, pvA, zay]
  ·have h1 : a.getD 0 0 ≠ 48 := by
    cases a with
    | nil => exact absurd rfl ha
    | cons x a => simpa using h0
   have h2 := zfB hda h1 ha
   have : 1 ≤ 10 ^ (a.length - 1) := Nat.one_le_pow _ _ (by omega)
   rw [zgA hc (.inl (by omega)), zgz m a (by simpa using hm) hda h1]
theorem zmf {l : List Int} (h : isT l = true) : txt (pv l) = l := by
 unfold isT at h
 simp only [Bool.and_eq_true, Bool.or_eq_true, decide_eq_true_eq] at h
 obtain ⟨hd, h⟩ := h
 by_cases h0 : l.getD 0 0 = 48
 ·have h1 : l.length = 1 := by
   rcases h with h | h
   ·exact h
   ·exact absurd h0 h.2
  match l, h1 with
  | [c], _ =>
   have : c = 48 := by simpa using h0
   subst this; rfl
 ·have hl : l ≠ [] := by rintro rfl; simp at h
  have h2 := zfB hd h0 hl
  have h3 : 1 ≤ 10 ^ (l.length - 1) := Nat.one_le_pow _ _ (by omega)
  unfold txt
  rw [if_neg (by omega), zgz _ l rfl hd h0, List.reverse_reverse]
theorem zi1 (n : Nat) : qcB (qfL (txt n)) = txt n := zgq _ (fun x hx => by have := zfY n x hx; omega)
theorem zme {n k : Nat} (h : n < 10 ^ k) (hk : 1 ≤ k) : (txt n).length ≤ k := by
 unfold txt
 split
 ·simpa using hk
 ·have := zgy k n h; simpa using this
theorem zg7 (A Bl : List Int) (i : Nat) (x : Int) (hx : 0 ≤ x ∧ x < 4294967296) (hB : Dg Bl) (hl : A.length < 1000000000) (hlb : Bl.length < 1000000000) (hi : i < A.length) (res : List Int) : ∀ (b done r pb : List Int) (c : Int), Bl = pb ++ b → done.length = i + pb.length → b.length < r.length → Dg r → 0 ≤ c ∧ c < 4294967296 →
  Ev (fun k => zH.l0 k Bl (done ++ zT x b r c) A A.length ((i + 1 : Nat) : Int)) res →
  Ev (fun k => zH.l1 k Bl (done ++ r) i x c A A.length i Bl Bl.length pb.length) res
 | [], done, r, pb, c, he, hd, hr, hg, hc, H => by
  obtain ⟨y, r, rfl⟩ : ∃ y r', r = y :: r' := by
   cases r with
   | nil => simp at hr
   | cons y r' => exact ⟨y, r', rfl⟩
  have hlen : Bl.length = pb.length := by rw [he]; simp
  refine zf ?_
  have e : wrap64 ((i : Int) + (Bl.length : Int)) = ((i + Bl.length : Nat) : Int) := by unfold wrap64; omega
  simp only [zH.l1, e, zaa (n := i) (by omega)]
  clear e
  refine ze (by omega) (zd (by omega) (zd (by simp; omega) ?_))
  have hs : (done ++ y :: r).set (((i + Bl.length : Nat) : Int)).toNat (c % 4294967296) = done ++ zT x [] (y :: r) c := by
   rw [zcf (by omega)]; simp [zT]; omega
  rw [hs]; exact H
 | y :: b, done, r, pb, c, he, hd, hr, hg, hc, H => by
  obtain ⟨o, r, rfl⟩ : ∃ y r', r = y :: r' := by
   cases r with
   | nil => simp at hr
   | cons y r' => exact ⟨y, r', rfl⟩
  have hlen : Bl.length = pb.length + 1 + b.length := by rw [he]; simp; omega
  have hy : 0 ≤ y ∧ y < 4294967296 := by rw [he] at hB; exact hB.right.head
  have ho := hg.head
  have hp := zew hx hy
  refine zf ?_
  have e : wrap64 ((i : Int) + (pb.length : Int)) = ((done.length : Nat) : Int) := by unfold wrap64; omega
  simp only [zH.l1, e, zaa (n := pb.length) (by omega)]
  clear e
  refine zd (by omega) (zd (by omega) (zd (by omega) (zd (by omega) (zd (by simp; omega) (zd (by omega) (zd (by simp; omega) ?_))))))
  have h1 : rd Bl (pb.length : Int) = y := by rw [he]; exact zak rfl
  have h2 : rd (done ++ o :: r) (done.length : Int) = o := zak rfl
  rw [h1, h2, zcf rfl, u64 hx.1 (by omega), u64 hy.1 (by omega), u64 ho.1 (by omega), u64 (n := x * y) hp.1 (by omega), u64 (n := x * y + o) (by omega) (by omega), u64 (n := x * y + o + c) (by omega) (by omega)]
  have := zg7 A Bl i x hx hB hl hlb hi res b (done ++ [(x * y + o + c) % 4294967296]) r (pb ++ [y]) ((x * y + o + c) / 4294967296) (by rw [he]; simp) (by simp [hd]; omega) (by simpa using hr) hg.tail (by omega) (by simpa [zT] using H)
  simpa using this
theorem zg6 (A Bl : List Int) (hA : Dg A) (hB : Dg Bl) (hl : A.length < 1000000000) (hlb : Bl.length < 1000000000) : ∀ (a done r pa : List Int), A = pa ++ a → done.length = pa.length → Dg done → Dg r → r.length = Bl.length + a.length → r.drop Bl.length = List.replicate a.length 0 →
  Ev (fun k => zH.l0 k Bl (done ++ r) A A.length done.length) (D (V (done ++ zbt a Bl r)))
 | [], done, r, pa, he, hd, hg, hr, hrl, hz => by
  have hlen : A.length = done.length := by rw [he, hd]; simp
  refine zf ?_
  simp only [zH.l0]
  refine ze (by omega) ?_
  refine Ev.bind (zdE (hg.app hr) (by simp; simp at hrl; omega)) ?_
  exact Ev.now _
 | x :: a, done, r, pa, he, hd, hg, hr, hrl, hz => by
  have hlen : A.length = done.length + 1 + a.length := by rw [he, hd]; simp; omega
  have hx : 0 ≤ x ∧ x < 4294967296 := by rw [he] at hA; exact hA.right.head
  have hrr := zfN hx Bl r 0 a.length hB hr (by omega) (by simpa using hz)
  refine zf ?_
  simp only [zH.l0]
  refine zd (by omega) (zd (by omega) (zd (by omega) ?_))
  have h1 : rd A (done.length : Int) = x := by rw [he]; exact zak (by omega)
  rw [h1]
  refine zg7 A Bl done.length x hx hB hl hlb (by omega) _ Bl done r [] 0 rfl rfl (by simp at hrl; omega) hr (by omega) ?_
  obtain ⟨r0, r', e⟩ : ∃ r0 r', zT x Bl r 0 = r0 :: r' := by
   cases h : zT x Bl r 0 with
   | nil =>
    have hl := hrr.2.2.2
    rw [h] at hl
    simp at hrl hl; omega
   | cons r0 r' => exact ⟨r0, r', rfl⟩
  rw [e] at hrr
  have := zg6 A Bl hA hB hl hlb a (done ++ [r0]) r' (pa ++ [x]) (by rw [he]; simp) (by simp [hd]) (hg.app (Dg.cons hrr.2.1.head.1 hrr.2.1.head.2 Dg.nil)) hrr.2.1.tail (by have := hrr.2.2.2; simp at this hrl; omega) (by simpa using hrr.2.2.1)
  rw [List.length_append, List.length_singleton, List.append_assoc] at this
  have e2 : done ++ zbt (x :: a) Bl r = done ++ [r0] ++ zbt a Bl r' := by simp [zbt, e]
  rw [e, e2]; simpa using this
theorem zfn {a b : List Int} (ha : Dg a) (hb : Dg b) (la : a.length < 1000000000) (lb : b.length < 1000000000) : Ev (fun k => zH.f k a b) (D (V a * V b)) := by
 unfold zH.f
 have e : wrap64 ((a.length : Int) + (b.length : Int)) = ((a.length + b.length : Nat) : Int) := by unfold wrap64; omega
 simp only [e]
 clear e
 refine zd (by omega) (zd (by omega) ?_)
 have := zg6 a b ha hb la lb a [] (List.replicate (a.length + b.length) 0) [] rfl rfl Dg.nil (Dg.zeros _) (by simp; omega) (by simp)
 refine zg this ?_
 have h2 := zg5 a b (List.replicate (a.length + b.length) 0) ha hb (Dg.zeros _) (by simp)
 simp [h2.1, zdY]
theorem zkz {a b : List Int} (ha : Nm a) (hb : Nm b) (la : a.length ≤ 4096) (lb : b.length ≤ 4096) : Ev (fun k => zcb.f k a b) (zac (V a * V b)) := by
 have h1 : may a = true := zcu.2 ⟨la, ha⟩
 have h2 : may b = true := zcu.2 ⟨lb, hb⟩
 have tail : Ev (fun k => (zH.f k a b).bind fun t => (zaC.f t).bind fun bt => some (bt.1, bt.2)) (zac (V a * V b)) := by
  refine Ev.bind (zfn ha.dg hb.dg (by omega) (by omega)) ?_
  exact zk (zkB _) (Ev.now _)
 unfold zcb.f
 refine Ev.bind (ziJ ha.dg hb.dg (by omega) (by omega)) ?_
 refine ze (by simp [h1, h2]) ?_
 by_cases c1 : a.length > 0
 ·refine zd (by omega) ?_
  by_cases c2 : b.length > 0
  ·refine zd (by omega) ?_
   have e : wrap64 (wrap64 ((a.length : Int) + (b.length : Int)) - 1) = ((a.length + b.length - 1 : Nat) : Int) := by unfold wrap64; omega
   rw [e]
   clear e
   by_cases c3 : a.length + b.length - 1 > 4096
   ·refine zd (by omega) (zg (Ev.now _) ?_)
    have p1 := zeU ha (fun e => by subst e; simp at c1)
    have p2 := zeU hb (fun e => by subst e; simp at c2)
    have p3 := Nat.mul_le_mul p1 p2
    rw [← Nat.pow_add] at p3
    have p4 : (D (V a * V b)).length > 4096 := by
     apply Nat.lt_of_not_le
     intro k
     have p5 := zbs (V a * V b)
     have p6 := Nat.pow_lt_pow_iff_right (a := 4294967296) (by omega) |>.1 (Nat.lt_of_le_of_lt p3 p5)
     omega
    unfold zac; rw [if_pos p4]
   ·exact ze (by omega) tail
  ·exact ze (by omega) tail
 ·exact ze (by omega) tail
theorem zdp {n : Nat} (h : (D n).length ≤ 4096) : zac n = (D n, 0) := by
 unfold zac; rw [if_neg (by omega)]
theorem zbW : D 1 = [1] := by
 have h2 : Nm [1] := by have := zdV Dg.nil (d := 1) (by omega) (by omega); simpa using this
 exact h2
theorem zhi (n : Nat) (h : n < 9223372036854775808) : (BitVec.ofInt 64 (n : Int)).toNat = n := by
 rw [BitVec.ofInt_natCast, BitVec.toNat_ofNat]; exact Nat.mod_eq_of_lt (by omega)
theorem ziO (n : Nat) (h : n < 9223372036854775808) : Go.bits .and .i64 (n : Int) 1 = ((n % 2 : Nat) : Int) := by
 show IntKind.i64.wrap ((BitVec.ofInt 64 (n : Int) &&& BitVec.ofInt 64 ((1 : Nat) : Int)).toNat : Int) = _
 rw [BitVec.toNat_and, zhi n h, zhi 1 (by omega), Nat.and_one_is_mod, IntKind.wrap_i64]
 omega
theorem zlH (n i : Nat) (h : i ≤ 64) : shr .i64 (n : Int) (i : Int) = ((n / 2 ^ i : Nat) : Int) := by
 unfold shr
 have e : min (i : Int).toNat IntKind.i64.bits = i := by rw [Int.toNat_natCast]; exact Nat.min_eq_left h
 rw [e]; simp
theorem zfr {b n : Nat} (h : 1 ≤ b) : 1 ≤ b ^ n := Nat.one_le_pow _ _ h
theorem zeD {b m n : Nat} (h : 1 ≤ b) (k : m ≤ n) : b ^ m ≤ b ^ n := Nat.pow_le_pow_right h k
theorem zjR (n i : Nat) : n / 2 ^ i = 2 * (n / 2 ^ (i + 1)) + n / 2 ^ i % 2 := by
 have : n / 2 ^ (i + 1) = n / 2 ^ i / 2 := by rw [Nat.pow_succ, Nat.div_div_eq_div_mul]
 rw [this]; omega
theorem zlL {m : Nat} (h : m ≠ 0) : 2 * (D m).length - 1 ≤ (D (m * m)).length := by
 have h1 := zf5 h
 have h2 := Nat.mul_le_mul h1 h1
 rw [← Nat.pow_add] at h2
 apply Nat.le_of_not_lt
 intro k
 have h3 := zbs (m * m)
 have h4 : (4294967296 : Nat) ^ (D (m * m)).length ≤ 4294967296 ^ ((D m).length - 1 + ((D m).length - 1)) := Nat.pow_le_pow_right (by omega) (by omega)
 omega
theorem zmr {L : Nat} (h : L ≤ 4096) : wrap64 (wrap64 (2 * (L : Int)) - 1) = 2 * (L : Int) - 1 := by unfold wrap64; omega
theorem zlM {p : Nat} (h : (D p).length ≤ 4096) : (D (p * p)).length ≤ 8192 := by
 have h1 := zbs p
 have h2 := Nat.mul_lt_mul'' h1 h1
 rw [← Nat.pow_add] at h2
 have := zdl h2
 omega
theorem ziV {x : Int} (h : 0 ≤ x ∧ x < 18446744073709551616) : Ev (fun k => zcI.f k x) ((bl x.toNat : Nat) : Int) := by
 unfold zcI.f
 exact Ev.bind (zj9 h) (Ev.now _)
theorem zkX {b n i p q T t : Nat} (hbl : Dg [((b : Nat) : Int)]) (hi : i < 64) (hs : Go.bits .and .i64 (shr .i64 (n : Int) (i : Int)) 1 = ((t % 2 : Nat) : Int)) (hp : p ≠ 0) (hl : (D p).length ≤ 4096) (hpT : p * p ≤ T) (hqT : q ≤ T)
  (h1 : t % 2 = 1 → p * p * b = q) (h0 : t % 2 ≠ 1 → p * p = q) (ih : (D q).length ≤ 4096 → Ev (fun k => zA.l0 k (b : Int) (n : Int) (D q) ((i : Int) - 1)) (zac T)) :
  Ev (fun k => zA.l0 k (b : Int) (n : Int) (D p) (i : Int)) (zac T) := by
 have hsl := zlL hp
 have hss := zlM hl
 refine zf ?_
 simp only [zA.l0, zmr hl, hs]
 clear hs
 refine zd (by omega) ?_
 by_cases c1 : 2 * (D p).length > 4097
 ·refine zd (by omega) (zg (Ev.now _) ?_)
  exact (ze1 (m := p * p) (by omega) hpT).symm
 ·refine ze (by omega) (Ev.bind (zfn (zO _) (zO _) (by omega) (by omega)) ?_)
  rw [V_D]
  refine zd (by omega) ?_
  have next : Ev (fun k => zA.j4 k (b : Int) (n : Int) (D q) (i : Int)) (zac T) := by
   refine zf ?_
   simp only [zA.j4, zbg (n := i) (by omega)]
   by_cases c2 : (D q).length > 4096
   ·refine zd (by omega) (zg (Ev.now _) ?_)
    exact (ze1 c2 hqT).symm
   ·exact ze (by omega) (ih (by omega))
  by_cases c3 : t % 2 = 1
  ·refine zd (by omega) (Ev.bind (zfn (zO _) hbl (by omega) (by simp)) ?_)
   have hv : V (D (p * p)) * V [((b : Nat) : Int)] = q := by
    rw [V_D, ← h1 c3]
    simp only [zG, zaF, Int.toNat_natCast, Nat.mul_zero, Nat.add_zero]
   rw [hv]; exact next
  ·refine ze (by omega) ?_
   rw [h0 c3]; exact next
theorem zhu {b : Nat} (hb : 1 ≤ b ∧ b < 4294967296) (hbl : Dg [((b : Nat) : Int)]) {n : Nat} (hn : n < 9223372036854775808) : ∀ (i : Nat), i ≤ 64 → (D (b ^ (n / 2 ^ i))).length ≤ 4096 → Ev (fun k => zA.l0 k (b : Int) (n : Int) (D (b ^ (n / 2 ^ i))) ((i : Int) - 1)) (zac (b ^ n))
 | 0, hi, hl => by
  refine zf ?_
  simp only [zA.l0]
  refine ze (by decide) (zg (Ev.now _) ?_)
  rw [Nat.pow_zero, Nat.div_one] at hl ⊢
  exact (zdp hl).symm
 | i + 1, hi, hl => by
  have e0 : ((i + 1 : Nat) : Int) - 1 = (i : Int) := by rw [Int.natCast_add]; exact Int.add_sub_cancel _ _
  have hh := zjR n i
  have hle : n / 2 ^ i ≤ n := Nat.div_le_self _ _
  have hm : b ^ (n / 2 ^ (i + 1)) ≠ 0 := Nat.ne_of_gt (zfr hb.1)
  have hsq : b ^ (n / 2 ^ (i + 1)) * b ^ (n / 2 ^ (i + 1)) = b ^ (2 * (n / 2 ^ (i + 1))) := by rw [← Nat.pow_add, Nat.two_mul]
  have hle2 : 2 * (n / 2 ^ (i + 1)) ≤ n / 2 ^ i := by rw [hh]; exact Nat.le_add_right _ _
  have hbit : Go.bits .and .i64 (shr .i64 (n : Int) (i : Int)) 1 = ((n / 2 ^ i % 2 : Nat) : Int) := by
   rw [zlH n i (Nat.le_of_lt hi), ziO _ (Nat.lt_of_le_of_lt hle hn)]
  rw [e0]
  refine zkX (q := b ^ (n / 2 ^ i)) hbl hi hbit hm hl ?_ (zeD hb.1 hle) ?_ ?_ (fun h => zhu hb hbl hn i (Nat.le_of_lt hi) h)
  ·rw [hsq]; exact zeD hb.1 (Nat.le_trans hle2 hle)
  ·intro c; rw [hsq, ← Nat.pow_succ]; congr 1; rw [c] at hh; exact hh.symm
  ·intro c
   have c' : n / 2 ^ i % 2 = 0 := (Nat.mod_two_eq_zero_or_one _).resolve_right c
   rw [hsq]; congr 1; rw [c'] at hh; exact hh.symm
theorem zkA {b n : Nat} (hb : b < 4294967296) (hn : n < 9223372036854775808) : Ev (fun k => zA.f k (b : Int) (n : Int)) (zac (b ^ n)) := by
 have h1 : Nm [1] := by rw [← zbW]; exact zD 1
 have one : ∀ z, z = true → b ^ n = 1 → Ev (fun k => zA.j0 k (b : Int) (n : Int) z) (zac (b ^ n)) := by
  rintro z rfl e
  refine zf ?_
  simp only [zA.j0]
  refine zd trivial (Ev.bind (zey (by omega) (by omega)) (zg (Ev.now _) ?_))
  rw [e]
  exact (zdp (n := 1) (by rw [zbW]; simp)).symm
 unfold zA.f
 refine ze (by omega) ?_
 by_cases c0 : n = 0
 ·refine zd (by omega) (one true rfl (by subst c0; simp))
 ·refine ze (by omega) ?_
  by_cases c1 : b = 1
  ·refine one _ (by subst c1; rfl) (by subst c1; simp)
  ·have e : decide ((b : Int) = 1) = false := decide_eq_false (by omega)
   rw [e]
   refine zf ?_
   simp only [zA.j0]
   refine ze (by simp) ?_
   by_cases c2 : b = 0
   ·refine zd (by omega) (zg (Ev.now _) ?_)
    subst c2
    rw [Nat.zero_pow (by omega), zdp (by rw [zu]; simp), zu]
   ·refine ze (by omega) ?_
    by_cases c3 : n > 131072
    ·refine zd (by omega) (zg (Ev.now _) ?_)
     have p1 : 2 ^ n ≤ b ^ n := Nat.pow_le_pow_left (by omega) n
     exact (zmc (by omega) p1).symm
    ·refine ze (by omega) (Ev.bind (zey (by omega) (by omega)) ?_)
     rw [u64 (by omega) (by omega)]
     refine Ev.bind (ziV (by omega)) ?_
     have hbl : bl n ≤ 63 := zau (by omega)
     rw [Int.toNat_natCast, zbg (by omega)]
     have := zhu (b := b) (by omega) (Dg.cons (by omega) (by omega) Dg.nil) hn (bl n) (by omega)
     rw [Nat.div_eq_of_lt (zar n), Nat.pow_zero] at this
     exact this (by rw [zbW]; simp)
theorem zh5 (n : Nat) (h : n < 9223372036854775808) : wrap64 (Int.tdiv (n : Int) 2) = ((n / 2 : Nat) : Int) := by
 rw [Int.tdiv_eq_ediv_of_nonneg (by omega), zaE (by omega) (by omega)]; omega
theorem zl9 (n : Nat) : Int.tmod (n : Int) 2 = ((n % 2 : Nat) : Int) := by
 rw [Int.tmod_eq_emod_of_nonneg (by omega)]; omega
theorem zlx {M K : Nat} (hK : K < 100000000) (hM : M < 4294967296 ^ K) : ∀ (n : Nat), n < 9223372036854775808 → ∀ (out sq : Nat) (o s : Nat), out ≤ o → sq ≤ s → 1 ≤ o → 1 ≤ s → (0 < n → s ≤ M) → o * s ^ n ≤ M → s < 4294967296 ^ K →
  Ev (fun k => zY.l0 k (n : Int) (D out) (D sq)) (D (out * sq ^ n)) := by
 intro n
 induction n using Nat.strongRecOn with
 | _ n ih =>
  intro hn out sq o s ho hs h1 h2 hsM hT hs9
  have lenM : ∀ {x : Nat}, x ≤ M → (D x).length < 100000000 := by
   intro x hx
   have := zdl (Nat.lt_of_le_of_lt hx hM)
   omega
  have hoM : out ≤ M := by
   have : o * 1 ≤ o * s ^ n := Nat.mul_le_mul_left _ (zfr h2)
   omega
  have hls : (D sq).length < 100000000 := by have := zdl (Nat.lt_of_le_of_lt hs hs9); omega
  refine zf ?_
  simp only [zY.l0, zh5 n hn, zl9]
  by_cases c : n = 0
  ·subst c
   refine ze (by omega) (zg (Ev.now _) ?_)
   simp
  ·refine zd (by omega) ?_
   have hsM' := hsM (by omega)
   have hsq : sq ^ n = (sq * sq) ^ (n / 2) * sq ^ (n % 2) := by
    rw [← Nat.pow_two, ← Nat.pow_mul, ← Nat.pow_add]; congr 1; omega
   have hsp : s ^ n = (s * s) ^ (n / 2) * s ^ (n % 2) := by
    rw [← Nat.pow_two, ← Nat.pow_mul, ← Nat.pow_add]; congr 1; omega
   have hss : 0 < n / 2 → s * s ≤ M := by
    intro h
    have h3 : s ^ 2 ≤ s ^ n := zeD h2 (by omega)
    have h4 : 1 * s ^ n ≤ o * s ^ n := Nat.mul_le_mul_right _ h1
    rw [Nat.pow_two] at h3
    omega
   have go : ∀ (out' o' : Nat), out' ≤ o' → 1 ≤ o' → o' * (s * s) ^ (n / 2) ≤ M → out' * (sq * sq) ^ (n / 2) = out * sq ^ n → (D out').length < 100000000 →
     Ev (fun k => zY.j1 k (n : Int) (D out') (D sq)) (D (out * sq ^ n)) := by
    intro out' o' k1 k2 k3 k4 k5
    refine zf ?_
    simp only [zY.j1, zh5 n hn]
    by_cases c2 : 0 < n / 2
    ·refine zd (by omega) (Ev.bind (zfH (zO _) (zO _) hls hls) ?_)
     rw [V_D]
     have := ih (n / 2) (by omega) (by omega) out' (sq * sq) o' (s * s) k1 (Nat.mul_le_mul hs hs) k2 (Nat.mul_le_mul h2 h2) (fun _ => hss c2) k3 (Nat.lt_of_le_of_lt (hss c2) hM)
     rwa [k4] at this
    ·refine ze (by omega) ?_
     have e : n / 2 = 0 := by omega
     rw [e] at k3 k4 ⊢
     have := ih 0 (by omega) (by omega) out' sq o' s k1 hs k2 h2 (fun h => absurd h (by omega)) (by simpa using k3) hs9
     rwa [Nat.pow_zero, ← Nat.pow_zero (sq * sq), k4] at this
   by_cases c1 : n % 2 = 1
   ·refine zd (by omega) (Ev.bind (zfH (zO _) (zO _) (lenM hoM) hls) ?_)
    rw [V_D, V_D]
    have k3 : o * s * (s * s) ^ (n / 2) ≤ M := by
     rw [hsp, c1, Nat.pow_one] at hT
     have : o * s * (s * s) ^ (n / 2) = o * ((s * s) ^ (n / 2) * s) := by rw [Nat.mul_assoc, Nat.mul_comm s]
     omega
    refine go (out * sq) (o * s) (Nat.mul_le_mul ho hs) (Nat.mul_le_mul h1 h2) k3 ?_ ?_
    ·rw [hsq, c1, Nat.pow_one, Nat.mul_assoc, Nat.mul_comm sq]
    ·apply lenM
     have : o * s * 1 ≤ o * s * (s * s) ^ (n / 2) := Nat.mul_le_mul_left _ (zfr (Nat.mul_le_mul h2 h2))
     have := Nat.mul_le_mul ho hs
     omega
   ·refine ze (by omega) ?_
    have c1' : n % 2 = 0 := by omega
    refine go out o ho h1 ?_ ?_ (lenM hoM)
    ·rw [hsp, c1', Nat.pow_zero, Nat.mul_one] at hT; exact hT
    ·rw [hsq, c1', Nat.pow_zero, Nat.mul_one]
theorem zln {b n : Nat} (hb : b < 4294967296) (hn : n < 9223372036854775808) {K : Nat} (hK : K < 100000000) (hK1 : 1 ≤ K) (h : (max 1 b) ^ n < 4294967296 ^ K) : Ev (fun k => zY.f k (b : Int) (n : Int)) (D (b ^ n)) := by
 unfold zY.f
 rw [u64 (by omega) (by omega)]
 refine Ev.bind (zc6 (by omega) (by omega)) ?_
 rw [Int.toNat_natCast]
 have hs : max 1 b < 4294967296 ^ K := Nat.lt_of_lt_of_le (show max 1 b < 4294967296 ^ 1 by omega) (Nat.pow_le_pow_right (by omega) hK1)
 have := zlx (M := max 1 b ^ n) hK h n hn 1 b 1 (max 1 b) (by omega) (by omega) (by omega) (by omega) ?_ (by omega) hs
 ·rw [zbW, Nat.one_mul] at this; exact this
 ·intro h0
  have h1 : max 1 b ^ 1 ≤ max 1 b ^ n := zeD (by omega) h0
  rwa [Nat.pow_one] at h1
theorem zdK (n : Nat) : 0 < 10 ^ n := Nat.pow_pos (by omega)
theorem zht (n : Nat) : bl (5 ^ n) ≤ 3 * n + 1 := by
 refine zau ?_
 have h1 : 5 ^ n ≤ 8 ^ n := Nat.pow_le_pow_left (by omega) n
 rw [Nat.pow_succ, Nat.pow_mul]
 have : (2 : Nat) ^ 3 = 8 := rfl
 rw [this]
 have := Nat.pow_pos (n := n) (show 0 < 8 by omega)
 omega
theorem zbQ (n : Nat) : bl (10 ^ n) ≤ 4 * n + 1 := by
 refine zau ?_
 have h1 : 10 ^ n ≤ 16 ^ n := Nat.pow_le_pow_left (by omega) n
 rw [Nat.pow_succ, Nat.pow_mul]
 have : (2 : Nat) ^ 4 = 16 := rfl
 rw [this]
 have := Nat.pow_pos (n := n) (show 0 < 16 by omega)
 omega
theorem zc7 {Y : Nat} (hY : Y ≤ 1000000) : Ev (fun k => zaO.f k (Y : Int)) (mk ((10 ^ Y : Nat) : Int) 0) := by
 have b10 := zbQ Y
 have l10 := zdx (x := 10 ^ Y) (k := 130000) (by omega)
 have hpw := zln (b := 10) (n := Y) (by omega) (by omega) (K := Y + 1) (by omega) (by omega) (by
  rw [show max 1 10 = 10 from rfl]
  exact Nat.lt_of_lt_of_le (Nat.pow_lt_pow_right (by omega) (Nat.lt_succ_self Y)) (Nat.pow_le_pow_left (by omega) _))
 have hf := zbR false (zD (10 ^ Y)) (by omega) (e := 0) (by omega) (by omega)
 rw [V_D] at hf
 unfold zaO.f
 refine Ev.bind (hpw) ?_; try dsimp only
 refine Ev.bind (hf) ?_; try dsimp only
 exact Ev.now _
def bx (l : List UInt8) : ByteArray := ⟨l.toArray⟩
theorem zbf (l : List UInt8) : tl (bx l) = l := rfl
theorem zi5 (s : ByteArray) : bx (tl s) = s := zbA.1 rfl
theorem zE (l : List UInt8) : (bx l).size = l.length := by rw [zl7, zbf]
theorem zi4 {l : List UInt8} : bx l = (⟨#[]⟩ : ByteArray) ↔ l = [] := by rw [← zl6, zbf]
theorem zfh {b : UInt8} : isD b = true ↔ 48 ≤ (b.toNat : Int) ∧ (b.toNat : Int) ≤ 57 := by unfold isD; rw [decide_eq_true_iff]; omega
section
variable {s : ByteArray} (hs : s.size ≤ 1000000)
include hs
end
theorem zcp (l : List UInt8) : qcB (bx l) = l.map fun b => (b.toNat : Int) := rfl
theorem zfx : ∀ (l : List UInt8) (a : Nat), pvA a (l.map fun b => (b.toNat : Int)) = zi l a
 | [], a => rfl
 | b :: l, a => by
  have e : ((b.toNat : Int) - 48).toNat = b.toNat - 48 := by omega
  rw [List.map_cons, pvA, e, zfx l]
  rfl
theorem zfA (l : List UInt8) : pv (qcB (bx l)) = zi l 0 := zfx l 0
theorem ze4 {l : List UInt8} (h : l.all isD = true) : zb4 (qcB (bx l)) := by
 intro x hx
 rw [zcp, List.mem_map] at hx
 obtain ⟨b, hb, rfl⟩ := hx
 exact zfh.1 (List.all_eq_true.1 h b hb)
theorem ze8 {l : List UInt8} (h : l.all isD = true) : zi l 0 < 10 ^ l.length := by
 have := zk2 (ze4 h)
 rw [zfA, zcp, List.length_map] at this
 exact this
def tz0 (l : List UInt8) : List UInt8 := l.dropWhile (· == 48)
theorem zfa (l : List UInt8) : zi (tz0 l) 0 = zi l 0 := by
 induction l with
 | nil => rfl
 | cons b l ih =>
  unfold tz0 at *
  by_cases c : b = 48
  ·subst c; rw [List.dropWhile_cons]; simp only [beq_self_eq_true, if_true]; rw [ih]; rfl
  ·rw [List.dropWhile_cons, if_neg (by simpa using c)]
theorem zfZ {l : List UInt8} (h : l.all isD = true) : (tz0 l).all isD = true := by
 induction l with
 | nil => rfl
 | cons b l ih =>
  have h' := h
  simp only [List.all_cons, Bool.and_eq_true] at h
  unfold tz0 at *
  by_cases c : b = 48
  ·subst c; rw [List.dropWhile_cons]; simpa using ih h.2
  ·rw [List.dropWhile_cons, if_neg (by simpa using c)]; exact h'
theorem zf0 {l : List UInt8} {b : UInt8} {r : List UInt8} (h : tz0 l = b :: r) : b ≠ 48 := by
 have := zgE _ l h
 simpa using this
theorem zjY {l : List UInt8} {b : UInt8} {r : List UInt8} (h : l.all isD = true) (e : tz0 l = b :: r) : isT (qcB (bx (b :: r))) = true := by
 have h1 := zfZ h
 rw [e] at h1
 have h2 := zf0 e
 have hd : decide (zb4 (qcB (bx (b :: r)))) = true := decide_eq_true (ze4 h1)
 unfold isT
 rw [hd, zcp]
 have h3 : (b.toNat : Int) ≠ 48 := fun c => h2 (UInt8.toNat_inj.1 (by show _ = 48; omega))
 cases r with
 | nil => rfl
 | cons c t => simp [h3]
theorem zmg {l : List UInt8} (h : l.all isD = true) : tz0 l = [] ↔ zi l 0 = 0 := by
 constructor
 ·intro e; rw [← zfa, e]; rfl
 ·intro e
  cases ht : tz0 l with
  | nil => rfl
  | cons b r =>
   have h1 := zfZ h
   have h2 := zf0 ht
   have h3 := zfa l
   rw [ht] at h1 h3
   have h4 := zfB (l := qcB (bx (b :: r))) (ze4 h1) (by
    rw [zcp]; show ((b.toNat : Int)) ≠ 48
    exact fun c => h2 (UInt8.toNat_inj.1 (by show _ = 48; omega))) (by rw [zcp]; simp)
   rw [zfA] at h4
   have := zdK ((qcB (bx (b :: r))).length - 1)
   omega
theorem zjs (k : Nat) : zL.f (k + 140) 2 4591870180066957722 = some ((⟨#[48, 46, 49]⟩ : ByteArray), 0) := by kernel_rfl
theorem zjt (k : Nat) : zdq.f (k + 60) 1 1 (⟨#[49, 54, 55, 55, 55, 50, 49, 55]⟩ : ByteArray) = some (1266679808, 16, 0) := by kernel_rfl
theorem zju : Ev (fun k => zbI.f k) true := by
 unfold zbI.f
 refine Ev.bind (zgH zjs) (Ev.bind (zgH zjt) ?_)
 exact zd rfl (zd rfl (zd rfl (zd rfl (zg (Ev.now _) (by simp)))))
theorem zec : Ev (fun k => (zbI.f k).bind fun t => some t) true := Ev.bind zju (Ev.now _)
theorem zjv {f m : Int} (h : fmE f m ≠ 0) (l : List Int) : Ev (fun k => zaH.f k f m l) (fmE f m) := by
 unfold zaH.f
 unfold fmE at *
 refine zk (zfC f) ?_
 by_cases c : isF f
 ·rw [if_pos c] at h ⊢
  have hm : ¬ isM m := fun k => h (by rw [if_pos k])
  rw [if_neg hm, decide_eq_true c]
  refine ze (by simp) (zk (zhx m) ?_)
  rw [decide_eq_false hm]
  exact zd rfl (Ev.now _)
 ·rw [if_neg c, decide_eq_false c]
  exact zd rfl (Ev.now _)
theorem zjM {f m : Int} (h : fmE f m = 0) : isF f ∧ isM m := by
 unfold fmE at h
 by_cases c : isF f
 ·rw [if_pos c] at h
  by_cases c2 : isM m
  ·exact ⟨c, c2⟩
  ·rw [if_neg c2] at h; omega
 ·rw [if_neg c] at h; omega
def dx (n : Nat) : List UInt8 := tl (qfL (txt n))
theorem zfS (n : Nat) : qfL (txt n) = bx (dx n) := (zi5 _).symm
theorem zef (n : Nat) : (dx n).map (fun b => (b.toNat : Int)) = txt n := zi1 n
theorem zbL (n : Nat) : (dx n).all isD = true := by
 rw [List.all_eq_true]
 intro b hb
 have : ((b.toNat : Int)) ∈ txt n := by rw [← zef]; exact List.mem_map.2 ⟨b, hb, rfl⟩
 exact zfh.2 (zfY n _ this)
theorem zb7 (n : Nat) : zi (dx n) 0 = n := by rw [← zfx, zef]; exact zk3 n
theorem zh9 {a b : UInt8} (h : (a.toNat : Int) = (b.toNat : Int)) : a = b := UInt8.toNat_inj.1 (by omega)
theorem zdu {l r : List UInt8} {b : UInt8} (h : l.all isD = true) (e : l = b :: r) (hb : b ≠ 48) : dx (zi l 0) = l := by
 have e1 : tz0 l = b :: r := by
  subst e
  unfold tz0
  rw [List.dropWhile_cons, if_neg (by simpa using hb)]
 have h1 := zmf (zjY h e1)
 rw [← e, zfA] at h1
 have h2 := (zef (zi l 0)).trans h1
 rw [zcp] at h2
 exact (List.map_inj_right (fun x y hxy => zh9 hxy)).1 h2
theorem zbc {n : Nat} (h : n ≠ 0) : ∃ b r, dx n = b :: r ∧ b ≠ 48 := by
 cases e : tz0 (dx n) with
 | nil => exact absurd ((zmg (zbL n)).1 e) (by rw [zb7]; exact h)
 | cons b r =>
  have hb := zf0 e
  have h1 := zfZ (zbL n)
  have h2 := zfa (dx n)
  rw [e] at h1 h2
  rw [zb7] at h2
  have h3 := zdu h1 rfl hb
  rw [h2] at h3
  exact ⟨b, r, h3, hb⟩
theorem zcs {n : Nat} (h : n ≠ 0) : 0 < (dx n).length := by
 obtain ⟨b, r, e, _⟩ := zbc h
 rw [e]; simp
theorem zfb {n k : Nat} (h : n < 10 ^ k) (hk : 1 ≤ k) : (dx n).length ≤ k := by
 have := zme h hk
 rw [← zef, List.length_map] at this
 exact this
theorem zcY (n : Nat) : n < 10 ^ (dx n).length := by
 have := ze8 (zbL n)
 rwa [zb7] at this
theorem zc0 {b : UInt8} (h : isD b = true) : 48 ≤ b.toNat ∧ b.toNat ≤ 57 := by
 have := zfh.1 h
 omega
theorem zb6 (b : UInt8) (r : List UInt8) : zi (b :: r) 0 = (b.toNat - 48) * 10 ^ r.length + zi r 0 := by
 have e : zi (b :: r) 0 = zi r (10 * 0 + (b.toNat - 48)) := rfl
 rw [e, zgD]; simp
theorem zd0 {b : UInt8} {r : List UInt8} (h : (b :: r).all isD = true) : isD b = true ∧ r.all isD = true := by
 simpa only [List.all_cons, Bool.and_eq_true] using h
theorem zbF {a b : List UInt8} (h : (a ++ b).all isD = true) : a.all isD = true ∧ b.all isD = true := by
 simpa only [List.all_append, Bool.and_eq_true] using h
theorem zhe {b : UInt8} (h : isD b = true) (hb : b ≠ 48) : 49 ≤ b.toNat := by
 have h1 := zc0 h
 have h2 : b.toNat ≠ 48 := fun c => hb (UInt8.toNat_inj.1 (by rw [c]; rfl))
 omega
theorem zgF {n : Nat} (h : n ≠ 0) : 10 ^ ((dx n).length - 1) ≤ n := by
 obtain ⟨b, r, e, hb⟩ := zbc h
 have h1 := zbL n
 have h2 := zb7 n
 rw [e] at h1 h2 ⊢
 rw [zb6] at h2
 have h3 := zhe (zd0 h1).1 hb
 have h4 : 1 * 10 ^ r.length ≤ (b.toNat - 48) * 10 ^ r.length := Nat.mul_le_mul_right _ (by omega)
 have h5 : (b :: r).length - 1 = r.length := by simp
 rw [h5]
 omega
theorem zb5 (a b : List UInt8) : zi (a ++ b) 0 = zi a 0 * 10 ^ b.length + zi b 0 := by rw [zjA, zgD]
theorem zee : ∀ j : Nat, zi (List.replicate j 48) 0 = 0
 | 0 => rfl
 | j + 1 => by rw [List.replicate_succ, zb6, zee j, show (48 : UInt8).toNat - 48 = 0 from rfl, Nat.zero_mul]
theorem zeg {n : Nat} (h : n ≠ 0) {A B : List UInt8} (e : dx n = A ++ B) (hA : A ≠ []) : dx (n / 10 ^ B.length) = A ∧ n % 10 ^ B.length = zi B 0 := by
 have h1 := zbL n
 have h2 := zb7 n
 obtain ⟨b, r, e2, hb⟩ := zbc h
 rw [e] at h1 h2 e2
 rw [zb5] at h2
 have h3 := ze8 (zbF h1).2
 have hd : n / 10 ^ B.length = zi A 0 := by
  rw [← h2, Nat.mul_comm, Nat.mul_add_div (Nat.pow_pos (by omega)), Nat.div_eq_of_lt h3]; omega
 have hm : n % 10 ^ B.length = zi B 0 := by
  rw [← h2, Nat.mul_comm, Nat.mul_add_mod, Nat.mod_eq_of_lt h3]
 refine ⟨?_, hm⟩
 cases A with
 | nil => exact absurd rfl hA
 | cons a A =>
  rw [hd]
  have : a = b := (List.cons.inj e2).1
  exact zdu (zbF h1).1 rfl (this ▸ hb)
theorem ziK (j : Nat) : (List.replicate j (48 : UInt8)).all isD = true := by
 rw [List.all_eq_true]
 intro x hx
 rw [(List.mem_replicate.1 hx).2]; decide
theorem zeh {n : Nat} (h : n ≠ 0) (j : Nat) : dx (n * 10 ^ j) = dx n ++ List.replicate j 48 := by
 obtain ⟨b, r, e, hb⟩ := zbc h
 have h1 : (dx n ++ List.replicate j 48).all isD = true := by rw [List.all_append, zbL, ziK]; rfl
 have h2 := zdu (b := b) (r := r ++ List.replicate j 48) h1 (by rw [e]; rfl) hb
 rw [zb5, zb7, zee, List.length_replicate] at h2
 exact h2
def tr (l : List UInt8) : List UInt8 := (l.reverse.dropWhile (· == 48)).reverse
theorem zeJ (l : List UInt8) : tr (l ++ [48]) = tr l := by unfold tr; rw [List.reverse_append]; rfl
theorem zdd (l : List UInt8) {d : UInt8} (h : d ≠ 48) : tr (l ++ [d]) = l ++ [d] := by
 unfold tr
 rw [List.reverse_append]
 show ((d :: l.reverse).dropWhile (· == 48)).reverse = _
 rw [List.dropWhile_cons, if_neg (by simpa using h)]
 simp
theorem zdN (l : List UInt8) : ∀ j : Nat, tr (l ++ List.replicate j 48) = tr l
 | 0 => by simp
 | j + 1 => by rw [List.replicate_succ', ← List.append_assoc, zeJ, zdN l j]
theorem zcD (l : List UInt8) : ∃ j, l = tr l ++ List.replicate j 48 := by
 rcases List.eq_nil_or_concat l with rfl | ⟨a, d, rfl⟩
 ·exact ⟨0, rfl⟩
 ·rw [List.concat_eq_append]
  by_cases c : d = 48
  ·subst c
   rw [zeJ]
   obtain ⟨j, hj⟩ := zcD a
   refine ⟨j + 1, ?_⟩
   rw [List.replicate_succ', ← List.append_assoc, ← hj]
  ·exact ⟨0, by rw [zdd _ c]; simp⟩
termination_by l.length
decreasing_by subst_vars; simp
theorem zic {l A : List UInt8} {d : UInt8} (h : tr l = A ++ [d]) : d ≠ 48 := by
 have h1 : l.reverse.dropWhile (· == 48) = d :: A.reverse := by
  have := congrArg List.reverse h
  unfold tr at this
  rw [List.reverse_reverse, List.reverse_append] at this
  exact this
 have := zgE _ _ h1
 simpa using this
theorem zdL {l r : List UInt8} {b : UInt8} (e : l = b :: r) (hb : b ≠ 48) : ∃ r', tr l = b :: r' := by
 obtain ⟨j, hj⟩ := zcD l
 cases h : tr l with
 | nil =>
  rw [h, e] at hj
  cases j with
  | zero => cases hj
  | succ j => rw [List.replicate_succ] at hj; exact absurd (List.cons.inj hj).1 hb
 | cons c r' =>
  rw [h, e] at hj
  exact ⟨r', by rw [(List.cons.inj hj).1]⟩
theorem zdM (l : List UInt8) : (tr l).length ≤ l.length := by
 obtain ⟨j, hj⟩ := zcD l
 have := congrArg List.length hj
 rw [List.length_append] at this
 omega
theorem zib {l : List UInt8} (h : l.all isD = true) : (tr l).all isD = true := by
 obtain ⟨j, hj⟩ := zcD l
 rw [hj] at h
 exact (zbF h).1
theorem zmb (l : List UInt8) : tr (tr l) = tr l := by
 rcases List.eq_nil_or_concat (tr l) with h | ⟨a, d, h⟩
 ·rw [h]; rfl
 ·rw [List.concat_eq_append] at h
  rw [h, zdd _ (zic h)]
theorem ze7 {l : List UInt8} (h : l.all isD = true) {A B : List UInt8} (e : l = A ++ B) : zi B 0 ≠ 0 ↔ A.length < (tr l).length := by
 obtain ⟨j, hj⟩ := zcD l
 constructor
 ·intro hB
  apply Nat.lt_of_not_le
  intro hle
  apply hB
  have e1 : A ++ B = tr l ++ List.replicate j 48 := e ▸ hj
  obtain ⟨C, hC⟩ : ∃ C, A = tr l ++ C := by
   refine ⟨A.drop (tr l).length, ?_⟩
   have h2 := congrArg (List.take (tr l).length) e1
   rw [List.take_append_of_le_length hle, List.take_append_of_le_length (Nat.le_refl _), List.take_length] at h2
   rw [← h2]
   exact (by
    have := List.take_append_drop (tr l).length A
    rw [h2] at this ⊢
    exact this.symm)
  rw [hC, List.append_assoc] at e1
  have e2 := List.append_cancel_left e1
  have h3 : ∀ x ∈ B, x = 48 := fun x hx => (List.mem_replicate.1 (e2 ▸ List.mem_append_right C hx)).2
  rw [List.eq_replicate_of_mem h3, zee]
 ·intro hlt hB
  rcases List.eq_nil_or_concat (tr l) with h0 | ⟨a, d, h0⟩
  ·rw [h0] at hlt; simp at hlt
  ·rw [List.concat_eq_append] at h0
   have hd := zic h0
   rw [h0] at hlt hj
   have e1 : A ++ B = a ++ ([d] ++ List.replicate j 48) := by rw [← e, hj, List.append_assoc]
   have hla : A.length ≤ a.length := by simp at hlt; omega
   obtain ⟨C, hC⟩ : ∃ C, a = A ++ C := by
    refine ⟨a.drop A.length, ?_⟩
    have h2 := congrArg (List.take A.length) e1
    rw [List.take_append_of_le_length (Nat.le_refl _), List.take_length, List.take_append_of_le_length hla] at h2
    have := List.take_append_drop A.length a
    rw [← h2] at this
    exact this.symm
   rw [hC, List.append_assoc] at e1
   have e2 := List.append_cancel_left e1
   have hdd : isD d = true := by
    have := zib h
    rw [h0] at this
    simpa using (zbF this).2
   have hd1 := zhe hdd hd
   rw [e2, ← List.append_assoc, zb5, zee, zb5, zb6] at hB
   have hp : 0 < 10 ^ (List.replicate j (48 : UInt8)).length := Nat.pow_pos (by omega)
   have : 0 < (zi C 0 * 10 ^ [d].length + ((d.toNat - 48) * 10 ^ ([] : List UInt8).length + zi [] 0)) * 10 ^ (List.replicate j (48 : UInt8)).length := by
    apply Nat.mul_pos _ hp
    have : zi ([] : List UInt8) 0 = 0 := rfl
    simp only [List.length_nil, Nat.pow_zero, Nat.mul_one]
    omega
   omega
theorem ze9 : ∀ j : Nat, zi (List.replicate j 57) 0 + 1 = 10 ^ j
 | 0 => rfl
 | j + 1 => by
  have := ze9 j
  rw [List.replicate_succ, zb6, List.length_replicate, Nat.pow_succ, show (57 : UInt8).toNat - 48 = 9 from rfl]
  omega
theorem zgO {d : UInt8} (h : isD d = true) (hd : d ≠ 57) : isD (d + 1) = true ∧ (d + 1).toNat = d.toNat + 1 ∧ d + 1 ≠ 48 := by
 have h1 := zc0 h
 have h2 : d.toNat ≠ 57 := fun c => hd (UInt8.toNat_inj.1 (by rw [c]; rfl))
 have e : (d + 1).toNat = d.toNat + 1 := by rw [UInt8.toNat_add]; show (d.toNat + 1) % 256 = _; omega
 refine ⟨decide_eq_true (by omega), e, fun c => ?_⟩
 rw [c] at e
 have : (48 : UInt8).toNat = 48 := rfl
 omega
theorem zjB {A : List UInt8} {d : UInt8} {j : Nat} (hA : (A ++ [d]).all isD = true) (hd : d ≠ 57) (h0 : ∀ b r, A ++ [d] = b :: r → b ≠ 48) :
  dx (zi (A ++ [d] ++ List.replicate j 57) 0 + 1) = A ++ [d + 1] ++ List.replicate j 48 ∧ tr (dx (zi (A ++ [d] ++ List.replicate j 57) 0 + 1)) = A ++ [d + 1] := by
 obtain ⟨a1, a2⟩ := zbF hA
 have hdd : isD d = true := by simpa using a2
 obtain ⟨u1, u2, u3⟩ := zgO hdd hd
 have l1 := zc0 hdd
 have e1 : zi (A ++ [d + 1]) 0 = zi (A ++ [d]) 0 + 1 := by
  rw [zb5, zb5, zb6, zb6, u2]
  show _ * 10 ^ 1 + ((d.toNat + 1 - 48) * 10 ^ 0 + 0) = _ * 10 ^ 1 + ((d.toNat - 48) * 10 ^ 0 + 0) + 1
  omega
 have e2 : zi (A ++ [d] ++ List.replicate j 57) 0 + 1 = zi (A ++ [d + 1]) 0 * 10 ^ j := by
  rw [zb5, List.length_replicate, Nat.add_assoc, ze9, e1, Nat.add_mul]; omega
 have h2 : (A ++ [d + 1]).all isD = true := by rw [List.all_append, a1]; simpa using u1
 obtain ⟨b, r, hb, hb0⟩ : ∃ b r, A ++ [d + 1] = b :: r ∧ b ≠ 48 := by
  cases A with
  | nil => exact ⟨d + 1, [], rfl, u3⟩
  | cons b r => exact ⟨b, r ++ [d + 1], rfl, h0 b (r ++ [d]) rfl⟩
 have h3 : dx (zi (A ++ [d + 1]) 0) = A ++ [d + 1] := zdu h2 hb hb0
 have h4 : zi (A ++ [d + 1]) 0 ≠ 0 := by rw [e1]; omega
 have h5 : dx (zi (A ++ [d] ++ List.replicate j 57) 0 + 1) = A ++ [d + 1] ++ List.replicate j 48 := by rw [e2, zeh h4, h3]
 exact ⟨h5, by rw [h5, zdN, zdd _ u3]⟩
theorem zjC {j : Nat} (hj : 0 < j) : dx (zi (List.replicate j 57) 0 + 1) = 49 :: List.replicate j 48 ∧ tr (dx (zi (List.replicate j 57) 0 + 1)) = [49] := by
 have h1 : dx 1 = [49] := zdu (l := [49]) (r := []) (b := 49) (by decide) rfl (by decide)
 have h5 : dx (zi (List.replicate j 57) 0 + 1) = [49] ++ List.replicate j 48 := by
  rw [ze9, ← Nat.one_mul (10 ^ j), zeh (by omega), h1]
 exact ⟨h5, by rw [h5, zdN]; rfl⟩
def hlf (r p : Nat) : Int := if 2 * r < p then -1 else if p < 2 * r then 1 else 0
theorem zjS {d : UInt8} {Rr : List UInt8} (h : (d :: Rr).all isD = true) : hlf (zi (d :: Rr) 0) (10 ^ (d :: Rr).length) =
  if d.toNat < 53 then -1 else if 53 < d.toNat then 1 else if zi Rr 0 ≠ 0 then 1 else 0 := by
 obtain ⟨h1, h2⟩ := zd0 h
 have l1 := zc0 h1
 have l2 := ze8 h2
 have e : 10 ^ (d :: Rr).length = 10 * 10 ^ Rr.length := by rw [List.length_cons, Nat.pow_succ]; omega
 rw [zb6, e]
 obtain ⟨p, hp⟩ : ∃ p, p = 10 ^ Rr.length := ⟨_, rfl⟩
 obtain ⟨v, hv⟩ : ∃ v, v = zi Rr 0 := ⟨_, rfl⟩
 rw [← hp, ← hv] at l2 ⊢
 unfold hlf
 by_cases c1 : d.toNat < 53
 ·have : (d.toNat - 48) * p ≤ 4 * p := Nat.mul_le_mul_right _ (by omega)
  rw [if_pos c1, if_pos (by omega)]
 ·rw [if_neg c1]
  by_cases c2 : 53 < d.toNat
  ·have : 6 * p ≤ (d.toNat - 48) * p := Nat.mul_le_mul_right _ (by omega)
   rw [if_pos c2, if_neg (by omega), if_pos (by omega)]
  ·have e5 : d.toNat - 48 = 5 := by omega
   rw [if_neg c2, e5, if_neg (by omega)]
   by_cases c3 : v ≠ 0
   ·rw [if_pos c3, if_pos (by omega)]
   ·rw [if_neg c3, if_neg (by omega)]
def zbw (s : Bool) (d : List UInt8) (x : Int) : List UInt8 := sgT s ++
  (if x < -5 ∨ x > 20 then d.take 1 ++ (if 1 < d.length then 46 :: d.drop 1 else []) ++ 101 :: etx x
   else if x < 0 then 48 :: 46 :: (List.replicate (-x - 1).toNat 48 ++ d)
   else if x + 1 < (d.length : Int) then d.take (x + 1).toNat ++ 46 :: d.drop (x + 1).toNat
   else d ++ List.replicate (x + 1 - (d.length : Int)).toNat 48)
def za5 (s : Bool) (q : Nat) (x : Int) : List UInt8 := zbw s (tr (dx q)) (x + ((dx q).length : Nat) - 1)
theorem zma (s : Bool) {q : Nat} (h : q ≠ 0) (j : Nat) (x : Int) : za5 s (q * 10 ^ j) (x - j) = za5 s q x := by
 unfold za5
 rw [zeh h, zdN, List.length_append, List.length_replicate]
 congr 1
 omega
theorem ziL {l : List UInt8} (h : l.all isD = true) (n : Nat) : (l.take n).all isD = true := by
 rw [List.all_eq_true] at *
 exact fun x hx => h x (List.mem_of_mem_take hx)
theorem zkS (s : Bool) (d : List UInt8) (x : Int) : zbw s d x = sgT s ++ zbw false d x := rfl
def exN (z : Nat) (e : Int) : Nat := z * 2 ^ e.toNat * 5 ^ (-e).toNat
def exG (e : Int) : Nat := (-e).toNat
theorem zb9 {z : Nat} (h : z ≠ 0) (e : Int) : exN z e ≠ 0 := Nat.mul_ne_zero (Nat.mul_ne_zero h (Nat.ne_of_gt (zm _))) (Nat.ne_of_gt (Nat.pow_pos (by omega)))
def zbv (g : Nat) (t : List UInt8) : List UInt8 := List.replicate (g + 1 - t.length) 48 ++ t
theorem zeB (g : Nat) (t : List UInt8) : g + 1 ≤ (zbv g t).length ∧ (zbv g t).length = max (g + 1) t.length := by
 unfold zbv
 rw [List.length_append, List.length_replicate]; omega
def exW (z : Nat) (e : Int) : List UInt8 := if 0 ≤ e then dx (exN z e) else (zbv (exG e) (dx (exN z e))).take ((zbv (exG e) (dx (exN z e))).length - exG e)
def exP (z : Nat) (e : Int) : List UInt8 := if 0 ≤ e then [] else (zbv (exG e) (dx (exN z e))).drop ((zbv (exG e) (dx (exN z e))).length - exG e)
theorem zjF (z : Nat) (e : Int) : (exP z e).length = exG e := by
 unfold exP
 by_cases c : 0 ≤ e
 ·rw [if_pos c]; unfold exG; simp; omega
 ·rw [if_neg c, List.length_drop]
  have := (zeB (exG e) (dx (exN z e))).1
  omega
theorem zjH {z : Nat} (hz : z ≠ 0) (e : Int) : 0 < (exW z e).length ∧ (exW z e).length ≤ (dx (exN z e)).length + 1 := by
 unfold exW
 have := zcs (zb9 hz e)
 by_cases c : 0 ≤ e
 ·rw [if_pos c]; omega
 ·rw [if_neg c, List.length_take]
  have := (zeB (exG e) (dx (exN z e)))
  omega
theorem zjG (z : Nat) (e : Int) : ∃ j, exW z e ++ exP z e = List.replicate j 48 ++ dx (exN z e) ∧ j = (exW z e).length + exG e - (dx (exN z e)).length := by
 unfold exW exP
 by_cases c : 0 ≤ e
 ·rw [if_pos c, if_pos c]
  exact ⟨0, by simp, by unfold exG; omega⟩
 ·rw [if_neg c, if_neg c, List.take_append_drop]
  refine ⟨_, rfl, ?_⟩
  have := (zeB (exG e) (dx (exN z e)))
  rw [List.length_take]
  omega
theorem zkV (n : Nat) : 5 ^ n ≤ 10 ^ (7 * (n / 10 + 1)) := by
 have h1 : 5 ^ n ≤ 5 ^ (10 * (n / 10 + 1)) := Nat.pow_le_pow_right (by omega) (by omega)
 have h2 : (5 ^ 10) ^ (n / 10 + 1) ≤ (10 ^ 7) ^ (n / 10 + 1) := Nat.pow_le_pow_left (by decide) _
 rw [← Nat.pow_mul, ← Nat.pow_mul] at h2
 omega
theorem zkU (n : Nat) : 2 ^ n ≤ 10 ^ (3 * (n / 8 + 1)) := by
 have h1 : 2 ^ n ≤ 2 ^ (8 * (n / 8 + 1)) := Nat.pow_le_pow_right (by omega) (by omega)
 have h2 : (2 ^ 8) ^ (n / 8 + 1) ≤ (10 ^ 3) ^ (n / 8 + 1) := Nat.pow_le_pow_left (by decide) _
 rw [← Nat.pow_mul, ← Nat.pow_mul] at h2
 omega
theorem zgY {z y p K : Nat} (hz : z < 10 ^ 16) (hy : y ≤ 10 ^ p) (hp : 16 + p ≤ K) : z * y < 10 ^ K := by
 have h5 : z * y ≤ z * 10 ^ p := Nat.mul_le_mul_left _ hy
 have h6 : z * 10 ^ p < 10 ^ 16 * 10 ^ p := Nat.mul_lt_mul_of_pos_right hz (Nat.pow_pos (by omega))
 rw [← Nat.pow_add] at h6
 exact Nat.lt_of_le_of_lt h5 (Nat.lt_of_lt_of_le h6 (Nat.pow_le_pow_right (by omega) hp))
theorem zff {z : Nat} {e : Int} (hb : bl z ≤ 53) (h1 : -1074 ≤ e) (h2 : e ≤ 1024) : (dx (exN z e)).length ≤ 800 := by
 obtain ⟨K, hK⟩ : ∃ K : Nat, K = 800 := ⟨_, rfl⟩
 rw [← hK]
 apply zfb _ (by omega)
 unfold exN
 have hz : z < 2 ^ bl z := zar z
 have hz2 : 2 ^ bl z ≤ 2 ^ 53 := Nat.pow_le_pow_right (by omega) hb
 have hz3 : z < 10 ^ 16 := Nat.lt_of_lt_of_le (Nat.lt_of_lt_of_le hz hz2) (by decide)
 by_cases c : 0 ≤ e
 ·rw [show (-e).toNat = 0 by omega, Nat.pow_zero, Nat.mul_one]
  exact zgY hz3 (zkU e.toNat) (by omega)
 ·rw [show e.toNat = 0 by omega, Nat.pow_zero, Nat.mul_one]
  exact zgY hz3 (zkV (-e).toNat) (by omega)
theorem zq (a b : List UInt8) : bx a ++ bx b = bx (a ++ b) := zbA.1 (by rw [zl4]; rfl)
theorem zbH (T : List UInt8) (n : Nat) : (bx T).extract 0 n = bx (T.take n) := zbA.1 (by rw [zfU]; rfl)
theorem zcL (T : List UInt8) (n : Nat) : (bx T).extract n (bx T).size = bx (T.drop n) := zbA.1 (by rw [zfU, zE, zbf, zbf, List.take_length])
theorem zi3 (T : List UInt8) (i j : Nat) : (bx T).extract i j = bx ((T.take j).drop i) := zbA.1 (by rw [zfU]; rfl)
theorem zfL {n : Int} (h0 : 0 ≤ n) (h1 : n ≤ 1000000) : z8.f (⟨#[48]⟩ : ByteArray) n = some (bx (List.replicate n.toNat 48)) := by
 unfold z8.f
 have hs : (⟨#[48]⟩ : ByteArray).size = 1 := rfl
 rw [if_pos ⟨h0, by rw [hs]; omega, by omega⟩]
 have : Lib.repeatL (⟨#[48]⟩ : ByteArray).data.toList n.toNat = List.replicate n.toNat 48 := zhG 48 _
 rw [this]; rfl
def nmT (f : Int) (w : Nat) : List UInt8 := if cls f w = 5 then [110, 97, 110] else if cls f w = 4 then sgT (zn f w) ++ [105, 110, 102] else if cls f w = 1 then sgT (zn f w) ++ [48] else []
def zag (f : Int) (w : Nat) : Bool := decide (cls f w = 5 ∨ cls f w = 4 ∨ cls f w = 1)
theorem zgQ {f : Int} {w : Nat} (h : zag f w = false) : cls f w ≠ 5 ∧ cls f w ≠ 4 ∧ cls f w ≠ 1 := by
 have := of_decide_eq_false h
 exact ⟨fun c => this (.inl c), fun c => this (.inr (.inl c)), fun c => this (.inr (.inr c))⟩
theorem nm5 {f : Int} {w : Nat} (c : cls f w = 5) : (bx (nmT f w), zag f w) = (bx [110, 97, 110], true) := by unfold nmT zag; rw [if_pos c, decide_eq_true (.inl c)]
theorem nm4 {f : Int} {w : Nat} (c : cls f w = 4) : (bx (nmT f w), zag f w) = (bx (sgT (zn f w) ++ [105, 110, 102]), true) := by unfold nmT zag; rw [if_neg (by omega), if_pos c, decide_eq_true (.inr (.inl c))]
theorem nm1 {f : Int} {w : Nat} (c : cls f w = 1) : (bx (nmT f w), zag f w) = (bx (sgT (zn f w) ++ [48]), true) := by unfold nmT zag; rw [if_neg (by omega), if_neg (by omega), if_pos c, decide_eq_true (.inr (.inr c))]
theorem nm0 {f : Int} {w : Nat} (c5 : ¬ cls f w = 5) (c4 : ¬ cls f w = 4) (c1 : ¬ cls f w = 1) : (bx (nmT f w), zag f w) = (bx [], false) := by
 unfold nmT zag; rw [if_neg c5, if_neg c4, if_neg c1, decide_eq_false (by rintro (c | c | c); exact c5 c; exact c4 c; exact c1 c)]
theorem zha (s : Bool) (a b : Int) {t : List UInt8} (ht : t.length ≤ 10) : Ev (fun k => zam.j1 k s a b (bx t)) (bx (sgT s ++ t), true, 0) := by
 refine zf ?_; simp only [zam.j1]
 have hs := zE t
 cases s with
 | true => exact zd rfl (zd (show 1 + (bx t).size < 35184372088832 by omega) (zg (Ev.now _) (by rw [show (⟨#[45]⟩ : ByteArray) = bx [45] from rfl, zq]; rfl)))
 | false => exact ze (by simp) (Ev.now _)
theorem zg9 {f : Int} (h : isF f) {w : Nat} (hw : w < 2 * sg f) : Ev (fun k => zam.f k f (w : Int)) (bx (nmT f w), zag f w, 0) := by
 unfold zam.f
 refine Ev.bind (zmx h hw) (ze (by simp) (Ev.bind (zmA h hw) ?_))
 unfold nmT zag
 by_cases c5 : cls f w = 5
 ·rw [if_pos c5, decide_eq_true (.inl c5)]
  exact zd c5 (Ev.now _)
 rw [if_neg c5]
 by_cases c4 : cls f w = 4
 ·rw [if_pos c4, decide_eq_true (.inr (.inl c4))]
  exact ze c5 (zd c4 (zha (t := [105, 110, 102]) _ _ _ (by decide)))
 rw [if_neg c4]
 by_cases c1 : cls f w = 1
 ·rw [if_pos c1, decide_eq_true (.inr (.inr c1))]
  exact ze c5 (ze c4 (zd c1 (zha (t := [48]) _ _ _ (by decide))))
 ·rw [if_neg c1, decide_eq_false (by rintro (c | c | c); exact c5 c; exact c4 c; exact c1 c)]
  exact ze c5 (ze c4 (ze c1 (Ev.now _)))
theorem zkx {f : Int} (h : isF f) {w : Nat} (hw : ¬ w < 2 * sg f) : Ev (fun k => zam.f k f (w : Int)) (⟨#[]⟩, false, 6) := by
 unfold zam.f
 exact Ev.bind (zmw h hw) (zd (by simp) (Ev.now _))
theorem zk7 {f : Int} (h : isF f) (w : Nat) : Ev (fun k => zaN.f k f (w : Int)) (bx (nmT f w), zag f w) := by
 have hgo : ∀ {r}, Ev (fun k => zaN.j0 k f (w : Int) (bx (sgT (zn f w)))) r → Ev (fun k => zaN.f k f (w : Int)) r := by
  intro r hr
  unfold zaN.f
  refine zk (zfE h w) ?_
  cases hn : zn f w with
  | true => rw [hn] at hr; exact zd rfl hr
  | false => rw [hn] at hr; exact ze (by simp) hr
 have hs := zE (sgT (zn f w))
 have hl := zlD (zn f w)
 refine hgo ?_
 refine zf ?_; simp only [zaN.j0]
 refine zk (zk4 h w) ?_
 by_cases c5 : cls f w = 5
 ·rw [nm5 c5]
  exact zd c5 (Ev.now _)
 by_cases c4 : cls f w = 4
 ·rw [nm4 c4, ← zq]
  exact ze c5 (zd c4 (zd (show (bx (sgT (zn f w))).size + 3 < 35184372088832 by omega) (Ev.now _)))
 by_cases c1 : cls f w = 1
 ·rw [nm1 c1, ← zq]
  exact ze c5 (ze c4 (zd c1 (zd (show (bx (sgT (zn f w))).size + 1 < 35184372088832 by omega) (Ev.now _))))
 ·rw [nm0 c5 c4 c1]
  exact ze c5 (ze c4 (ze c1 (Ev.now _)))
theorem zfd (z : Nat) {e : Int} (h : 0 ≤ e) : exN z e = z * 2 ^ e.toNat := by unfold exN; rw [show (-e).toNat = 0 by omega, Nat.pow_zero, Nat.mul_one]
theorem zfe (z : Nat) {e : Int} (h : e < 0) : exN z e = z * 5 ^ (-e).toNat := by unfold exN; rw [show e.toNat = 0 by omega, Nat.pow_zero, Nat.mul_one]
theorem zjI {z : Nat} {e : Int} (hb : bl z ≤ 53) (h1 : -1074 ≤ e) (h2 : e ≤ 1024) : bl (exN z e) ≤ 3300 := by
 by_cases c : 0 ≤ e
 ·rw [zfd z c]
  have := zco z e.toNat
  omega
 ·rw [zfe z (by omega)]
  have := zdo z (5 ^ (-e).toNat)
  have := zht (-e).toNat
  omega
theorem zki {n k : Nat} (hb : bl n ≤ 32 * k) : n < 4294967296 ^ k := by
 have h1 := zar n
 have h2 : (4294967296 : Nat) ^ k = 2 ^ (32 * k) := by rw [Nat.pow_mul]
 rw [h2]
 exact Nat.lt_of_lt_of_le h1 (Nat.pow_le_pow_right (by omega) hb)
theorem zbD {n k : Nat} (hb : bl n ≤ 32 * k) : (D n).length ≤ k := zbh (zki hb)
def dz (f : Int) (w : Nat) : Nat := V (wv f w).2.1
def we (f : Int) (w : Nat) : Int := (wv f w).2.2
structure Wd (f : Int) (w : Nat) : Prop where
 eq : wv f w = (zn f w, D (dz f w), we f w)
 my : My (zn f w) (D (dz f w)) (we f w)
 ne : dz f w ≠ 0
 b : bl (dz f w) ≤ 53
 lo : -1074 ≤ we f w
 hi : we f w + (bl (dz f w) : Nat) ≤ 1024
theorem zde {f : Int} (h : isF f) {w : Nat} (c1 : cls f w ≠ 1) (c4 : cls f w < 4) : Wd f w := by
 obtain ⟨my, ne, b, lo, hi, hs⟩ := zkY h c1 c4
 have hb := (zio h c1 c4).b
 have hpr : pr f ≤ 53 := by rcases h with rfl | rfl <;> decide
 have e : wv f w = (zn f w, D (dz f w), we f w) := by
  have hn : D (V (wv f w).2.1) = (wv f w).2.1 := my.dy.nm
  unfold dz we
  rw [hn, ← hs]
 refine ⟨e, ?_, ne, ?_, lo, hi⟩
 ·rw [e] at my; exact my
 ·exact Nat.le_trans hb hpr
theorem zmC {f : Int} (h : isF f) {w : Nat} (hw : w < 2 * sg f) (c1 : cls f w ≠ 1) (c4 : cls f w < 4) : Ev (fun k => zaS.f k f (w : Int)) (zn f w, D (dz f w), we f w, 0) := by
 have hv := zmB h hw c4
 have hwv : mk (sv (zn f w) (zB f w)) (wex f w) = wv f w := rfl
 rw [hwv, (zde h c1 c4).eq] at hv
 exact hv
theorem zlC {f : Int} (h : isF f) {w : Nat} (c1 : cls f w ≠ 1) (c4 : cls f w < 4) : Ev (fun k => zcr.f k f (w : Int)) (zn f w, D (dz f w), we f w) := by
 have hv := zlf h w
 have hwv : mk (sv (zn f w) (zB f w)) (wex f w) = wv f w := rfl
 rw [hwv, (zde h c1 c4).eq] at hv
 exact hv
theorem zgI (s : Bool) (l : List Int) {e : Int} {T : List UInt8} (h1 : -1074 ≤ e) (h2 : e < 0) (hT : (-e).toNat ≤ T.length) (hl : T.length ≤ 10000) :
  Ev (fun k => zaZ.j1 k s l e (bx T)) (s, bx (T.take (T.length - (-e).toNat)), bx (T.drop (T.length - (-e).toNat))) := by
 have hs := zE T
 have hw : wrap64 (((bx T).size : Int) + e) = ((T.length - (-e).toNat : Nat) : Int) := by rw [w64 (by omega) (by omega)]; omega
 refine zf ?_; simp only [zaZ.j1]
 rw [hw, Int.toNat_natCast, zbH, zcL]
 exact zd (by omega) (zd (by omega) (zd (by omega) (zd (by omega) (Ev.now _))))
theorem zjn {f : Int} (h : isF f) {w : Nat} (hw : w < 2 * sg f) (c1 : cls f w ≠ 1) (c4 : cls f w < 4) :
  Ev (fun k => zaZ.f k f (w : Int)) (zn f w, bx (exW (dz f w) (we f w)), bx (exP (dz f w) (we f w))) := by
 have W := zde h c1 c4
 have hv := zmC h hw c1 c4
 obtain ⟨_, my, ne, b, lo, hi⟩ := W
 have hbp := zd2 ne
 revert hv my ne b lo hi hbp
 generalize zn f w = s
 generalize dz f w = z
 generalize we f w = e
 intro hv my ne b lo hi hbp
 have hN : (D (exN z e)).length ≤ 104 := zbD (by have := zjI b lo (by omega); omega)
 have hx := zff b lo (by omega)
 unfold zaZ.f
 refine Ev.bind hv ?_
 by_cases c : 0 ≤ e
 ·have e1 : zbS (V (D z)) e = (D (exN z e), false, 0) := by
   unfold zbS
   rw [V_D, if_neg ne, if_neg (by omega), if_neg (by omega), if_neg (by omega), zfd z c]
  have hsh := zhc my.dy.nm my.len e
  rw [e1] at hsh
  have ht := zhd (zD (exN z e)) (by omega)
  rw [V_D, zfS] at ht
  refine zd c (Ev.bind hsh (Ev.bind ht ?_))
  unfold exW exP
  rw [if_pos c, if_pos c]
  exact Ev.now _
 ·have c' : e < 0 := by omega
  have hg : exG e = (-e).toNat := rfl
  have e1 : wrap64 (-e) = (((-e).toNat : Nat) : Int) := by rw [w64 (by omega) (by omega)]; omega
  have h5 : (D (5 ^ (-e).toNat)).length ≤ 104 := zbD (by have := zht (-e).toNat; omega)
  have hp := zkA (b := 5) (n := (-e).toNat) (by omega) (by omega)
  rw [zdp (by omega)] at hp
  have hm := zkz (zD z) (zD (5 ^ (-e).toNat)) my.len (by omega)
  rw [V_D, V_D, ← zfe z c', zdp (by omega)] at hm
  have ht := zhd (zD (exN z e)) (by omega)
  rw [V_D, zfS] at ht
  have hsz := zE (dx (exN z e))
  have hpd := zeB (exG e) (dx (exN z e))
  unfold exW exP
  rw [if_neg c, if_neg c]
  refine ze c ?_
  rw [e1]
  refine Ev.bind hp (Ev.bind hm (Ev.bind ht ?_))
  dsimp only
  have e2 : wrap64 ((((-e).toNat : Nat) : Int) - ((bx (dx (exN z e))).size : Int)) = (((-e).toNat : Nat) : Int) - ((dx (exN z e)).length : Int) := by rw [hsz, w64 (by omega) (by omega)]
  rw [e2]
  by_cases ck : (((-e).toNat : Nat) : Int) - ((dx (exN z e)).length : Int) ≥ 0
  ·have e3 : wrap64 ((((-e).toNat : Nat) : Int) - ((dx (exN z e)).length : Int) + 1) = ((exG e + 1 - (dx (exN z e)).length : Nat) : Int) := by rw [w64 (by omega) (by omega), hg]; omega
   rw [e3]
   refine zd ck (zk (zfL (by omega) (by omega)) ?_)
   rw [Int.toNat_natCast, zq]
   have hz : (bx (List.replicate (exG e + 1 - (dx (exN z e)).length) 48)).size = exG e + 1 - (dx (exN z e)).length := by rw [zE, List.length_replicate]
   refine zd (by omega) ?_
   have := zgI s (D z) (T := zbv (exG e) (dx (exN z e))) lo c' (by omega) (by omega)
   exact this
  ·refine ze ck ?_
   have hpt : zbv (exG e) (dx (exN z e)) = dx (exN z e) := by
    unfold zbv
    rw [show exG e + 1 - (dx (exN z e)).length = 0 by omega]; rfl
   rw [hpt, hg]
   exact zgI s (D z) (T := dx (exN z e)) lo c' (by omega) (by omega)
theorem zgJ {f : Int} (h : isF f) {w : Nat} (c5 : cls f w ≠ 5) (c4 : cls f w ≠ 4) : cls f w < 4 := by have := zi7 h w; omega
theorem zjw {f m : Int} (h : isF f) (hm : isM m) {w : Nat} (hlt : w < 18446744073709551616) : Ev (fun k => zaH.f k f m [(w : Int)]) (if w < 2 * sg f then 0 else 6) := by
 unfold zaH.f
 refine zk (zfC f) ?_
 rw [decide_eq_true h]
 refine ze (by simp) (zk (zhx m) ?_)
 rw [decide_eq_true hm]
 refine ze (by simp) ?_
 refine zf ?_; simp only [zaH.l0]
 refine zd (by simp) (zd (by omega) (zd (by simp) ?_))
 rw [show rd [(w : Int)] 0 = (w : Int) from rfl]
 refine zk (zk5 h hlt) ?_
 unfold zbM
 by_cases hg : w < 2 * sg f
 ·simp only [if_pos hg]
  refine ze (by simp) ?_
  refine zf ?_; simp only [zaH.l0]
  exact ze (show ¬ wrap64 (0 + 1) < 1 by decide) (Ev.now _)
 ·simp only [if_neg hg]
  exact zd (by simp) (Ev.now _)
end Go.Proofs.YtnkpmjhlkmlmbaaGreatDoor.Eng.K
