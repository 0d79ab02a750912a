import Derived.Test.YtnkpmjhlkmlmbaaGreatDoorQCtextPrintsF1
import Derived.Lib.Strings
import Derived.Laws.RangeString
import Derived.Laws.BitsAllLaws
import Derived.Lib.Bytes
set_option linter.unusedVariables false
set_option linter.unusedSimpArgs false
namespace Go.Proofs.YtnkpmjhlkmlmbaaGreatDoor.Eng
def Ev {α : Type} (g : Nat → Option α) (r : α) : Prop := ∃ n, ∀ k, n ≤ k → g k = some r
theorem Ev.now {α : Type} (r : α) : Ev (fun _ => some r) r := ⟨0, fun _ _ => rfl⟩
theorem Ev.bind {α β : Type} {g : Nat → Option α} {f : Nat → α → Option β} {a : α} {r : β} (h : Ev g a) (k : Ev (fun n => f n a) r) : Ev (fun n => (g n).bind (f n)) r := by
 obtain ⟨n, hn⟩ := h
 obtain ⟨m, hm⟩ := k
 exact ⟨n + m, fun i hi => by show (g i).bind (f i) = some r; rw [hn i (by omega), Option.bind_some]; exact hm i (by omega)⟩
theorem Ev.step {α : Type} {g f : Nat → Option α} {r : α} (h : ∀ k, g (k + 1) = f k) (k : Ev f r) : Ev g r := by
 obtain ⟨n, hn⟩ := k
 refine ⟨n + 1, fun i hi => ?_⟩
 obtain ⟨i, rfl⟩ : ∃ j, i = j + 1 := ⟨i - 1, by omega⟩
 rw [h]; exact hn i (by omega)
end Go.Proofs.YtnkpmjhlkmlmbaaGreatDoor.Eng
namespace Go.Proofs.YtnkpmjhlkmlmbaaGreatDoor.Eng.K
open Go.RowKit
theorem w64 {n : Int} (h0 : -9223372036854775808 ≤ n) (h1 : n < 9223372036854775808) : wrap64 n = n := by unfold wrap64; omega
theorem zau {n : Int} (h0 : 0 ≤ n) (h1 : n < 9223372036854775808) : wrap64 n = n := by unfold wrap64; omega
theorem u64 {n : Int} (h0 : 0 ≤ n) (h1 : n < 18446744073709551616) : IntKind.u64.wrap n = n := by
 simp [IntKind.wrap, IntKind.bits, IntKind.signed]; omega
theorem zcn (n : Int) : IntKind.u64.wrap n = n % 18446744073709551616 := by
 simp [IntKind.wrap, IntKind.bits, IntKind.signed]
theorem rdn (xs : List Int) (n : Nat) : rd xs (n : Int) = xs.getD n 0 := by simp [rd]
theorem z8 {xs ys : List Int} {y : Int} {i : Int} (h : i = (xs.length : Int)) : rd (xs ++ y :: ys) i = y := by
 subst h; simp [rd]
theorem zbJ {xs ys : List Int} {y z : Int} {i : Int} (h : i = (xs.length : Int)) : (xs ++ y :: ys).set i.toNat z = (xs ++ [z]) ++ ys := by
 subst h; simp
theorem zh {α : Type} {g : Nat → Option α} {r s : α} (h : Ev g r) (e : r = s) : Ev g s := e ▸ h
theorem zoz {α : Type} {x : Option α} {r : α} (h : x = some r) : Ev (fun _ => x) r := by subst h; exact Ev.now r
theorem zd {α : Type} {c : Prop} {_ : Decidable c} {g f : Nat → Option α} {r : α} (h : c) (k : Ev g r) : Ev (fun n => if c then g n else f n) r := by
 simpa [h] using k
theorem ze {α : Type} {c : Prop} {_ : Decidable c} {g f : Nat → Option α} {r : α} (h : ¬ c) (k : Ev f r) : Ev (fun n => if c then g n else f n) r := by
 simpa [h] using k
theorem ep {α : Type} {c : Prop} {_ : Decidable c} {g f : Nat → Option α} {r : α} (k : Ev g r) (h : c := by (first | omega | assumption | (simp; done) | (simp; omega))) : Ev (fun n => if c then g n else f n) r := zd h k
theorem en {α : Type} {c : Prop} {_ : Decidable c} {g f : Nat → Option α} {r : α} (k : Ev f r) (h : ¬ c := by (first | omega | assumption | (simp; done) | (simp; omega))) : Ev (fun n => if c then g n else f n) r := ze h k
theorem zi {α β : Type} {x : Option α} {f : Nat → α → Option β} {a : α} {r : β} (h : x = some a) (k : Ev (fun n => f n a) r) : Ev (fun n => x.bind (f n)) r := by
 subst h; exact k
theorem zf {α : Type} {g : Nat → Option α} {r : α} (k : Ev (fun n => g (n + 1)) r) : Ev g r := Ev.step (fun _ => rfl) k
theorem Ev.unique {α : Type} {g : Nat → Option α} {r s : α} (h : Ev g r) (k : Ev g s) : r = s := by
 obtain ⟨a, ha⟩ := h; obtain ⟨b, hb⟩ := k
 have h1 := ha (max a b) (Nat.le_max_left _ _); have h2 := hb (max a b) (Nat.le_max_right _ _)
 rw [h1] at h2; exact Option.some.inj h2
def Dg (l : List Int) : Prop := ∀ x ∈ l, 0 ≤ x ∧ x < 4294967296
def V : List Int → Nat
 | [] => 0
 | d :: l => d.toNat + 4294967296 * V l
def D (n : Nat) : List Int := if h : n = 0 then [] else ((n % 4294967296 : Nat) : Int) :: D (n / 4294967296)
termination_by n
decreasing_by omega
theorem Dg.nil : Dg [] := fun _ h => by simp at h
theorem Dg.cons {d : Int} {l : List Int} (h0 : 0 ≤ d) (h1 : d < 4294967296) (h : Dg l) : Dg (d :: l) := fun x hx => by
 rcases List.mem_cons.1 hx with rfl | hx
 ·exact ⟨h0, h1⟩
 ·exact h x hx
theorem Dg.head {d : Int} {l : List Int} (h : Dg (d :: l)) : 0 ≤ d ∧ d < 4294967296 := h d (by simp)
theorem Dg.tail {d : Int} {l : List Int} (h : Dg (d :: l)) : Dg l := fun x hx => h x (by simp [hx])
theorem Dg.app {a b : List Int} (h : Dg a) (k : Dg b) : Dg (a ++ b) := fun x hx => by
 rcases List.mem_append.1 hx with hx | hx
 ·exact h x hx
 ·exact k x hx
theorem Dg.left {a b : List Int} (h : Dg (a ++ b)) : Dg a := fun x hx => h x (by simp [hx])
theorem Dg.right {a b : List Int} (h : Dg (a ++ b)) : Dg b := fun x hx => h x (by simp [hx])
theorem Dg.take {a : List Int} (h : Dg a) (n : Nat) : Dg (a.take n) := fun x hx => h x (List.mem_of_mem_take hx)
theorem Dg.drop {a : List Int} (h : Dg a) (n : Nat) : Dg (a.drop n) := fun x hx => h x (List.mem_of_mem_drop hx)
theorem Dg.zeros (n : Nat) : Dg (List.replicate n 0) := fun x hx => by
 obtain ⟨_, rfl⟩ := List.mem_replicate.1 hx; omega
theorem Dg.getD {a : List Int} (h : Dg a) (n : Nat) : 0 ≤ a.getD n 0 ∧ a.getD n 0 < 4294967296 := by
 rw [List.getD_eq_getElem?_getD]
 cases e : a[n]? with
 | none => simp
 | some x => simpa using h x (List.mem_of_getElem? e)
theorem Dg.rd {a : List Int} (h : Dg a) (i : Int) : 0 ≤ rd a i ∧ rd a i < 4294967296 := h.getD i.toNat
theorem Dg.set {a : List Int} (h : Dg a) (n : Nat) {x : Int} (h0 : 0 ≤ x) (h1 : x < 4294967296) : Dg (a.set n x) := fun y hy => by
 rcases List.mem_or_eq_of_mem_set hy with hy | rfl
 ·exact h y hy
 ·exact ⟨h0, h1⟩
@[simp] theorem zai : V [] = 0 := rfl
@[simp] theorem zz (d : Int) (l : List Int) : V (d :: l) = d.toNat + 4294967296 * V l := rfl
theorem zaO (a b : List Int) : V (a ++ b) = V a + 4294967296 ^ a.length * V b := by
 induction a with
 | nil => simp
 | cons d a ih => simp [ih, Nat.pow_succ]; grind
theorem zfi (n : Nat) : V (List.replicate n 0) = 0 := by
 induction n with
 | zero => rfl
 | succ n ih => simp [List.replicate_succ, ih]
theorem zah {l : List Int} (h : Dg l) : V l < 4294967296 ^ l.length := by
 induction l with
 | nil => simp
 | cons d l ih =>
  have := ih h.tail; have := h.head
  simp only [zz, List.length_cons, Nat.pow_succ]
  omega
theorem zy : D 0 = [] := by unfold D; simp
theorem zbi {n : Nat} (h : n ≠ 0) : D n = ((n % 4294967296 : Nat) : Int) :: D (n / 4294967296) := by
 conv => lhs; unfold D
 simp [h]
theorem V_D (n : Nat) : V (D n) = n := by
 induction n using Nat.strongRecOn with
 | _ n ih =>
  by_cases h : n = 0
  ·subst h; simp [zy]
  ·rw [zbi h, zz, ih _ (by omega)]; omega
theorem zM (n : Nat) : Dg (D n) := by
 induction n using Nat.strongRecOn with
 | _ n ih =>
  by_cases h : n = 0
  ·subst h; rw [zy]; exact Dg.nil
  ·rw [zbi h]; exact Dg.cons (by omega) (by omega) (ih _ (by omega))
theorem zhi {d : Int} {n : Nat} (h0 : 0 ≤ d) (h1 : d < 4294967296) (h : d ≠ 0 ∨ n ≠ 0) : D (d.toNat + 4294967296 * n) = d :: D n := by
 rw [zbi (by omega)]
 congr 1
 ·omega
 ·congr 1; omega
theorem zmS {a b : Nat} (h : D a = D b) : a = b := by rw [← V_D a, h, V_D]
def Nm (l : List Int) : Prop := D (V l) = l
instance (l : List Int) : Decidable (Nm l) := inferInstanceAs (Decidable (D (V l) = l))
theorem Nm.dg {l : List Int} (h : Nm l) : Dg l := h ▸ zM _
theorem zv (n : Nat) : Nm (D n) := by unfold Nm; rw [V_D]
theorem zd5 : Nm [] := by unfold Nm; exact zy
theorem Nm.inj {a b : List Int} (h : Nm a) (k : Nm b) (e : V a = V b) : a = b := by rw [← h, e, k]
theorem zdv {l : List Int} (h : Nm l) : V l = 0 ↔ l = [] := by
 constructor
 ·intro e; rw [← h, e, zy]
 ·rintro rfl; rfl
theorem zfc {l : List Int} {d : Int} (h : Dg l) (h0 : 0 < d) (h1 : d < 4294967296) : Nm (l ++ [d]) := by
 unfold Nm
 induction l with
 | nil =>
  have := zhi (d := d) (n := 0) (by omega) h1 (by omega)
  simpa [zy] using this
 | cons x l ih =>
  have hx := h.head
  rw [List.cons_append, zz, zhi hx.1 hx.2, ih h.tail]
  right; rw [zaO]
  have : 0 < 4294967296 ^ l.length := Nat.pow_pos (by omega)
  have : 0 < 4294967296 ^ l.length * V [d] := Nat.mul_pos this (by simp; omega)
  omega
theorem zhp (l : List Int) : V (l ++ [0]) = V l := by rw [zaO]; simp
theorem zmT {l : List Int} (h : Dg l) : (D (V l)).length ≤ l.length := by
 induction l with
 | nil => simp [zy]
 | cons x l ih =>
  have hx := h.head
  by_cases e : x ≠ 0 ∨ V l ≠ 0
  ·rw [zz, zhi hx.1 hx.2 e]; simpa using ih h.tail
  ·have h1 : x = 0 := by omega
   have h2 : V l = 0 := by omega
   simp [h1, h2, zy]
theorem zhn {l : List Int} {d : Int} (h : Nm (l ++ [d])) : d ≠ 0 := by
 intro e; subst e
 have h2 := zmT h.dg.left
 have h3 : D (V (l ++ [0])) = l ++ [0] := h
 rw [zhp] at h3
 rw [h3] at h2
 simp at h2
 omega
theorem zhm {l : List Int} (h : Dg l) : Nm l ↔ l = [] ∨ l.getD (l.length - 1) 0 ≠ 0 := by
 rcases List.eq_nil_or_concat l with rfl | ⟨a, d, rfl⟩
 ·simp [zd5]
 ·rw [List.concat_eq_append] at h ⊢
  have : (a ++ [d]).getD ((a ++ [d]).length - 1) 0 = d := by simp
  rw [this]
  constructor
  ·intro k; exact .inr (zhn k)
  ·rintro (k | k)
   ·simp at k
   ·have := h d (by simp)
    exact zfc h.left (by omega) this.2
theorem zd4 {n k : Nat} (h : n < 4294967296 ^ k) : (D n).length ≤ k := by
  induction k generalizing n with
  | zero => have : n = 0 := by simpa using h
            subst this; simp [zy]
  | succ k ih =>
    by_cases e : n = 0
    · subst e; simp [zy]
    · rw [zbi e, List.length_cons]
      have := ih (n := n / 4294967296) (by rw [Nat.pow_succ] at h; omega)
      omega
theorem zbW (n : Nat) : n < 4294967296 ^ (D n).length := by
 have := zah (zM n); rwa [V_D] at this
theorem zhj {n : Nat} (h : n ≠ 0) : 4294967296 ^ ((D n).length - 1) ≤ n := by
 apply Nat.le_of_not_lt
 intro k
 have := zd4 k
 have : (D n).length ≠ 0 := by rw [zbi h]; simp
 omega
theorem zds {a b : Nat} (h : a ≤ b) : (D a).length ≤ (D b).length :=
 zd4 (Nat.lt_of_le_of_lt h (zbW b))
theorem zps {a b : Nat} (h : (D a).length < (D b).length) : a < b := by
 apply Nat.lt_of_not_le
 intro k
 have := zds k
 omega
theorem Nm.len {l : List Int} (h : Nm l) : (D (V l)).length = l.length := by rw [h]
theorem Nm.lt_of_len {a b : List Int} (h : Nm a) (k : Nm b) (e : a.length < b.length) : V a < V b := by
 apply zps; rw [h, k]; exact e
open Go.RowKit Go.Proofs Go.Proofs.YtnkpmjhlkmlmbaaGreatDoor.Eng
def tl (s : ByteArray) : List UInt8 := s.data.toList
theorem zg7 (s : ByteArray) : (tl s).length = s.size := by simp [tl]
theorem zcD {a b : ByteArray} : tl a = tl b ↔ a = b := ⟨fun h => by
 cases a; cases b
 congr
 exact Array.toList_inj.1 h, fun h => by rw [h]⟩
theorem zrT (a b : ByteArray) : tl (a ++ b) = tl a ++ tl b := by simp [tl]
theorem zg6 (s : ByteArray) (i j : Nat) : tl (s.extract i j) = ((tl s).take j).drop i := by
 simp only [tl, ByteArray.data_extract, Array.toList_extract, List.extract_eq_take_drop]
 rw [List.take_drop, List.drop_take, List.drop_take]
 congr 1
 omega
theorem zms {s : ByteArray} : tl s = [] ↔ s = ⟨#[]⟩ := by
 rw [← zcD]
 simp [tl]
theorem zrV (l : List Int) : tl (qfU l) = l.map fun n => UInt8.ofNat n.toNat := rfl
theorem zrU (s : ByteArray) : s.size = (tl s).length := (zg7 s).symm
theorem zjG (s : ByteArray) (i : Int) : bt s i = (((tl s).getD i.toNat 0).toNat : Int) := by
 unfold bt tl
 split
 ·rename_i h
  have : i.toNat < s.data.toList.length := by simpa using h
  simp [List.getD, List.getElem?_eq_getElem this]
  rfl
 ·rename_i h
  have : ¬ i.toNat < s.data.toList.length := by simpa using h
  simp [List.getD, List.getElem?_eq_none (by omega : s.data.toList.length ≤ i.toNat)]
def hx (b : UInt8) : Option Nat := if 48 ≤ b.toNat ∧ b.toNat ≤ 57 then some (b.toNat - 48) else if 97 ≤ b.toNat ∧ b.toNat ≤ 102 then some (b.toNat - 87) else none
def zeh (l : List UInt8) (a : Nat) : Nat := l.foldl (fun a b => 16 * a + (hx b).getD 0) a
def isD (b : UInt8) : Bool := decide (48 ≤ b.toNat ∧ b.toNat ≤ 57)
def zl (l : List UInt8) (a : Nat) : Nat := l.foldl (fun a b => 10 * a + (b.toNat - 48)) a
theorem zj9 {α : Type} (p : α → Bool) (l : List α) {c : α} {r : List α} (h : l.dropWhile p = c :: r) : p c = false := by
 induction l with
 | nil => simp at h
 | cons a l ih =>
  by_cases ha : p a = true
  ·simp [ha] at h; exact ih h
  ·simp [ha] at h; rw [← h.1]; simpa using ha
def zkj (d : Nat) : UInt8 := UInt8.ofNat (if d < 10 then 48 + d else 87 + d)
theorem zaf {n : Nat} (h : n < 4611686018427387904) : wrap64 ((n : Int) + 1) = ((n + 1 : Nat) : Int) := by unfold wrap64; omega
theorem zi8 {n : Nat} (h : n < 4611686018427387904) : wrap64 (((n + 1 : Nat) : Int) - 1) = (n : Int) := by unfold wrap64; omega
theorem zmB : ∀ (n : Nat) (l : List Int), l.length = n → Dg l → n < 4611686018427387904 → Ev (fun k => zw.f k l) (D (V l))
 | 0, l, hn, hd, hb => by
  have : l = [] := List.eq_nil_of_length_eq_zero hn
  subst this
  refine zf (zoz ?_)
  simp [zw.f, zw.l0, zy]
 | n + 1, l, hn, hd, hb => by
  rcases List.eq_nil_or_concat l with rfl | ⟨a, d, rfl⟩
  ·simp at hn
  rw [List.concat_eq_append] at hn hd ⊢
  have hl : (a ++ [d]).length = n + 1 := hn
  have ha : a.length = n := by simpa using hn
  refine zf ?_
  show Ev (fun k => zw.l0 (k + 1) (a ++ [d])) _
  simp only [zw.l0, hl, zi8 (n := n) (by omega)]
  refine zd (by omega) (zd (by omega) (zd (by omega) ?_))
  rw [z8 (by omega)]
  by_cases h0 : d = 0
  ·subst h0
   refine zd rfl (zd (by omega) ?_)
   rw [zhp]
   have : (a ++ [(0 : Int)]).take (n : Int).toNat = a := by simp [← ha]
   rw [this]
   exact zd (by omega) (zmB n a ha hd.left (by omega))
  ·refine ze h0 ?_
   have := hd d (by simp)
   rw [zfc hd.left (by omega) this.2]
   exact Ev.now _
theorem zdj {l : List Int} (hd : Dg l) (hb : l.length < 4611686018427387904) : Ev (fun k => zw.f k l) (D (V l)) := zmB _ l rfl hd hb
theorem zlU (l : List Int) (hd : Dg l) (hb : l.length < 4611686018427387904) : ∀ (n : Nat) (a b : List Int), a.length = n → l = a ++ b → V b = 0 → Ev (fun k => zE.l0 k l n) (D (V l))
 | 0, a, b, hn, he, h0 => by
  have : a = [] := List.eq_nil_of_length_eq_zero hn
  subst this
  refine zf ?_
  simp only [zE.l0]
  refine ze (by omega) (zd (by omega) (zd (by omega) ?_))
  rw [he]; simp [h0, zy]; exact Ev.now _
 | n + 1, a, b, hn, he, h0 => by
  rcases List.eq_nil_or_concat a with rfl | ⟨a, d, rfl⟩
  ·simp at hn
  rw [List.concat_eq_append] at hn he
  have ha : a.length = n := by simpa using hn
  have hl : l.length = n + 1 + b.length := by rw [he]; simp [ha]; omega
  refine zf ?_
  simp only [zE.l0, zi8 (n := n) (by omega)]
  refine zd (by omega) (zd (by omega) (zd (by omega) ?_))
  have hr : rd l n = d := by rw [he, List.append_assoc]; exact z8 (by omega)
  rw [hr]
  by_cases hz : d = 0
  ·refine zd hz ?_
   exact zlU l hd hb n a (d :: b) ha (by rw [he]; simp) (by simp [h0, hz])
  ·refine ze hz (zd (by omega) (zd (by omega) ?_))
   have hd2 := hd
   rw [he] at hd2
   have h1 := hd2.left d (by simp)
   have h2 : V l = V (a ++ [d]) := by rw [he, zaO (a ++ [d]) b, h0]; simp
   have h3 : l.take ((n + 1 : Nat) : Int).toNat = a ++ [d] := by
    rw [he, Int.toNat_natCast]; exact List.take_left' (by simp [ha])
   rw [h3, h2, zfc hd2.left.left (by omega) h1.2]
   exact Ev.now _
theorem zdR {l : List Int} (hd : Dg l) (hb : l.length < 4611686018427387904) : Ev (fun k => zE.f k l) (D (V l)) :=
 zlU l hd hb l.length l [] rfl (by simp) rfl
theorem zjq (n : Int) (h0 : 0 ≤ n) (h1 : n < 18446744073709551616) : V [n % 4294967296, (n / 4294967296) % 4294967296] = n.toNat := by
 simp; omega
theorem zjd (n : Int) : Dg [n % 4294967296, (n / 4294967296) % 4294967296] := Dg.cons (by omega) (by omega) (Dg.cons (by omega) (by omega) Dg.nil)
theorem zfF {n : Int} (h0 : 0 ≤ n) (h1 : n < 18446744073709551616) : Ev (fun k => zbZ.f k n) (D n.toNat) := by
 unfold zbZ.f
 refine Ev.bind (zdj (zjd n) (by simp)) ?_
 rw [zjq n h0 h1]; exact Ev.now _
theorem zeX {n : Int} (h0 : 0 ≤ n) (h1 : n < 18446744073709551616) : Ev (fun k => zbk.f k n) (D n.toNat) := by
 unfold zbk.f
 refine Ev.bind (zdR (zjd n) (by simp)) ?_
 rw [zjq n h0 h1]; exact Ev.now _
theorem zlX (x y : List Int) (hl : x.length = y.length) (hb : x.length < 4611686018427387904) : ∀ (d n : Nat), n + d = x.length → Ev (fun k => zbM.l0 k x y n) (decide (x.drop n = y.drop n))
 | 0, n, h => by
  refine zf ?_
  simp only [zbM.l0]
  refine ze (by omega) ?_
  rw [List.drop_eq_nil_of_le (by omega), List.drop_eq_nil_of_le (by omega)]
  exact Ev.now _
 | d + 1, n, h => by
  refine zf ?_
  simp only [zbM.l0, zaf (n := n) (by omega)]
  refine zd (by omega) (zd (by omega) (zd (by omega) (zd (by omega) (zd (by omega) ?_))))
  have hx : n < x.length := by omega
  have hy : n < y.length := by omega
  have e1 : rd x n = x[n] := by rw [rdn]; simp [hx]
  have e2 : rd y n = y[n] := by rw [rdn]; simp [hy]
  have d1 := List.drop_eq_getElem_cons hx
  have d2 := List.drop_eq_getElem_cons hy
  rw [e1, e2]
  by_cases he : x[n] = y[n]
  ·refine ze (fun h => h he) ?_
   refine zh (zlX x y hl hb d (n + 1) (by omega)) ?_
   exact decide_eq_decide.2 ⟨fun h => by rw [d1, d2, he, h], fun h => by rw [d1, d2] at h; exact (List.cons.inj h).2⟩
  ·refine zd he ?_
   refine zh (Ev.now _) ?_
   exact (decide_eq_false (fun h => by rw [d1, d2] at h; exact he (List.cons.inj h).1)).symm
theorem zq1 (x y : List Int) (hb : x.length < 4611686018427387904) : Ev (fun k => zbM.f k x y) (decide (x = y)) := by
 unfold zbM.f
 by_cases h : x.length = y.length
 ·refine ze (by omega) ?_
  exact zh (zlX x y h hb x.length 0 (by omega)) (by simp)
 ·refine zd (by omega) ?_
  refine zh (Ev.now _) ?_
  have : x ≠ y := fun e => h (by rw [e])
  simp [this]
def may (l : List Int) : Bool := decide (l.length ≤ 4096) && decide (Nm l)
theorem zcw {l : List Int} : may l = true ↔ l.length ≤ 4096 ∧ Nm l := by simp [may]
theorem zdi {l : List Int} (h : Dg l) (hb : l.length < 4611686018427387904) : zaC.f l = some (may l) := by
 unfold zaC.f may
 by_cases h1 : l.length ≤ 4096
 ·rw [if_pos (by omega)]
  by_cases h2 : l.length = 0
  ·have : l = [] := List.eq_nil_of_length_eq_zero h2
   subst this; simp [zd5]
  ·rw [if_neg (by omega)]
   have e : wrap64 ((l.length : Int) - 1) = ((l.length - 1 : Nat) : Int) := by unfold wrap64; omega
   rw [e, if_pos (by omega), if_pos (by omega), rdn]
   have h3 : l ≠ [] := fun e => h2 (by rw [e]; rfl)
   have h4 := zhm h
   by_cases h5 : l.getD (l.length - 1) 0 = 0
   ·have : ¬ Nm l := fun k => by rcases h4.1 k with k | k <;> contradiction
    rw [h5]; simp [this]
   ·have : Nm l := h4.2 (.inr h5)
    simp only [h5, not_false_eq_true, decide_true]; simp [h1, this]
 ·rw [if_neg (by omega)]; simp [h1]
theorem zjw {a b : List Int} (ha : Dg a) (hb : Dg b) (la : a.length < 4611686018427387904) (lb : b.length < 4611686018427387904) : Ev (fun k => zar.f k [a, b]) (may a && may b) := by
 unfold zar.f
 refine zf ?_
 simp only [zar.l0]
 refine zd (by simp) (zd (by omega) (zd (by simp) ?_))
 have e0 : rdT [.is .u32] [a, b] 0 = a := rfl
 have e1 : rdT [.is .u32] [a, b] 1 = b := rfl
 rw [e0]
 refine zi (zdi ha la) ?_
 cases may a with
 | false => exact zd (by simp) (Ev.now _)
 | true =>
  refine ze (by simp) ?_
  have w1 : wrap64 (0 + 1) = 1 := by unfold wrap64; omega
  have w2 : wrap64 (1 + 1) = 2 := by unfold wrap64; omega
  rw [w1]
  refine zf ?_
  simp only [zar.l0]
  refine zd (by simp) (zd (by omega) (zd (by simp) ?_))
  rw [e1]
  refine zi (zdi hb lb) ?_
  cases may b with
  | false => exact zd (by simp) (Ev.now _)
  | true =>
   refine ze (by simp) ?_
   rw [w2]
   refine zf ?_
   simp only [zar.l0]
   exact ze (by simp) (Ev.now _)
def z6 (n : Nat) : List Int × Int := if (D n).length > 4096 then ([], 3) else (D n, 0)
theorem zpP (n : Nat) : zbt.f (D n) = some (z6 n) := by
 unfold zbt.f z6
 by_cases h : (D n).length > 4096
 ·rw [if_pos (by omega), if_pos h]
 ·rw [if_neg (by omega), if_neg h]
theorem znc {x y c : Int} (hx : 0 ≤ x ∧ x < 4294967296) (hy : 0 ≤ y ∧ y < 4294967296) (hc : 0 ≤ c ∧ c < 4294967296) : zdw.f x y c = some ((x + y + c) % 4294967296, (x + y + c) / 4294967296) := by
 unfold zdw.f
 rw [u64 hx.1 (by omega), u64 hy.1 (by omega), u64 hc.1 (by omega), u64 (n := x + y) (by omega) (by omega), u64 (by omega) (by omega)]
 have : (x + y + c) / 4294967296 % 4294967296 = (x + y + c) / 4294967296 := by omega
 rw [this]
theorem Dg.headD {b : List Int} (h : Dg b) : 0 ≤ b.headD 0 ∧ b.headD 0 < 4294967296 := by
 cases b with
 | nil => simp
 | cons y b => exact h.head
theorem Dg.tl {b : List Int} (h : Dg b) : Dg b.tail := by
 cases b with
 | nil => exact h
 | cons y b => exact h.tail
theorem zfe (b : List Int) : V b = (b.headD 0).toNat + 4294967296 * V b.tail := by
 cases b <;> simp
theorem zhI (b : List Int) (n : Nat) : (b.drop n).headD 0 = b.getD n 0 := by
 rw [List.headD_eq_head?_getD, List.head?_drop, List.getD_eq_getElem?_getD]
def za6 (m n : Nat) : Int := if m < n then -1 else if n < m then 1 else 0
theorem zfh {l : List Int} {n : Nat} (h : n < l.length) : V (l.take (n + 1)) = V (l.take n) + 4294967296 ^ n * (l.getD n 0).toNat := by
 rw [List.take_succ_eq_append_getElem h, zaO]
 simp [Nat.min_eq_left (Nat.le_of_lt h), h]
theorem zmx {p q P d e : Nat} (hp : p < P) (h : d < e) : p + P * d < q + P * e := by
 have : P * (d + 1) ≤ P * e := Nat.mul_le_mul_left _ h
 rw [Nat.mul_add] at this
 omega
theorem zfg {l : List Int} (h : Dg l) {n : Nat} (hn : n ≤ l.length) : V (l.take n) < 4294967296 ^ n := by
 have := zah (h.take n); rwa [List.length_take, Nat.min_eq_left hn] at this
theorem zjS {x y : List Int} (hx : Dg x) (hy : Dg y) {n : Nat} (h1 : n < x.length) (h2 : n < y.length) :
  za6 (V (x.take (n + 1))) (V (y.take (n + 1))) = if x.getD n 0 = y.getD n 0 then za6 (V (x.take n)) (V (y.take n)) else if x.getD n 0 < y.getD n 0 then -1 else 1 := by
 rw [zfh h1, zfh h2]
 have a := hx.getD n
 have b := hy.getD n
 have p := zfg hx (Nat.le_of_lt h1)
 have q := zfg hy (Nat.le_of_lt h2)
 by_cases e : x.getD n 0 = y.getD n 0
 ·rw [if_pos e, e]; unfold za6; simp
 ·rw [if_neg e]
  by_cases c : x.getD n 0 < y.getD n 0
  ·rw [if_pos c]
   have := zmx (q := V (y.take n)) p (show (x.getD n 0).toNat < (y.getD n 0).toNat by omega)
   unfold za6; rw [if_pos this]
  ·rw [if_neg c]
   have := zmx (q := V (x.take n)) q (show (y.getD n 0).toNat < (x.getD n 0).toNat by omega)
   unfold za6; rw [if_neg (by omega), if_pos this]
theorem zbL {n : Nat} (h : n < 4611686018427387904) : wrap64 ((n : Int) - 1) = (n : Int) - 1 := by unfold wrap64; omega
theorem zjQ {x y : List Int} (hx : Dg x) (hy : Dg y) (hb : x.length < 4611686018427387904) : ∀ (n : Nat), n ≤ x.length → n ≤ y.length → Ev (fun k => za2.l0 k x y ((n : Int) - 1)) (za6 (V (x.take n)) (V (y.take n)))
 | 0, _, _ => by
  refine zf ?_
  simp only [za2.l0]
  (repeat (first | with_reducible refine ep ?_ | with_reducible refine en ?_)); exact Ev.now _
 | n + 1, h1, h2 => by
  refine zf ?_
  simp only [za2.l0]
  have e : ((n + 1 : Nat) : Int) - 1 = (n : Int) := by omega
  rw [e, zbL (n := n) (by omega)]
  (repeat (first | with_reducible refine ep ?_ | with_reducible refine en ?_))
  rw [zjS hx hy (by omega) (by omega), rdn, rdn]
  by_cases c : x.getD n 0 = y.getD n 0
  ·(repeat (first | with_reducible refine ep ?_ | with_reducible refine en ?_))
   rw [if_pos c]
   exact zjQ hx hy hb n (by omega) (by omega)
  ·(repeat (first | with_reducible refine ep ?_ | with_reducible refine en ?_))
   rw [if_neg c]
   by_cases c2 : x.getD n 0 < y.getD n 0
   ·(repeat (first | with_reducible refine ep ?_ | with_reducible refine en ?_))
    rw [if_pos c2]; exact Ev.now _
   ·(repeat (first | with_reducible refine ep ?_ | with_reducible refine en ?_))
    rw [if_neg c2]; exact Ev.now _
theorem zpQ {x y : List Int} (hx : Nm x) (hy : Nm y) (hb : x.length < 4611686018427387904) : Ev (fun k => za2.f k x y) (za6 (V x) (V y)) := by
 unfold za2.f
 by_cases c : x.length < y.length
 ·(repeat (first | with_reducible refine ep ?_ | with_reducible refine en ?_))
  unfold za6; rw [if_pos (hx.lt_of_len hy c)]; exact Ev.now _
 ·(repeat (first | with_reducible refine ep ?_ | with_reducible refine en ?_))
  by_cases c2 : y.length < x.length
  ·(repeat (first | with_reducible refine ep ?_ | with_reducible refine en ?_))
   have := hy.lt_of_len hx c2
   unfold za6; rw [if_neg (by omega), if_pos this]; exact Ev.now _
  ·(repeat (first | with_reducible refine ep ?_ | with_reducible refine en ?_))
   have e : x.length = y.length := by omega
   rw [zbL (by omega)]
   have := zjQ hx.dg hy.dg hb x.length (by omega) (by omega)
   rwa [List.take_length, e, List.take_length, ← e] at this
theorem zlw {x y : List Int} (hx : Dg x) (hy : Dg y) (hb : x.length < 4611686018427387904) : ∀ (n : Nat), n ≤ x.length → n ≤ y.length → Ev (fun k => zbj.l0 k x y ((n : Int) - 1)) (za6 (V (x.take n)) (V (y.take n)))
 | 0, _, _ => by
  refine zf ?_
  simp only [zbj.l0]
  (repeat (first | with_reducible refine ep ?_ | with_reducible refine en ?_)); exact Ev.now _
 | n + 1, h1, h2 => by
  refine zf ?_
  simp only [zbj.l0]
  have e : ((n + 1 : Nat) : Int) - 1 = (n : Int) := by omega
  rw [e, zbL (n := n) (by omega)]
  (repeat (first | with_reducible refine ep ?_ | with_reducible refine en ?_))
  rw [zjS hx hy (by omega) (by omega), rdn, rdn]
  by_cases c2 : x.getD n 0 < y.getD n 0
  ·(repeat (first | with_reducible refine ep ?_ | with_reducible refine en ?_))
   rw [if_neg (by omega), if_pos c2]; exact Ev.now _
  ·(repeat (first | with_reducible refine ep ?_ | with_reducible refine en ?_))
   by_cases c : x.getD n 0 > y.getD n 0
   ·(repeat (first | with_reducible refine ep ?_ | with_reducible refine en ?_))
    rw [if_neg (by omega), if_neg c2]; exact Ev.now _
   ·(repeat (first | with_reducible refine ep ?_ | with_reducible refine en ?_))
    rw [if_pos (by omega)]
    exact zlw hx hy hb n (by omega) (by omega)
theorem zly {x y : List Int} (hx : Nm x) (hy : Nm y) (hb : x.length < 4611686018427387904) : Ev (fun k => zbj.f k x y) (za6 (V x) (V y)) := by
 unfold zbj.f
 by_cases e : x.length = y.length
 ·(repeat (first | with_reducible refine ep ?_ | with_reducible refine en ?_))
  rw [zbL (by omega)]
  have := zlw hx.dg hy.dg hb x.length (by omega) (by omega)
  rwa [List.take_length, e, List.take_length, ← e] at this
 ·(repeat (first | with_reducible refine ep ?_ | with_reducible refine en ?_))
  by_cases c : x.length < y.length
  ·(repeat (first | with_reducible refine ep ?_ | with_reducible refine en ?_))
   unfold za6; rw [if_pos (hx.lt_of_len hy c)]; exact Ev.now _
  ·(repeat (first | with_reducible refine ep ?_ | with_reducible refine en ?_))
   have := hy.lt_of_len hx (by omega)
   unfold za6; rw [if_neg (by omega), if_pos this]; exact Ev.now _
theorem zam (n : Nat) : n >>> 31 = n / 2147483648 := by rw [Nat.shiftRight_eq_div_pow]
theorem zhw {n : Nat} (h : n < 4294967296) : n / 2147483648 = 0 ∨ n / 2147483648 = 1 := by omega
theorem zny {x y d : Nat} (hx : x < 4294967296) (hy : y < 4294967296) (hd : d < 4294967296) :
  ((((4294967295 ^^^ x) &&& y) ||| ((4294967295 ^^^ (x ^^^ y)) &&& d)) / 2147483648 : Nat) =
   if x / 2147483648 = 0 then (if y / 2147483648 = 0 then d / 2147483648 else 1) else (if y / 2147483648 = 0 then 0 else d / 2147483648) := by
 rw [← zam, ← zam, ← zam, ← zam, Nat.shiftRight_or_distrib, Nat.shiftRight_and_distrib, Nat.shiftRight_and_distrib, Nat.shiftRight_xor_distrib, Nat.shiftRight_xor_distrib, Nat.shiftRight_xor_distrib]
 simp only [zam]
 have e : 4294967295 / 2147483648 = 1 := by decide
 rw [e]
 rcases zhw hx with h1 | h1 <;> rcases zhw hy with h2 | h2 <;> rcases zhw hd with h3 | h3 <;> rw [h1, h2, h3] <;> decide
theorem zmj {x y c : Int} (hx : 0 ≤ x ∧ x < 4294967296) (hy : 0 ≤ y ∧ y < 4294967296) (hc : 0 ≤ c ∧ c ≤ 1) : zc2.f x y c = some ((x - y - c) % 4294967296, if x < y + c then 1 else 0) := by
 unfold zc2.f
 have hd : ((x - y) % 4294967296 - c) % 4294967296 = (x - y - c) % 4294967296 := by omega
 rw [hd]
 obtain ⟨X, rfl⟩ := Int.eq_ofNat_of_zero_le hx.1
 obtain ⟨Y, rfl⟩ := Int.eq_ofNat_of_zero_le hy.1
 obtain ⟨Z, hZ⟩ := Int.eq_ofNat_of_zero_le (show 0 ≤ ((X : Int) - Y - c) % 4294967296 by omega)
 have hZl : Z < 4294967296 := by omega
 have h1 : 4294967295 ^^^ X < 4294967296 := Nat.xor_lt_two_pow (n := 32) (by omega) (by omega)
 have h2 : X ^^^ Y < 4294967296 := Nat.xor_lt_two_pow (n := 32) (by omega) (by omega)
 have h3 : 4294967295 ^^^ (X ^^^ Y) < 4294967296 := Nat.xor_lt_two_pow (n := 32) (by omega) (by omega)
 have h4 : (4294967295 ^^^ X) &&& Y < 4294967296 := Nat.and_lt_two_pow (n := 32) _ (by omega)
 have h5 : (4294967295 ^^^ (X ^^^ Y)) &&& Z < 4294967296 := Nat.and_lt_two_pow (n := 32) _ (by omega)
 have e : (4294967295 : Int) = ((4294967295 : Nat) : Int) := rfl
 rw [hZ, e, u32_xor_nat _ _ (by omega) (by omega), u32_and_nat _ _ h1 (by omega), u32_xor_nat _ _ (by omega) (by omega), u32_xor_nat _ _ (by omega) h2, u32_and_nat _ _ h3 hZl, u32_or_nat _ _ h4 h5]
 have b := zny (x := X) (y := Y) (d := Z) (by omega) (by omega) hZl
 have : (((((4294967295 ^^^ X) &&& Y ||| (4294967295 ^^^ (X ^^^ Y)) &&& Z : Nat) : Int)) / 2147483648) = (((((4294967295 ^^^ X) &&& Y ||| (4294967295 ^^^ (X ^^^ Y)) &&& Z) / 2147483648 : Nat)) : Int) := by omega
 rw [this, b]
 congr 2
 by_cases c1 : X / 2147483648 = 0 <;> by_cases c2 : Y / 2147483648 = 0 <;> simp only [c1, c2, if_true, if_false] <;> by_cases c3 : (X : Int) < Y + c <;> simp only [c3, if_true, if_false] <;> omega
def zdo : List Int → List Int → Int → List Int
 | [], _, _ => []
 | x :: a, b, c => ((x - b.headD 0 - c) % 4294967296) :: zdo a b.tail (if x < b.headD 0 + c then 1 else 0)
theorem zrC {a b : List Int} {c : Int} (ha : Dg a) (hb : Dg b) (hc : 0 ≤ c ∧ c ≤ 1) (hl : b.length ≤ a.length) (h : V b + c.toNat ≤ V a) : V (zdo a b c) = V a - V b - c.toNat ∧ Dg (zdo a b c) := by
 induction a generalizing b c with
 | nil =>
  have : b = [] := List.eq_nil_of_length_eq_zero (by simpa using hl)
  subst this
  exact ⟨by simp [zdo], Dg.nil⟩
 | cons x a ih =>
  have hx := ha.head
  have hy := hb.headD
  rw [zfe b, zz] at h
  have := ih (b := b.tail) (c := if x < b.headD 0 + c then 1 else 0) ha.tail hb.tl (by split <;> omega) (by simp at hl ⊢; omega) (by split <;> omega)
  refine ⟨?_, Dg.cons (by omega) (by omega) this.2⟩
  rw [zdo, zz, this.1, zfe b, zz]
  split <;> omega
theorem zlv (A Bl : List Int) (hA : Dg A) (hB : Dg Bl) (hl : A.length < 1000000000) (hl2 : Bl.length < 1000000000) : ∀ (d : Nat) (done : List Int) (c : Int), done.length + d = max A.length Bl.length → 0 ≤ c ∧ c ≤ 1 → Dg done →
  V done + 4294967296 ^ done.length * (V (A.drop done.length) + V (Bl.drop done.length) + c.toNat) = V A + V Bl →
  Ev (fun k => zD.l0 k A Bl done c done.length) (D (V A + V Bl))
 | 0, done, c, hd, hc, hg, hv => by
  refine zf ?_
  simp only [zD.l0]
  (repeat (first | with_reducible refine ep ?_ | with_reducible refine en ?_))
  have e : c % 4294967296 = c := by omega
  rw [e]
  refine Ev.bind (zdR (hg.app (Dg.cons hc.1 (by omega) Dg.nil)) (by simp; omega)) ?_
  refine zh (Ev.now _) ?_
  rw [List.drop_eq_nil_of_le (by omega), List.drop_eq_nil_of_le (by omega)] at hv
  rw [zaO, ← hv]; simp
 | d + 1, done, c, hd, hc, hg, hv => by
  have ha := hA.rd (done.length : Int)
  have hb := hB.rd (done.length : Int)
  have hx := zfe (A.drop done.length)
  have hy := zfe (Bl.drop done.length)
  rw [zhI, List.tail_drop] at hx hy
  have key : ∀ (s : Int), s = A.getD done.length 0 + Bl.getD done.length 0 + c → Ev (fun k => zD.l0 k A Bl (done ++ [s % 4294967296]) (s / 4294967296) ((done.length + 1 : Nat) : Int)) (D (V A + V Bl)) := by
   intro s hs
   have ha' := hA.getD done.length
   have hb' := hB.getD done.length
   have := zlv A Bl hA hB hl hl2 d (done ++ [s % 4294967296]) (s / 4294967296) (by simp; omega) (by omega) (hg.app (Dg.cons (by omega) (by omega) Dg.nil)) (by
    rw [zaO, List.length_append, List.length_singleton, Nat.pow_succ, Nat.mul_assoc, Nat.add_assoc, ← Nat.mul_add, ← hv]
    congr 2
    simp only [zz, zai]
    omega)
   rwa [List.length_append, List.length_singleton] at this
  have hr : ∀ l : List Int, rd l (done.length : Int) = l.getD done.length 0 := fun l => rdn l _
  refine zf ?_
  simp only [zD.l0]
  by_cases c1 : done.length < A.length
  ·(repeat (first | with_reducible refine ep ?_ | with_reducible refine en ?_))
   refine zf ?_
   simp only [zD.j2]
   by_cases c2 : done.length < Bl.length
   ·(repeat (first | with_reducible refine ep ?_ | with_reducible refine en ?_))
    refine zf ?_
    simp only [zD.j3, zaf (n := done.length) (by omega)]
    (repeat (first | with_reducible refine ep ?_ | with_reducible refine en ?_))
    rw [u64 ha.1 (by omega), u64 hb.1 (by omega), u64 (n := c + rd A (done.length : Int)) (by omega) (by omega), u64 (by omega) (by omega)]
    exact key _ (by rw [hr, hr]; omega)
   ·(repeat (first | with_reducible refine ep ?_ | with_reducible refine en ?_))
    refine zf ?_
    simp only [zD.j3, zaf (n := done.length) (by omega)]
    (repeat (first | with_reducible refine ep ?_ | with_reducible refine en ?_))
    rw [u64 ha.1 (by omega), u64 (by omega) (by omega)]
    refine key _ ?_
    have : Bl.getD done.length 0 = 0 := by rw [List.getD_eq_getElem?_getD, List.getElem?_eq_none (by omega)]; rfl
    rw [hr, this]; omega
  ·(repeat (first | with_reducible refine ep ?_ | with_reducible refine en ?_))
   have c2 : done.length < Bl.length := by omega
   refine zf ?_
   simp only [zD.j2]
   (repeat (first | with_reducible refine ep ?_ | with_reducible refine en ?_))
   refine zf ?_
   simp only [zD.j3, zaf (n := done.length) (by omega)]
   (repeat (first | with_reducible refine ep ?_ | with_reducible refine en ?_))
   rw [u64 hb.1 (by omega), u64 (by omega) (by omega)]
   refine key _ ?_
   have : A.getD done.length 0 = 0 := by rw [List.getD_eq_getElem?_getD, List.getElem?_eq_none (by omega)]; rfl
   rw [hr, this]; omega
theorem zfM {a b : List Int} (ha : Dg a) (hb : Dg b) (la : a.length < 1000000000) (lb : b.length < 1000000000) : Ev (fun k => zD.f k a b) (D (V a + V b)) := by
 unfold zD.f
 have := zlv a b ha hb la lb (max a.length b.length) [] 0 (by simp) (by omega) Dg.nil (by simp)
 simpa using this
theorem zlS (A Bl : List Int) (hA : Dg A) (hB : Dg Bl) (hl : A.length < 1000000000) : ∀ (d : Nat) (done : List Int) (c : Int), done.length + d = A.length → 0 ≤ c ∧ c ≤ 1 → Dg done →
  Ev (fun k => zO.l0 k A Bl done c done.length) (D (V (done ++ zdo (A.drop done.length) (Bl.drop done.length) c)))
 | 0, done, c, hd, hc, hg => by
  refine zf ?_
  simp only [zO.l0]
  (repeat (first | with_reducible refine ep ?_ | with_reducible refine en ?_))
  rw [List.drop_eq_nil_of_le (show A.length ≤ done.length by omega)]
  simp only [zdo, List.append_nil]
  refine Ev.bind (zdR hg (by omega)) ?_
  exact Ev.now _
 | d + 1, done, c, hd, hc, hg => by
  have ha := hA.rd (done.length : Int)
  have hb := hB.rd (done.length : Int)
  have hc1 : done.length < A.length := by omega
  have hx : A.drop done.length = A.getD done.length 0 :: A.drop (done.length + 1) := by
   rw [List.drop_eq_getElem_cons hc1]; simp [hc1]
  have key : ∀ (s z : Int), z = Bl.getD done.length 0 → s % 4294967296 = (A.getD done.length 0 - z - c) % 4294967296 → ∀ c', c' = (if A.getD done.length 0 < z + c then 1 else 0) → Ev (fun k => zO.l0 k A Bl (done ++ [s % 4294967296]) c' ((done.length + 1 : Nat) : Int)) (D (V (done ++ zdo (A.drop done.length) (Bl.drop done.length) c))) := by
   rintro s z rfl hs c' rfl
   have := zlS A Bl hA hB hl d (done ++ [s % 4294967296]) (if A.getD done.length 0 < Bl.getD done.length 0 + c then 1 else 0) (by simp; omega) (by split <;> omega) (hg.app (Dg.cons (by omega) (by omega) Dg.nil))
   rw [List.length_append, List.length_singleton] at this
   refine zh this ?_
   rw [hx, zdo, zhI, List.tail_drop, hs]; simp
  have hr : ∀ l : List Int, rd l (done.length : Int) = l.getD done.length 0 := fun l => rdn l _
  refine zf ?_
  simp only [zO.l0, zaf (n := done.length) (by omega)]
  (repeat (first | with_reducible refine ep ?_ | with_reducible refine en ?_))
  rw [hr] at ha hb
  by_cases c2 : done.length < Bl.length
  ·(repeat (first | with_reducible refine ep ?_ | with_reducible refine en ?_))
   refine zf ?_
   simp only [zO.j1]
   (repeat (first | with_reducible refine ep ?_ | with_reducible refine en ?_))
   rw [hr, hr, u64 ha.1 (by omega), u64 hb.1 (by omega), u64 (n := c + Bl.getD done.length 0) (by omega) (by omega)]
   by_cases c3 : A.getD done.length 0 < c + Bl.getD done.length 0
   ·(repeat (first | with_reducible refine ep ?_ | with_reducible refine en ?_))
    rw [u64 (n := A.getD done.length 0 + 4294967296) (by omega) (by omega)]
    refine zf ?_
    simp only [zO.j2, zaf (n := done.length) (by omega)]
    (repeat (first | with_reducible refine ep ?_ | with_reducible refine en ?_))
    rw [u64 (by omega) (by omega)]
    exact key _ (Bl.getD done.length 0) rfl (by omega) 1 (by rw [if_pos (by omega)])
   ·(repeat (first | with_reducible refine ep ?_ | with_reducible refine en ?_))
    refine zf ?_
    simp only [zO.j2, zaf (n := done.length) (by omega)]
    (repeat (first | with_reducible refine ep ?_ | with_reducible refine en ?_))
    rw [u64 (by omega) (by omega)]
    exact key _ (Bl.getD done.length 0) rfl (by omega) 0 (by rw [if_neg (by omega)])
  ·(repeat (first | with_reducible refine ep ?_ | with_reducible refine en ?_))
   have hz : Bl.getD done.length 0 = 0 := by rw [List.getD_eq_getElem?_getD, List.getElem?_eq_none (by omega)]; rfl
   refine zf ?_
   simp only [zO.j1]
   (repeat (first | with_reducible refine ep ?_ | with_reducible refine en ?_))
   rw [hr, u64 ha.1 (by omega)]
   by_cases c3 : A.getD done.length 0 < c
   ·(repeat (first | with_reducible refine ep ?_ | with_reducible refine en ?_))
    rw [u64 (n := A.getD done.length 0 + 4294967296) (by omega) (by omega)]
    refine zf ?_
    simp only [zO.j2, zaf (n := done.length) (by omega)]
    (repeat (first | with_reducible refine ep ?_ | with_reducible refine en ?_))
    rw [u64 (by omega) (by omega)]
    exact key _ (Bl.getD done.length 0) rfl (by omega) 1 (by rw [if_pos (by omega)])
   ·(repeat (first | with_reducible refine ep ?_ | with_reducible refine en ?_))
    refine zf ?_
    simp only [zO.j2, zaf (n := done.length) (by omega)]
    (repeat (first | with_reducible refine ep ?_ | with_reducible refine en ?_))
    rw [u64 (by omega) (by omega)]
    exact key _ (Bl.getD done.length 0) rfl (by omega) 0 (by rw [if_neg (by omega)])
theorem ziG {a b : List Int} (ha : Nm a) (hb : Nm b) (la : a.length < 1000000000) (h : V b ≤ V a) : Ev (fun k => zO.f k a b) (D (V a - V b)) := by
 unfold zO.f
 have hl : b.length ≤ a.length := by rw [← ha.len, ← hb.len]; exact zds h
 have := zlS a b ha.dg hb.dg la a.length [] 0 (by simp) (by omega) Dg.nil
 refine zh this ?_
 have h2 := zrC ha.dg hb.dg (c := 0) (by omega) hl (by simpa using h)
 simp [h2.1]
theorem zfD {x y : Int} (hx : 0 ≤ x ∧ x < 4294967296) (hy : 0 ≤ y ∧ y < 4294967296) : 0 ≤ x * y ∧ x * y ≤ 18446744065119617025 := by
 constructor
 ·exact Int.mul_nonneg hx.1 hy.1
 ·have h1 : x * y ≤ 4294967295 * y := Int.mul_le_mul_of_nonneg_right (by omega) hy.1
  have h2 : 4294967295 * y ≤ 4294967295 * 4294967295 := Int.mul_le_mul_of_nonneg_left (by omega) (by omega)
  omega
def zat : Int → List Int → List Int → Int → List Int
 | _, [], o, c => c :: o.tail
 | x, y :: b, o, c => ((x * y + o.headD 0 + c) % 4294967296) :: zat x b o.tail ((x * y + o.headD 0 + c) / 4294967296)
theorem ziY {x y : Int} (hx : 0 ≤ x) (hy : 0 ≤ y) : (x * y).toNat = x.toNat * y.toNat := Int.toNat_mul hx hy
theorem ziM {x : Int} (hx : 0 ≤ x ∧ x < 4294967296) : ∀ (b o : List Int) (c : Int) (m : Nat), Dg b → Dg o → 0 ≤ c ∧ c < 4294967296 → o.drop b.length = List.replicate (m + 1) 0 →
  V (zat x b o c) = V o + x.toNat * V b + c.toNat ∧ Dg (zat x b o c) ∧ (zat x b o c).tail.drop b.length = List.replicate m 0 ∧ (zat x b o c).length = o.length
 | [], o, c, m, hb, ho, hc, hz => by
  have hz' : o = 0 :: List.replicate m 0 := by simpa [List.replicate_succ] using hz
  subst hz'
  refine ⟨?_, ?_, ?_, ?_⟩
  ·simp [zat, zfi]
  ·exact Dg.cons hc.1 hc.2 (Dg.zeros m)
  ·simp [zat]
  ·simp [zat]
 | y :: b, o, c, m, hb, ho, hc, hz => by
  obtain ⟨o0, o, rfl⟩ : ∃ o0 o', o = o0 :: o' := by
   cases o with
   | nil => simp at hz
   | cons o0 o' => exact ⟨o0, o', rfl⟩
  have hy := hb.head
  have h0 := ho.head
  have hp := zfD hx hy
  have hz2 : o.drop b.length = List.replicate (m + 1) 0 := by simpa using hz
  have := ziM hx b o ((x * y + o0 + c) / 4294967296) m hb.tail ho.tail (by omega) hz2
  simp only [zat, List.headD_cons, List.tail_cons]
  refine ⟨?_, Dg.cons (by omega) (by omega) this.2.1, ?_, by simp [this.2.2.2]⟩
  ·have e1 : x.toNat * (y.toNat + 4294967296 * V b) = (x * y).toNat + 4294967296 * (x.toNat * V b) := by
    rw [Nat.mul_add, Nat.mul_left_comm, ziY hx.1 hy.1]
   rw [zz, this.1, zz, zz, e1]
   omega
  ·obtain ⟨r0, r, hr⟩ : ∃ r0 r', zat x b o ((x * y + o0 + c) / 4294967296) = r0 :: r' := by
    cases h : zat x b o ((x * y + o0 + c) / 4294967296) with
    | nil =>
     have hl := this.2.2.2
     rw [h] at hl
     have : o = [] := List.eq_nil_of_length_eq_zero (by simpa using hl.symm)
     subst this; simp at hz2
    | cons r0 r' => exact ⟨r0, r', rfl⟩
   have h3 := this.2.2.1
   rw [hr] at h3 ⊢
   simpa using h3
def zcQ : List Int → List Int → List Int → List Int
 | [], _, o => o
 | x :: a, b, o => (zat x b o 0).headD 0 :: zcQ a b (zat x b o 0).tail
theorem zkI : ∀ (a b o : List Int), Dg a → Dg b → Dg o → o.drop b.length = List.replicate a.length 0 → V (zcQ a b o) = V o + V a * V b ∧ Dg (zcQ a b o) ∧ (zcQ a b o).length = o.length
 | [], b, o, ha, hb, ho, hz => by simp [zcQ, ho]
 | x :: a, b, o, ha, hb, ho, hz => by
  have hr := ziM ha.head b o 0 a.length hb ho (by omega) (by simpa using hz)
  obtain ⟨r0, r, he⟩ : ∃ r0 r', zat x b o 0 = r0 :: r' := by
   cases h : zat x b o 0 with
   | nil =>
    have hl := hr.2.2.2
    rw [h] at hl
    have : o = [] := List.eq_nil_of_length_eq_zero (by simpa using hl.symm)
    subst this; simp at hz
   | cons r0 r' => exact ⟨r0, r', rfl⟩
  rw [he] at hr
  have := zkI a b r ha.tail hb hr.2.1.tail (by simpa using hr.2.2.1)
  simp only [zcQ, he, List.headD_cons, List.tail_cons]
  refine ⟨?_, Dg.cons hr.2.1.head.1 hr.2.1.head.2 this.2.1, ?_⟩
  ·have h1 := hr.1
   rw [zz] at h1
   rw [zz, this.1, zz, Nat.add_mul, Nat.mul_add, Nat.mul_assoc]
   simp at h1
   omega
  ·have := hr.2.2.2
   simp at this ⊢; omega
theorem zhk {l : List Int} (h : Nm l) (h0 : l ≠ []) : 4294967296 ^ (l.length - 1) ≤ V l := by
 have h1 : V l ≠ 0 := fun e => h0 ((zdv h).1 e)
 have := zhj h1
 rwa [h.len] at this
def conv : List Int → List Int → Nat → Nat
 | [], _, _ => 0
 | x :: _, b, 0 => x.toNat * (b.getD 0 0).toNat
 | x :: a, b, k + 1 => x.toNat * (b.getD (k + 1) 0).toNat + conv a b k
def zb9 (a b : List Int) : Nat → Nat
 | 0 => 0
 | n + 1 => zb9 a b n + 4294967296 ^ n * conv a b n
theorem zjp (l : List Int) (n : Nat) : V (l.take (n + 1)) = V (l.take n) + 4294967296 ^ n * (l.getD n 0).toNat := by
 by_cases h : n < l.length
 ·exact zfh h
 ·have e : l.getD n 0 = 0 := by rw [List.getD_eq_getElem?_getD, List.getElem?_eq_none (by omega)]; rfl
  rw [List.take_of_length_le (by omega), List.take_of_length_le (by omega), e]; simp
theorem zn0 (b : List Int) (n : Nat) : zb9 [] b n = 0 := by
 induction n with
 | zero => rfl
 | succ n ih => simp [zb9, ih, conv]
theorem znZ (x : Int) (a b : List Int) (n : Nat) : zb9 (x :: a) b (n + 1) = x.toNat * V (b.take (n + 1)) + 4294967296 * zb9 a b n := by
 induction n with
 | zero =>
  have := zjp b 0
  simp at this
  simp [zb9, conv, this]
 | succ n ih =>
  have e := zjp b (n + 1)
  rw [zb9, ih, conv, e, zb9, Nat.pow_succ]
  grind
theorem znY (a b : List Int) (n : Nat) (h : a.length + b.length ≤ n) : zb9 a b n = V a * V b := by
 induction a generalizing n with
 | nil => simp [zn0]
 | cons x a ih =>
  cases n with
  | zero => simp at h
  | succ n =>
   rw [znZ, ih n (by simp at h; omega), List.take_of_length_le (by simp at h; omega), zz, Nat.add_mul, Nat.mul_assoc]
theorem zn2 {a b : List Int} (ha : Dg a) (hb : Dg b) (k : Nat) : conv a b k ≤ a.length * 18446744065119617025 := by
 induction a generalizing k with
 | nil => simp [conv]
 | cons x a ih =>
  have hx := ha.head
  have key : ∀ j, x.toNat * (b.getD j 0).toNat ≤ 18446744065119617025 := by
   intro j
   have hy := hb.getD j
   have hp := zfD hx hy
   rw [← ziY hx.1 hy.1]; omega
  cases k with
  | zero => rw [conv]; have := key 0; simp only [List.length_cons]; omega
  | succ k => rw [conv]; have := key (k + 1); have := ih ha.tail k; simp only [List.length_cons]; omega
theorem zn1 {a b : List Int} {k : Nat} (h : b.length ≤ k) (hk : 0 < k) : conv a b k = conv (a.drop 1) b (k - 1) := by
 cases a with
 | nil => simp [conv]
 | cons x a =>
  obtain ⟨k, rfl⟩ : ∃ m, k = m + 1 := ⟨k - 1, by omega⟩
  have e : b.getD (k + 1) 0 = 0 := by rw [List.getD_eq_getElem?_getD, List.getElem?_eq_none (by omega)]; rfl
  rw [conv, e]; simp
theorem zjU (a b : List Int) (k : Nat) : ∀ n, n + b.length ≤ k + 1 → n ≤ k → conv a b k = conv (a.drop n) b (k - n)
 | 0, _, _ => by simp
 | n + 1, h, hk => by
  rw [zjU a b k n (by omega) (by omega), zn1 (by omega) (by omega), List.drop_drop]
  rw [Nat.sub_sub]
theorem zp4 {x y : Int} (h0 : 0 ≤ x ∧ x < 4294967296) (h1 : 0 ≤ y) : Go.bits .or .u64 x (IntKind.u64.wrap (y * 4294967296)) = x + (y % 4294967296) * 4294967296 := by
 rw [zcn]
 obtain ⟨X, rfl⟩ := Int.eq_ofNat_of_zero_le h0.1
 obtain ⟨Y, rfl⟩ := Int.eq_ofNat_of_zero_le h1
 have e : (Y : Int) * 4294967296 % 18446744073709551616 = ((2 ^ 32 * (Y % 4294967296) : Nat) : Int) := by omega
 rw [e, u64_or_nat _ _ (by omega) (by omega), Nat.or_comm, ← Nat.two_pow_add_eq_or_of_lt (by omega)]
 omega
theorem ziJ (A Bl : List Int) (hA : Dg A) (hB : Dg Bl) (hl : A.length < 1000000000) (hlb : Bl.length < 1000000000) (out : List Int) (k : Nat) (hk : k < A.length + Bl.length) (hout : out.length < 1000000000) (T : Nat) (hT : T < 79228162514264337593543950336000) (res : List Int)
  (H : Ev (fun q => zJ.l0 q A Bl (out ++ [((T % 4294967296 : Nat) : Int)]) (((T / 4294967296) % 18446744073709551616 : Nat) : Int) (((T / 4294967296) / 18446744073709551616 : Nat) : Int) ((k + 1 : Nat) : Int)) res) :
  ∀ (d i : Nat) (low high : Int), i + d = k + 1 → 0 ≤ low ∧ low < 18446744073709551616 → 0 ≤ high → k < i + Bl.length → low.toNat + 18446744073709551616 * high.toNat + (if i ≤ k then conv (A.drop i) Bl (k - i) else 0) = T →
  Ev (fun q => zJ.l1 q A Bl out low high k i) res
 | d, i, low, high, hd, hlow, hhigh, hi, he => by
  have fin : low.toNat + 18446744073709551616 * high.toNat = T → Ev (fun q => if out.length + ([low % 4294967296] : List Int).length < 35184372088832 then zJ.l0 q A Bl (out ++ [low % 4294967296]) (Go.bits .or .u64 (low / 4294967296) (IntKind.u64.wrap (high * 4294967296))) (high / 4294967296) ((k + 1 : Nat) : Int) else none) res := by
   intro e
   (repeat (first | with_reducible refine ep ?_ | with_reducible refine en ?_))
   rw [zp4 (by omega) hhigh]
   have e1 : low % 4294967296 = ((T % 4294967296 : Nat) : Int) := by omega
   have e2 : low / 4294967296 + high % 4294967296 * 4294967296 = (((T / 4294967296) % 18446744073709551616 : Nat) : Int) := by omega
   have e3 : high / 4294967296 = (((T / 4294967296) / 18446744073709551616 : Nat) : Int) := by omega
   rw [e1, e2, e3]; exact H
  refine zf ?_
  have e : wrap64 ((k : Int) - (i : Int)) = (k : Int) - (i : Int) := by unfold wrap64; omega
  simp only [zJ.l1, e, zaf (n := i) (by omega), zaf (n := k) (by omega)]
  clear e
  by_cases c1 : i ≤ k
  ·rw [if_pos c1] at he
   by_cases c2 : i < A.length
   ·have hx : A.drop i = A.getD i 0 :: A.drop (i + 1) := by rw [List.drop_eq_getElem_cons c2]; simp [c2]
    have ha := hA.getD i
    have hb := hB.getD (k - i)
    have hp := zfD ha hb
    have hpN := ziY ha.1 hb.1
    have e : (k : Int) - (i : Int) = ((k - i : Nat) : Int) := by omega
    (repeat (first | with_reducible refine ep ?_ | with_reducible refine en ?_))
    rw [e]
    rw [rdn, rdn, u64 ha.1 (by omega), u64 hb.1 (by omega), u64 hp.1 (by omega)]
    generalize hP : A.getD i 0 * Bl.getD (k - i) 0 = P at *
    have hc : conv (A.drop i) Bl (k - i) = P.toNat + (if i + 1 ≤ k then conv (A.drop (i + 1)) Bl (k - (i + 1)) else 0) := by
     rw [hx, hpN]
     by_cases c3 : i + 1 ≤ k
     ·rw [if_pos c3, show k - i = (k - (i + 1)) + 1 by omega, conv]
     ·rw [if_neg c3, show k - i = 0 by omega, conv]; simp
    rw [hc] at he
    obtain ⟨d, rfl⟩ : ∃ m, d = m + 1 := ⟨d - 1, by omega⟩
    by_cases c4 : low + P < 18446744073709551616
    ·rw [u64 (n := low + P) (by omega) (by omega)]
     (repeat (first | with_reducible refine ep ?_ | with_reducible refine en ?_))
     exact ziJ A Bl hA hB hl hlb out k hk hout T hT res H d (i + 1) (low + P) high (by omega) (by omega) hhigh (by omega) (by omega)
    ·have e5 : IntKind.u64.wrap (low + P) = low + P - 18446744073709551616 := by rw [zcn]; omega
     rw [e5]
     (repeat (first | with_reducible refine ep ?_ | with_reducible refine en ?_))
     rw [u64 (n := high + 1) (by omega) (by omega)]
     exact ziJ A Bl hA hB hl hlb out k hk hout T hT res H d (i + 1) (low + P - 18446744073709551616) (high + 1) (by omega) (by omega) (by omega) (by omega) (by omega)
   ·refine zd (by omega) (ze (by omega) (fin ?_))
    rw [List.drop_eq_nil_of_le (by omega), conv] at he
    omega
  ·rw [if_neg c1] at he
   exact ze (by omega) (fin (by omega))
theorem zlF (A Bl : List Int) (hA : Dg A) (hB : Dg Bl) (hl : A.length < 100000000) (hlb : Bl.length < 100000000) (hb0 : 0 < Bl.length) : ∀ (d : Nat) (out : List Int) (T : Nat), out.length + d = A.length + Bl.length → Dg out → T < 79228162514264337593543950336 → V out + 4294967296 ^ out.length * T = zb9 A Bl out.length →
  Ev (fun q => zJ.l0 q A Bl out ((T % 18446744073709551616 : Nat) : Int) ((T / 18446744073709551616 : Nat) : Int) out.length) (D (V A * V Bl))
 | 0, out, T, hd, hg, hT, hv => by
  refine zf ?_
  have e : wrap64 ((A.length : Int) + (Bl.length : Int)) = ((A.length + Bl.length : Nat) : Int) := by unfold wrap64; omega
  simp only [zJ.l0, e]
  clear e
  refine ze (by omega) (Ev.bind (zdR hg (by omega)) (zh (Ev.now _) ?_))
  rw [znY A Bl _ (by omega)] at hv
  have h1 := zah hA
  have h2 := zah hB
  have h3 : V A * V Bl < 4294967296 ^ out.length := by
   rw [show out.length = A.length + Bl.length by omega, Nat.pow_add]
   exact Nat.mul_lt_mul'' h1 h2
  have h4 : T = 0 := by
   rcases Nat.eq_zero_or_pos T with h | h
   ·exact h
   ·have := Nat.mul_le_mul_left (4294967296 ^ out.length) h
    omega
  subst h4
  rw [← hv]; simp
 | d + 1, out, T, hd, hg, hT, hv => by
  refine zf ?_
  have e : wrap64 ((A.length : Int) + (Bl.length : Int)) = ((A.length + Bl.length : Nat) : Int) := by unfold wrap64; omega
  simp only [zJ.l0, e]
  clear e
  have hcl := zn2 hA hB out.length
  have hcl2 : A.length * 18446744065119617025 ≤ 100000000 * 18446744065119617025 := Nat.mul_le_mul_right _ (by omega)
  have next : Ev (fun q => zJ.l0 q A Bl (out ++ [(((T + conv A Bl out.length) % 4294967296 : Nat) : Int)]) ((((T + conv A Bl out.length) / 4294967296) % 18446744073709551616 : Nat) : Int) ((((T + conv A Bl out.length) / 4294967296) / 18446744073709551616 : Nat) : Int) ((out.length + 1 : Nat) : Int)) (D (V A * V Bl)) := by
   have := zlF A Bl hA hB hl hlb hb0 d (out ++ [(((T + conv A Bl out.length) % 4294967296 : Nat) : Int)]) ((T + conv A Bl out.length) / 4294967296) (by simp; omega) (hg.app (Dg.cons (by omega) (by omega) Dg.nil)) (by omega) (by
    rw [zaO, List.length_append, List.length_singleton, zb9, ← hv, Nat.pow_succ, Nat.mul_assoc, Nat.add_assoc, ← Nat.mul_add, Nat.add_assoc, ← Nat.mul_add]
    congr 2
    simp only [zz, zai]
    omega)
   rwa [List.length_append, List.length_singleton] at this
  (repeat (first | with_reducible refine ep ?_ | with_reducible refine en ?_))
  have j2 : ∀ (i : Nat), i ≤ out.length → out.length < i + Bl.length → conv A Bl out.length = conv (A.drop i) Bl (out.length - i) → Ev (fun q => zJ.j3 q A Bl out ((T % 18446744073709551616 : Nat) : Int) ((T / 18446744073709551616 : Nat) : Int) out.length i) (D (V A * V Bl)) := by
   intro i h1 h2 h3
   refine zf ?_
   simp only [zJ.j3]
   exact ziJ A Bl hA hB (by omega) (by omega) out out.length (by omega) (by omega) (T + conv A Bl out.length) (by omega) _ next (out.length + 1 - i) i _ _ (by omega) (by omega) (by omega) h2 (by rw [if_pos h1, ← h3]; omega)
  by_cases c1 : out.length ≥ Bl.length
  ·(repeat (first | with_reducible refine ep ?_ | with_reducible refine en ?_))
   have c2 := hb0
   ·have e : wrap64 (wrap64 ((out.length : Int) - (Bl.length : Int)) + 1) = ((out.length + 1 - Bl.length : Nat) : Int) := by unfold wrap64; omega
    rw [e]
    clear e
    exact j2 _ (by omega) (by omega) (zjU A Bl out.length _ (by omega) (by omega))
  ·(repeat (first | with_reducible refine ep ?_ | with_reducible refine en ?_)); exact j2 0 (by omega) (by omega) (by simp)
theorem ziF {a b : List Int} (ha : Dg a) (hb : Dg b) (la : a.length < 100000000) (lb : b.length < 100000000) : Ev (fun k => zJ.f k a b) (D (V a * V b)) := by
 unfold zJ.f
 by_cases c1 : a.length = 0
 ·(repeat (first | with_reducible refine ep ?_ | with_reducible refine en ?_))
  have : a = [] := List.eq_nil_of_length_eq_zero c1
  subst this
  refine zh (Ev.now _) ?_
  simp [zy]
 ·(repeat (first | with_reducible refine ep ?_ | with_reducible refine en ?_))
  by_cases c2 : b.length = 0
  ·(repeat (first | with_reducible refine ep ?_ | with_reducible refine en ?_))
   have : b = [] := List.eq_nil_of_length_eq_zero c2
   subst this
   refine zh (Ev.now _) ?_
   simp [zy]
  ·(repeat (first | with_reducible refine ep ?_ | with_reducible refine en ?_))
   have := zlF a b ha hb la lb (by omega) (a.length + b.length) [] 0 (by simp) Dg.nil (by omega) (by simp [zb9])
   simpa using this
theorem zna {l : List Int} (h : Dg l) {n : Nat} (hn : l.length ≤ n) : V l < 4294967296 ^ n := Nat.lt_of_lt_of_le (zah h) (Nat.pow_le_pow_right (by omega) hn)
theorem zp5 {x y : Int} (h0 : 0 ≤ x ∧ x < 4294967296) (h1 : 0 ≤ y ∧ y < 4294967296) : Go.bits .or .u64 x (y * 4294967296) = x + y * 4294967296 := by
 obtain ⟨X, rfl⟩ := Int.eq_ofNat_of_zero_le h0.1
 obtain ⟨Y, rfl⟩ := Int.eq_ofNat_of_zero_le h1.1
 have e : (Y : Int) * 4294967296 = ((2 ^ 32 * Y : Nat) : Int) := by omega
 rw [e, u64_or_nat _ _ (by omega) (by omega), Nat.or_comm, ← Nat.two_pow_add_eq_or_of_lt (by omega)]
 omega
theorem zl1 {d : Int} (h : 0 ≤ d ∧ d < 4294967296) : shl .u64 d 0 = d := by
 unfold shl; simp; exact u64 h.1 (by omega)
theorem zrr {d : Int} (h : 0 ≤ d ∧ d < 4294967296) : shl .u64 d 32 = d * 4294967296 := by
 unfold shl
 have e : min (32 : Int).toNat IntKind.u64.bits = 32 := by decide
 rw [e, show (2 : Int) ^ 32 = 4294967296 from rfl, u64 (by omega) (by omega)]
def zcj (l : List Int) : Bool := may l && decide (l.length ≤ 2)
theorem zh9 {l : List Int} (h : Dg l) (hb : l.length < 4611686018427387904) : Ev (fun k => zaS.f k l) (if zcj l then ((V l : Nat) : Int) else 0, zcj l) := by
 unfold zaS.f
 refine zi (zdi h hb) ?_
 have no : zcj l = false → Ev (fun _ : Nat => some ((0 : Int), false)) (if zcj l then ((V l : Nat) : Int) else 0, zcj l) := by
  intro e
  rw [e]
  exact Ev.now _
 by_cases c1 : may l = true
 ·rw [c1]
  (repeat (first | with_reducible refine ep ?_ | with_reducible refine en ?_))
  by_cases c2 : l.length > 2
  ·(repeat (first | with_reducible refine ep ?_ | with_reducible refine en ?_))
   exact no (by unfold zcj; rw [decide_eq_false (by omega)]; simp)
  ·(repeat (first | with_reducible refine ep ?_ | with_reducible refine en ?_))
   have e : zcj l = true := by unfold zcj; rw [c1, decide_eq_true (by omega)]; rfl
   rw [e]
   have w0 : wrap64 (32 * 0) = 0 := by unfold wrap64; omega
   have w1 : wrap64 (0 + 1) = 1 := by unfold wrap64; omega
   have w2 : wrap64 (32 * 1) = 32 := by unfold wrap64; omega
   have w3 : wrap64 (1 + 1) = 2 := by unfold wrap64; omega
   match l, h with
   | [], h =>
    refine zf ?_
    simp only [zaS.l0]
    (repeat (first | with_reducible refine ep ?_ | with_reducible refine en ?_)); exact Ev.now _
   | [x], h =>
    have hx := h.head
    refine zf ?_
    simp only [zaS.l0, w0, w1]
    (repeat (first | with_reducible refine ep ?_ | with_reducible refine en ?_))
    have r0 : rd [x] 0 = x := rfl
    rw [r0, u64 hx.1 (by omega), zl1 hx, u64_or _ _ (by omega) (by omega) (by omega) (by omega)]
    refine zf ?_
    simp only [zaS.l0]
    (repeat (first | with_reducible refine ep ?_ | with_reducible refine en ?_))
    refine zh (Ev.now _) ?_
    simp
   | [x, y], h =>
    have hx := h.head
    have hy := h.tail.head
    refine zf ?_
    simp only [zaS.l0, w0, w1]
    (repeat (first | with_reducible refine ep ?_ | with_reducible refine en ?_))
    have r0 : rd [x, y] 0 = x := rfl
    have r1 : rd [x, y] 1 = y := rfl
    rw [r0, u64 hx.1 (by omega), zl1 hx, u64_or _ _ (by omega) (by omega) (by omega) (by omega)]
    have z : (((0 : Int).toNat ||| x.toNat : Nat) : Int) = x := by simp; omega
    rw [z]
    refine zf ?_
    simp only [zaS.l0, w2, w3]
    (repeat (first | with_reducible refine ep ?_ | with_reducible refine en ?_))
    rw [r1, u64 (n := y) hy.1 (by omega), zrr hy, zp5 hx hy]
    refine zf ?_
    simp only [zaS.l0]
    (repeat (first | with_reducible refine ep ?_ | with_reducible refine en ?_))
    refine zh (Ev.now _) ?_
    simp; omega
   | x :: y :: z :: l, h => simp at c2
 ·have c1 : may l = false := by simpa using c1
  rw [c1]
  (repeat (first | with_reducible refine ep ?_ | with_reducible refine en ?_)); exact no (by unfold zcj; simp [c1])
theorem zhy {m n : Nat} (h : (D m).length > 4096) (k : m ≤ n) : z6 n = ([], 3) := by
 have := zds k
 unfold z6; rw [if_pos (by omega)]
theorem zpp {m e : Nat} (he : 4096 = e) (h : 4294967296 ^ e ≤ m) : (D m).length > 4096 := by
 apply Nat.lt_of_not_le
 rw [he]
 intro k
 exact absurd (Nat.lt_of_lt_of_le (zbW m) (Nat.le_trans (Nat.pow_le_pow_right (by decide) k) h)) (Nat.lt_irrefl _)
theorem zr3 {m e k : Nat} (he : 32 * k ≤ e) (h : 2 ^ e ≤ m) : 4294967296 ^ k ≤ m := by
 have e1 : (4294967296 : Nat) ^ k = 2 ^ (32 * k) := by rw [Nat.pow_mul]
 rw [e1]
 exact Nat.le_trans (Nat.pow_le_pow_right (by decide) he) h
theorem zr2 {m e : Nat} (he : 131072 ≤ e) (h : 2 ^ e ≤ m) : z6 m = ([], 3) :=
 have key : ∀ k, 4096 = k → z6 m = ([], 3) := fun k hk => zhy (zpp hk (zr3 (by omega) h)) (Nat.le_refl _)
 key 4096 rfl
def bl (n : Nat) : Nat := if n = 0 then 0 else n.log2 + 1
theorem zaG : bl 0 = 0 := rfl
theorem zc3 {n : Nat} (h : n ≠ 0) : 2 ^ (bl n - 1) ≤ n := by
 unfold bl; rw [if_neg h]; exact Nat.log2_self_le h
theorem zP (n : Nat) : n < 2 ^ bl n := by
 unfold bl
 split
 ·subst n; simp
 ·exact Nat.lt_log2_self
theorem zbx {n : Nat} (h : n ≠ 0) : 0 < bl n := by unfold bl; rw [if_neg h]; omega
theorem zI {n k : Nat} (h : n < 2 ^ k) : bl n ≤ k := by
 by_cases e : n = 0
 ·subst e; simp [zaG]
 ·have h1 := zc3 e
  have h2 := zbx e
  have : bl n - 1 < k := (Nat.pow_lt_pow_iff_right (a := 2) (by omega)).1 (Nat.lt_of_le_of_lt h1 h)
  omega
theorem znx {n k : Nat} (h1 : 2 ^ k ≤ n) (h2 : n < 2 ^ (k + 1)) : bl n = k + 1 := by
 have := zI h2
 have h3 : 2 ^ k < 2 ^ bl n := Nat.lt_of_le_of_lt h1 (zP n)
 have := (Nat.pow_lt_pow_iff_right (a := 2) (by omega)).1 h3
 omega
theorem zc4 {n k : Nat} (h : 2 ^ k ≤ n) : bl n = k + bl (n / 2 ^ k) := by
 have hp : 0 < 2 ^ k := Nat.pow_pos (by omega)
 have h0 : n / 2 ^ k ≠ 0 := by
  have := (Nat.le_div_iff_mul_le hp (x := 1) (y := n)).2 (by omega)
  omega
 have h1 := zc3 h0
 have h2 := zP (n / 2 ^ k)
 have h3 := zbx h0
 have e : k + bl (n / 2 ^ k) = (k + (bl (n / 2 ^ k) - 1)) + 1 := by omega
 rw [e]
 apply znx
 ·rw [Nat.pow_add]
  have := (Nat.le_div_iff_mul_le hp).1 h1
  rw [Nat.mul_comm]; exact this
 ·have := (Nat.div_lt_iff_lt_mul hp).1 h2
  rw [show k + (bl (n / 2 ^ k) - 1) + 1 = bl (n / 2 ^ k) + k by omega, Nat.pow_add]
  exact this
theorem zjD {n : Nat} (h : n ≠ 0) : bl n = bl (n / 2) + 1 := by
 by_cases h1 : n = 1
 ·subst h1; rfl
 ·have := zc4 (n := n) (k := 1) (by omega)
  simp at this; omega
theorem zV {a b : Nat} (h : a ≤ b) : bl a ≤ bl b := zI (Nat.lt_of_le_of_lt h (zP b))
def zml : ByteArray := ⟨#[0, 1, 2, 2, 3, 3, 3, 3, 4, 4, 4, 4, 4, 4, 4, 4, 5, 5, 5, 5, 5, 5, 5, 5, 5, 5, 5, 5, 5, 5, 5, 5, 6, 6, 6, 6, 6, 6, 6, 6, 6, 6, 6, 6, 6, 6, 6, 6, 6, 6, 6, 6, 6, 6, 6, 6, 6, 6, 6, 6, 6, 6, 6, 6, 7, 7, 7, 7, 7, 7, 7, 7, 7, 7, 7, 7, 7, 7, 7, 7, 7, 7, 7, 7, 7, 7, 7, 7, 7, 7, 7, 7, 7, 7, 7, 7, 7, 7, 7, 7, 7, 7, 7, 7, 7, 7, 7, 7, 7, 7, 7, 7, 7, 7, 7, 7, 7, 7, 7, 7, 7, 7, 7, 7, 7, 7, 7, 7, 8, 8, 8, 8, 8, 8, 8, 8, 8, 8, 8, 8, 8, 8, 8, 8, 8, 8, 8, 8, 8, 8, 8, 8, 8, 8, 8, 8, 8, 8, 8, 8, 8, 8, 8, 8, 8, 8, 8, 8, 8, 8, 8, 8, 8, 8, 8, 8, 8, 8, 8, 8, 8, 8, 8, 8, 8, 8, 8, 8, 8, 8, 8, 8, 8, 8, 8, 8, 8, 8, 8, 8, 8, 8, 8, 8, 8, 8, 8, 8, 8, 8, 8, 8, 8, 8, 8, 8, 8, 8, 8, 8, 8, 8, 8, 8, 8, 8, 8, 8, 8, 8, 8, 8, 8, 8, 8, 8, 8, 8, 8, 8, 8, 8, 8, 8, 8, 8, 8, 8, 8, 8, 8, 8, 8, 8, 8, 8]⟩
theorem zrF : (List.range 256).all (fun i => bt zml (i : Int) == (bl i : Int)) = true := by decide +kernel
theorem bt8 {t : ByteArray} {n : Nat} (h : n < 256) (ht : t = zml) : bt t (n : Int) = (bl n : Int) := by
 subst ht
 have := List.all_eq_true.1 zrF n (List.mem_range.2 h)
 exact eq_of_beq this
theorem zjC {n : Nat} (h : n < 256) : bl n ≤ 8 := zI h
theorem zkw : zfY.size = 256 := by decide +kernel
theorem zks {n : Nat} (h : n < 256) {m : Int} (hm : 0 ≤ m ∧ m ≤ 64) : Ev (fun k => zav.j1 k (n : Int) m) (m + (bl n : Nat)) := by
 refine zf ?_
 simp only [zav.j1]
 have e : (n : Int) % 256 = n := by omega
 have l := zjC h
 rw [e, zkw]
 (repeat (first | with_reducible refine ep ?_ | with_reducible refine en ?_))
 rw [bt8 h (by rfl), zau (n := ((bl n : Nat) : Int)) (by omega) (by omega), zau (by omega) (by omega)]
 exact Ev.now _
theorem zkr {n : Nat} (h : n < 65536) {m : Int} (hm : 0 ≤ m ∧ m ≤ 32) : Ev (fun k => zav.j0 k (n : Int) m) (m + (bl n : Nat)) := by
 refine zf ?_
 simp only [zav.j0]
 by_cases c : n ≥ 256
 ·(repeat (first | with_reducible refine ep ?_ | with_reducible refine en ?_))
  have e2 : bl n = 8 + bl (n / 256) := zc4 (k := 8) c
  have := zks (n := n / 256) (by omega) (m := m + 8) (by omega)
  rw [zau (by omega) (by omega), show (n : Int) / 256 = ((n / 256 : Nat) : Int) by omega]
  exact zh this (by rw [e2]; omega)
 ·(repeat (first | with_reducible refine ep ?_ | with_reducible refine en ?_))
  exact zks (by omega) (by omega)
theorem zkq {x : Int} (h : 0 ≤ x ∧ x < 4294967296) : Ev (fun k => zav.f k x) ((bl x.toNat : Nat) : Int) := by
 obtain ⟨n, rfl⟩ := Int.eq_ofNat_of_zero_le h.1
 unfold zav.f
 rw [Int.toNat_natCast]
 by_cases c : n ≥ 65536
 ·(repeat (first | with_reducible refine ep ?_ | with_reducible refine en ?_))
  have e1 : bl n = 16 + bl (n / 65536) := zc4 (k := 16) c
  rw [show (n : Int) / 65536 = ((n / 65536 : Nat) : Int) by omega]
  exact zh (zkr (by omega) (by omega)) (by rw [e1]; omega)
 ·(repeat (first | with_reducible refine ep ?_ | with_reducible refine en ?_))
  exact zh (zkr (by omega) (by omega)) (by omega)
theorem zkv {n : Nat} (h : n < 256) {m : Int} (hm : 0 ≤ m ∧ m ≤ 128) : Ev (fun k => zN.j2 k (n : Int) m) (m + (bl n : Nat)) := by
 refine zf ?_
 simp only [zN.j2]
 have e : (n : Int) % 256 = n := by omega
 have l := zjC h
 rw [e, zkw]
 (repeat (first | with_reducible refine ep ?_ | with_reducible refine en ?_))
 rw [bt8 h (by rfl), zau (n := ((bl n : Nat) : Int)) (by omega) (by omega), zau (by omega) (by omega)]
 exact Ev.now _
theorem zku {n : Nat} (h : n < 65536) {m : Int} (hm : 0 ≤ m ∧ m ≤ 100) : Ev (fun k => zN.j1 k (n : Int) m) (m + (bl n : Nat)) := by
 refine zf ?_
 simp only [zN.j1]
 by_cases c : n ≥ 256
 ·(repeat (first | with_reducible refine ep ?_ | with_reducible refine en ?_))
  have e2 : bl n = 8 + bl (n / 256) := zc4 (k := 8) c
  have := zkv (n := n / 256) (by omega) (m := m + 8) (by omega)
  rw [zau (by omega) (by omega), show (n : Int) / 256 = ((n / 256 : Nat) : Int) by omega]
  exact zh this (by rw [e2]; omega)
 ·(repeat (first | with_reducible refine ep ?_ | with_reducible refine en ?_))
  exact zkv (by omega) (by omega)
theorem zkt {n : Nat} (h : n < 4294967296) {m : Int} (hm : 0 ≤ m ∧ m ≤ 64) : Ev (fun k => zN.j0 k n m) (m + (bl n : Nat)) := by
 refine zf ?_
 simp only [zN.j0]
 by_cases c : n ≥ 65536
 ·(repeat (first | with_reducible refine ep ?_ | with_reducible refine en ?_))
  have e2 : bl n = 16 + bl (n / 65536) := zc4 (k := 16) c
  have := zku (n := n / 65536) (by omega) (m := m + 16) (by omega)
  rw [zau (by omega) (by omega), show (n : Int) / 65536 = ((n / 65536 : Nat) : Int) by omega]
  exact zh this (by rw [e2]; omega)
 ·(repeat (first | with_reducible refine ep ?_ | with_reducible refine en ?_))
  exact zku (by omega) (by omega)
theorem zfx {x : Int} (h : 0 ≤ x ∧ x < 18446744073709551616) : Ev (fun k => zN.f k x) ((bl x.toNat : Nat) : Int) := by
 obtain ⟨n, rfl⟩ := Int.eq_ofNat_of_zero_le h.1
 rw [Int.toNat_natCast]
 unfold zN.f
 by_cases c : n ≥ 4294967296
 ·(repeat (first | with_reducible refine ep ?_ | with_reducible refine en ?_))
  have e : bl n = 32 + bl (n / 4294967296) := zc4 (k := 32) c
  have := zkt (n := n / 4294967296) (by omega) (m := 32) (by omega)
  refine zh this ?_
  omega
 ·(repeat (first | with_reducible refine ep ?_ | with_reducible refine en ?_))
  have := zkt (n := n) (by omega) (m := 0) (by omega)
  exact zh this (by omega)
theorem zq5 : ∀ (n : Nat) (m : Int), 0 ≤ m ∧ m + (bl n : Nat) < 4611686018427387904 → n < 4294967296 → Ev (fun k => zaa.l0 k m n) (m + (bl n : Nat)) := by
 intro n
 induction n using Nat.strongRecOn with
 | _ n ih =>
  intro m hm hn
  refine zf ?_
  simp only [zaa.l0]
  by_cases c : n = 0
  ·subst c
   (repeat (first | with_reducible refine ep ?_ | with_reducible refine en ?_))
   exact zh (Ev.now _) (by simp [zaG])
  ·(repeat (first | with_reducible refine ep ?_ | with_reducible refine en ?_))
   have e : (n : Int) / 2 = ((n / 2 : Nat) : Int) := by omega
   have hb := zjD c
   rw [e, zau (by omega) (by omega)]
   refine zh (ih (n / 2) (by omega) (m + 1) (by omega) (by omega)) ?_
   omega
theorem zjB {l : List Int} (h : Nm l) (h0 : l ≠ []) : bl (V l) = 32 * (l.length - 1) + bl (l.getD (l.length - 1) 0).toNat := by
 rcases List.eq_nil_or_concat l with rfl | ⟨a, d, rfl⟩
 ·exact absurd rfl h0
 rw [List.concat_eq_append] at h ⊢
 have hd := h.dg d (by simp)
 have hn := zhn h
 have e : (a ++ [d]).getD ((a ++ [d]).length - 1) 0 = d := by simp
 rw [e]
 have hl : (a ++ [d]).length - 1 = a.length := by simp
 rw [hl, zaO]
 simp only [zz, zai, Nat.mul_zero, Nat.add_zero]
 have hv := zah h.dg.left
 have hp : (4294967296 : Nat) ^ a.length = 2 ^ (32 * a.length) := by rw [Nat.pow_mul]
 rw [hp] at hv ⊢
 have hpos : 0 < 2 ^ (32 * a.length) := Nat.pow_pos (by omega)
 have hd1 : 2 ^ (32 * a.length) * 1 ≤ 2 ^ (32 * a.length) * d.toNat := Nat.mul_le_mul_left _ (by omega)
 rw [zc4 (n := V a + 2 ^ (32 * a.length) * d.toNat) (k := 32 * a.length) (by omega)]
 rw [Nat.add_mul_div_left _ _ hpos, Nat.div_eq_of_lt hv, Nat.zero_add]
theorem zcz {l : List Int} (h : Nm l) (hb : l.length < 1000000000) : Ev (fun k => zaa.f k l) ((bl (V l) : Nat) : Int) := by
 unfold zaa.f
 by_cases c : l.length = 0
 ·have : l = [] := List.eq_nil_of_length_eq_zero c
  subst this
  (repeat (first | with_reducible refine ep ?_ | with_reducible refine en ?_)); exact Ev.now _
 ·(repeat (first | with_reducible refine ep ?_ | with_reducible refine en ?_))
  have e : wrap64 ((l.length : Int) - 1) = ((l.length - 1 : Nat) : Int) := by unfold wrap64; omega
  rw [e]
  clear e
  (repeat (first | with_reducible refine ep ?_ | with_reducible refine en ?_))
  have hd := h.dg.getD (l.length - 1)
  rw [rdn, zau (by omega) (by omega)]
  generalize hx : l.getD (l.length - 1) 0 = x at hd
  obtain ⟨n, rfl⟩ := Int.eq_ofNat_of_zero_le hd.1
  have hbn : bl n ≤ 32 := zI (by omega)
  refine zh (zq5 n _ (by omega) (by omega)) ?_
  have hne : l ≠ [] := fun e => c (by rw [e]; rfl)
  have hm := zhm h.dg |>.1 h
  rw [zjB h hne, hx]
  simp
theorem zii {x y : Int} (h0 : 0 ≤ x ∧ x < 4294967296) (h1 : 0 ≤ y ∧ y < 4294967296) : Go.bits .or .u64 (x * 4294967296) y = x * 4294967296 + y := by
 obtain ⟨X, rfl⟩ := Int.eq_ofNat_of_zero_le h0.1
 obtain ⟨Y, rfl⟩ := Int.eq_ofNat_of_zero_le h1.1
 have e : (X : Int) * 4294967296 = ((2 ^ 32 * X : Nat) : Int) := by omega
 rw [e, u64_or_nat _ _ (by omega) (by omega), ← Nat.two_pow_add_eq_or_of_lt (by omega)]
 omega
theorem ziZ {r x d : Int} (hr : 0 ≤ r ∧ r < d) (hx : 0 ≤ x ∧ x < 4294967296) (hd : d < 4294967296) : 0 ≤ (r * 4294967296 + x) / d ∧ (r * 4294967296 + x) / d < 4294967296 := by
 constructor
 ·exact Int.ediv_nonneg (by omega) (by omega)
 ·apply Int.ediv_lt_of_lt_mul (by omega)
  have : r * 4294967296 + 4294967296 ≤ d * 4294967296 := by omega
  rw [Int.mul_comm]; omega
theorem zoi {r x d : Int} (hr : 0 ≤ r ∧ r < d) (hx : 0 ≤ x ∧ x < 4294967296) (hd : d < 4294967296) : zeB.f r x d = some ((r * 4294967296 + x) / d, (r * 4294967296 + x) % d) := by
 have hn : 0 ≤ r * 4294967296 + x := by omega
 have hd0 : d ≠ 0 := by omega
 have hr0 : ¬ d ≤ r := by omega
 have ur := u64 (n := r) (by omega) (by omega)
 have ur2 := u64 (n := r * 4294967296) (by omega) (by omega)
 have ux := u64 (n := x) (by omega) (by omega)
 have ud := u64 (n := d) (by omega) (by omega)
 have ho := zii (x := r) (by omega) hx
 have h1 := ziZ hr hx hd
 have h2 : 0 ≤ (r * 4294967296 + x) % d := Int.emod_nonneg _ hd0
 have h3 : (r * 4294967296 + x) % d < d := Int.emod_lt_of_pos _ (by omega)
 unfold zeB.f
 rw [if_pos hd0, if_neg hr0, ud, if_neg hd0, if_neg hd0, ur, ur2, ux, ho, Int.tdiv_eq_ediv_of_nonneg hn, Int.tmod_eq_emod_of_nonneg hn]
 clear ur ur2 ux ud ho
 generalize (r * 4294967296 + x) / d = q at *
 generalize (r * 4294967296 + x) % d = m at *
 rw [u64 h1.1 (by omega), Int.emod_eq_of_lt h1.1 h1.2, Int.emod_eq_of_lt h2 (by omega)]
theorem zja (n : Nat) (l : List Int) : List.replicate (n + 1) (0 : Int) ++ l = List.replicate n 0 ++ 0 :: l := by
 rw [List.replicate_succ', List.append_assoc]; rfl
theorem zrv (t P X R E w : Nat) (hE : 0 < E) :
  (t + P * X + P * 4294967296 * R) / E + P * 4294967296 * w = (t + P * ((R * 4294967296 + X) % E)) / E + P * ((R * 4294967296 + X) / E + 4294967296 * w) ∧
  (t + P * X + P * 4294967296 * R) % E = (t + P * ((R * 4294967296 + X) % E)) % E := by
 have h := Nat.div_add_mod (R * 4294967296 + X) E
 have e4 : P * (R * 4294967296 + X) = P * 4294967296 * R + P * X := by rw [Nat.mul_add, Nat.mul_comm R, Nat.mul_assoc]
 generalize (R * 4294967296 + X) / E = q at *
 generalize (R * 4294967296 + X) % E = m at *
 have e3 : P * (E * q + m) = E * (P * q) + P * m := by rw [Nat.mul_add, Nat.mul_left_comm]
 rw [h, e4] at e3
 have key : t + P * X + P * 4294967296 * R = t + P * m + E * (P * q) := by
  rw [Nat.add_assoc, Nat.add_comm (P * X), e3, Nat.add_assoc, Nat.add_comm (P * m)]
 rw [key, Nat.add_mul_div_left _ _ hE, Nat.add_mul_mod_self_left, Nat.mul_add, Nat.mul_assoc P, Nat.add_assoc]
 exact ⟨rfl, rfl⟩
theorem zl7 {a : List Int} (ha : Dg a) {i : Nat} (hi : i < a.length) {r d : Int} (hr : 0 ≤ r ∧ r < d) (w : Nat) :
  (V (a.take (i + 1)) + 4294967296 ^ (i + 1) * r.toNat) / d.toNat + 4294967296 ^ (i + 1) * w =
   (V (a.take i) + 4294967296 ^ i * ((r * 4294967296 + a.getD i 0) % d).toNat) / d.toNat + 4294967296 ^ i * (((r * 4294967296 + a.getD i 0) / d).toNat + 4294967296 * w) ∧
  (V (a.take (i + 1)) + 4294967296 ^ (i + 1) * r.toNat) % d.toNat = (V (a.take i) + 4294967296 ^ i * ((r * 4294967296 + a.getD i 0) % d).toNat) % d.toNat := by
 have hx := ha.getD i
 rw [zfh hi]
 obtain ⟨R, rfl⟩ := Int.eq_ofNat_of_zero_le hr.1
 obtain ⟨E, rfl⟩ := Int.eq_ofNat_of_zero_le (show 0 ≤ d by omega)
 obtain ⟨X, hX⟩ := Int.eq_ofNat_of_zero_le hx.1
 rw [hX]
 have hE : 0 < E := by omega
 clear hx hX hr ha hi
 have e1 : ((R : Int) * 4294967296 + X) % E = (((R * 4294967296 + X) % E : Nat) : Int) := by
  rw [Int.natCast_emod, Int.natCast_add, Int.natCast_mul, Int.cast_ofNat_Int]
 have e2 : ((R : Int) * 4294967296 + X) / E = (((R * 4294967296 + X) / E : Nat) : Int) := by
  rw [Int.natCast_ediv, Int.natCast_add, Int.natCast_mul, Int.cast_ofNat_Int]
 rw [e1, e2]
 rw [Int.toNat_natCast, Int.toNat_natCast, Int.toNat_natCast, Int.toNat_natCast, Int.toNat_natCast, Nat.pow_succ]
 exact zrv _ _ _ _ _ _ hE
theorem zl6 {a : List Int} (ha : Dg a) (hl : a.length < 1000000000) {d : Int} (hd : 0 < d ∧ d < 4294967296) : ∀ (i : Nat) (r : Int) (done : List Int), i + done.length = a.length → 0 ≤ r ∧ r < d → Dg done →
  Ev (fun k => zbu.l0 k a d (List.replicate i 0 ++ done) r ((i : Int) - 1)) (D ((V (a.take i) + 4294967296 ^ i * r.toNat) / d.toNat + 4294967296 ^ i * V done), (((V (a.take i) + 4294967296 ^ i * r.toNat) % d.toNat : Nat) : Int))
 | 0, r, done, hi, hr, hg => by
  refine zf ?_
  simp only [zbu.l0]
  (repeat (first | with_reducible refine ep ?_ | with_reducible refine en ?_))
  refine Ev.bind (zdj (l := List.replicate 0 0 ++ done) (by simpa using hg) (by simp; omega)) (zh (Ev.now _) ?_)
  have h1 : r.toNat / d.toNat = 0 := Nat.div_eq_of_lt (by omega)
  have h2 : r.toNat % d.toNat = r.toNat := Nat.mod_eq_of_lt (by omega)
  simp [h1, h2]; omega
 | i + 1, r, done, hi, hr, hg => by
  have e0 : ((i + 1 : Nat) : Int) - 1 = (i : Int) := by omega
  have hx := ha.getD i
  have ht := ziZ hr hx hd.2
  have st := zl7 ha (i := i) (by omega) hr (V done)
  have hm0 : 0 ≤ (r * 4294967296 + a.getD i 0) % d := Int.emod_nonneg _ (by omega)
  have hm1 : (r * 4294967296 + a.getD i 0) % d < d := Int.emod_lt_of_pos _ (by omega)
  have ih := zl6 ha hl hd i ((r * 4294967296 + a.getD i 0) % d) (((r * 4294967296 + a.getD i 0) / d) :: done) (by simp; omega) ⟨hm0, hm1⟩ (Dg.cons ht.1 ht.2 hg)
  rw [e0]
  refine zf ?_
  simp only [zbu.l0, zbL (n := i) (by omega)]
  (repeat (first | with_reducible refine ep ?_ | with_reducible refine en ?_))
  rw [rdn]
  refine zi (zoi hr hx hd.2) ?_
  refine zd (by omega) (zd (by simp; omega) ?_)
  have hs : (List.replicate (i + 1) (0 : Int) ++ done).set ((i : Int)).toNat ((r * 4294967296 + a.getD i 0) / d) = List.replicate i 0 ++ ((r * 4294967296 + a.getD i 0) / d) :: done := by
   rw [zja, zbJ (by simp)]; simp
  rw [hs]
  refine zh ih ?_
  rw [zz, st.1, st.2]
theorem zkS {a : List Int} (ha : Dg a) (hl : a.length < 1000000000) {d : Int} (hd : 0 < d ∧ d < 4294967296) : Ev (fun k => zbu.f k a d) (D (V a / d.toNat), ((V a % d.toNat : Nat) : Int)) := by
 unfold zbu.f
 (repeat (first | with_reducible refine ep ?_ | with_reducible refine en ?_))
 have := zl6 ha hl hd a.length 0 [] (by simp) (by omega) Dg.nil
 rw [zbL (by omega)]
 simpa using this
theorem zlR {a : List Int} (ha : Dg a) (hl : a.length < 1000000000) {d : Int} (hd : 0 < d ∧ d < 4294967296) : ∀ (i : Nat) (r : Int) (done : List Int), i + done.length = a.length → 0 ≤ r ∧ r < d → Dg done →
  Ev (fun k => zbl.l0 k a d (List.replicate i 0 ++ done) r ((i : Int) - 1)) (D ((V (a.take i) + 4294967296 ^ i * r.toNat) / d.toNat + 4294967296 ^ i * V done), D ((V (a.take i) + 4294967296 ^ i * r.toNat) % d.toNat))
 | 0, r, done, hi, hr, hg => by
  refine zf ?_
  simp only [zbl.l0]
  (repeat (first | with_reducible refine ep ?_ | with_reducible refine en ?_))
  refine Ev.bind (zdR (l := List.replicate 0 0 ++ done) (by simpa using hg) (by simp; omega)) (Ev.bind (zeX hr.1 (by omega)) (zh (Ev.now _) ?_))
  have h1 : r.toNat / d.toNat = 0 := Nat.div_eq_of_lt (by omega)
  have h2 : r.toNat % d.toNat = r.toNat := Nat.mod_eq_of_lt (by omega)
  simp [h1, h2]
 | i + 1, r, done, hi, hr, hg => by
  have e0 : ((i + 1 : Nat) : Int) - 1 = (i : Int) := by omega
  have hx := ha.getD i
  have ht := ziZ hr hx hd.2
  have st := zl7 ha (i := i) (by omega) hr (V done)
  have hm0 : 0 ≤ (r * 4294967296 + a.getD i 0) % d := Int.emod_nonneg _ (by omega)
  have hm1 : (r * 4294967296 + a.getD i 0) % d < d := Int.emod_lt_of_pos _ (by omega)
  have ih := zlR ha hl hd i ((r * 4294967296 + a.getD i 0) % d) (((r * 4294967296 + a.getD i 0) / d) :: done) (by simp; omega) ⟨hm0, hm1⟩ (Dg.cons ht.1 ht.2 hg)
  rw [e0]
  refine zf ?_
  simp only [zbl.l0, zbL (n := i) (by omega)]
  (repeat (first | with_reducible refine ep ?_ | with_reducible refine en ?_))
  rw [rdn, u64 (n := d) (by omega) (by omega), u64 (n := r * 4294967296) (by omega) (by omega), u64 (n := a.getD i 0) (by omega) (by omega), zii (by omega) hx,
   Int.tdiv_eq_ediv_of_nonneg (by omega), Int.tmod_eq_emod_of_nonneg (by omega), u64 ht.1 (by omega), Int.emod_eq_of_lt ht.1 ht.2]
  (repeat (first | with_reducible refine ep ?_ | with_reducible refine en ?_))
  have hs : (List.replicate (i + 1) (0 : Int) ++ done).set ((i : Int)).toNat ((r * 4294967296 + a.getD i 0) / d) = List.replicate i 0 ++ ((r * 4294967296 + a.getD i 0) / d) :: done := by
   rw [zja, zbJ (by simp)]; simp
  rw [hs]
  refine zh ih ?_
  rw [zz, st.1, st.2]
theorem zlC {a : List Int} (ha : Dg a) (hl : a.length < 1000000000) {d : Int} (hd : 0 < d ∧ d < 4294967296) : Ev (fun k => zbl.f k a d) (D (V a / d.toNat), D (V a % d.toNat)) := by
 unfold zbl.f
 (repeat (first | with_reducible refine ep ?_ | with_reducible refine en ?_))
 have := zlR ha hl hd a.length 0 [] (by simp) (by omega) Dg.nil
 rw [zbL (by omega)]
 simpa using this
theorem pw {s : Nat} (h : s ≤ 32) : 2 ^ s * 2 ^ (32 - s) = 4294967296 := by
 rw [← Nat.pow_add]; have : s + (32 - s) = 32 := by omega
 rw [this]
theorem zj (s : Nat) : 0 < 2 ^ s := Nat.pow_pos (by omega)
theorem zet {X P Q c : Nat} (hP : 0 < P) (hc : c < P) : (X * P + c) / (P * Q) = X / Q ∧ (X * P + c) % (P * Q) = P * (X % Q) + c := by
 have h1 : (X * P + c) / P = X := by rw [Nat.mul_comm, Nat.mul_add_div hP, Nat.div_eq_of_lt hc, Nat.add_zero]
 have h2 : (X * P + c) % P = c := by rw [Nat.mul_comm, Nat.mul_add_mod, Nat.mod_eq_of_lt hc]
 exact ⟨by rw [← Nat.div_div_eq_div_mul, h1], by rw [Nat.mod_mul, h1, h2, Nat.add_comm]⟩
theorem zgL (s : Nat) : ((2 : Int) ^ s) = ((2 ^ s : Nat) : Int) := by simp
theorem zl0 (X s : Nat) (hs : s < 32) : shl .u32 (X : Int) (s : Int) = ((X * 2 ^ s % 4294967296 : Nat) : Int) := by
 unfold shl
 rw [Int.toNat_natCast, Nat.min_eq_left (by simp [IntKind.bits]; omega), zgL, ← Int.natCast_mul]
 simp [IntKind.wrap, IntKind.bits, IntKind.signed]
theorem ziT (X s : Nat) (hs : s ≤ 32) (hX : X < 4294967296) : shl .u64 (X : Int) (s : Int) = ((X * 2 ^ s : Nat) : Int) := by
 unfold shl
 rw [Int.toNat_natCast, Nat.min_eq_left (by simp [IntKind.bits]; omega), zgL, ← Int.natCast_mul]
 have h1 : 2 ^ s ≤ 2 ^ 32 := Nat.pow_le_pow_right (by omega) hs
 have h2 : X * 2 ^ s ≤ 4294967295 * 2 ^ 32 := Nat.mul_le_mul (by omega) h1
 exact u64 (by omega) (by omega)
theorem zcV {k : IntKind} (X s : Nat) (hs : s ≤ k.bits) : shr k (X : Int) (s : Int) = ((X / 2 ^ s : Nat) : Int) := by
 unfold shr
 rw [Int.toNat_natCast, Nat.min_eq_left hs, zgL, ← Int.natCast_ediv]
theorem zfb (X : Nat) (hX : X < 4294967296) : IntKind.u64.wrap (X : Int) = (X : Int) := u64 (by omega) (by omega)
theorem zi7 {s : Nat} (hs : s ≤ 32) : wrap64 (32 - (s : Int)) = ((32 - s : Nat) : Int) := by unfold wrap64; omega
theorem zfp {X s : Nat} (hs : s ≤ 32) (hX : X < 4294967296) : X / 2 ^ s < 2 ^ (32 - s) := by
 rw [Nat.div_lt_iff_lt_mul (zj _), Nat.mul_comm, pw hs]; exact hX
theorem zsg (X s c : Nat) (hs : s < 32) (hX : X < 4294967296) (hc : c < 2 ^ s) : Go.bits .or .u32 (shl .u32 (X : Int) (s : Int)) (c : Int) = (((X * 2 ^ s + c) % 4294967296 : Nat) : Int) := by
 have h1 := (zet (X := X) (Q := 2 ^ (32 - s)) (zj s) hc).2
 have h0 := (zet (X := X) (Q := 2 ^ (32 - s)) (c := 0) (zj s) (zj s)).2
 have hle : 2 ^ s ≤ 2 ^ 31 := Nat.pow_le_pow_right (by omega) (by omega)
 rw [pw (by omega)] at h1 h0
 rw [zl0 _ _ hs, u32_or_nat _ _ (by omega) (by omega), h1]
 rw [Nat.add_zero, Nat.add_zero] at h0
 rw [h0, ← Nat.two_pow_add_eq_or_of_lt hc]
theorem zsf (X s c : Nat) (hs : s < 32) (hX : X < 4294967296) (hc : c < 2 ^ s) : (shr .u64 (IntKind.u64.wrap (X : Int)) (wrap64 (32 - (s : Int)))) % 4294967296 = (((X * 2 ^ s + c) / 4294967296 : Nat) : Int) := by
 have h1 := (zet (X := X) (Q := 2 ^ (32 - s)) (zj s) hc).1
 rw [pw (by omega)] at h1
 rw [zfb _ hX, zi7 (by omega), zcV _ _ (by simp [IntKind.bits]; omega), h1]
 have := zfp (s := 32 - s) (by omega) hX
 have h3 : X / 2 ^ (32 - s) ≤ X := Nat.div_le_self _ _
 omega
theorem zi5 (X s c : Nat) (hs : s < 32) (hX : X < 4294967296) (hc : c < 2 ^ s) : (X * 2 ^ s + c) / 4294967296 < 2 ^ s := by
 have h1 := (zet (X := X) (Q := 2 ^ (32 - s)) (zj s) hc).1
 rw [pw (by omega)] at h1
 rw [h1]
 have := zfp (s := 32 - s) (by omega) hX
 have e : 32 - (32 - s) = s := by omega
 rwa [e] at this
theorem zrm (X s c : Nat) (hs : s < 32) (hX : X < 4294967296) (hc : c < 2 ^ s) : Go.bits .or .u64 (c : Int) (shl .u64 (IntKind.u64.wrap (X : Int)) (s : Int)) = ((X * 2 ^ s + c : Nat) : Int) := by
 have hle : 2 ^ s ≤ 2 ^ 31 := Nat.pow_le_pow_right (by omega) (by omega)
 have h2 : X * 2 ^ s ≤ 4294967295 * 2 ^ 31 := Nat.mul_le_mul (by omega) hle
 rw [zfb _ hX, ziT _ _ (by omega) hX, u64_or_nat _ _ (by omega) (by omega), Nat.or_comm, Nat.mul_comm X, ← Nat.two_pow_add_eq_or_of_lt hc]
def zcY (P : Nat) : List Int → Nat → List Int
 | [], c => [(c : Int)]
 | d :: l, c => (((d.toNat * P + c) % 4294967296 : Nat) : Int) :: zcY P l ((d.toNat * P + c) / 4294967296)
theorem zmH {s : Nat} (hs : s < 32) : ∀ (l : List Int) (c : Nat), Dg l → c < 2 ^ s → V (zcY (2 ^ s) l c) = V l * 2 ^ s + c ∧ Dg (zcY (2 ^ s) l c)
 | [], c, _, hc => by
  have hle : 2 ^ s ≤ 2 ^ 31 := Nat.pow_le_pow_right (by omega) (by omega)
  simp only [zcY, zz, zai]
  exact ⟨by omega, Dg.cons (by omega) (by omega) Dg.nil⟩
 | d :: l, c, hg, hc => by
  have hd := hg.head
  have hX : d.toNat < 4294967296 := by omega
  have ih := zmH hs l _ hg.tail (zi5 d.toNat s c hs hX hc)
  simp only [zcY, zz, ih.1]
  refine ⟨?_, Dg.cons (by omega) (by omega) ih.2⟩
  generalize hm : d.toNat * 2 ^ s + c = m
  rw [Nat.add_mul, Nat.mul_assoc]
  generalize V l * 2 ^ s = z
  omega
theorem nn {i : Nat} : 0 ≤ (i : Int) := Int.natCast_nonneg i
theorem zmK (A : List Int) (hA : Dg A) (hl : A.length < 1000000000) {s : Nat} (hs : s < 32) : ∀ (a done pa : List Int) (c : Nat), A = pa ++ a → c < 2 ^ s → Dg done → done.length + a.length < 2000000000 →
  Ev (fun k => zbg.l0 k done s c A A.length pa.length) (D (V (done ++ zcY (2 ^ s) a c)))
 | [], done, pa, c, he, hc, hg, hb => by
  have hlen : A.length = pa.length := by rw [he]; simp
  have hle : 2 ^ s ≤ 2 ^ 31 := Nat.pow_le_pow_right (by omega) (by omega)
  refine zf ?_
  simp only [zbg.l0]
  (repeat (first | with_reducible refine ep ?_ | with_reducible refine en ?_))
  exact Ev.bind (zdj (hg.app (Dg.cons (by omega) (by omega) Dg.nil)) (by simp at hb ⊢; omega)) (Ev.now _)
 | d :: a, done, pa, c, he, hc, hg, hb => by
  have hlen : A.length = pa.length + 1 + a.length := by rw [he]; simp; omega
  have hd : 0 ≤ d ∧ d < 4294967296 := by rw [he] at hA; exact hA.right.head
  obtain ⟨X, rfl⟩ := Int.eq_ofNat_of_zero_le hd.1
  have hX : X < 4294967296 := by omega
  have h1 : rd A (pa.length : Int) = (X : Int) := by rw [he]; exact z8 rfl
  refine zf ?_
  simp only [zbg.l0, h1, zaf (n := pa.length) (by omega), zsg X s c hs hX hc, zsf X s c hs hX hc]
  have w32 : wrap64 (32 - (s : Int)) = 32 - (s : Int) := by unfold wrap64; omega
  (repeat (first | with_reducible refine ep ?_ | with_reducible refine en ?_))
  have := zmK A hA hl hs a (done ++ [(((X * 2 ^ s + c) % 4294967296 : Nat) : Int)]) (pa ++ [(X : Int)]) ((X * 2 ^ s + c) / 4294967296) (by rw [he]; simp) (zi5 X s c hs hX hc) (hg.app (Dg.cons (by omega) (by omega) Dg.nil)) (by simp at hb ⊢; omega)
  rw [List.length_append, List.length_singleton] at this
  refine zh this ?_
  simp [zcY]
theorem zlW (A : List Int) (hA : Dg A) (hl : A.length < 1000000000) {s : Nat} (hs : s < 32) : ∀ (a done pa : List Int) (c : Nat), A = pa ++ a → c < 2 ^ s → Dg done → done.length + a.length < 2000000000 →
  Ev (fun k => zW.l0 k A done s c pa.length) (D (V (done ++ zcY (2 ^ s) a c)))
 | [], done, pa, c, he, hc, hg, hb => by
  have hlen : A.length = pa.length := by rw [he]; simp
  have hle : 2 ^ s ≤ 2 ^ 31 := Nat.pow_le_pow_right (by omega) (by omega)
  refine zf ?_
  have e : (c : Int) % 4294967296 = (c : Int) := by omega
  simp only [zW.l0, e]
  (repeat (first | with_reducible refine ep ?_ | with_reducible refine en ?_))
  exact Ev.bind (zdR (hg.app (Dg.cons (by omega) (by omega) Dg.nil)) (by simp at hb ⊢; omega)) (Ev.now _)
 | d :: a, done, pa, c, he, hc, hg, hb => by
  have hlen : A.length = pa.length + 1 + a.length := by rw [he]; simp; omega
  have hd : 0 ≤ d ∧ d < 4294967296 := by rw [he] at hA; exact hA.right.head
  obtain ⟨X, rfl⟩ := Int.eq_ofNat_of_zero_le hd.1
  have hX : X < 4294967296 := by omega
  have h1 : rd A (pa.length : Int) = (X : Int) := by rw [he]; exact z8 rfl
  have e1 : ((X * 2 ^ s + c : Nat) : Int) % 4294967296 = (((X * 2 ^ s + c) % 4294967296 : Nat) : Int) := by omega
  have e2 : ((X * 2 ^ s + c : Nat) : Int) / 4294967296 = (((X * 2 ^ s + c) / 4294967296 : Nat) : Int) := by omega
  refine zf ?_
  simp only [zW.l0, h1, zaf (n := pa.length) (by omega), zrm X s c hs hX hc, e1, e2]
  (repeat (first | with_reducible refine ep ?_ | with_reducible refine en ?_))
  have := zlW A hA hl hs a (done ++ [(((X * 2 ^ s + c) % 4294967296 : Nat) : Int)]) (pa ++ [(X : Int)]) ((X * 2 ^ s + c) / 4294967296) (by rw [he]; simp) (zi5 X s c hs hX hc) (hg.app (Dg.cons (by omega) (by omega) Dg.nil)) (by simp at hb ⊢; omega)
  rw [List.length_append, List.length_singleton] at this
  refine zh this ?_
  simp [zcY]
theorem t32 {n : Nat} (h : n < 4611686018427387904) : wrap64 (Int.tdiv (n : Int) 32) = ((n / 32 : Nat) : Int) := by
 rw [Int.tdiv_eq_ediv_of_nonneg (by omega)]; unfold wrap64; omega
theorem m32 (n : Nat) : Int.tmod (n : Int) 32 = ((n % 32 : Nat) : Int) := by
 rw [Int.tmod_eq_emod_of_nonneg (by omega)]; omega
theorem zeo (n : Nat) : 2 ^ n = 4294967296 ^ (n / 32) * 2 ^ (n % 32) := by
 have h : (4294967296 : Nat) = 2 ^ 32 := by decide
 rw [h, ← Nat.pow_mul, ← Nat.pow_add]; congr 1; omega
theorem zmI {a : List Int} (ha : Dg a) (n : Nat) : V (List.replicate (n / 32) 0 ++ zcY (2 ^ (n % 32)) a 0) = V a * 2 ^ n := by
 have h := (zmH (s := n % 32) (by omega) a 0 ha (zj _)).1
 rw [zaO, zfi, List.length_replicate, h, Nat.zero_add, Nat.add_zero, zeo n, Nat.mul_left_comm]
theorem zid {a : List Int} (ha : Dg a) (la : a.length < 1000000000) (n : Nat) (hn : n < 1000000000) : Ev (fun k => zbg.f k a n) (D (V a * 2 ^ n)) := by
 unfold zbg.f
 have e1 : wrap64 (wrap64 (((n / 32 : Nat) : Int) + (a.length : Int)) + 1) = ((n / 32 + a.length + 1 : Nat) : Int) := by unfold wrap64; omega
 simp only [t32 (n := n) (by omega), m32, e1]
 clear e1
 by_cases h0 : a = []
 ·subst h0
  (repeat (first | with_reducible refine ep ?_ | with_reducible refine en ?_))
  exact zh (Ev.now _) (by simp [zy])
 ·have : 0 < a.length := List.length_pos_iff.2 h0
  (repeat (first | with_reducible refine ep ?_ | with_reducible refine en ?_))
  have h := zmK a ha la (s := n % 32) (by omega) a (List.replicate (n / 32) 0) [] 0 rfl (zj _) (Dg.zeros _) (by simp; omega)
  rw [zmI ha] at h
  simp only [Int.toNat_natCast]
  simpa using h
theorem zcT {a : List Int} (ha : Dg a) (la : a.length < 1000000000) (n : Nat) (hn : n < 1000000000) : Ev (fun k => zW.f k a n) (D (V a * 2 ^ n)) := by
 unfold zW.f
 simp only [t32 (n := n) (by omega), m32]
 by_cases h0 : a = []
 ·subst h0
  (repeat (first | with_reducible refine ep ?_ | with_reducible refine en ?_))
  exact zh (Ev.now _) (by simp [zy])
 ·have : 0 < a.length := List.length_pos_iff.2 h0
  (repeat (first | with_reducible refine ep ?_ | with_reducible refine en ?_))
  have h := zlW a ha la (s := n % 32) (by omega) a (List.replicate (n / 32) 0) [] 0 rfl (zj _) (Dg.zeros _) (by simp; omega)
  rw [zmI ha] at h
  simp only [Int.toNat_natCast]
  simpa using h
theorem pw' {s : Nat} (h : s ≤ 32) : 2 ^ (32 - s) * 2 ^ s = 4294967296 := by rw [Nat.mul_comm]; exact pw h
theorem zdu {l : List Int} (h : Dg l) (q : Nat) : V (l.drop q) = V l / 4294967296 ^ q := by
 by_cases hq : q ≤ l.length
 ·have e : V l = V (l.take q) + 4294967296 ^ q * V (l.drop q) := by
   conv => lhs; rw [← List.take_append_drop q l, zaO, List.length_take, Nat.min_eq_left hq]
  have hlt : V (l.take q) < 4294967296 ^ q := by
   have := zah (h.take q); rwa [List.length_take, Nat.min_eq_left hq] at this
  rw [e, Nat.add_mul_div_left _ _ (Nat.pow_pos (by omega)), Nat.div_eq_of_lt hlt, Nat.zero_add]
 ·rw [List.drop_eq_nil_of_le (by omega), zai, Nat.div_eq_of_lt]
  exact Nat.lt_of_lt_of_le (zah h) (Nat.pow_le_pow_right (by omega) (by omega))
theorem zeQ {m : Nat} (h : m < 4294967296) : (m : Int) < 4294967296 := by omega
theorem zol (Y s : Nat) (hs : s < 32) (hY : Y < 4294967296) : (shl .u64 (IntKind.u64.wrap (Y : Int)) (wrap64 (32 - (s : Int)))) % 4294967296 = ((2 ^ (32 - s) * (Y % 2 ^ s) : Nat) : Int) := by
 rw [zfb _ hY, zi7 (by omega), ziT _ _ (by omega) hY]
 have h := (zet (X := Y) (P := 2 ^ (32 - s)) (Q := 2 ^ s) (c := 0) (zj _) (zj _)).2
 rw [pw' (by omega), Nat.add_zero, Nat.add_zero] at h
 rw [← h]; omega
theorem zgn (X Y s : Nat) (hs : s < 32) (hX : X < 4294967296) : X / 2 ^ s + 2 ^ (32 - s) * (Y % 2 ^ s) < 4294967296 := by
 have h1 := zfp (s := s) (by omega) hX
 have h2 : Y % 2 ^ s + 1 ≤ 2 ^ s := Nat.mod_lt _ (zj _)
 have h3 := Nat.mul_le_mul_left (2 ^ (32 - s)) h2
 rw [pw' (by omega), Nat.mul_add] at h3
 omega
theorem zok (X Y s : Nat) (hs : s < 32) (hX : X < 4294967296) (hY : Y < 4294967296) : Go.bits .or .u32 ((X / 2 ^ s : Nat) : Int) ((shl .u64 (IntKind.u64.wrap (Y : Int)) (wrap64 (32 - (s : Int)))) % 4294967296) = ((X / 2 ^ s + 2 ^ (32 - s) * (Y % 2 ^ s) : Nat) : Int) := by
 have hl := zgn X Y s hs hX
 rw [zol Y s hs hY, u32_or_nat _ _ (Nat.lt_of_le_of_lt (Nat.le_add_right _ _) hl) (Nat.lt_of_le_of_lt (Nat.le_add_left _ _) hl), Nat.or_comm, ← Nat.two_pow_add_eq_or_of_lt (zfp (by omega) hX), Nat.add_comm]
theorem zqR (X Y s : Nat) (hs : s < 32) (hX : X < 4294967296) (hY : Y < 4294967296) : (Go.bits .or .u64 (shr .u64 (IntKind.u64.wrap (X : Int)) (s : Int)) (shl .u64 (IntKind.u64.wrap (Y : Int)) (wrap64 (32 - (s : Int))))) % 4294967296 = ((X / 2 ^ s + 2 ^ (32 - s) * (Y % 2 ^ s) : Nat) : Int) := by
 have hl := zfp (s := s) (by omega) hX
 have hle : 2 ^ (32 - s) ≤ 2 ^ 32 := Nat.pow_le_pow_right (by omega) (by omega)
 have h2 : Y * 2 ^ (32 - s) ≤ 4294967295 * 2 ^ 32 := Nat.mul_le_mul (by omega) hle
 have hX2 : X / 2 ^ s ≤ X := Nat.div_le_self _ _
 rw [zfb _ hX, zfb _ hY, zi7 (by omega), ziT _ _ (by omega) hY, zcV _ _ (by simp [IntKind.bits]; omega), u64_or_nat _ _ (by omega) (by omega), Nat.or_comm, Nat.mul_comm Y, ← Nat.two_pow_add_eq_or_of_lt hl, Nat.mul_comm _ Y]
 have h := (zet (X := Y) (P := 2 ^ (32 - s)) (Q := 2 ^ s) (c := X / 2 ^ s) (zj _) hl).2
 rw [pw' (by omega)] at h
 rw [Nat.add_comm (X / 2 ^ s), ← h]; omega
def zbb (s : Nat) : List Int → List Int
 | [] => []
 | d :: l => ((d.toNat / 2 ^ s + 2 ^ (32 - s) * ((l.headD 0).toNat % 2 ^ s) : Nat) : Int) :: zbb s l
theorem znb {l : List Int} {s : Nat} (hs : s ≤ 32) : V l % 2 ^ s = (l.headD 0).toNat % 2 ^ s := by
 cases l with
 | nil => simp
 | cons d l =>
  have h := pw (s := s) hs
  simp only [zz, List.headD_cons]
  rw [← h, Nat.mul_assoc, Nat.add_mul_mod_self_left]
theorem zj6 {s : Nat} (hs : s < 32) : ∀ (l : List Int), Dg l → V (zbb s l) = V l / 2 ^ s ∧ Dg (zbb s l)
 | [], _ => by simp [zbb, Dg.nil]
 | d :: l, hg => by
  have hd := hg.head
  have ih := zj6 hs l hg.tail
  have hl := zgn d.toNat (l.headD 0).toNat s hs (by omega)
  simp only [zbb, zz, ih.1]
  refine ⟨?_, Dg.cons nn (zeQ hl) ih.2⟩
  rw [← znb (l := l) (by omega), Int.toNat_natCast]
  have h := pw (s := s) (by omega)
  have h' := pw' (s := s) (by omega)
  have e1 : (d.toNat + 4294967296 * V l) / 2 ^ s = d.toNat / 2 ^ s + 2 ^ (32 - s) * V l := by
   rw [← h, Nat.mul_assoc, Nat.add_mul_div_left _ _ (zj _)]
  have e2 : 2 ^ (32 - s) * V l = 2 ^ (32 - s) * (V l % 2 ^ s) + 4294967296 * (V l / 2 ^ s) := by
   rw [← h', Nat.mul_assoc, ← Nat.mul_add, Nat.mod_add_div]
  rw [e1, e2, Nat.add_assoc]
theorem zhH {a : List Int} (ha : Dg a) (n : Nat) : V (zbb (n % 32) (a.drop (n / 32))) = V a / 2 ^ n := by
 rw [(zj6 (by omega) _ (ha.drop _)).1, zdu ha, Nat.div_div_eq_div_mul, ← zeo]
theorem zj7 (A : List Int) (hA : Dg A) (hl : A.length < 1000000000) {s : Nat} (hs : s < 32) : ∀ (a done pa : List Int), A = pa ++ a → done.length = pa.length → Dg done →
  Ev (fun k => zbf.l0 k A s (done ++ List.replicate a.length 0) A A.length pa.length) (D (V (done ++ zbb s a)))
 | [], done, pa, he, hd, hg => by
  have hlen : A.length = pa.length := by rw [he]; simp
  refine zf ?_
  simp only [zbf.l0]
  (repeat (first | with_reducible refine ep ?_ | with_reducible refine en ?_))
  simp only [List.length_nil, List.replicate_zero, zbb]
  exact Ev.bind (zdj (l := done ++ []) (by simpa using hg) (by simp; omega)) (Ev.now _)
 | d :: a, done, pa, he, hd, hg => by
  have hlen : A.length = pa.length + 1 + a.length := by rw [he]; simp; omega
  have hdd : 0 ≤ d ∧ d < 4294967296 := by rw [he] at hA; exact hA.right.head
  obtain ⟨X, rfl⟩ := Int.eq_ofNat_of_zero_le hdd.1
  have hX : X < 4294967296 := by omega
  have h1 : rd A (pa.length : Int) = (X : Int) := by rw [he]; exact z8 rfl
  have hg2 : Dg (a) := by rw [he] at hA; exact hA.right.tail
  have hy := hg2.headD
  have ih := zj7 A hA hl hs a (done ++ [((X / 2 ^ s + 2 ^ (32 - s) * ((a.headD 0).toNat % 2 ^ s) : Nat) : Int)]) (pa ++ [(X : Int)]) (by rw [he]; simp) (by simp [hd])
   (hg.app (Dg.cons nn (zeQ (zgn X (a.headD 0).toNat s hs hX)) Dg.nil))
  rw [@List.length_append _ pa, List.length_singleton] at ih
  refine zf ?_
  have hset : (done ++ List.replicate ((X : Int) :: a).length 0).set ((pa.length : Int)).toNat ((X / 2 ^ s : Nat) : Int) = (done ++ [((X / 2 ^ s : Nat) : Int)]) ++ List.replicate a.length 0 := by
   rw [List.length_cons, List.replicate_succ, zbJ (by omega)]
  simp only [zbf.l0, h1, zaf (n := pa.length) (by omega), zcV (k := .u32) X s (by simp [IntKind.bits]; omega), hset, Option.bind_some]
  have w32 : wrap64 (32 - (s : Int)) = 32 - (s : Int) := by unfold wrap64; omega
  (repeat (first | with_reducible refine ep ?_ | with_reducible refine en ?_))
  by_cases hn : a = []
  ·subst hn
   simp only [List.length_nil, Nat.add_zero] at hlen
   (repeat (first | with_reducible refine ep ?_ | with_reducible refine en ?_))
   refine zh (by simpa [zbb] using ih) ?_
   simp [zbb]
  ·obtain ⟨y, a', rfl⟩ := List.exists_cons_of_ne_nil hn
   obtain ⟨Y, rfl⟩ := Int.eq_ofNat_of_zero_le hy.1
   simp only [List.headD_cons] at hy ih
   have hlen' := hlen
   simp only [List.length_cons] at hlen'
   have h2 : rd A ((pa.length + 1 : Nat) : Int) = (Y : Int) := by rw [he, show pa ++ (X : Int) :: (Y : Int) :: a' = (pa ++ [(X : Int)]) ++ (Y : Int) :: a' by simp]; exact z8 (by simp)
   have h3 : rd (done ++ [((X / 2 ^ s : Nat) : Int)] ++ List.replicate ((Y : Int) :: a').length 0) (pa.length : Int) = ((X / 2 ^ s : Nat) : Int) := by rw [List.append_assoc, List.singleton_append]; exact z8 (by omega)
   have hset2 : (done ++ [((X / 2 ^ s : Nat) : Int)] ++ List.replicate ((Y : Int) :: a').length 0).set ((pa.length : Int)).toNat ((X / 2 ^ s + 2 ^ (32 - s) * (Y % 2 ^ s) : Nat) : Int) = done ++ [((X / 2 ^ s + 2 ^ (32 - s) * (Y % 2 ^ s) : Nat) : Int)] ++ List.replicate ((Y : Int) :: a').length 0 := by
    rw [List.append_assoc, List.singleton_append, zbJ (by omega)]
   simp only [h2, h3, zok X Y s hs hX (by omega), hset2]
   (repeat (first | with_reducible refine ep ?_ | with_reducible refine en ?_))
   rw [Int.toNat_natCast] at ih
   refine zh ih ?_
   simp [zbb]
theorem zkR {a : List Int} (ha : Dg a) (la : a.length < 1000000000) (n : Nat) (hn : n < 100000000000) : Ev (fun k => zbf.f k a n) (D (V a / 2 ^ n)) := by
 unfold zbf.f
 simp only [t32 (n := n) (by omega), m32]
 by_cases h : n / 32 ≥ a.length
 ·(repeat (first | with_reducible refine ep ?_ | with_reducible refine en ?_))
  have : V a / 2 ^ n = 0 := by
   rw [zeo, ← Nat.div_div_eq_div_mul, ← zdu ha, List.drop_eq_nil_of_le h]; simp
  rw [this, zy]; exact Ev.now _
 ·(repeat (first | with_reducible refine ep ?_ | with_reducible refine en ?_))
  have h := zj7 (a.drop (n / 32)) (ha.drop _) (by simp; omega) (s := n % 32) (by omega) (a.drop (n / 32)) [] [] rfl rfl Dg.nil
  simp only [List.nil_append, zhH ha] at h
  simp only [Int.toNat_natCast]
  simpa using h
theorem zgS {l : List Int} (h : Dg l) (hl : l.length < 1000000000) (i : Nat) (hi : i < 4611686018427387904) : zcJ.f l i = some ((V l / 2 ^ i % 2 : Nat) : Int) := by
 unfold zcJ.f
 simp only [t32 hi, m32]
 rw [if_neg (by omega)]
 by_cases hq : i / 32 ≥ l.length
 ·rw [if_pos (by omega)]
  have : V l / 2 ^ i = 0 := by
   rw [zeo, ← Nat.div_div_eq_div_mul, ← zdu h, List.drop_eq_nil_of_le hq]; simp
  rw [this]; rfl
 ·rw [if_neg (by omega), if_pos nn, if_pos (by omega), if_pos nn]
  rw [rdn]
  have hx := h.getD (i / 32)
  obtain ⟨X, hX⟩ := Int.eq_ofNat_of_zero_le hx.1
  have hX2 : X < 4294967296 := by omega
  rw [hX, zcV _ _ (by simp [IntKind.bits]; omega)]
  have hle : X / 2 ^ (i % 32) ≤ X := Nat.div_le_self _ _
  have e := u32_and_nat (X / 2 ^ (i % 32)) 1 (by omega) (by omega)
  rw [Nat.and_one_is_mod] at e
  rw [show (1 : Int) = ((1 : Nat) : Int) from rfl, e]
  congr 2
  rw [zeo i, ← Nat.div_div_eq_div_mul, ← zdu h]
  have hd : l.drop (i / 32) = (X : Int) :: l.drop (i / 32 + 1) := by
   rw [List.drop_eq_getElem_cons (by omega)]
   congr 1
   rw [← hX, List.getD_eq_getElem?_getD, List.getElem?_eq_getElem (by omega)]; rfl
  rw [hd, zz, Int.toNat_natCast, ← pw (s := i % 32) (by omega), Nat.mul_assoc, Nat.add_mul_div_left _ _ (zj _)]
  have e3 : 2 ^ (32 - i % 32) = 2 * 2 ^ (31 - i % 32) := by
   rw [show 32 - i % 32 = (31 - i % 32) + 1 by omega, Nat.pow_succ, Nat.mul_comm]
  rw [e3, Nat.mul_assoc, Nat.add_mul_mod_self_left]
theorem zaV {l : List Int} (h : Dg l) : bl (V l) ≤ 32 * l.length := by
 apply zI
 have := zah h
 rwa [show (4294967296 : Nat) = 2 ^ 32 from rfl, ← Nat.pow_mul] at this
theorem zan {n k : Nat} (h : n < 4294967296 ^ k) : (D n).length ≤ k := by
 rcases Nat.lt_or_ge k (D n).length with h1 | h1
 ·have h2 := zhk (zv n) (by intro e; rw [e] at h1; simp at h1)
  rw [V_D] at h2
  have h3 : 4294967296 ^ k ≤ 4294967296 ^ ((D n).length - 1) := Nat.pow_le_pow_right (by omega) (by omega)
  omega
 ·exact h1
theorem ziE {l : List Int} (h : Dg l) (hl : l.length < 1000000000) : ∀ (n i : Nat), 32 * l.length - i ≤ n → i < 100000000000 → ∃ b : Nat, Ev (fun k => zao.l0 k l i) (b : Int)
 | n, i, hn, hi => by
  have e32 : wrap64 (32 * (l.length : Int)) = ((32 * l.length : Nat) : Int) := by unfold wrap64; omega
  by_cases hlt : i < 32 * l.length
  ·have hb := zgS h hl i (by omega)
   generalize V l / 2 ^ i % 2 = z at hb
   by_cases h0 : z = 0
   ·have e1 : wrap64 ((i : Int) + 32) = ((i + 32 : Nat) : Int) := by unfold wrap64; omega
    have e2 : wrap64 ((i : Int) + 1) = ((i + 1 : Nat) : Int) := by unfold wrap64; omega
    cases n with
    | zero => omega
    | succ n =>
     obtain ⟨b1, hb1⟩ := ziE h hl n (i + 32) (by omega) (by omega)
     obtain ⟨b2, hb2⟩ := ziE h hl n (i + 1) (by omega) (by omega)
     by_cases hz : rd l (((i / 32 : Nat) : Int)) = 0
     ·refine ⟨b1, zf ?_⟩
      simp only [zao.l0, e32, t32 (n := i) (by omega), e1, e2]
      subst h0
      refine zd (by omega) (zi hb ?_)
      exact zd (by simp) (zd nn (zd (by omega) (zd hz hb1)))
     ·refine ⟨b2, zf ?_⟩
      simp only [zao.l0, e32, t32 (n := i) (by omega), e1, e2]
      subst h0
      refine zd (by omega) (zi hb ?_)
      exact zd (by simp) (zd nn (zd (by omega) (ze hz hb2)))
   ·refine ⟨i, zf ?_⟩
    simp only [zao.l0, e32]
    refine zd (by omega) (zi hb ?_)
    exact ze (by simpa using h0) (ze (by omega) (Ev.now _))
  ·by_cases he : i = 32 * l.length
   ·refine ⟨0, zf ?_⟩
    simp only [zao.l0, e32]
    exact ze (by omega) (zd (by omega) (Ev.now _))
   ·refine ⟨i, zf ?_⟩
    simp only [zao.l0, e32]
    exact ze (by omega) (ze (by omega) (Ev.now _))
termination_by n => n
theorem ziC (A : List Int) (hA : Dg A) (hl : A.length < 1000000000) (b : Bool) {s : Nat} (hs : s < 32) : ∀ (a done pa : List Int), A = pa ++ a → done.length + a.length < 1000000000 → Dg done →
  Ev (fun k => zak.l0 k A b done s pa.length) (D (V (done ++ zbb s a)), b)
 | [], done, pa, he, hd, hg => by
  have hlen : A.length = pa.length := by rw [he]; simp
  refine zf ?_
  simp only [zak.l0]
  (repeat (first | with_reducible refine ep ?_ | with_reducible refine en ?_))
  simp only [zbb, List.append_nil]
  exact Ev.bind (zdR hg (by simp at hd; omega)) (Ev.now _)
 | d :: a, done, pa, he, hd, hg => by
  have hlen : A.length = pa.length + 1 + a.length := by rw [he]; simp; omega
  have hdd : 0 ≤ d ∧ d < 4294967296 := by rw [he] at hA; exact hA.right.head
  obtain ⟨X, rfl⟩ := Int.eq_ofNat_of_zero_le hdd.1
  have hX : X < 4294967296 := by omega
  have h1 : rd A (pa.length : Int) = (X : Int) := by rw [he]; exact z8 rfl
  have hg2 : Dg (a) := by rw [he] at hA; exact hA.right.tail
  have hy := hg2.headD
  have ih := ziC A hA hl b hs a (done ++ [((X / 2 ^ s + 2 ^ (32 - s) * ((a.headD 0).toNat % 2 ^ s) : Nat) : Int)]) (pa ++ [(X : Int)]) (by rw [he]; simp) (by simp at hd ⊢; omega)
   (hg.app (Dg.cons nn (zeQ (zgn X (a.headD 0).toNat s hs hX)) Dg.nil))
  rw [@List.length_append _ pa, List.length_singleton] at ih
  have hXs : X / 2 ^ s ≤ X := Nat.div_le_self _ _
  have e0 : ((X / 2 ^ s : Nat) : Int) % 4294967296 = ((X / 2 ^ s : Nat) : Int) := by
   generalize X / 2 ^ s = z at *; omega
  refine zf ?_
  simp only [zak.l0, h1, zaf (n := pa.length) (by omega)]
  (repeat (first | with_reducible refine ep ?_ | with_reducible refine en ?_))
  by_cases hn : a = []
  ·subst hn
   simp only [List.length_nil, Nat.add_zero] at hlen
   (repeat (first | with_reducible refine ep ?_ | with_reducible refine en ?_))
   rw [zfb _ hX, zcV _ _ (by simp [IntKind.bits]; omega), e0]
   refine zh (by simpa [zbb] using ih) ?_
   simp [zbb]
  ·obtain ⟨y, a', rfl⟩ := List.exists_cons_of_ne_nil hn
   obtain ⟨Y, rfl⟩ := Int.eq_ofNat_of_zero_le hy.1
   simp only [List.headD_cons] at hy ih
   have hlen' := hlen
   have w32 : wrap64 (32 - (s : Int)) = 32 - (s : Int) := by unfold wrap64; omega
   have hd' := hd
   simp only [List.length_cons] at hd'
   simp only [List.length_cons] at hlen'
   have h2 : rd A ((pa.length + 1 : Nat) : Int) = (Y : Int) := by rw [he, show pa ++ (X : Int) :: (Y : Int) :: a' = (pa ++ [(X : Int)]) ++ (Y : Int) :: a' by simp]; exact z8 (by simp)
   simp only [h2, zqR X Y s hs hX (by omega)]
   (repeat (first | with_reducible refine ep ?_ | with_reducible refine en ?_))
   rw [Int.toNat_natCast] at ih
   refine zh ih ?_
   simp [zbb]
theorem zqV {a : List Int} (ha : Nm a) (la : a.length < 100000000) (n : Nat) (hn : n < 1000000000) : ∃ b, Ev (fun k => zak.f k a n) (D (V a / 2 ^ n), b) := by
 unfold zak.f
 by_cases h : n ≥ bl (V a)
 ·refine ⟨decide ((a.length : Int) > 0), Ev.bind (zcz ha (by omega)) (zd (by omega) (zh (Ev.now _) ?_))⟩
  rw [Nat.div_eq_of_lt (Nat.lt_of_lt_of_le (zP _) (Nat.pow_le_pow_right (by omega) h)), zy]
 ·obtain ⟨b, hb⟩ := ziE ha.dg (by omega) _ 0 (Nat.le_refl _) (by omega)
  refine ⟨decide ((n : Int) > (b : Int)), Ev.bind (zcz ha (by omega)) (ze (by omega) (Ev.bind hb ?_))⟩
  simp only [t32 (n := n) (by omega), m32]
  have hbl := zaV ha.dg
  have hq : n / 32 ≤ a.length := by omega
  have h1 := ziC a ha.dg (by omega) (decide ((n : Int) > (b : Int))) (s := n % 32) (by omega) (a.drop (n / 32)) [] (a.take (n / 32)) (by simp) (by simp; omega) Dg.nil
  rw [List.length_take, Nat.min_eq_left hq, List.nil_append, zhH ha.dg] at h1
  exact h1
theorem zjo : ∀ (q : List Int) (j y : Nat), Dg q → j < q.length → V (q.set j (q.getD j 0 + (y : Int))) = V q + 4294967296 ^ j * y
 | [], j, y, _, h => by simp at h
 | d :: q, 0, y, hg, _ => by
  have := hg.head
  simp; omega
 | d :: q, j + 1, y, hg, h => by
  have ih := zjo q j y hg.tail (by simpa using h)
  simp only [List.set_cons_succ, zz, List.getD_cons_succ, ih, Nat.pow_succ]
  generalize 4294967296 ^ j = p
  rw [Nat.mul_add, Nat.mul_comm p 4294967296, Nat.mul_assoc, Nat.add_assoc]
theorem znr {q : List Int} (hg : Dg q) {i Qv : Nat} (hi : i / 32 < q.length) (hv : V q = Qv * 2 ^ (i + 1)) :
  V (q.set (i / 32) (Go.bits .or .u32 (rd q ((i / 32 : Nat) : Int)) (shl .u32 1 ((i % 32 : Nat) : Int)))) = V q + 2 ^ i ∧ Dg (q.set (i / 32) (Go.bits .or .u32 (rd q ((i / 32 : Nat) : Int)) (shl .u32 1 ((i % 32 : Nat) : Int)))) := by
 have hx := hg.getD (i / 32)
 obtain ⟨X, hX⟩ := Int.eq_ofNat_of_zero_le hx.1
 have hX2 : X < 4294967296 := by omega
 have hd : q.drop (i / 32) = (X : Int) :: q.drop (i / 32 + 1) := by
  rw [List.drop_eq_getElem_cons (by omega)]
  congr 1
  rw [← hX, List.getD_eq_getElem?_getD, List.getElem?_eq_getElem (by omega)]; rfl
 have h1 := zdu hg (i / 32)
 have hp : 0 < 4294967296 ^ (i / 32) := Nat.pow_pos (by omega)
 have e1 : 2 ^ (i + 1) = 4294967296 ^ (i / 32) * 2 ^ (i % 32 + 1) := by rw [Nat.pow_succ, zeo i, Nat.mul_assoc, ← Nat.pow_succ]
 rw [hv, e1, Nat.mul_left_comm, Nat.mul_div_cancel_left _ hp, hd, zz, Int.toNat_natCast] at h1
 have e2 : X % 2 ^ (i % 32 + 1) = 0 := by
  have h3 := congrArg (· % 2 ^ (i % 32 + 1)) h1
  simp only [Nat.mul_mod_left] at h3
  rw [← pw (s := i % 32 + 1) (by omega), Nat.mul_assoc, Nat.add_mul_mod_self_left] at h3
  exact h3
 obtain ⟨z, hz⟩ := Nat.dvd_of_mod_eq_zero e2
 have hlt : 2 ^ (i % 32) < 2 ^ (i % 32 + 1) := Nat.pow_lt_pow_right (by omega) (by omega)
 have hor : X ||| 2 ^ (i % 32) = X + 2 ^ (i % 32) := by rw [hz, ← Nat.two_pow_add_eq_or_of_lt hlt]
 have hple : 2 ^ (i % 32) ≤ 2 ^ 31 := Nat.pow_le_pow_right (by omega) (by omega)
 have hsum : X + 2 ^ (i % 32) < 4294967296 := by
  have h4 := pw (s := i % 32 + 1) (by omega)
  have h5 : z < 2 ^ (32 - (i % 32 + 1)) := by
   apply Nat.lt_of_mul_lt_mul_left (a := 2 ^ (i % 32 + 1)); rw [h4, ← hz]; exact hX2
  have h6 := Nat.mul_le_mul_left (2 ^ (i % 32 + 1)) (Nat.succ_le_of_lt h5)
  rw [h4, Nat.mul_succ, ← hz] at h6
  omega
 have hsh : shl .u32 1 ((i % 32 : Nat) : Int) = ((2 ^ (i % 32) : Nat) : Int) := by
  rw [show (1 : Int) = ((1 : Nat) : Int) from rfl, zl0 1 (i % 32) (by omega), Nat.one_mul, Nat.mod_eq_of_lt (by omega)]
 have zeh : Go.bits .or .u32 (rd q ((i / 32 : Nat) : Int)) (shl .u32 1 ((i % 32 : Nat) : Int)) = q.getD (i / 32) 0 + ((2 ^ (i % 32) : Nat) : Int) := by
  rw [rdn, hX, hsh, u32_or_nat _ _ hX2 (by omega), hor]; simp
 rw [zeh]
 refine ⟨?_, hg.set _ (by omega) ?_⟩
 ·rw [zjo q _ _ hg hi, ← zeo]
 ·rw [hX]
  have := zeQ hsum
  rwa [Int.natCast_add] at this
theorem zff {l : List Int} (h : Nm l) (h0 : l ≠ []) : V l ≠ 0 := fun e => h0 ((zdv h).1 e)
theorem zfm {m n : Nat} : (za6 m n ≥ 0) ↔ n ≤ m := by
 unfold za6; split
 ·constructor <;> intro h <;> omega
 ·split <;> constructor <;> intro h <;> omega
theorem zoj (n i : Nat) : n / 2 ^ i = 2 * (n / 2 ^ (i + 1)) + n / 2 ^ i % 2 := by
 rw [Nat.pow_succ, ← Nat.div_div_eq_div_mul]; omega
theorem ziO {a b : List Int} (ha : Nm a) (hb : Nm b) (la : a.length < 100000000) (lb : b.length < 100000000) : ∀ (i R Qv : Nat) (q : List Int), Dg q → q.length = a.length → i ≤ 32 * a.length → R < V b → V q = Qv * 2 ^ i → V a / 2 ^ i = Qv * V b + R →
  Ev (fun k => zal.l0 k a b q (D R) ((i : Int) - 1)) (D (V a / V b), D (V a % V b))
 | 0, R, Qv, q, hg, hq, hi, hR, hv, hs => by
  refine zf ?_
  simp only [zal.l0]
  refine ze (by omega) (Ev.bind (zdR hg (by omega)) (zh (Ev.now _) ?_))
  simp only [Nat.pow_zero, Nat.mul_one, Nat.div_one] at hv hs
  have h1 : V a / V b = Qv := by
   rw [hs, Nat.mul_comm, Nat.mul_add_div (by omega), Nat.div_eq_of_lt hR, Nat.add_zero]
  have h2 : V a % V b = R := by
   rw [hs, Nat.mul_comm, Nat.mul_add_mod, Nat.mod_eq_of_lt hR]
  rw [h1, h2, hv]
 | i + 1, R, Qv, q, hg, hq, hi, hR, hv, hs => by
  have e0 : ((i + 1 : Nat) : Int) - 1 = (i : Int) := by omega
  have e1 : wrap64 ((i : Int) - 1) = (i : Int) - 1 := zbL (by omega)
  have hbv := zah hb.dg
  have hRl : (D R).length ≤ b.length := zan (Nat.lt_trans hR hbv)
  have hpow : 4294967296 ^ (b.length + 1) = 4294967296 ^ b.length * 4294967296 := Nat.pow_succ ..
  have hdb := zoj (V a) i
  rw [hs] at hdb
  have hbit : V a / 2 ^ i % 2 = 0 ∨ V a / 2 ^ i % 2 = 1 := by omega
  have hup := zcT (zM R) (by omega) 1 (by omega)
  rw [V_D, Nat.pow_one] at hup
  have hr2 : (D (R * 2)).length ≤ b.length + 1 := zan (by rw [hpow]; generalize 4294967296 ^ b.length = p at *; omega)
  have rest : ∀ r : Nat, r = R * 2 + V a / 2 ^ i % 2 → Ev (fun k => zal.j2 k a b q (D r) (i : Int)) (D (V a / V b), D (V a % V b)) := by
   intro r hr
   have hrl : (D r).length ≤ b.length + 1 := zan (by rw [hpow]; generalize 4294967296 ^ b.length = p at *; omega)
   have hs2 : V a / 2 ^ i = 2 * Qv * V b + r := by rw [hdb, hr, Nat.mul_add, Nat.mul_assoc]; omega
   refine zf ?_
   simp only [zal.j2, t32 (n := i) (by omega), m32, e1]
   refine Ev.bind (zly (zv r) hb (by omega)) ?_
   rw [V_D]
   by_cases hc : V b ≤ r
   ·refine zd (zfm.2 hc) ?_
    have hsub := ziG (zv r) hb (by omega) (by rw [V_D]; exact hc)
    rw [V_D] at hsub
    refine Ev.bind hsub (zd nn (zd (by omega) (zd nn (zd nn (zd (by omega) ?_)))))
    have hset := znr hg (i := i) (Qv := Qv) (by omega) hv
    rw [Int.toNat_natCast]
    refine ziO ha hb la lb i (r - V b) (2 * Qv + 1) _ hset.2 (by simp [hq]) (by omega) (by omega) ?_ ?_
    ·rw [hset.1, hv, Nat.pow_succ, Nat.add_mul, Nat.one_mul]
     congr 1
     rw [Nat.mul_comm (2 ^ i), Nat.mul_comm 2 Qv, Nat.mul_assoc]
    ·rw [hs2, Nat.add_mul, Nat.one_mul]; omega
   ·refine ze (fun h => hc (zfm.1 h)) ?_
    refine ziO ha hb la lb i r (2 * Qv) _ hg hq (by omega) (by omega) ?_ hs2
    rw [hv, Nat.pow_succ, Nat.mul_comm (2 ^ i), Nat.mul_comm 2 Qv, Nat.mul_assoc]
  rw [e0]
  refine zf ?_
  simp only [zal.l0]
  refine zd (by omega) (Ev.bind hup (zi (zgS ha.dg (by omega) i (by omega)) ?_))
  rcases hbit with h | h
  ·rw [h]
   exact ze (by omega) (rest _ (by rw [h]; omega))
  ·rw [h]
   refine zd rfl ?_
   have hadd := zfM (a := D (R * 2)) (b := [1]) (zM _) (Dg.cons (by omega) (by omega) Dg.nil) (by omega) (by simp)
   rw [V_D] at hadd
   exact Ev.bind hadd (rest _ (by rw [h]; simp))
theorem zlA {a b : List Int} (ha : Nm a) (hb : Nm b) (la : a.length < 10000000) (lb : b.length < 10000000) (h0 : b ≠ []) : Ev (fun k => zal.f k a b) (D (V a / V b), D (V a % V b)) := by
 unfold zal.f
 by_cases h1 : b.length = 1
 ·obtain ⟨d, rfl⟩ := List.length_eq_one_iff.1 h1
  have hd := hb.dg.head
  have hdne : d ≠ 0 := by
   have h2 := zff hb (by simp)
   simp at h2; omega
  (repeat (first | with_reducible refine ep ?_ | with_reducible refine en ?_))
  have h3 := zlC ha.dg (by omega) (d := d) (by omega)
  have h4 : rd [d] 0 = d := by simp [rd]
  rw [h4]
  refine Ev.bind h3 (zh (Ev.now _) ?_)
  simp
 ·have hla := zaV ha.dg
  have hlb := zaV hb.dg
  have hb0 := zff hb h0
  have hbp := zbx hb0
  refine ze (by omega) (zd nn (zd (by simp; omega) (Ev.bind (zcz ha (by omega)) (Ev.bind (zcz hb (by omega)) ?_))))
  generalize hL : (bl (V a) + 1 - bl (V b)) = left
  have e1 : mx 0 (wrap64 (wrap64 (((bl (V a) : Nat) : Int) - ((bl (V b) : Nat) : Int)) + 1)) = (left : Int) := by
   unfold mx wrap64; split <;> omega
  have e2 : wrap64 ((left : Int) - 1) = (left : Int) - 1 := by unfold wrap64; omega
  simp only [e1, e2, Int.toNat_natCast]
  obtain ⟨x, hx⟩ := zqV ha (by omega) left (by omega)
  refine Ev.bind hx ?_
  have hq : V a / 2 ^ left < V b := by
   have h2 := zc3 hb0
   refine Nat.lt_of_lt_of_le ?_ h2
   rw [Nat.div_lt_iff_lt_mul (zj _), ← Nat.pow_add]
   exact Nat.lt_of_lt_of_le (zP _) (Nat.pow_le_pow_right (by omega) (by omega))
  exact ziO ha hb (by omega) (by omega) left (V a / 2 ^ left) 0 (List.replicate a.length 0) (Dg.zeros _) (by simp) (by omega) hq (by rw [zfi]; omega) (by omega)
theorem zoR {U3 V2 P ul vl Q : Nat} (hP : 0 < P) (hul : ul < P) (hQ : Q * (V2 * P + vl) ≤ U3 * P + ul) : Q * V2 ≤ U3 := by
 have h1 : Q * V2 * P ≤ Q * (V2 * P + vl) := by rw [Nat.mul_add, Nat.mul_assoc]; omega
 have h2 : Q * V2 * P < (U3 + 1) * P := by rw [Nat.add_mul, Nat.one_mul]; omega
 have := Nat.lt_of_mul_lt_mul_right h2
 omega
theorem zoQ {U3 V2 P ul vl g B : Nat} (hP : 0 < P) (hg : g * V2 ≤ U3) (hB : g < B) (hvl : vl < P) (hv : B * P ≤ V2 * P + vl) : g * (V2 * P + vl) < (U3 * P + ul) + (V2 * P + vl) := by
 have h1 : g * V2 * P ≤ U3 * P := Nat.mul_le_mul_right _ hg
 have h2 : g * vl ≤ g * P := Nat.mul_le_mul_left _ (by omega)
 have h3 : g * P < B * P := Nat.mul_lt_mul_of_pos_right hB hP
 rw [Nat.mul_add, ← Nat.mul_assoc]
 omega
theorem zhY {g left v1 v2 top u2 B : Nat} (h : left + g * v1 = top) : g * (v1 * B + v2) ≤ top * B + u2 ↔ g * v2 ≤ left * B + u2 := by
 rw [← h, Nat.mul_add, Nat.add_mul, ← Nat.mul_assoc]; omega
theorem zoP {g left v1 v2 top u2 B : Nat} (h : left + g * v1 = top) (ht : top < v1 * B + B) (hl : B ≤ left) (hv : v2 < B) : g < B ∧ g * (v1 * B + v2) ≤ top * B + u2 := by
 have hg : g < B := by
  rcases Nat.lt_or_ge g B with h1 | h1
  ·exact h1
  ·have := Nat.mul_le_mul_right v1 h1
   rw [Nat.mul_comm B] at this
   omega
 refine ⟨hg, (zhY h).2 ?_⟩
 have h1 : g * v2 ≤ B * B := Nat.mul_le_mul (by omega) (by omega)
 have h2 : B * B ≤ left * B := Nat.mul_le_mul_right _ hl
 omega
theorem za5 {n : Nat} (h : n < 18446744073709551616) : IntKind.u64.wrap (n : Int) = (n : Int) := u64 (by omega) (by omega)
theorem zh6 {a b : Nat} (ha : a < 4294967296) (hb : b < 4294967296) : a * b ≤ 18446744065119617025 := by
 have := Nat.mul_le_mul (show a ≤ 4294967295 by omega) (show b ≤ 4294967295 by omega)
 omega
theorem zk1 (a b : Nat) (ha : a < 4294967296) (hb : b < 4294967296) : Go.bits .or .u64 (IntKind.u64.wrap ((a : Int) * 4294967296)) (b : Int) = ((a * 4294967296 + b : Nat) : Int) := by
 have e : (a : Int) * 4294967296 = ((a * 4294967296 : Nat) : Int) := by omega
 rw [e, za5 (by omega), ← e, zii (by omega) (by omega)]; omega
theorem zmg {u v : List Int} {n v1 v2 u2 top Q : Nat} (hn : 2 ≤ n) (hnb : n < 1000000000) (hv : v.length = n) (hu : u.length = n + 1)
  (h1 : rd v ((n - 1 : Nat) : Int) = (v1 : Int)) (h2 : rd v ((n - 2 : Nat) : Int) = (v2 : Int)) (h3 : rd u ((n - 2 : Nat) : Int) = (u2 : Int))
  (b1 : v1 < 4294967296) (b2 : v2 < 4294967296) (b3 : u2 < 4294967296) (ht : top < v1 * 4294967296 + 4294967296)
  (hQ : Q * (v1 * 4294967296 + v2) ≤ top * 4294967296 + u2) (hQB : Q < 4294967296) {res : Int × List Int}
  (H : ∀ G : Nat, G < 4294967296 → Q ≤ G → G * (v1 * 4294967296 + v2) ≤ top * 4294967296 + u2 → Ev (fun k => zK.l1 k u v n G 0 0 v (v.length : Int) 0) res) :
  ∀ (g left : Nat), Q ≤ g → left + g * v1 = top → left < 4294967296 → g < 18446744073709551616 → Ev (fun k => zK.l0 k u v n g left) res
 | g, left, hg, hl, hlb, hgb => by
  have e1 : wrap64 ((n : Int) - 1) = ((n - 1 : Nat) : Int) := by unfold wrap64; omega
  have e2 : wrap64 ((n : Int) - 2) = ((n - 2 : Nat) : Int) := by unfold wrap64; omega
  have tru : Q < g → Ev (fun k => if 0 ≤ ((n - 1 : Nat) : Int) then (if ((n - 1 : Nat) : Int) < (v.length : Int) then (if (IntKind.u64.wrap ((left : Int) + (v1 : Int))) ≥ 4294967296 then (zK.l1 k u v n (IntKind.u64.wrap ((g : Int) - 1)) 0 0 v (v.length : Int) 0) else (zK.l0 k u v n (IntKind.u64.wrap ((g : Int) - 1)) (IntKind.u64.wrap ((left : Int) + (v1 : Int))))) else none) else none) res := by
   intro hlt
   obtain ⟨g', rfl⟩ : ∃ g', g = g' + 1 := ⟨g - 1, by omega⟩
   have e3 : IntKind.u64.wrap (((g' + 1 : Nat) : Int) - 1) = (g' : Int) := by
    rw [show ((g' + 1 : Nat) : Int) - 1 = (g' : Int) by omega]; exact za5 (by omega)
   have e4 : IntKind.u64.wrap ((left : Int) + (v1 : Int)) = ((left + v1 : Nat) : Int) := by
    rw [← Int.natCast_add]; exact za5 (by omega)
   have hl2 : (left + v1) + g' * v1 = top := by rw [← hl, Nat.add_mul, Nat.one_mul]; omega
   simp only [e3, e4]
   refine zd nn (zd (by omega) ?_)
   by_cases hb : 4294967296 ≤ left + v1
   ·obtain ⟨k1, k2⟩ := zoP (u2 := u2) hl2 ht hb b2
    (repeat (first | with_reducible refine ep ?_ | with_reducible refine en ?_)); exact H g' k1 (by omega) k2
   ·(repeat (first | with_reducible refine ep ?_ | with_reducible refine en ?_)); exact zmg hn hnb hv hu h1 h2 h3 b1 b2 b3 ht hQ hQB H g' (left + v1) (by omega) hl2 (by omega) (by omega)
  refine zf ?_
  simp only [zK.l0, e1, h1, za5 (n := v1) (by omega)]
  by_cases hB : 4294967296 ≤ g
  ·exact zd (by omega) (tru (by omega))
  ·have hm := zh6 (a := g) (b := v2) (by omega) b2
   have e5 : IntKind.u64.wrap ((g : Int) * (v2 : Int)) = ((g * v2 : Nat) : Int) := by
    rw [← Int.natCast_mul]; exact za5 (by omega)
   refine ze (by omega) ?_
   simp only [e2, h2, h3, za5 (n := v2) (by omega), za5 (n := u2) (by omega), e5, zk1 left u2 hlb b3]
   refine zd nn (zd (by omega) (zd nn (zd (by omega) ?_)))
   by_cases hc : g * v2 ≤ left * 4294967296 + u2
   ·exact ze (by have := Int.ofNat_le.2 hc; omega) (H g (by omega) hg ((zhY hl).2 hc))
   ·refine zd (by have := Int.ofNat_lt.2 (Nat.lt_of_not_le hc); omega) (tru ?_)
    rcases Nat.lt_or_ge Q g with h | h
    ·exact h
    ·have : g = Q := by omega
     subst this
     exact absurd ((zhY hl).1 hQ) hc
termination_by g => g
theorem zen (n : Nat) : (4294967296 : Nat) ^ (n + 1) = 4294967296 ^ n * 4294967296 := Nat.pow_succ ..
def bw (x y : Nat) : Nat := if x < y then 1 else 0
def zaR (g : Nat) : List Int → List Int → Nat → Nat → List Int × Nat
 | d :: v, x :: u, c, b =>
  let r := zaR g v u ((c + g * d.toNat) / 4294967296) (bw x.toNat ((c + g * d.toNat) % 4294967296 + b))
  ((x - (((c + g * d.toNat) % 4294967296 : Nat) : Int) - (b : Int)) % 4294967296 :: r.1, r.2)
 | [], x :: u, c, b => ((x - (c : Int) - (b : Int)) % 4294967296 :: u, bw x.toNat (c + b))
 | _, [], c, b => ([], b)
theorem zj4 {x t b : Nat} (hx : x < 4294967296) (ht : t < 4294967296) (hb : b ≤ 1) : (((x : Int) - (t : Int) - (b : Int)) % 4294967296).toNat + t + b = x + bw x (t + b) * 4294967296 := by
 unfold bw; split <;> omega
theorem zjK {g d c : Nat} (hg : g < 4294967296) (hd : d < 4294967296) (hc : c < 4294967296) : (c + g * d) / 4294967296 < 4294967296 := by
 have := zh6 hg hd; omega
theorem zhA (x y : Nat) : bw x y ≤ 1 := by unfold bw; split <;> omega
theorem zh5 {g : Nat} (hg : g < 4294967296) : ∀ (v u : List Int) (c b : Nat), Dg v → Dg u → u.length = v.length + 1 → c < 4294967296 → b ≤ 1 →
  V (zaR g v u c b).1 + g * V v + c + b = V u + (zaR g v u c b).2 * 4294967296 ^ (v.length + 1) ∧ Dg (zaR g v u c b).1 ∧ (zaR g v u c b).1.length = u.length ∧ (zaR g v u c b).2 ≤ 1
 | [], x :: u, c, b, hv, hu, hl, hc, hb => by
  have hx := hu.head
  have : u = [] := List.eq_nil_of_length_eq_zero (by simpa using hl)
  subst this
  obtain ⟨X, rfl⟩ := Int.eq_ofNat_of_zero_le hx.1
  have h := zj4 (x := X) (t := c) (b := b) (by omega) hc hb
  simp only [zaR, zz, zai, List.length_nil, Int.toNat_natCast, Nat.zero_add, Nat.pow_one]
  refine ⟨by omega, Dg.cons (by omega) (by omega) Dg.nil, rfl, zhA _ _⟩
 | d :: v, x :: u, c, b, hv, hu, hl, hc, hb => by
  have hx := hu.head; have hd := hv.head
  obtain ⟨X, rfl⟩ := Int.eq_ofNat_of_zero_le hx.1
  obtain ⟨Y, rfl⟩ := Int.eq_ofNat_of_zero_le hd.1
  have hcl := zjK (d := Y) hg (by omega) hc
  have h := zj4 (x := X) (t := (c + g * Y) % 4294967296) (b := b) (by omega) (by omega) hb
  have ih := zh5 hg v u _ _ hv.tail hu.tail (by simpa using hl) hcl (zhA X ((c + g * Y) % 4294967296 + b))
  have hdm := Nat.div_add_mod (c + g * Y) 4294967296
  simp only [zaR, zz, List.length_cons, Int.toNat_natCast]
  generalize zaR g v u ((c + g * Y) / 4294967296) (bw X ((c + g * Y) % 4294967296 + b)) = r at *
  refine ⟨?_, Dg.cons (by omega) (by omega) ih.2.1, by rw [ih.2.2.1], ih.2.2.2⟩
  have e1 := ih.1
  rw [zen (v.length + 1), Nat.mul_add g, Nat.mul_left_comm g]
  generalize 4294967296 ^ (v.length + 1) = p at *
  rw [← Nat.mul_assoc r.2]
  generalize r.2 * p = rp at *
  generalize g * V v = gv at *
  generalize g * Y = gy at *
  generalize bw X ((c + gy) % 4294967296 + b) = o at *
  omega
def zb5 : List Int → List Int → Nat → List Int
 | d :: v, x :: u, c => (x + d + (c : Int)) % 4294967296 :: zb5 v u ((x.toNat + d.toNat + c) / 4294967296)
 | [], x :: u, c => (x + (c : Int)) % 4294967296 :: u
 | _, [], c => []
theorem zjr : ∀ (v u : List Int) (c : Nat), Dg v → Dg u → u.length = v.length + 1 → c ≤ 1 →
  (∃ o : Nat, V (zb5 v u c) + o * 4294967296 ^ (v.length + 1) = V u + V v + c) ∧ Dg (zb5 v u c) ∧ (zb5 v u c).length = u.length
 | [], x :: u, c, hv, hu, hl, hc => by
  have hx := hu.head
  have : u = [] := List.eq_nil_of_length_eq_zero (by simpa using hl)
  subst this
  obtain ⟨X, rfl⟩ := Int.eq_ofNat_of_zero_le hx.1
  simp only [zb5, zz, zai, List.length_nil, Int.toNat_natCast, Nat.zero_add, Nat.pow_one]
  refine ⟨⟨(X + c) / 4294967296, by omega⟩, Dg.cons (by omega) (by omega) Dg.nil, rfl⟩
 | d :: v, x :: u, c, hv, hu, hl, hc => by
  have hx := hu.head; have hd := hv.head
  obtain ⟨X, rfl⟩ := Int.eq_ofNat_of_zero_le hx.1
  obtain ⟨Y, rfl⟩ := Int.eq_ofNat_of_zero_le hd.1
  have ih := zjr v u ((X + Y + c) / 4294967296) hv.tail hu.tail (by simpa using hl) (by omega)
  simp only [zb5, zz, List.length_cons, Int.toNat_natCast]
  generalize zb5 v u ((X + Y + c) / 4294967296) = r at *
  obtain ⟨⟨o, e1⟩, e2, e3⟩ := ih
  refine ⟨⟨o, ?_⟩, Dg.cons (by omega) (by omega) e2, by rw [e3]⟩
  rw [zen (v.length + 1)]
  generalize 4294967296 ^ (v.length + 1) = p at *
  rw [← Nat.mul_assoc o]
  generalize o * p = rp at *
  omega
theorem zmi (Vl : List Int) (hV : Dg Vl) (hl : Vl.length < 1000000000) (G : Nat) (hG0 : 0 < G) (hG : G < 4294967297) : ∀ (v pv done u : List Int) (c : Nat), Vl = pv ++ v → done.length = pv.length → u.length = v.length + 1 → Dg u → c ≤ 1 →
  Ev (fun k => zK.l2 k (done ++ u) Vl.length G c Vl Vl.length pv.length) (((G - 1 : Nat) : Int), done ++ zb5 v u c)
 | [], pv, done, u, c, he, hd, hlu, hu, hc => by
  have hlen : Vl.length = pv.length := by rw [he]; simp
  obtain ⟨x, rfl⟩ := List.length_eq_one_iff.1 (show u.length = 1 by simpa using hlu)
  have hx := hu.head
  refine zf ?_
  simp only [zK.l2]
  (repeat (first | with_reducible refine ep ?_ | with_reducible refine en ?_))
  refine zh (Ev.now _) ?_
  have e3 : IntKind.u64.wrap ((G : Int) - 1) = ((G - 1 : Nat) : Int) := by
   rw [show (G : Int) - 1 = ((G - 1 : Nat) : Int) by omega]; exact za5 (by omega)
  rw [e3, z8 (xs := done) (ys := []) (y := x) (by omega), zbJ (by omega)]
  simp [zb5]; omega
 | d :: v, pv, done, u, c, he, hd, hlu, hu, hc => by
  have hlen : Vl.length = pv.length + 1 + v.length := by rw [he]; simp; omega
  obtain ⟨x, u, rfl⟩ := List.exists_cons_of_ne_nil (show u ≠ [] by intro e; rw [e] at hlu; simp at hlu)
  have hx := hu.head
  have hdd : 0 ≤ d ∧ d < 4294967296 := by rw [he] at hV; exact hV.right.head
  refine zf ?_
  simp only [zK.l2, zaf (n := pv.length) (by omega)]
  have h1 : rd Vl (pv.length : Int) = d := by rw [he]; exact z8 rfl
  have h2 : rd (done ++ x :: u) (pv.length : Int) = x := z8 (by omega)
  rw [h1, h2]
  (repeat (first | with_reducible refine ep ?_ | with_reducible refine en ?_))
  refine zi (znc hx hdd (by omega)) ?_
  rw [zbJ (by omega)]
  have := zmi Vl hV hl G hG0 hG v (pv ++ [d]) (done ++ [(x + d + (c : Int)) % 4294967296]) u ((x.toNat + d.toNat + c) / 4294967296) (by rw [he]; simp) (by simp [hd]) (by simpa using hlu) hu.tail (by omega)
  rw [List.length_append, List.length_singleton] at this
  have e4 : (x + d + (c : Int)) / 4294967296 = (((x.toNat + d.toNat + c) / 4294967296 : Nat) : Int) := by omega
  simp only [e4]
  (repeat (first | with_reducible refine ep ?_ | with_reducible refine en ?_))
  refine zh this ?_
  simp [zb5]
theorem zjn : ∀ (a b : List Int), Dg a → Dg b → a.length = b.length → V a = V b → a = b
 | [], [], _, _, _, _ => rfl
 | [], y :: b, _, _, h, _ => by simp at h
 | x :: a, [], _, _, h, _ => by simp at h
 | x :: a, y :: b, ha, hb, h, e => by
  have h1 := ha.head; have h2 := hb.head
  simp only [zz] at e
  have h3 : x = y := by omega
  subst h3
  rw [zjn a b ha.tail hb.tail (by simpa using h) (by omega)]
def Dk (k n : Nat) : List Int := D n ++ List.replicate (k - (D n).length) 0
theorem zhl (k n : Nat) : V (Dk k n) = n := by unfold Dk; rw [zaO, zfi, V_D]; simp
theorem zje (k n : Nat) : Dg (Dk k n) := (zM n).app (Dg.zeros _)
theorem zjg {k n : Nat} (h : n < 4294967296 ^ k) : (Dk k n).length = k := by
 have := zan h
 unfold Dk; simp; omega
theorem zjf {k n : Nat} {l : List Int} (h : Dg l) (hl : l.length = k) (hv : V l = n) : l = Dk k n := by
 have hk : n < 4294967296 ^ k := by rw [← hv, ← hl]; exact zah h
 exact zjn _ _ h (zje k n) (by rw [hl, zjg hk]) (by rw [hv, zhl])
theorem zjJ {X Y : Nat} : (if (X : Int) < (Y : Int) then (1 : Int) else 0) = ((bw X Y : Nat) : Int) := by
 unfold bw; split <;> split <;> omega
theorem zmh (Vl : List Int) (hV : Dg Vl) (hl : Vl.length < 1000000000) (G : Nat) (hG : G < 4294967296) : ∀ (v pv done u : List Int) (c b : Nat), Vl = pv ++ v → done.length = pv.length → Dg done → u.length = v.length + 1 → Dg u → c < 4294967296 → b ≤ 1 → ((zaR G v u c b).2 ≠ 0 → 0 < G) →
  Ev (fun k => zK.l1 k (done ++ u) Vl Vl.length G b c Vl Vl.length pv.length) (if (zaR G v u c b).2 = 0 then ((G : Int), done ++ (zaR G v u c b).1) else (((G - 1 : Nat) : Int), zb5 Vl (done ++ (zaR G v u c b).1) 0))
 | [], pv, done, u, c, b, he, hd, hdg, hlu, hu, hc, hb, hG0 => by
  have hlen : Vl.length = pv.length := by rw [he]; simp
  have hms := zh5 hG [] u c b Dg.nil hu hlu hc hb
  obtain ⟨x, rfl⟩ := List.length_eq_one_iff.1 (show u.length = 1 by simpa using hlu)
  have hx := hu.head
  obtain ⟨X, rfl⟩ := Int.eq_ofNat_of_zero_le hx.1
  have e0 : (c : Int) % 4294967296 = (c : Int) := by omega
  have e1 : (X : Int) - (c : Int) - (b : Int) = (X : Int) - (c : Int) - (b : Int) := rfl
  have e2 : (G : Int) % 4294967296 = (G : Int) := by omega
  refine zf ?_
  simp only [zK.l1, e0]
  (repeat (first | with_reducible refine ep ?_ | with_reducible refine en ?_))
  rw [z8 (xs := done) (ys := []) (y := (X : Int)) (by omega)]
  refine zi (zmj hx (by omega) (by omega)) ?_
  rw [zbJ (by omega), ← Int.natCast_add, zjJ]
  simp only [Option.bind_some, e2]
  have hm : zaR G [] [(X : Int)] c b = ([((X : Int) - (c : Int) - (b : Int)) % 4294967296], bw X (c + b)) := by simp [zaR]
  rw [hm] at hms hG0 ⊢
  have hap : done ++ [((X : Int) - (c : Int) - (b : Int)) % 4294967296] ++ [] = done ++ [((X : Int) - (c : Int) - (b : Int)) % 4294967296] := List.append_nil _
  rw [hap]
  by_cases h0 : bw X (c + b) = 0
  ·simp only [h0]
   (repeat (first | with_reducible refine ep ?_ | with_reducible refine en ?_))
   exact zh (Ev.now _) (by simp)
  ·simp only [if_neg h0]
   (repeat (first | with_reducible refine ep ?_ | with_reducible refine en ?_))
   have := zmi Vl hV hl G (hG0 h0) (by omega) Vl [] [] (done ++ [((X : Int) - (c : Int) - (b : Int)) % 4294967296]) 0 rfl rfl (by simp; omega) (hdg.app hms.2.1) (by omega)
   simpa using this
 | d :: v, pv, done, u, c, b, he, hd, hdg, hlu, hu, hc, hb, hG0 => by
  have hlen : Vl.length = pv.length + 1 + v.length := by rw [he]; simp; omega
  obtain ⟨x, u, rfl⟩ := List.exists_cons_of_ne_nil (show u ≠ [] by intro e; rw [e] at hlu; simp at hlu)
  have hx := hu.head
  have hdd : 0 ≤ d ∧ d < 4294967296 := by rw [he] at hV; exact hV.right.head
  obtain ⟨X, rfl⟩ := Int.eq_ofNat_of_zero_le hx.1
  obtain ⟨Y, rfl⟩ := Int.eq_ofNat_of_zero_le hdd.1
  have hcl := zjK (d := Y) hG (by omega) hc
  have hm64 := zh6 (a := G) (b := Y) hG (by omega)
  have h1 : rd Vl (pv.length : Int) = (Y : Int) := by rw [he]; exact z8 rfl
  have h2 : rd (done ++ (X : Int) :: u) (pv.length : Int) = (X : Int) := z8 (by omega)
  have e5 : IntKind.u64.wrap ((c : Int) + (IntKind.u64.wrap ((G : Int) * (IntKind.u64.wrap (Y : Int))))) = ((c + G * Y : Nat) : Int) := by
   rw [za5 (n := Y) (by omega), ← Int.natCast_mul, za5 (by omega), ← Int.natCast_add]
   exact za5 (by omega)
  have e6 : ((c + G * Y : Nat) : Int) % 4294967296 = (((c + G * Y) % 4294967296 : Nat) : Int) := by generalize c + G * Y = t; omega
  have e7 : ((c + G * Y : Nat) : Int) / 4294967296 = (((c + G * Y) / 4294967296 : Nat) : Int) := by generalize c + G * Y = t; omega
  refine zf ?_
  simp only [zK.l1, h1, h2, e5, e6, e7, zaf (n := pv.length) (by omega)]
  (repeat (first | with_reducible refine ep ?_ | with_reducible refine en ?_))
  refine zi (zmj hx (by omega) (by omega)) ?_
  rw [zbJ (by omega), ← Int.natCast_add, zjJ]
  have hbd : 0 ≤ ((X : Int) - (((c + G * Y) % 4294967296 : Nat) : Int) - (b : Int)) % 4294967296 ∧ ((X : Int) - (((c + G * Y) % 4294967296 : Nat) : Int) - (b : Int)) % 4294967296 < 4294967296 := by omega
  have := zmh Vl hV hl G hG v (pv ++ [(Y : Int)]) (done ++ [((X : Int) - (((c + G * Y) % 4294967296 : Nat) : Int) - (b : Int)) % 4294967296]) u ((c + G * Y) / 4294967296) (bw X ((c + G * Y) % 4294967296 + b)) (by rw [he]; simp) (by simp [hd]) (hdg.app (Dg.cons hbd.1 hbd.2 Dg.nil)) (by simpa using hlu) hu.tail hcl (zhA _ _) (by simpa [zaR] using hG0)
  rw [List.length_append, List.length_singleton] at this
  (repeat (first | with_reducible refine ep ?_ | with_reducible refine en ?_))
  refine zh this ?_
  simp only [zaR, Int.toNat_natCast, List.append_assoc, List.singleton_append]
  rfl
theorem zrY (T U2 P w : Nat) : T * (P * 4294967296) ≤ (T * 4294967296 + U2) * P + w := by
 rw [Nat.mul_comm P, ← Nat.mul_assoc, Nat.add_mul, Nat.add_assoc]; exact Nat.le_add_right _ _
theorem dm1 (Q a b c : Nat) : Q * a * c ≤ Q * (a * c + b) := by rw [Nat.mul_add, ← Nat.mul_assoc]; exact Nat.le_add_right _ _
theorem zrK (a b : Nat) : Int.tdiv (a : Int) (b : Int) = ((a / b : Nat) : Int) := rfl
theorem zfU (a b : Nat) : Int.tmod (a : Int) (b : Int) = ((a % b : Nat) : Int) := rfl
theorem ziU {v : List Int} {n : Nat} (h : v.length = n + 2) : ∃ vl v2 v1, v = vl ++ [v2, v1] ∧ vl.length = n := by
 rcases List.eq_nil_or_concat v with rfl | ⟨a, d, rfl⟩
 ·simp at h
 rcases List.eq_nil_or_concat a with rfl | ⟨b, e, rfl⟩
 ·simp at h
 exact ⟨b, e, d, by simp, by simp at h; omega⟩
theorem zrw {u : List Int} {n : Nat} (h : u.length = n + 3) : ∃ ul u2 u1 u0, u = ul ++ [u2, u1, u0] ∧ ul.length = n := by
 rcases List.eq_nil_or_concat u with rfl | ⟨a, d, rfl⟩
 ·simp at h
 obtain ⟨ul, u2, u1, rfl, h2⟩ := ziU (v := a) (n := n) (by simp at h; omega)
 exact ⟨ul, u2, u1, d, by simp, h2⟩
theorem zfL {l : List Int} {n : Nat} {pre post : List Int} {y : Int} (h : l = pre ++ y :: post) (hn : pre.length = n) : rd l (n : Int) = y := by
 rw [h]; exact z8 (by omega)
theorem zpS {u v : List Int} {m : Nat} (hv : Dg v) (hu : Dg u) (lv : v.length = m + 2) (lu : u.length = m + 3) (hm : m < 100000000) (htop : 4294967296 ^ (m + 1) ≤ V v) (hlt : V u < V v * 4294967296) :
  Ev (fun k => zK.f k u v) (((V u / V v : Nat) : Int), Dk (m + 3) (V u % V v)) := by
 obtain ⟨vl, v2, v1, rfl, lvl⟩ := ziU lv
 obtain ⟨ul, u2, u1, u0, rfl, lul⟩ := zrw lu
 have d2 := hv v2 (by simp); have d1 := hv v1 (by simp)
 have c2 := hu u2 (by simp); have c1 := hu u1 (by simp); have c0 := hu u0 (by simp)
 obtain ⟨V1, rfl⟩ := Int.eq_ofNat_of_zero_le d1.1
 obtain ⟨V2, rfl⟩ := Int.eq_ofNat_of_zero_le d2.1
 obtain ⟨U2, rfl⟩ := Int.eq_ofNat_of_zero_le c2.1
 obtain ⟨U1, rfl⟩ := Int.eq_ofNat_of_zero_le c1.1
 obtain ⟨U0, rfl⟩ := Int.eq_ofNat_of_zero_le c0.1
 have hP : 0 < 4294967296 ^ m := Nat.pow_pos (by omega)
 have hvl := zah hv.left; rw [lvl] at hvl
 have hul := zah hu.left; rw [lul] at hul
 have eV : V (vl ++ [(V2 : Int), (V1 : Int)]) = (V1 * 4294967296 + V2) * 4294967296 ^ m + V vl := by
  rw [zaO, lvl]; simp only [zz, zai, Int.toNat_natCast]
  rw [Nat.mul_comm (4294967296 ^ m), Nat.add_comm, show V2 + 4294967296 * (V1 + 4294967296 * 0) = V1 * 4294967296 + V2 by omega]
 have eU : V (ul ++ [(U2 : Int), (U1 : Int), (U0 : Int)]) = ((U0 * 4294967296 + U1) * 4294967296 + U2) * 4294967296 ^ m + V ul := by
  rw [zaO, lul]; simp only [zz, zai, Int.toNat_natCast]
  rw [Nat.mul_comm (4294967296 ^ m), Nat.add_comm, show U2 + 4294967296 * (U1 + 4294967296 * (U0 + 4294967296 * 0)) = (U0 * 4294967296 + U1) * 4294967296 + U2 by omega]
 have hpm := zen m
 have hvv := zah hv; rw [lv] at hvv
 have hvpos : 0 < V (vl ++ [(V2 : Int), (V1 : Int)]) := Nat.lt_of_lt_of_le (by rw [hpm]; omega) htop
 have hms0 := fun G (hG : G < 4294967296) => zh5 (g := G) hG (vl ++ [(V2 : Int), (V1 : Int)]) (ul ++ [(U2 : Int), (U1 : Int), (U0 : Int)]) 0 0 hv hu (by rw [lv, lu]) (by omega) (by omega)
 have hab0 := fun r (hr : Dg r) (hl : r.length = m + 3) => zjr (vl ++ [(V2 : Int), (V1 : Int)]) r 0 hv hr (by rw [lv, hl]) (by omega)
 have hl1 := fun G (hG : G < 4294967296) => zmh (vl ++ [(V2 : Int), (V1 : Int)]) hv (by omega) G hG (vl ++ [(V2 : Int), (V1 : Int)]) [] [] (ul ++ [(U2 : Int), (U1 : Int), (U0 : Int)]) 0 0 rfl rfl Dg.nil (by rw [lv, lu]) hu (by omega) (by omega)
 have r1 : rd (vl ++ [(V2 : Int), (V1 : Int)]) ((m + 1 : Nat) : Int) = (V1 : Int) := zfL (pre := vl ++ [(V2 : Int)]) (post := []) (by simp) (by simp [lvl])
 have r2 : rd (vl ++ [(V2 : Int), (V1 : Int)]) ((m : Nat) : Int) = (V2 : Int) := zfL (pre := vl) (post := [(V1 : Int)]) rfl lvl
 have s2 : rd (ul ++ [(U2 : Int), (U1 : Int), (U0 : Int)]) ((m : Nat) : Int) = (U2 : Int) := zfL (pre := ul) (post := [(U1 : Int), (U0 : Int)]) rfl lul
 have s1 : rd (ul ++ [(U2 : Int), (U1 : Int), (U0 : Int)]) ((m + 1 : Nat) : Int) = (U1 : Int) := zfL (pre := ul ++ [(U2 : Int)]) (post := [(U0 : Int)]) (by simp) (by simp [lul])
 have s0 : rd (ul ++ [(U2 : Int), (U1 : Int), (U0 : Int)]) ((m + 2 : Nat) : Int) = (U0 : Int) := zfL (pre := ul ++ [(U2 : Int), (U1 : Int)]) (post := []) (by simp) (by simp [lul])
 generalize hvE : vl ++ [(V2 : Int), (V1 : Int)] = v at *
 generalize huE : ul ++ [(U2 : Int), (U1 : Int), (U0 : Int)] = u at *
 have hv1 : 0 < V1 := by
  rcases Nat.eq_zero_or_pos V1 with h | h
  ·exfalso
   subst h
   have h3 : (0 * 4294967296 + V2) * 4294967296 ^ m + V vl < 4294967296 * 4294967296 ^ m := by
    have h4 : (V2 + 1) * 4294967296 ^ m ≤ 4294967296 * 4294967296 ^ m := Nat.mul_le_mul_right _ (by omega)
    rw [Nat.add_mul] at h4
    rw [Nat.zero_mul, Nat.zero_add]; omega
   rw [← eV, Nat.mul_comm, ← hpm] at h3
   omega
  ·exact h
 have hQB : V u / V v < 4294967296 := by rw [Nat.div_lt_iff_lt_mul hvpos, Nat.mul_comm]; exact hlt
 have hQ0 : V u / V v * V v ≤ V u := Nat.div_mul_le_self _ _
 have hR : V u % V v < V v := Nat.mod_lt _ hvpos
 have hdm : V v * (V u / V v) + V u % V v = V u := Nat.div_add_mod _ _
 have hdl0 : ∀ g, g * V v ≤ V u → g ≤ V u / V v := fun g h => (Nat.le_div_iff_mul_le hvpos).2 h
 generalize V u / V v = Qq at *
 generalize V u % V v = Rr at *
 have hQ2 : Qq * (V1 * 4294967296 + V2) ≤ (U0 * 4294967296 + U1) * 4294967296 + U2 := by
  refine zoR (vl := V vl) hP hul ?_
  rw [← eV, ← eU]; exact hQ0
 have htl : U0 * 4294967296 + U1 < V1 * 4294967296 + 4294967296 := by
  have h1 : (U0 * 4294967296 + U1) * (4294967296 ^ m * 4294967296) < (V1 * 4294967296 + 4294967296) * (4294967296 ^ m * 4294967296) := by
   have h2 : (U0 * 4294967296 + U1) * (4294967296 ^ m * 4294967296) ≤ V u := by
    rw [eU]; exact zrY _ _ _ _
   have h3 : V v * 4294967296 ≤ (V1 * 4294967296 + 4294967296) * (4294967296 ^ m * 4294967296) := by
    rw [← Nat.mul_assoc]
    refine Nat.mul_le_mul_right _ ?_
    rw [eV]
    have h4 : (V1 * 4294967296 + V2 + 1) * 4294967296 ^ m ≤ (V1 * 4294967296 + 4294967296) * 4294967296 ^ m := Nat.mul_le_mul_right _ (by omega)
    rw [Nat.add_mul _ 1, Nat.one_mul] at h4
    omega
   omega
  exact Nat.lt_of_mul_lt_mul_right h1
 have H : ∀ G : Nat, G < 4294967296 → Qq ≤ G → G * (V1 * 4294967296 + V2) ≤ (U0 * 4294967296 + U1) * 4294967296 + U2 → Ev (fun k => zK.l1 k u v ((m + 2 : Nat) : Int) G 0 0 v (v.length : Int) 0) (((Qq : Nat) : Int), Dk (m + 3) (Rr)) := by
  intro G hG hge hg2
  have hlow : G * V v < V u + V v := by
   have := zoQ (ul := V ul) (B := 4294967296) hP hg2 hG hvl (by rw [← eV, Nat.mul_comm, ← hpm]; exact htop)
   rwa [← eV, ← eU] at this
  have hGQ : G = Qq ∨ G = Qq + 1 := by
   have h1 : (G - 1) * V v ≤ V u := by
    rcases Nat.eq_zero_or_pos G with h | h
    ·subst h; simp
    ·obtain ⟨g, rfl⟩ : ∃ g, G = g + 1 := ⟨G - 1, by omega⟩
     rw [Nat.add_mul, Nat.one_mul] at hlow
     simp; omega
   have := hdl0 _ h1
   omega
  obtain ⟨m1, m2, m3, m4⟩ := hms0 G hG
  have hl := hl1 G hG
  rw [lv] at m1
  rw [lu] at m3
  have m5 := zah m2; rw [m3] at m5
  have ab := hab0 _ m2 m3
  rw [lv] at ab
  generalize zaR G v u 0 0 = r at *
  obtain ⟨⟨o, ab1⟩, ab2, ab3⟩ := ab
  have ab4 := zah ab2; rw [ab3, m3] at ab4
  rw [show m + 2 + 1 = m + 3 from rfl] at m1 ab1
  have hvM : V v < 4294967296 ^ (m + 3) := by
   rw [zen (m + 2)]; omega
  generalize hM : 4294967296 ^ (m + 3) = M at *
  have hgv : ∀ q, q * V v = V v * q := fun q => Nat.mul_comm _ _
  have key : (if r.2 = 0 then ((G : Int), [] ++ r.1) else (((G - 1 : Nat) : Int), zb5 v ([] ++ r.1) 0)) = (((Qq : Nat) : Int), Dk (m + 3) (Rr)) ∧ (r.2 ≠ 0 → 0 < G) := by
   have hmul : G = Qq + 1 → G * V v = V v * (Qq) + V v := fun h => by rw [h, Nat.mul_comm, Nat.mul_add, Nat.mul_one]
   have hmul0 : G = Qq → G * V v = V v * (Qq) := fun h => by rw [Nat.mul_comm, h]
   by_cases h0 : r.2 = 0
   ·rw [h0, Nat.zero_mul] at m1
    have hG2 : G = Qq := by
     rcases hGQ with h | h
     ·exact h
     ·have := hmul h; omega
    refine ⟨?_, fun h => absurd h0 h⟩
    rw [if_pos h0, List.nil_append, zjf m2 m3 (n := Rr) (by have := hmul0 hG2; omega), ← hG2]
   ·have hr1 : r.2 = 1 := by omega
    rw [hr1, Nat.one_mul] at m1
    have hG2 : G = Qq + 1 := by
     rcases hGQ with h | h
     ·exfalso; have := hmul0 h; omega
     ·exact h
    have hmm := hmul hG2
    refine ⟨?_, fun _ => by omega⟩
    have ho : o = 1 := by
     rcases Nat.lt_or_ge o 1 with h | h
     ·have : o = 0 := by omega
      subst this; omega
     ·rcases Nat.lt_or_ge 1 o with h2 | h2
      ·have := Nat.mul_le_mul_right M h2; omega
      ·omega
    subst ho
    rw [if_neg h0, List.nil_append, zjf ab2 (by rw [ab3, m3]) (n := Rr) (by omega)]
    congr 2; omega
  have hl2 := hl key.2
  rw [key.1] at hl2
  rw [lv] at hl2 ⊢
  simpa using hl2
 unfold zK.f
 have e1 : wrap64 (((m + 2 : Nat) : Int) - 1) = ((m + 1 : Nat) : Int) := by unfold wrap64; omega
 simp only [lv, lu, e1, r1, s1, s0]
 clear e1
 rw [za5 (n := U0) (by omega), za5 (n := U1) (by omega), za5 (n := V1) (by omega), zk1 U0 U1 (by omega) (by omega)]
 (repeat (first | with_reducible refine ep ?_ | with_reducible refine en ?_))
 have hdl : (U0 * 4294967296 + U1) / V1 ≤ U0 * 4294967296 + U1 := Nat.div_le_self _ _
 rw [zrK, zfU, za5 (n := (U0 * 4294967296 + U1) / V1) (by omega)]
 have hml : (U0 * 4294967296 + U1) % V1 < V1 := Nat.mod_lt _ hv1
 have hdm2 := Nat.mod_add_div (U0 * 4294967296 + U1) V1
 refine zmg (n := m + 2) (top := U0 * 4294967296 + U1) (Q := Qq) (by omega) (by omega) lv lu r1 r2 s2 (by omega) (by omega) (by omega) htl hQ2 hQB H _ _ ?_ ?_ (by omega) (by omega)
 ·rw [Nat.le_div_iff_mul_le hv1]
  have h1 : Qq * V1 * 4294967296 ≤ Qq * (V1 * 4294967296 + V2) := dm1 _ _ _ _
  have h2 := Nat.le_trans h1 hQ2
  generalize Qq * V1 = z at *
  omega
 ·rw [Nat.mul_comm _ V1]; exact hdm2
theorem zhq {l : List Int} (h : Dg l) {n : Nat} (hn : n ≤ l.length) : V (l.take n) = V l % 4294967296 ^ n := by
 have e : V l = V (l.take n) + 4294967296 ^ n * V (l.drop n) := by
  conv => lhs; rw [← List.take_append_drop n l, zaO, List.length_take, Nat.min_eq_left hn]
 rw [e, Nat.add_mul_mod_self_left, Nat.mod_eq_of_lt (zfg h hn)]
theorem zpv {x : Int} (h : 0 ≤ x ∧ x < 4294967296) : Ev (fun k => zeC.f k x) ((32 - bl x.toNat : Nat) : Int) := by
 have hb : bl x.toNat ≤ 32 := zI (by omega)
 unfold zeC.f
 refine Ev.bind (zkq h) (zh (Ev.now _) ?_)
 unfold wrap64; omega
theorem zky {a v : List Int} (s : Int) (ha : a.length < 10000000) {res : List Int × List Int} : ∀ (d : Nat) (u : List Int), u.length + d = a.length + 1 → v.length ≤ a.length →
  Ev (fun k => zas.l1 k s v (u ++ List.replicate d 0) v.length (List.replicate (a.length + 1 - v.length) 0) (((a.length + 1 - v.length : Nat) : Int) - 1)) res →
  Ev (fun k => zas.l0 k a s v u) res
 | 0, u, hu, hv, H => by
  refine zf ?_
  have e1 : wrap64 ((u.length : Int) - (v.length : Int)) = ((a.length + 1 - v.length : Nat) : Int) := by unfold wrap64; omega
  have e2 : wrap64 ((((List.replicate (a.length + 1 - v.length) (0 : Int)).length : Nat) : Int) - 1) = ((a.length + 1 - v.length : Nat) : Int) - 1 := by rw [List.length_replicate]; unfold wrap64; omega
  simp only [zas.l0, e1, Int.toNat_natCast, Option.bind_some, e2]
  (repeat (first | with_reducible refine ep ?_ | with_reducible refine en ?_))
  simpa using H
 | d + 1, u, hu, hv, H => by
  refine zf ?_
  simp only [zas.l0]
  (repeat (first | with_reducible refine ep ?_ | with_reducible refine en ?_))
  refine zky s ha d (u ++ [0]) (by simp; omega) hv ?_
  have e : u ++ [0] ++ List.replicate d 0 = u ++ List.replicate (d + 1) 0 := by rw [List.append_assoc, List.replicate_succ]; rfl
  rw [e]; exact H
theorem zj5 (w p : Nat) : w = p * (w / p) + w % p := (Nat.div_add_mod w p).symm
theorem zpo {B W Y T t R p Vu X L : Nat} (hW : W = T * (Y * (p * B)) + Vu) (hVu : Vu = p * X + L) (hX : X = Y * t + R) : W = (t + B * T) * (Y * p) + (L + p * R) := by
 rw [hW, hVu, hX, Nat.mul_add, Nat.add_mul]
 have e1 : T * (Y * (p * B)) = B * T * (Y * p) := by ac_rfl
 have e2 : p * (Y * t) = t * (Y * p) := by ac_rfl
 rw [e1, e2]; omega
def Pw (n M : Nat) : Prop := M = 4294967296 ^ n
theorem Pw.up {n M x : Nat} (hM : Pw n M) (h : x < M * 4294967296) : x < 4294967296 ^ (n + 1) := by rw [zen, ← hM]; exact h
theorem Pw.at {n M x : Nat} (hM : Pw n M) (h : x < M) : x < 4294967296 ^ n := by rw [← hM]; exact h
def Top (v : List Int) (m : Nat) : Prop := 4294967296 ^ (m + 1) ≤ V v
theorem Top.pos {v : List Int} {m : Nat} (h : Top v m) : 0 < V v := Nat.lt_of_lt_of_le (Nat.pow_pos (by omega)) h
theorem zpn {R Y p L : Nat} (hR : R < Y) (hL : L < p) : L + p * R < Y * p := by
 have := Nat.mul_le_mul_left p (Nat.succ_le_of_lt hR)
 rw [Nat.mul_succ, Nat.mul_comm p Y] at this
 omega
theorem w3 {i m : Nat} (h1 : i < 100000000) (h2 : m < 100000000) : wrap64 (wrap64 ((i : Int) + ((m + 2 : Nat) : Int)) + 1) = ((i + (m + 3) : Nat) : Int) := by unfold wrap64; omega
def Inv (W T Y p Vu : Nat) : Prop := W = T * (Y * p) + Vu ∧ Vu < Y * p
theorem Inv.next {B W T Y p Vu X t R L : Nat} (h : Inv W T Y (p * B) Vu) (h1 : Vu = p * X + L) (h2 : X = Y * t + R) (h3 : R < Y) (h4 : L < p) : Inv W (t + B * T) Y p (L + p * R) :=
 ⟨zpo h.1 h1 h2, zpn h3 h4⟩
theorem Inv.quo {W T Y p B Vu : Nat} (h : Inv W T Y (p * B) Vu) (hp : 0 < p) : Vu / p < Y * B := by
 rw [Nat.div_lt_iff_lt_mul hp, Nat.mul_assoc, Nat.mul_comm B p]; exact h.2
theorem Inv.succ {W T Y i Vu : Nat} (h : Inv W T Y (4294967296 ^ (i + 1)) Vu) : Inv W T Y (4294967296 ^ i * 4294967296) Vu := by rw [← zen]; exact h
theorem Inv.end {W T Y Vu : Nat} (h : Inv W T Y (4294967296 ^ 0) Vu) (hp : 0 < Y) : W / Y = T ∧ W % Y = Vu ∧ Vu < Y := by
 obtain ⟨h1, h2⟩ := h
 rw [Nat.pow_zero, Nat.mul_one] at h1 h2
 exact ⟨by rw [h1, Nat.mul_comm, Nat.mul_add_div hp, Nat.div_eq_of_lt h2, Nat.add_zero], by rw [h1, Nat.mul_comm, Nat.mul_add_mod, Nat.mod_eq_of_lt h2], h2⟩
theorem zqi {u : List Int} {i m N : Nat} (hu : Dg u) (lu : u.length = N) (hi : i + (m + 3) ≤ N) (hX : V u / 4294967296 ^ i < 4294967296 ^ (m + 3)) : V ((u.take (i + (m + 3))).drop i) = V u / 4294967296 ^ i ∧ V (u.drop (i + (m + 3))) = 0 := by
 have e : i + (m + 3) - i = m + 3 := Nat.add_sub_cancel_left ..
 constructor
 ·rw [List.drop_take, e, zhq (hu.drop i) (by rw [List.length_drop, lu]; clear hX; omega), zdu hu, Nat.mod_eq_of_lt hX]
 ·rw [zdu hu, Nat.pow_add, ← Nat.div_div_eq_div_mul, Nat.div_eq_of_lt hX]
theorem zsq {u w : List Int} {i j R : Nat} (hi : i ≤ u.length) (hw : V w = R) (h0 : V (u.drop j) = 0) : V (u.take i ++ w ++ u.drop j) = V (u.take i) + 4294967296 ^ i * R := by
 rw [zaO, h0, zaO, List.length_take, Nat.min_eq_left hi, hw, Nat.mul_zero, Nat.add_zero]
theorem zrI {u : List Int} (hu : Dg u) {i : Nat} (hi : i ≤ u.length) : V u = 4294967296 ^ i * (V u / 4294967296 ^ i) + V (u.take i) := by rw [zhq hu hi]; exact zj5 _ _
theorem zkz {v : List Int} {m N s W : Nat} (hv : Dg v) (lv : v.length = m + 2) (hm : m < 10000000) (hN : N < 10000000) (hs : s < 1000000000) (htop : Top v m) {M : Nat} (hM : Pw (m + 2) M) (hvl : V v < M) : ∀ (i T : Nat) (u done : List Int), i + (m + 2) ≤ N → u.length = N → Dg u → Dg done → i + done.length + (m + 2) = N → V done = T → Inv W T (V v) (4294967296 ^ i) (V u) →
  Ev (fun k => zas.l1 k s v u ((m + 2 : Nat) : Int) (List.replicate i 0 ++ done) ((i : Int) - 1)) (D (W / V v), D (W % V v / 2 ^ s))
 | 0, T, u, done, hi, lu, hu, hdn, hdl, hT, hI => by
  obtain ⟨h1, h2, hlt⟩ := hI.end htop.pos
  have l1 : (D (V u)).length ≤ m + 2 := zan (hM.at (Nat.lt_trans hlt hvl))
  have l2 : (D (V u / 2 ^ s)).length ≤ m + 2 := zan (hM.at (Nat.lt_of_le_of_lt (Nat.div_le_self (V u) (2 ^ s)) (Nat.lt_trans hlt hvl)))
  have et : V (u.take (m + 2)) = V u := by rw [zhq hu (by omega), Nat.mod_eq_of_lt (hM.at (Nat.lt_trans hlt hvl))]
  rw [h1, h2]
  clear h1 h2 hlt hI
  refine zf ?_
  simp only [zas.l1]
  (repeat (first | with_reducible refine ep ?_ | with_reducible refine en ?_))
  refine Ev.bind (zdj (l := List.replicate 0 0 ++ done) (by simpa using hdn) (by simp; omega)) ?_
  (repeat (first | with_reducible refine ep ?_ | with_reducible refine en ?_))
  refine Ev.bind (zdj (hu.take _) (by simp; omega)) ?_
  rw [Int.toNat_natCast, et]
  refine Ev.bind (zkR (zM _) (by omega) s (by omega)) ?_
  rw [V_D]
  refine Ev.bind (zdj (zM _) (by omega)) (zh (Ev.now _) ?_)
  rw [V_D]; simp [hT]
 | i + 1, T, u, done, hi, lu, hu, hdn, hdl, hT, hI => by
  have hp : 0 < 4294967296 ^ i := Nat.pow_pos (Nat.zero_lt_succ _)
  have hI2 := hI.succ
  have hX := hI2.quo hp
  have hXM : V u / 4294967296 ^ i < M * 4294967296 := Nat.lt_trans hX (Nat.mul_lt_mul_of_pos_right hvl (Nat.zero_lt_succ _))
  obtain ⟨hpc, hdd⟩ := zqi (i := i) (m := m) hu lu (by omega) (hM.up hXM)
  have hlen : ((u.take (i + (m + 3))).drop i).length = m + 3 := by rw [List.length_drop, List.length_take]; omega
  have hst := zpS (u := (u.take (i + (m + 3))).drop i) hv ((hu.take _).drop _) lv hlen (by omega) htop (by rw [hpc]; exact hX)
  rw [hpc] at hst
  have hsp := zrI hu (i := i) (by omega)
  have hLt : V (u.take i) < 4294967296 ^ i := zfg hu (by omega)
  clear hI hp hpc
  generalize V u / 4294967296 ^ i = X at *
  have hR : X % V v < V v := Nat.mod_lt _ htop.pos
  have htB : X / V v < 4294967296 := by rw [Nat.div_lt_iff_lt_mul htop.pos, Nat.mul_comm]; exact hX
  have hdk : (Dk (m + 3) (X % V v)).length = m + 3 := zjg (hM.up (Nat.lt_of_le_of_lt (Nat.mod_le _ _) hXM))
  have hI3 := hI2.next hsp (zj5 X (V v)) hR hLt
  rw [← zsq (u := u) (w := Dk (m + 3) (X % V v)) (by omega) (zhl _ _) hdd] at hI3
  clear hI2 hsp hLt hdd hX hXM hR
  have ih := zkz hv lv hm hN hs htop hM hvl i (X / V v + 4294967296 * T) (u.take i ++ Dk (m + 3) (X % V v) ++ u.drop (i + (m + 3))) (((X / V v : Nat) : Int) :: done) (by omega) (by simp [hdk]; omega) (((hu.take _).app (zje _ _)).app (hu.drop _)) (Dg.cons nn (zeQ htB) hdn) (by simp; omega) (by rw [zz, hT, Int.toNat_natCast]) hI3
  clear hI3 htB
  have e0 : ((i + 1 : Nat) : Int) - 1 = (i : Int) := by omega
  have e2 : wrap64 ((i : Int) - 1) = (i : Int) - 1 := zbL (by omega)
  have hs2 : (List.replicate (i + 1) (0 : Int) ++ done).set ((i : Int)).toNat ((X / V v : Nat) : Int) = List.replicate i 0 ++ ((X / V v : Nat) : Int) :: done := by
   rw [zja, zbJ (by simp)]; simp
  rw [e0]
  refine zf ?_
  simp only [zas.l1, w3 (i := i) (m := m) (by omega) (by omega), e2]
  clear e2 e0
  (repeat (first | with_reducible refine ep ?_ | with_reducible refine en ?_))
  simp only [Int.toNat_natCast]
  refine Ev.bind hst ?_
  (repeat (first | with_reducible refine ep ?_ | with_reducible refine en ?_))
  rw [Int.toNat_natCast] at hs2
  rw [hs2]
  exact ih
theorem zsh {b : List Int} {m d : Nat} (hb : Nm b) (lb : b.length = m + 2) (hd : (b.getD (m + 1) 0).toNat = d) : 0 < d ∧ d < 4294967296 ∧ 4294967296 ^ (m + 1) * d ≤ V b ∧ V b < 4294967296 ^ (m + 1) * (d + 1) := by
 obtain ⟨bl0, x2, x1, rfl, hl⟩ := ziU lb
 have e : bl0 ++ [x2, x1] = (bl0 ++ [x2]) ++ [x1] := by simp
 rw [e] at hb hd ⊢
 have hlen : (bl0 ++ [x2]).length = m + 1 := by simp [hl]
 have h1 := zhn hb
 have h2 := hb.dg x1 (by simp)
 have hv := zah hb.dg.left
 rw [hlen] at hv
 have hx : ((bl0 ++ [x2]) ++ [x1]).getD (m + 1) 0 = x1 := by rw [← hlen]; simp
 rw [hx] at hd
 rw [zaO, hlen]
 simp only [zz, zai, Nat.mul_zero, Nat.add_zero, hd]
 rw [Nat.mul_add, Nat.mul_one]
 generalize 4294967296 ^ (m + 1) = p at *
 refine ⟨by omega, by omega, by omega, by omega⟩
theorem zpX {Va Vb p d s B pi Ba : Nat} (hs : (d + 1) * 2 ^ s ≤ B) (h1 : p * d ≤ Vb) (h2 : Vb < p * (d + 1)) (hd : 0 < d) (hp : 0 < p) (ha : Va < Ba) (hB : Ba = p * pi) (hpi : 0 < pi) : Vb * 2 ^ s < p * B ∧ p ≤ Vb * 2 ^ s ∧ Va * 2 ^ s < Ba * B ∧ Va * 2 ^ s < Vb * 2 ^ s * pi := by
 have hz : 0 < 2 ^ s := zj s
 have e1 : p ≤ Vb := Nat.le_trans (by have := Nat.mul_le_mul_left p hd; omega) h1
 have hsB : 2 ^ s ≤ B := Nat.le_trans (by have := Nat.mul_le_mul_right (2 ^ s) (show 1 ≤ d + 1 by omega); omega) hs
 generalize 2 ^ s = z at *
 refine ⟨?_, ?_, ?_, ?_⟩
 ·refine Nat.lt_of_lt_of_le (Nat.mul_lt_mul_of_pos_right h2 hz) ?_
  rw [Nat.mul_assoc]; exact Nat.mul_le_mul_left _ hs
 ·exact Nat.le_trans e1 (Nat.le_mul_of_pos_right _ hz)
 ·exact Nat.lt_of_lt_of_le (Nat.mul_lt_mul_of_pos_right ha hz) (Nat.mul_le_mul_left _ hsB)
 ·refine Nat.lt_of_lt_of_le (Nat.mul_lt_mul_of_pos_right ha hz) ?_
  rw [hB, Nat.mul_right_comm]
  exact Nat.mul_le_mul_right _ (Nat.mul_le_mul_right _ e1)
theorem zpR {a b : List Int} (ha : Nm a) (hb : Nm b) (la : a.length ≤ 4096) (lb : b.length ≤ a.length) (h2 : 2 ≤ b.length) : Ev (fun k => zas.f k a b) (D (V a / V b), D (V a % V b)) := by
 obtain ⟨m, lm⟩ : ∃ m, b.length = m + 2 := ⟨b.length - 2, by omega⟩
 obtain ⟨hd0, hdB, hlo, hhi⟩ := zsh hb lm rfl
 have hrd : rd b ((m + 1 : Nat) : Int) = b.getD (m + 1) 0 := rdn _ _
 have zkj := hb.dg.getD (m + 1)
 have hlz := zpv zkj
 generalize (b.getD (m + 1) 0).toNat = d at *
 have hbl : bl d ≤ 32 := zI (by omega)
 have hblp : 0 < bl d := zbx (by omega)
 obtain ⟨s, hs⟩ : ∃ s, s = 32 - bl d := ⟨_, rfl⟩
 have hs32 : (d + 1) * 2 ^ s ≤ 4294967296 := by
  have h1 := Nat.mul_le_mul_right (2 ^ s) (Nat.succ_le_of_lt (zP d))
  rw [hs, pw hbl] at h1
  rw [hs]; exact h1
 have hi : m + 1 + (a.length - (m + 1)) = a.length := by omega
 have hnn := zpX (Va := V a) (Vb := V b) (s := s) (B := 4294967296) (pi := 4294967296 ^ (a.length - (m + 1))) (Ba := 4294967296 ^ a.length) hs32 hlo hhi hd0 (Nat.pow_pos (Nat.zero_lt_succ _)) (zah ha.dg) (by rw [← Nat.pow_add, hi]) (Nat.pow_pos (Nat.zero_lt_succ _))
 obtain ⟨n1, n2, n3, n4⟩ := hnn
 rw [← zen] at n1 n3
 have hup1 := zid hb.dg (by omega) s (by omega)
 have hup2 := zid ha.dg (by omega) s (by omega)
 have lY : (D (V b * 2 ^ s)).length = m + 2 := by
  have h3 := zan n1
  rcases Nat.lt_or_ge (D (V b * 2 ^ s)).length (m + 2) with h4 | h4
  ·exfalso
   have h5 := zna (zM (V b * 2 ^ s)) (n := m + 1) (by omega)
   rw [V_D] at h5
   exact Nat.not_lt.2 n2 h5
  ·omega
 have lW : (D (V a * 2 ^ s)).length ≤ a.length + 1 := zan n3
 have hT : Top (D (V b * 2 ^ s)) m := by unfold Top; rw [V_D]; exact n2
 have e1 : V a * 2 ^ s / (V b * 2 ^ s) = V a / V b := Nat.mul_div_mul_right _ _ (zj s)
 have e2 : V a * 2 ^ s % (V b * 2 ^ s) / 2 ^ s = V a % V b := by rw [Nat.mul_mod_mul_right, Nat.mul_div_cancel _ (zj s)]
 have hu : V (D (V a * 2 ^ s) ++ List.replicate (a.length + 1 - (D (V a * 2 ^ s)).length) 0) = V a * 2 ^ s := zhl (a.length + 1) (V a * 2 ^ s)
 have main := zkz (v := D (V b * 2 ^ s)) (m := m) (N := a.length + 1) (s := s) (W := V a * 2 ^ s) (zM _) lY (by omega) (by omega) (by omega) hT (M := 4294967296 ^ (m + 2)) rfl (by rw [V_D]; exact n1) (a.length - (m + 1)) 0 (D (V a * 2 ^ s) ++ List.replicate (a.length + 1 - (D (V a * 2 ^ s)).length) 0) [] (by omega) (by rw [List.length_append, List.length_replicate]; omega) ((zM _).app (Dg.zeros _)) Dg.nil (by rw [List.length_nil]; omega) rfl ⟨by rw [hu]; omega, by rw [hu, V_D]; exact n4⟩
 rw [V_D, e1, e2, List.append_nil] at main
 clear n1 n2 n3 n4 hlo hhi hT e1 e2 hu hs32
 unfold zas.f
 have e3 : wrap64 ((b.length : Int) - 1) = ((m + 1 : Nat) : Int) := by unfold wrap64; omega
 simp only [e3, hrd]
 clear e3
 (repeat (first | with_reducible refine ep ?_ | with_reducible refine en ?_))
 refine Ev.bind hlz ?_
 rw [← hs]
 refine Ev.bind hup1 (Ev.bind hup2 ?_)
 refine zky (s : Int) (by omega) (a.length + 1 - (D (V a * 2 ^ s)).length) _ (by omega) (by omega) ?_
 have e4 : a.length + 1 - (m + 2) = a.length - (m + 1) := by omega
 rw [lY, e4]
 exact main
def zit (m n : Nat) : List Int × List Int × Int := if n = 0 then ([], [], 11) else (D (m / n), D (m % n), 0)
theorem zjP {m n : Nat} : (za6 m n < 0) ↔ m < n := by
 have := zfm (m := m) (n := n)
 constructor <;> intro h <;> omega
theorem zmX {a b : List Int} (ha : Nm a) (hb : Nm b) (h : V b ≤ V a) : b.length ≤ a.length := by
 have h1 := zan (Nat.lt_of_le_of_lt h (zah ha.dg))
 rwa [hb] at h1
theorem zpO {a b : List Int} (ha : Nm a) (hb : Nm b) (la : a.length ≤ 4096) (lb : b.length ≤ 4096) : Ev (fun k => zdM.f k a b) (zit (V a) (V b)) := by
 have hall := zjw ha.dg hb.dg (by omega) (by omega)
 rw [zcw.2 ⟨la, ha⟩, zcw.2 ⟨lb, hb⟩] at hall
 unfold zdM.f zit
 refine Ev.bind hall ?_
 (repeat (first | with_reducible refine ep ?_ | with_reducible refine en ?_))
 by_cases h0 : b = []
 ·subst h0
  (repeat (first | with_reducible refine ep ?_ | with_reducible refine en ?_))
  exact zh (Ev.now _) (by simp)
 have hb0 := zff hb h0
 have hlp : 0 < b.length := List.length_pos_iff.2 h0
 rw [if_neg hb0]
 (repeat (first | with_reducible refine ep ?_ | with_reducible refine en ?_))
 refine Ev.bind (zpQ ha hb (by omega)) ?_
 (repeat (first | with_reducible refine ep ?_ | with_reducible refine en ?_))
 by_cases hc : V a < V b
 ·refine zd (zjP.2 hc) ?_
  (repeat (first | with_reducible refine ep ?_ | with_reducible refine en ?_))
  refine zh (Ev.now _) ?_
  rw [Nat.div_eq_of_lt hc, Nat.mod_eq_of_lt hc, zy, ha]
 refine ze (fun h => hc (zjP.1 h)) ?_
 by_cases h1 : b.length = 1
 ·obtain ⟨d, rfl⟩ := List.length_eq_one_iff.1 h1
  have hd := hb.dg.head
  have hdne : d ≠ 0 := by simp at hb0; omega
  have h4 : rd [d] 0 = d := by simp [rd]
  have h5 : V [d] = d.toNat := by simp
  rw [h4, h5]
  (repeat (first | with_reducible refine ep ?_ | with_reducible refine en ?_))
  refine Ev.bind (zkS ha.dg (by omega) (d := d) (by omega)) ?_
  (repeat (first | with_reducible refine ep ?_ | with_reducible refine en ?_))
  have hm : V a % d.toNat < d.toNat := Nat.mod_lt _ (by omega)
  refine Ev.bind (zdj (Dg.cons nn (zeQ (by omega)) Dg.nil) (by simp)) ?_
  (repeat (first | with_reducible refine ep ?_ | with_reducible refine en ?_))
  refine zh (Ev.now _) ?_
  simp only [zz, zai, Int.toNat_natCast, Nat.mul_zero, Nat.add_zero]
 ·(repeat (first | with_reducible refine ep ?_ | with_reducible refine en ?_))
  refine Ev.bind (zpR ha hb la (zmX ha hb (by omega)) (by omega)) ?_
  (repeat (first | with_reducible refine ep ?_ | with_reducible refine en ?_))
  refine Ev.now _
theorem zpK (a b : Nat) : mx (a : Int) (b : Int) = ((max a b : Nat) : Int) := by unfold mx; split <;> omega
theorem zgC (a b : Int) : mx a b = max a b := by unfold mx; split <;> omega
theorem zeS {l : List Int} (h : Nm l) (hb : l.length ≤ 4096) : Ev (fun k => za0.f k l) ((bl (V l) : Nat) : Int) := by
 unfold za0.f
 refine zi (zdi h.dg (by omega)) ?_
 rw [zcw.2 ⟨hb, h⟩]
 (repeat (first | with_reducible refine ep ?_ | with_reducible refine en ?_))
 by_cases c : l.length = 0
 ·have : l = [] := List.eq_nil_of_length_eq_zero c
  subst this
  (repeat (first | with_reducible refine ep ?_ | with_reducible refine en ?_))
  exact zh (Ev.now _) rfl
 ·have e : wrap64 ((l.length : Int) - 1) = ((l.length - 1 : Nat) : Int) := by unfold wrap64; omega
  rw [e]
  clear e
  have hd := h.dg.getD (l.length - 1)
  have hne : l ≠ [] := fun e => c (by rw [e]; rfl)
  rw [rdn]
  (repeat (first | with_reducible refine ep ?_ | with_reducible refine en ?_))
  refine Ev.bind (zkq hd) (zh (Ev.now _) ?_)
  rw [zjB h hne]
  generalize l.getD (l.length - 1) 0 = x at hd
  have hbn : bl x.toNat ≤ 32 := zI (by omega)
  unfold wrap64
  omega
def zaU (n b : Nat) : Prop := ∃ m, n = 2 ^ b * (2 * m + 1)
theorem zaU.ne {n b : Nat} (h : zaU n b) : n ≠ 0 := by
 obtain ⟨m, h⟩ := h
 have := Nat.mul_pos (zj b) (show 0 < 2 * m + 1 by omega)
 omega
theorem zaU.le {n b : Nat} (h : zaU n b) : 2 ^ b ≤ n := by
 obtain ⟨m, h⟩ := h
 rw [h]; exact Nat.le_mul_of_pos_right _ (by omega)
theorem zaU.mod {n b k : Nat} (h : zaU n b) : n % 2 ^ k = 0 ↔ k ≤ b := by
 obtain ⟨m, h⟩ := h
 constructor
 ·intro hk
  rcases Nat.lt_or_ge b k with h1 | h1
  ·exfalso
   obtain ⟨d, rfl⟩ := Nat.exists_eq_add_of_lt h1
   have hd : 2 ^ (b + d + 1) ∣ 2 ^ b * (2 * m + 1) := by rw [← h]; exact Nat.dvd_of_mod_eq_zero hk
   rw [Nat.add_assoc, Nat.pow_add] at hd
   have h2 := Nat.dvd_of_mul_dvd_mul_left (zj b) hd
   rw [Nat.pow_succ] at h2
   have h3 : 2 ∣ 2 * m + 1 := Nat.dvd_trans (Nat.dvd_mul_left 2 _) h2
   omega
  ·exact h1
 ·intro hk
  obtain ⟨d, rfl⟩ := Nat.exists_eq_add_of_le hk
  rw [h, Nat.pow_add, Nat.mul_assoc]
  exact Nat.mul_mod_right _ _
theorem zaU.unique {n b c : Nat} (h : zaU n b) (k : zaU n c) : b = c := by
 have h1 := (h.mod (k := b)).2 (Nat.le_refl _)
 have h2 := (k.mod (k := c)).2 (Nat.le_refl _)
 have h3 := k.mod.1 h1
 have h4 := h.mod.1 h2
 omega
theorem zo2 {n b : Nat} (h : n % 2 ^ b = 0) (k : n / 2 ^ b % 2 = 1) : zaU n b :=
 ⟨n / 2 ^ b / 2, by
  have h1 := Nat.div_add_mod n (2 ^ b)
  rw [h, Nat.add_zero] at h1
  have h2 : 2 * (n / 2 ^ b / 2) + 1 = n / 2 ^ b := by omega
  rw [h2, h1]⟩
theorem zkm {n b k : Nat} (h : zaU n b) : zaU (n * 2 ^ k) (b + k) := by
 obtain ⟨m, h⟩ := h
 exact ⟨m, by rw [h, Nat.pow_add, Nat.mul_assoc, Nat.mul_comm (2 * m + 1), ← Nat.mul_assoc]⟩
theorem zo3 {x : Nat} (h : x ≠ 0) (hx : x < 4294967296) : zaU x (Lib.ctz 32 x) ∧ Lib.ctz 32 x < 32 := by
 obtain ⟨m, h1, h2⟩ := Lib.ctzFrom_spec 32 x (by omega) hx
 unfold Lib.ctz
 rw [if_neg h]
 exact ⟨⟨m, h1⟩, h2⟩
theorem zo1 {x r b : Nat} (h : zaU x b) (hb : b < 32) : zaU (x + 4294967296 * r) b := by
 obtain ⟨m, h⟩ := h
 obtain ⟨d, hd⟩ : ∃ d, 32 = b + (d + 1) := ⟨31 - b, by omega⟩
 have e : 4294967296 = 2 ^ b * (2 ^ d * 2) := by
  rw [← Nat.pow_succ, ← Nat.pow_add, Nat.succ_eq_add_one, ← hd]
 have e2 : 2 ^ b * (2 ^ d * 2) * r = 2 ^ b * (2 * (2 ^ d * r)) := by
  rw [Nat.mul_assoc, Nat.mul_comm (2 ^ d) 2, Nat.mul_assoc]
 refine ⟨m + 2 ^ d * r, ?_⟩
 rw [h, e, e2, ← Nat.mul_add]
 congr 1
 omega
def lw (n : Nat) : Nat := if n = 0 then 0 else Lib.ctzFrom n n
theorem zcv {n : Nat} (h : n ≠ 0) : zaU n (lw n) := by
 obtain ⟨m, h1, _⟩ := Lib.ctzFrom_spec n n (by omega) Nat.lt_two_pow_self
 unfold lw
 rw [if_neg h]
 exact ⟨m, h1⟩
theorem zfz {n b : Nat} (h : zaU n b) : lw n = b := (zcv h.ne).unique h
theorem zr9 {x : Int} (h : 0 ≤ x ∧ x < 4294967296) : zbw.f x = some ((Lib.ctz 32 x.toNat : Nat) : Int) := by
 unfold zbw.f
 rw [if_pos h]
theorem zsj {i b : Nat} (hi : i < 1000000) (hb : b < 32) : wrap64 (wrap64 (32 * (i : Int)) + (b : Int)) = ((b + 32 * i : Nat) : Int) := by unfold wrap64; omega
theorem zkV (A : List Int) (hA : Dg A) (hl : A.length < 1000000) : ∀ (a pa : List Int), A = pa ++ a → V pa = 0 → Ev (fun k => zbs.l0 k A A.length pa.length) ((lw (V A) : Nat) : Int)
 | [], pa, he, hv => by
  have hlen : A.length = pa.length := by rw [he]; simp
  refine zf ?_
  simp only [zbs.l0]
  (repeat (first | with_reducible refine ep ?_ | with_reducible refine en ?_))
  refine zh (Ev.now _) ?_
  have : V A = 0 := by rw [he, List.append_nil, hv]
  rw [this]; rfl
 | d :: a, pa, he, hv => by
  have hlen : A.length = pa.length + 1 + a.length := by rw [he]; simp; omega
  have hdd : 0 ≤ d ∧ d < 4294967296 := by rw [he] at hA; exact hA.right.head
  have h1 : rd A (pa.length : Int) = d := by rw [he]; exact z8 rfl
  refine zf ?_
  simp only [zbs.l0, h1, zaf (n := pa.length) (by omega)]
  (repeat (first | with_reducible refine ep ?_ | with_reducible refine en ?_))
  by_cases h0 : d = 0
  ·refine ze (fun h => h h0) ?_
   have := zkV A hA hl a (pa ++ [0]) (by rw [he, h0]; simp) (by rw [zhp, hv])
   rwa [@List.length_append _ pa, List.length_singleton] at this
  ·refine zd h0 ?_
   refine zi (zr9 hdd) ?_
   (repeat (first | with_reducible refine ep ?_ | with_reducible refine en ?_))
   refine zh (Ev.now _) ?_
   have hz := zo3 (x := d.toNat) (by omega) (by omega)
   have e : V A = (d.toNat + 4294967296 * V a) * 2 ^ (32 * pa.length) := by
    rw [he, zaO, hv, zz, Nat.zero_add, Nat.mul_comm, Nat.pow_mul]
   rw [e, zfz (zkm (zo1 hz.1 hz.2)), zsj (by omega) hz.2]
theorem zkO {a : List Int} (ha : Nm a) (la : a.length ≤ 4096) : Ev (fun k => zbs.f k a) ((lw (V a) : Nat) : Int) := by
 unfold zbs.f
 refine zi (zdi ha.dg (by omega)) ?_
 rw [zcw.2 ⟨la, ha⟩]
 (repeat (first | with_reducible refine ep ?_ | with_reducible refine en ?_))
 exact zkV a ha.dg (by omega) a [] rfl rfl
theorem zjm {l : List Int} (h : Dg l) (q : Nat) : V l / 4294967296 ^ q % 4294967296 = (l.getD q 0).toNat := by
 have h1 := zfe (l.drop q)
 rw [zhI, zdu h] at h1
 have h2 := h.getD q
 rw [h1, Nat.add_mul_mod_self_left, Nat.mod_eq_of_lt (by omega)]
theorem zpH {n i : Nat} (h : n % 2 ^ i = 0) (k : n / 2 ^ i % 2 = 0) : n % 2 ^ (i + 1) = 0 := by
 rw [Nat.pow_succ, Nat.mod_mul, h, k, Nat.mul_zero]
theorem zpG {n q : Nat} (h : n % 2 ^ (32 * q) = 0) (k : n / 4294967296 ^ q % 4294967296 = 0) : n % 2 ^ (32 * q + 32) = 0 := by
 have e : 2 ^ (32 * q + 32) = 2 ^ (32 * q) * 4294967296 := by rw [Nat.pow_add]
 have e2 : 4294967296 ^ q = 2 ^ (32 * q) := by rw [Nat.pow_mul]
 rw [e, Nat.mod_mul, h, ← e2, k, Nat.mul_zero]
theorem zq6 {l : List Int} (h : Dg l) {i : Nat} (hi : i = 32 * l.length) (hm : V l % 2 ^ i = 0) : V l = 0 := by
 have hv := zah h
 have e2 : 4294967296 ^ l.length = 2 ^ (32 * l.length) := by rw [Nat.pow_mul]
 rw [e2, ← hi] at hv
 rwa [Nat.mod_eq_of_lt hv] at hm
theorem zom {i m : Nat} (h : i < 32 * m) : ((i / 32 : Nat) : Int) < (m : Int) := by omega
theorem zmf {i : Nat} (h : i < 100000000000) : wrap64 ((i : Int) + 1) = ((i + 1 : Nat) : Int) ∧ wrap64 ((i : Int) + 32) = ((i + 32 : Nat) : Int) := by unfold wrap64; omega
theorem zq7 {l : List Int} (h : Dg l) (hl : l.length < 1000000000) (n : Nat) : ∀ (i : Nat), 32 * l.length - i ≤ n → i ≤ 32 * l.length → V l % 2 ^ i = 0 → (i % 32 = 0 ∨ l.getD (i / 32) 0 ≠ 0) → Ev (fun k => zao.l0 k l i) ((lw (V l) : Nat) : Int) := by
 induction n using Nat.strongRecOn with
 | _ n ih =>
  intro i hn hi hm hd
  have e32 : wrap64 (32 * (l.length : Int)) = ((32 * l.length : Nat) : Int) := by unfold wrap64; omega
  refine zf ?_
  simp only [zao.l0, e32]
  by_cases hlt : i < 32 * l.length
  ·have hb := zgS h hl i (by clear hm hd; omega)
   refine zd (by clear hm hd; omega) ?_
   refine zi hb ?_
   have hi9 : i < 100000000000 := by clear hm hd; omega
   have hn1 : 32 * l.length - (i + 1) < n := by clear hm hd; omega
   have hn32 : 32 * l.length - (i + 32) < n := by clear hm hd; omega
   have hi1 : i + 1 ≤ 32 * l.length := hlt
   have hi32 : i % 32 = 0 → i + 32 ≤ 32 * l.length := by clear hm hd; omega
   have hne : i ≠ 32 * l.length := by clear hm hd; omega
   have et : wrap64 (Int.tdiv (i : Int) 32) = ((i / 32 : Nat) : Int) := t32 (by clear hm hd; omega)
   have hdv := zom hlt
   simp only [et, rdn]
   rw [(zmf hi9).1, (zmf hi9).2]
   clear et e32
   rcases Nat.mod_two_eq_zero_or_one (V l / 2 ^ i) with hz | hz
   ·rw [hz]
    refine zd rfl (zd nn (zd hdv ?_))
    by_cases h0 : l.getD (i / 32) 0 = 0
    ·have hi0 : i % 32 = 0 := hd.resolve_right (fun h => h h0)
     have hi33 := hi32 hi0
     obtain ⟨q, hq0⟩ : ∃ q, i = 32 * q := ⟨i / 32, by clear hm hd hz; omega⟩
     subst hq0
     have hq : 32 * q / 32 = q := by clear hm hd hz; omega
     rw [hq] at h0
     rw [hq]
     refine zd h0 ?_
     refine ih _ hn32 (32 * q + 32) (Nat.le_refl _) hi33 (zpG hm ?_) (.inl ?_)
     ·rw [zjm h, h0]; rfl
     ·clear hm hd hz; omega
    ·refine ze h0 ?_
     refine ih _ hn1 (i + 1) (Nat.le_refl _) hi1 (zpH hm hz) ?_
     clear hm hd hz
     rcases Nat.eq_zero_or_pos ((i + 1) % 32) with h1 | h1
     ·exact .inl h1
     ·have : (i + 1) / 32 = i / 32 := by omega
      rw [this]; exact .inr h0
   ·rw [hz]
    refine ze (by decide) ?_
    refine ze (fun e => hne (Int.ofNat.inj e)) ?_
    refine zh (Ev.now _) ?_
    rw [zfz (zo2 hm hz)]
  ·have hi2 : i = 32 * l.length := by clear hm hd; omega
   refine ze (by clear hm hd; omega) ?_
   refine zd (by rw [hi2]) ?_
   refine zh (Ev.now _) ?_
   rw [zq6 h hi2 hm]; rfl
theorem zlz {l : List Int} (h : Dg l) (hl : l.length < 1000000000) : Ev (fun k => zao.f k l) ((lw (V l) : Nat) : Int) := by
 unfold zao.f
 exact zq7 h hl _ 0 (Nat.le_refl _) (by omega) (by rw [Nat.pow_zero, Nat.mod_one]) (.inl rfl)
theorem zkC {n k : Nat} (h : n ≠ 0) : k > lw n ↔ n % 2 ^ k ≠ 0 := by
 have := (zcv h).mod (k := k)
 constructor
 ·intro h1 h2; have := this.1 h2; omega
 ·intro h1; rcases Nat.lt_or_ge (lw n) k with h2 | h2
  ·exact h2
  ·exact absurd (this.2 h2) h1
theorem ziD {a : List Int} (ha : Nm a) (la : a.length < 100000000) (n : Nat) (hn : n < 1000000000) : Ev (fun k => zak.f k a n) (D (V a / 2 ^ n), decide (V a % 2 ^ n ≠ 0)) := by
 unfold zak.f
 have hlt := zP (V a)
 by_cases h : n ≥ bl (V a)
 ·have hp : V a < 2 ^ n := Nat.lt_of_lt_of_le hlt (Nat.pow_le_pow_right (by omega) h)
  refine Ev.bind (zcz ha (by omega)) ?_
  (repeat (first | with_reducible refine ep ?_ | with_reducible refine en ?_))
  refine zh (Ev.now _) ?_
  rw [Nat.div_eq_of_lt hp, zy, Nat.mod_eq_of_lt hp]
  congr 1
  refine decide_eq_decide.2 ?_
  have := zdv ha
  have hl : a.length = 0 ↔ a = [] := List.length_eq_zero_iff
  constructor
  ·intro h1 h2; have := hl.2 (this.1 h2); omega
  ·intro h1
   rcases Nat.eq_zero_or_pos a.length with h3 | h3
   ·exact absurd (this.2 (hl.1 h3)) h1
   ·omega
 ·have h0 : V a ≠ 0 := by
   intro h0; rw [h0, zaG] at h; omega
  refine Ev.bind (zcz ha (by omega)) ?_
  (repeat (first | with_reducible refine ep ?_ | with_reducible refine en ?_))
  refine Ev.bind (zlz ha.dg (by omega)) ?_
  (repeat (first | with_reducible refine ep ?_ | with_reducible refine en ?_))
  have hd : decide ((n : Int) > ((lw (V a) : Nat) : Int)) = decide (V a % 2 ^ n ≠ 0) := decide_eq_decide.2 (by rw [← zkC h0]; omega)
  rw [hd]
  simp only [t32 (n := n) (by omega), m32]
  have hbl := zaV ha.dg
  have hq : n / 32 ≤ a.length := by omega
  have h1 := ziC a ha.dg (by omega) (decide (V a % 2 ^ n ≠ 0)) (s := n % 32) (by omega) (a.drop (n / 32)) [] (a.take (n / 32)) (by simp) (by simp; omega) Dg.nil
  rw [List.length_take, Nat.min_eq_left hq, List.nil_append, zhH ha.dg] at h1
  exact h1
def zcU (v : Nat) (n : Int) : List Int × Bool × Int :=
 if v = 0 then ([], false, 0) else if n < -131072 then ([], true, 0) else if n < 0 then (D (v / 2 ^ (-n).toNat), decide (v % 2 ^ (-n).toNat ≠ 0), 0) else if n > 131072 - (bl v : Int) then ([], false, 3) else (D (v * 2 ^ n.toNat), false, 0)
theorem zfG {a : List Int} (ha : Nm a) (la : a.length ≤ 4096) (n : Int) : Ev (fun k => za1.f k a n) (zcU (V a) n) := by
 unfold za1.f zcU
 refine zi (zdi ha.dg (by omega)) ?_
 rw [zcw.2 ⟨la, ha⟩]
 (repeat (first | with_reducible refine ep ?_ | with_reducible refine en ?_))
 by_cases c : a = []
 ·subst c
  (repeat (first | with_reducible refine ep ?_ | with_reducible refine en ?_))
  exact zh (Ev.now _) (by simp)
 have h0 : V a ≠ 0 := fun h => c ((zdv ha).1 h)
 have hl : a.length ≠ 0 := fun h => c (List.eq_nil_of_length_eq_zero h)
 have hbl := zaV ha.dg
 rw [if_neg h0]
 (repeat (first | with_reducible refine ep ?_ | with_reducible refine en ?_))
 by_cases h1 : n < -131072
 ·rw [if_pos h1]; exact zd h1 (Ev.now _)
 rw [if_neg h1]
 refine ze h1 ?_
 by_cases h2 : n < 0
 ·rw [if_pos h2]
  have e : wrap64 (-n) = (((-n).toNat : Nat) : Int) := by unfold wrap64; omega
  rw [e]
  clear e
  have hm : (-n).toNat ≤ 131072 := by omega
  generalize (-n).toNat = m at *
  refine zd h2 ?_
  refine Ev.bind (zkR ha.dg (by omega) m (by omega)) ?_
  (repeat (first | with_reducible refine ep ?_ | with_reducible refine en ?_))
  refine Ev.bind (zkO ha la) ?_
  (repeat (first | with_reducible refine ep ?_ | with_reducible refine en ?_))
  refine zh (Ev.now _) ?_
  congr 2
  exact decide_eq_decide.2 (by rw [← zkC h0]; omega)
 ·rw [if_neg h2]
  have e : wrap64 (131072 - ((bl (V a) : Nat) : Int)) = 131072 - ((bl (V a) : Nat) : Int) := by unfold wrap64; omega
  refine ze h2 ?_
  refine Ev.bind (zeS ha la) ?_
  (repeat (first | with_reducible refine ep ?_ | with_reducible refine en ?_))
  rw [e]
  clear e
  by_cases h3 : n > 131072 - ((bl (V a) : Nat) : Int)
  ·rw [if_pos h3]; exact zd h3 (Ev.now _)
  ·rw [if_neg h3]
   obtain ⟨m, rfl⟩ := Int.eq_ofNat_of_zero_le (show 0 ≤ n by omega)
   refine ze h3 ?_
   refine Ev.bind (zid ha.dg (by omega) m (by omega)) ?_
   (repeat (first | with_reducible refine ep ?_ | with_reducible refine en ?_))
   refine zh (Ev.now _) ?_
   rw [Int.toNat_natCast]
theorem zaq {x k : Nat} (h : bl x ≤ 32 * k) : (D x).length ≤ k := by
 refine zan ?_
 have e : 4294967296 ^ k = 2 ^ (32 * k) := by rw [Nat.pow_mul]
 rw [e]
 exact Nat.lt_of_lt_of_le (zP x) (Nat.pow_le_pow_right (by omega) h)
theorem zcp (v m : Nat) : bl (v * 2 ^ m) ≤ bl v + m := by
 refine zI ?_
 rw [Nat.pow_add]
 exact Nat.mul_lt_mul_of_pos_right (zP v) (zj m)
theorem zaj {v : Nat} (h : v ≠ 0) (m : Nat) : bl (v * 2 ^ m) = bl v + m := by
 rw [zc4 (n := v * 2 ^ m) (k := m) (Nat.le_mul_of_pos_left _ (by omega)), Nat.mul_div_cancel _ (zj m), Nat.add_comm]
theorem zb6 (v m : Nat) : bl (v / 2 ^ m) = bl v - m := by
 rcases Nat.lt_or_ge v (2 ^ m) with h | h
 ·rw [Nat.div_eq_of_lt h, zaG]
  have := zI h
  omega
 ·rw [zc4 h]; omega
theorem ziS {v m : Nat} (h : bl v + m ≤ 131072) : zcU v (m : Int) = (D (v * 2 ^ m), false, 0) := by
 unfold zcU
 by_cases hv : v = 0
 ·rw [if_pos hv, hv, Nat.zero_mul, zy]
 ·rw [if_neg hv, if_neg (by omega), if_neg (by omega), if_neg (by omega), Int.toNat_natCast]
theorem ziR {v m : Nat} (h : bl v ≤ 131072) (hm : m ≤ 131072) : zcU v (-(m : Int)) = (D (v / 2 ^ m), decide (v % 2 ^ m ≠ 0), 0) := by
 by_cases hv : v = 0
 ·unfold zcU
  rw [if_pos hv, hv, Nat.zero_div, Nat.zero_mod, zy]; rfl
 rcases Nat.eq_zero_or_pos m with h0 | h0
 ·subst h0
  have e := ziS (v := v) (m := 0) (by omega)
  rw [Nat.pow_zero, Nat.mul_one] at e
  rw [Nat.pow_zero, Nat.div_one, Nat.mod_one]
  exact e
 ·unfold zcU
  have e : (-(-(m : Int))).toNat = m := by omega
  rw [if_neg hv, if_neg (by omega), if_pos (by omega), e]
theorem zpg {r L : Nat} (h : (D r).length ≤ L) : (D (r + 1)).length ≤ L + 1 := by
 refine zan ?_
 have h1 := zbW r
 have h2 : 4294967296 ^ (D r).length ≤ 4294967296 ^ L := Nat.pow_le_pow_right (by omega) h
 rw [Nat.pow_succ]
 generalize 4294967296 ^ L = p at *
 omega
theorem zpf {a b L M : Nat} (ha : (D a).length ≤ L) (hb : (D b).length ≤ M) : (D (a * b)).length ≤ L + M := by
 refine zan ?_
 rw [Nat.pow_add]
 exact Nat.mul_lt_mul'' (Nat.lt_of_lt_of_le (zbW a) (Nat.pow_le_pow_right (by omega) ha)) (Nat.lt_of_lt_of_le (zbW b) (Nat.pow_le_pow_right (by omega) hb))
theorem zrD {q x Q X N : Nat} (hq : q < 4294967296 ^ Q) (hx : x < 4294967296 ^ X) (h1 : Q < N) (h2 : X < N) : q + x < 4294967296 ^ N := by
 obtain ⟨m, rfl⟩ := Nat.exists_eq_add_of_lt (show 0 < N by omega)
 have a : 4294967296 ^ Q ≤ 4294967296 ^ m := Nat.pow_le_pow_right (by omega) (by omega)
 have b : 4294967296 ^ X ≤ 4294967296 ^ m := Nat.pow_le_pow_right (by omega) (by omega)
 rw [Nat.zero_add, Nat.pow_succ]
 generalize 4294967296 ^ m = p at *
 omega
def sv (s : Bool) (n : Nat) : Int := if s = true then -(n : Int) else n
theorem zT (s : Bool) (n : Nat) : (sv s n).natAbs = n := by unfold sv; split <;> simp
theorem za3 {s : Bool} {n : Nat} : sv s n = 0 ↔ n = 0 := by unfold sv; split <;> omega
theorem zcC {s : Bool} {n : Nat} (h : n ≠ 0) : decide (sv s n < 0) = s := by
 unfold sv
 cases s
 ·exact decide_eq_false (by simp)
 ·exact decide_eq_true (by simp; omega)
theorem zbK (s : Bool) : sv s 0 = 0 := by unfold sv; split <;> rfl
def mk (z e : Int) : Bool × List Int × Int := if z = 0 then (false, [], 0) else (decide (z < 0), D (z.natAbs / 2 ^ lw z.natAbs), e + (lw z.natAbs : Nat))
theorem zh3 (e : Int) : mk 0 e = (false, [], 0) := rfl
theorem zkD {n : Nat} (h : n ≠ 0) (k : Nat) : lw (n * 2 ^ k) = lw n + k := zfz (zkm (zcv h))
theorem zbX (z e : Int) (k : Nat) : mk (z * 2 ^ k) e = mk z (e + k) := by
 unfold mk
 by_cases h : z = 0
 ·subst h; simp
 ·have hp : (0 : Int) < 2 ^ k := Int.pow_pos (by omega)
  have h1 : z * 2 ^ k ≠ 0 := Int.mul_ne_zero h (by omega)
  have hn : z.natAbs ≠ 0 := by omega
  have h2 : (z * 2 ^ k).natAbs = z.natAbs * 2 ^ k := by rw [Int.natAbs_mul, Int.natAbs_pow]; rfl
  have h3 : decide (z * 2 ^ k < 0) = decide (z < 0) := decide_eq_decide.2 (by
   constructor
   ·intro h4
    rcases (show z < 0 ∨ 0 ≤ z by omega) with h5 | h5
    ·exact h5
    ·have := Int.mul_nonneg h5 (Int.le_of_lt hp); omega
   ·intro h4; exact Int.mul_neg_of_neg_of_pos h4 hp)
  rw [if_neg h, if_neg h1, h2, h3, zkD hn]
  have h4 : z.natAbs * 2 ^ k / 2 ^ (lw z.natAbs + k) = z.natAbs / 2 ^ lw z.natAbs := by
   rw [Nat.pow_add]; exact Nat.mul_div_mul_right _ _ (zj k)
  rw [h4]
  congr 2
  omega
structure Dy (s : Bool) (l : List Int) (e : Int) : Prop where
 nm : Nm l
 none : l = [] → s = false ∧ e = 0
 odd : l ≠ [] → V l % 2 = 1
theorem zeR {n : Nat} (h : n % 2 = 1) : lw n = 0 := zfz ⟨n / 2, by rw [Nat.pow_zero, Nat.one_mul]; omega⟩
theorem zfC {s : Bool} {l : List Int} {e : Int} (h : Dy s l e) : mk (sv s (V l)) e = (s, l, e) := by
 unfold mk
 by_cases c : l = []
 ·obtain ⟨h1, h2⟩ := h.none c
  subst c; subst h1; subst h2
  rfl
 ·have h1 := h.odd c
  have h0 : V l ≠ 0 := by omega
  rw [if_neg (fun h => h0 (za3.1 h)), zT, zcC h0, zeR h1, Nat.pow_zero, Nat.div_one, h.nm]
  simp
theorem zY (z e : Int) : Dy (mk z e).1 (mk z e).2.1 (mk z e).2.2 := by
 unfold mk
 by_cases h : z = 0
 ·rw [if_pos h]; exact ⟨zd5, fun _ => ⟨rfl, rfl⟩, fun h => absurd rfl h⟩
 ·rw [if_neg h]
  obtain ⟨m, hm⟩ := zcv (n := z.natAbs) (by omega)
  have h1 : z.natAbs / 2 ^ lw z.natAbs = 2 * m + 1 := by
   have : z.natAbs / 2 ^ lw z.natAbs = 2 ^ lw z.natAbs * (2 * m + 1) / 2 ^ lw z.natAbs := by rw [← hm]
   rw [this, Nat.mul_div_cancel_left _ (zj _)]
  have h2 : D (z.natAbs / 2 ^ lw z.natAbs) ≠ [] := by rw [h1, zbi (by omega)]; simp
  exact ⟨zv _, fun h => absurd h h2, fun _ => by show V (D _) % 2 = 1; rw [V_D, h1]; omega⟩
theorem zdf (s : Bool) {n : Nat} (h : n ≠ 0) (e : Int) : mk (sv s n) e = (s, D (n / 2 ^ lw n), e + (lw n : Nat)) := by
 unfold mk
 rw [if_neg (fun h2 => h (za3.1 h2)), zT, zcC h]
theorem zek {n : Nat} (h : n ≠ 0) : lw n < bl n := by
 have h1 := (zcv h).le
 rcases Nat.lt_or_ge (lw n) (bl n) with h2 | h2
 ·exact h2
 ·have h3 := zP n
  have h4 : 2 ^ bl n ≤ 2 ^ lw n := Nat.pow_le_pow_right (by omega) h2
  omega
theorem zcy {l : List Int} : (l.length : Int) = 0 ↔ l = [] := by
 constructor
 ·intro h; exact List.eq_nil_of_length_eq_zero (by omega)
 ·intro h; rw [h]; rfl
theorem zha {e : Int} {b : Nat} (h1 : -1000000000000000 ≤ e) (h2 : e ≤ 1000000000000000) (hb : b < 100000000000) : wrap64 (e + (b : Int)) = e + (b : Int) := by unfold wrap64; omega
theorem zbH (s : Bool) {l : List Int} (hl : Nm l) (ll : l.length < 10000000) {e : Int} (h1 : -1000000000000000 ≤ e) (h2 : e ≤ 1000000000000000) : Ev (fun k => zS.f k s l e) (mk (sv s (V l)) e) := by
 unfold zS.f
 by_cases c : l = []
 ·subst c
  (repeat (first | with_reducible refine ep ?_ | with_reducible refine en ?_))
  exact zh (Ev.now _) (by rw [zai, zbK]; rfl)
 ·have h0 : V l ≠ 0 := fun h => c ((zdv hl).1 h)
  have hb := zaV hl.dg
  have hw := zek h0
  refine ze (fun h => c (zcy.1 h)) ?_
  refine Ev.bind (zlz hl.dg (by omega)) ?_
  (repeat (first | with_reducible refine ep ?_ | with_reducible refine en ?_))
  refine Ev.bind (ziD hl (by omega) (lw (V l)) (by omega)) ?_
  (repeat (first | with_reducible refine ep ?_ | with_reducible refine en ?_))
  refine zh (Ev.now _) ?_
  rw [zdf s h0, zha h1 h2 (by omega)]
def zfA (s : Bool) (n : Nat) (e : Int) : Bool × List Int × Int × Int :=
 if n = 0 then (false, [], 0, 0) else if e > 16777216 - (lw n : Nat) then (false, [], 0, 20) else if e < -16777216 - (lw n : Nat) then (false, [], 0, 20) else ((mk (sv s n) e).1, (mk (sv s n) e).2.1, (mk (sv s n) e).2.2, 0)
theorem zdI (s : Bool) {l : List Int} (hl : Nm l) (ll : l.length ≤ 4096) (e : Int) : Ev (fun k => zbc.f k s l e) (zfA s (V l) e) := by
 unfold zbc.f zfA
 refine zi (zdi hl.dg (by omega)) ?_
 rw [zcw.2 ⟨ll, hl⟩]
 (repeat (first | with_reducible refine ep ?_ | with_reducible refine en ?_))
 by_cases c : l = []
 ·subst c
  (repeat (first | with_reducible refine ep ?_ | with_reducible refine en ?_))
  exact zh (Ev.now _) (by rw [zai, if_pos rfl])
 ·have h0 : V l ≠ 0 := fun h => c ((zdv hl).1 h)
  have hb := zaV hl.dg
  have hw := zek h0
  rw [if_neg h0]
  refine ze (fun h => c (zcy.1 h)) ?_
  refine Ev.bind (zkO hl ll) ?_
  (repeat (first | with_reducible refine ep ?_ | with_reducible refine en ?_))
  have e1 : wrap64 (16777216 - ((lw (V l) : Nat) : Int)) = 16777216 - ((lw (V l) : Nat) : Int) := by unfold wrap64; omega
  have e2 : wrap64 (-16777216 - ((lw (V l) : Nat) : Int)) = -16777216 - ((lw (V l) : Nat) : Int) := by unfold wrap64; omega
  have e3 : wrap64 (-((lw (V l) : Nat) : Int)) = -((lw (V l) : Nat) : Int) := by unfold wrap64; omega
  rw [e1, e2, e3]
  clear e1 e2 e3
  by_cases h1 : e > 16777216 - ((lw (V l) : Nat) : Int)
  ·rw [if_pos h1]; exact zd h1 (Ev.now _)
  rw [if_neg h1]
  refine ze h1 ?_
  by_cases h2 : e < -16777216 - ((lw (V l) : Nat) : Int)
  ·rw [if_pos h2]; exact zd h2 (Ev.now _)
  rw [if_neg h2]
  have hs := zfG hl ll (-((lw (V l) : Nat) : Int))
  rw [ziR (by omega) (by omega)] at hs
  refine ze h2 ?_
  refine Ev.bind hs ?_
  (repeat (first | with_reducible refine ep ?_ | with_reducible refine en ?_))
  refine zh (Ev.now _) ?_
  rw [zdf s h0, zha (by omega) (by omega) (by omega)]
def al (z e m : Int) : Int := z * 2 ^ (e - m).toNat
theorem zfB {z e m : Int} (h : m ≤ e) : mk (al z e m) m = mk z e := by
 unfold al
 rw [zbX]
 congr 1
 omega
theorem zfj (e m : Int) : al 0 e m = 0 := by unfold al; rw [Int.zero_mul]
theorem zgc {z e m n : Int} (h1 : m ≤ e) (h2 : n ≤ m) : al (al z e m) m n = al z e n := by
 unfold al
 rw [Int.mul_assoc, ← Int.pow_add]
 congr 2
 omega
theorem zng (x y e m : Int) : al (x + y) e m = al x e m + al y e m := by unfold al; rw [Int.add_mul]
theorem zhu (s : Bool) (n : Nat) (e m : Int) : al (sv s n) e m = sv s (n * 2 ^ (e - m).toNat) := by
 unfold al sv
 split
 ·rw [Int.neg_mul, Int.natCast_mul, Int.natCast_pow]; rfl
 ·rw [Int.natCast_mul, Int.natCast_pow]; rfl
theorem zrE (s : Bool) (x y : Nat) : sv s x + sv s y = sv s (x + y) := by unfold sv; split <;> omega
theorem zmk {s t : Bool} (h : s ≠ t) {x y : Nat} (hl : y ≤ x) : sv s x + sv t y = sv s (x - y) := by
 unfold sv
 cases s <;> cases t <;> simp at h ⊢ <;> omega
theorem ziW (s : Bool) (n : Nat) : sv (!s) n = -sv s n := by unfold sv; cases s <;> simp
def zZ (za ea zb eb : Int) : Bool × List Int × Int := mk (al za ea (min ea eb) + al zb eb (min ea eb)) (min ea eb)
theorem zga {za ea zb eb m : Int} (h1 : m ≤ ea) (h2 : m ≤ eb) : mk (al za ea m + al zb eb m) m = zZ za ea zb eb := by
 unfold zZ
 have h3 : m ≤ min ea eb := by omega
 rw [← zgc (z := za) (e := ea) (m := min ea eb) (n := m) (by omega) h3, ← zgc (z := zb) (e := eb) (m := min ea eb) (n := m) (by omega) h3, ← zng]
 exact zfB h3
theorem zht (ea zb eb : Int) : zZ 0 ea zb eb = mk zb eb := by
 unfold zZ; rw [zfj, Int.zero_add]; exact zfB (by omega)
theorem zne (za ea eb : Int) : zZ za ea 0 eb = mk za ea := by
 unfold zZ; rw [zfj, Int.add_zero]; exact zfB (by omega)
theorem zi6 {l : List Int} (h : Dg l) {n : Nat} : (D (V l * 2 ^ n)).length ≤ l.length + n / 32 + 1 := by
 refine zaq (Nat.le_trans (zcp _ _) ?_)
 have := zaV h
 omega
theorem zmO {e m : Int} (h1 : -1000000000000000 ≤ e) (h2 : e ≤ 1000000000000000) (h3 : -1000000000000000 ≤ m) (h4 : m ≤ e) : wrap64 (e - m) = ((e - m).toNat : Int) := by unfold wrap64; omega
theorem zlu {sa sb : Bool} {la lb : List Int} {ea eb m : Int} (na : Nm la) (nb : Nm lb) (ha : la.length ≤ 1000000) (hb : lb.length ≤ 1000000) (h1 : m ≤ ea) (h2 : m ≤ eb) (h3 : (ea - m).toNat ≤ 100000000) (h4 : (eb - m).toNat ≤ 100000000) (hm : -100000000000000 ≤ m) (hM : m ≤ 100000000000000) :
  Ev (fun k => zaW.j2 k sa la ea sb lb eb false [] 0 m) (mk (al (sv sa (V la)) ea m + al (sv sb (V lb)) eb m) m) := by
 refine zf ?_
 simp only [zaW.j2]
 rw [zmO (e := ea) (by omega) (by omega) (by omega) h1, zmO (e := eb) (by omega) (by omega) (by omega) h2]
 rw [zhu, zhu]
 generalize (ea - m).toNat = p at *
 generalize (eb - m).toNat = q at *
 have l1 := zi6 na.dg (n := p)
 have l2 := zi6 nb.dg (n := q)
 refine Ev.bind (zcT na.dg (by omega) p (by omega)) ?_
 (repeat (first | with_reducible refine ep ?_ | with_reducible refine en ?_))
 refine Ev.bind (zcT nb.dg (by omega) q (by omega)) ?_
 (repeat (first | with_reducible refine ep ?_ | with_reducible refine en ?_))
 generalize V la * 2 ^ p = x at *
 generalize V lb * 2 ^ q = y at *
 by_cases hs : sa = sb
 ·subst hs
  have hadd := zfM (zM x) (zM y) (by omega) (by omega)
  rw [V_D, V_D] at hadd
  have l3 : (D (x + y)).length ≤ la.length + lb.length + p / 32 + q / 32 + 3 := by
   refine zan ?_
   have h5 := zbW x
   have h6 := zbW y
   refine zrD (N := la.length + lb.length + p / 32 + q / 32 + 3) h5 h6 (by omega) (by omega)
  have hf := zbH sa (zv (x + y)) (by omega) (e := m) (by omega) (by omega)
  rw [V_D] at hf
  (repeat (first | with_reducible refine ep ?_ | with_reducible refine en ?_))
  refine Ev.bind hadd ?_
  (repeat (first | with_reducible refine ep ?_ | with_reducible refine en ?_))
  refine Ev.bind hf ?_
  (repeat (first | with_reducible refine ep ?_ | with_reducible refine en ?_))
  refine zh (Ev.now _) ?_
  rw [zrE]
 ·refine ze (by simpa using hs) ?_
  refine Ev.bind (zly (zv x) (zv y) (by omega)) ?_
  (repeat (first | with_reducible refine ep ?_ | with_reducible refine en ?_))
  rw [V_D, V_D]
  by_cases hc : y ≤ x
  ·have hsub := ziG (zv x) (zv y) (by omega) (by rw [V_D, V_D]; exact hc)
   rw [V_D, V_D] at hsub
   have l3 : (D (x - y)).length ≤ (D x).length := zds (Nat.sub_le _ _)
   have hf := zbH sa (zv (x - y)) (by omega) (e := m) (by omega) (by omega)
   rw [V_D] at hf
   refine zd (zfm.2 hc) ?_
   refine Ev.bind hsub ?_
   (repeat (first | with_reducible refine ep ?_ | with_reducible refine en ?_))
   refine Ev.bind hf ?_
   (repeat (first | with_reducible refine ep ?_ | with_reducible refine en ?_))
   refine zh (Ev.now _) ?_
   rw [zmk hs hc]
  ·have hsub := ziG (zv y) (zv x) (by omega) (by rw [V_D, V_D]; omega)
   rw [V_D, V_D] at hsub
   have l3 : (D (y - x)).length ≤ (D y).length := zds (Nat.sub_le _ _)
   have hf := zbH sb (zv (y - x)) (by omega) (e := m) (by omega) (by omega)
   rw [V_D] at hf
   refine ze (fun h => hc (zfm.1 h)) ?_
   refine Ev.bind hsub ?_
   (repeat (first | with_reducible refine ep ?_ | with_reducible refine en ?_))
   refine Ev.bind hf ?_
   (repeat (first | with_reducible refine ep ?_ | with_reducible refine en ?_))
   refine zh (Ev.now _) ?_
   rw [Int.add_comm, zmk (fun h => hs h.symm) (by omega)]
structure zf6 (la : List Int) (ea : Int) (lb : List Int) (eb : Int) : Prop where
 a : la.length ≤ 1000000
 b : lb.length ≤ 1000000
 d : (ea - eb).natAbs ≤ 100000000
 e : -10000000000000 ≤ ea ∧ ea ≤ 10000000000000
theorem zlx {sa sb : Bool} {la lb : List Int} {ea eb : Int} (ha : Dy sa la ea) (hb : Dy sb lb eb) (h : zf6 la ea lb eb) : Ev (fun k => zaW.f k sa la ea sb lb eb) (zZ (sv sa (V la)) ea (sv sb (V lb)) eb) := by
 obtain ⟨h1, h2, h3, h4⟩ := h
 unfold zaW.f
 by_cases c : la = []
 ·subst c
  (repeat (first | with_reducible refine ep ?_ | with_reducible refine en ?_))
  refine zh (Ev.now _) ?_
  rw [zai, zbK, zht, zfC hb]
 refine ze (fun h => c (zcy.1 h)) ?_
 by_cases c2 : lb = []
 ·subst c2
  (repeat (first | with_reducible refine ep ?_ | with_reducible refine en ?_))
  refine zh (Ev.now _) ?_
  rw [zai, zbK, zne, zfC ha]
 refine ze (fun h => c2 (zcy.1 h)) ?_
 by_cases c3 : eb < ea
 ·refine zd c3 ?_
  exact zh (zlu ha.nm hb.nm h1 h2 (by omega) (by omega) (by omega) (by omega) (by omega) (by omega)) (zga (by omega) (by omega))
 ·refine ze c3 ?_
  exact zh (zlu ha.nm hb.nm h1 h2 (by omega) (by omega) (by omega) (by omega) (by omega) (by omega)) (zga (by omega) (by omega))
theorem zfy {l : List Int} (c : l ≠ []) : (l.length : Int) > 0 := by
 have := List.length_pos_iff.2 c
 omega
theorem zqY {s : Bool} {l : List Int} {e : Int} (h : Dy s l e) : zeH.f s l e = some (mk (-(sv s (V l))) e) := by
 unfold zeH.f
 by_cases c : l = []
 ·obtain ⟨h1, h2⟩ := h.none c
  subst c; subst h1; subst h2
  rfl
 ·have hl := zfy c
  have h1 := h.odd c
  have h0 : V l ≠ 0 := by omega
  rw [if_pos hl, ← ziW, zdf _ h0, zeR h1, Nat.pow_zero, Nat.div_one, h.nm]
  simp
theorem zpA {z e : Int} : (mk z e).2.1 = D (z.natAbs / 2 ^ lw z.natAbs) := by
 unfold mk
 by_cases h : z = 0
 ·subst h; rw [if_pos rfl]; simp [zy]
 ·rw [if_neg h]
theorem zeu {s : Bool} {n : Nat} (h : n ≠ 0) : (sv s n).sign = if s = true then -1 else 1 := by
 unfold sv
 split
 ·exact Int.sign_eq_neg_one_of_neg (by omega)
 ·exact Int.sign_eq_one_of_pos (by omega)
theorem zfN {s : Bool} {l : List Int} {e : Int} (h : Dy s l e) : zbO.f s l e = some (sv s (V l)).sign := by
 unfold zbO.f
 by_cases c : l = []
 ·subst c
  rw [if_pos (zcy.2 rfl), zai, zbK]; rfl
 ·have h1 := h.odd c
  have h0 : V l ≠ 0 := by omega
  rw [if_neg (fun h => c (zcy.1 h)), zeu h0]
  split <;> rfl
def top (z e : Int) : Int := if z = 0 then 0 else e + (bl z.natAbs : Nat)
theorem zfO {s : Bool} {l : List Int} {e : Int} (h : Dy s l e) (hl : l.length ≤ 1000000) (h1 : -1000000000000000 ≤ e) (h2 : e ≤ 1000000000000000) : Ev (fun k => zay.f k s l e) (top (sv s (V l)) e) := by
 unfold zay.f top
 by_cases c : l = []
 ·subst c
  (repeat (first | with_reducible refine ep ?_ | with_reducible refine en ?_))
  exact zh (Ev.now _) (by rw [zai, zbK]; rfl)
 ·have h3 := h.odd c
  have h0 : V l ≠ 0 := by omega
  have hb := zaV h.nm.dg
  refine ze (fun h => c (zcy.1 h)) ?_
  refine Ev.bind (zcz h.nm (by omega)) ?_
  (repeat (first | with_reducible refine ep ?_ | with_reducible refine en ?_))
  refine zh (Ev.now _) ?_
  rw [if_neg (fun h => h0 (za3.1 h)), zT, zha h1 h2 (by omega)]
theorem zg3 (s t : Bool) (x y : Nat) : sv s x * sv t y = sv (s != t) (x * y) := by
 unfold sv
 cases s <;> cases t <;> simp [Int.mul_neg, Int.neg_mul]
theorem zkT (s t : Bool) : decide (¬ s = t) = (s != t) := by cases s <;> cases t <;> rfl
theorem zqX {sa sb : Bool} {la lb : List Int} {ea eb : Int} (ha : Dy sa la ea) (hb : Dy sb lb eb) (l1 : la.length ≤ 1000000) (l2 : lb.length ≤ 1000000) (h1 : -100000000000000 ≤ ea) (h2 : ea ≤ 100000000000000) (h3 : -100000000000000 ≤ eb) (h4 : eb ≤ 100000000000000) :
  Ev (fun k => zbm.f k sa la ea sb lb eb) (mk (sv sa (V la) * sv sb (V lb)) (ea + eb)) := by
 unfold zbm.f
 have e : wrap64 (ea + eb) = ea + eb := by unfold wrap64; omega
 rw [e]
 have hl : (D (V la * V lb)).length ≤ la.length + lb.length := zpf (by rw [ha.nm.len]; exact Nat.le_refl _) (by rw [hb.nm.len]; exact Nat.le_refl _)
 have hf := zbH (sa != sb) (zv (V la * V lb)) (by omega) (e := ea + eb) (by omega) (by omega)
 rw [V_D] at hf
 refine Ev.bind (ziF ha.nm.dg hb.nm.dg (by omega) (by omega)) ?_
 (repeat (first | with_reducible refine ep ?_ | with_reducible refine en ?_))
 rw [zkT]
 refine Ev.bind hf ?_
 (repeat (first | with_reducible refine ep ?_ | with_reducible refine en ?_))
 refine zh (Ev.now _) ?_
 rw [zg3]
theorem zlB {sa sb : Bool} {la lb : List Int} {ea eb : Int} (ha : Dy sa la ea) (hb : Dy sb lb eb) (h : zf6 la ea lb eb) : Ev (fun k => zcb.f k sa la ea sb lb eb) (zZ (sv sa (V la)) ea (-(sv sb (V lb))) eb) := by
 unfold zcb.f
 have hn := zY (-(sv sb (V lb))) eb
 have e1 : mk (-(sv sb (V lb))) eb = ((mk (-(sv sb (V lb))) eb).1, (mk (-(sv sb (V lb))) eb).2.1, (mk (-(sv sb (V lb))) eb).2.2) := rfl
 have hv : (mk (-(sv sb (V lb))) eb).2.1 = lb ∧ sv (mk (-(sv sb (V lb))) eb).1 (V lb) = -(sv sb (V lb)) ∧ (mk (-(sv sb (V lb))) eb).2.2 = eb := by
  by_cases c : lb = []
  ·obtain ⟨h1, h2⟩ := hb.none c
   subst c; subst h1; subst h2
   exact ⟨rfl, by rw [zai, zbK, zbK]; rfl, rfl⟩
  ·have h3 := hb.odd c
   have h0 : V lb ≠ 0 := by omega
   rw [← ziW, zdf _ h0, zeR h3, Nat.pow_zero, Nat.div_one, hb.nm]
   exact ⟨rfl, rfl, by simp⟩
 refine zi (zqY hb) ?_
 (repeat (first | with_reducible refine ep ?_ | with_reducible refine en ?_))
 rw [hv.1, hv.2.2] at hn
 have ha2 := zlx ha hn h
 rw [hv.2.1] at ha2
 simp only [hv.1, hv.2.2]
 refine Ev.bind ha2 ?_
 (repeat (first | with_reducible refine ep ?_ | with_reducible refine en ?_))
 exact Ev.now _
theorem zq2 {s : Bool} {l : List Int} {e n : Int} (h : Dy s l e) (h1 : -100000000000000 ≤ e) (h2 : e ≤ 100000000000000) (h3 : -100000000000000 ≤ n) (h4 : n ≤ 100000000000000) : zbN.f s l e n = some (mk (sv s (V l)) (e + n)) := by
 unfold zbN.f
 have ew : wrap64 (e + n) = e + n := by unfold wrap64; omega
 by_cases c : l = []
 ·obtain ⟨h1, h2⟩ := h.none c
  subst c; subst h1; subst h2
  rw [if_neg (by simp), zai, zbK]; rfl
 ·have h5 := h.odd c
  have h0 : V l ≠ 0 := by omega
  rw [if_pos (zfy c), zdf _ h0, zeR h5, Nat.pow_zero, Nat.div_one, h.nm, ew]
  simp
theorem zq0 (s : Bool) (l : List Int) (e : Int) (s' : Bool) (l' : List Int) (e' : Int) (hb : l.length < 4611686018427387904) : Ev (fun k => zcK.f k s l e s' l' e') (decide ((s, l, e) = (s', l', e'))) := by
 unfold zcK.f
 by_cases h1 : s = s'
 ·by_cases h2 : e = e'
  ·refine zd (by simpa using h1) ?_
   refine zd h2 ?_
   refine Ev.bind (zq1 l l' hb) ?_
   (repeat (first | with_reducible refine ep ?_ | with_reducible refine en ?_))
   refine zh (Ev.now _) ?_
   exact decide_eq_decide.2 (by simp [h1, h2])
  ·refine zd (by simpa using h1) ?_
   refine ze h2 ?_
   exact zh (Ev.now _) (decide_eq_false (by simp [h2])).symm
 ·refine ze (by simpa using h1) ?_
  exact zh (Ev.now _) (decide_eq_false (by simp [h1])).symm
theorem zkG (z e : Int) : (sv (mk z e).1 (V (mk z e).2.1)).sign = z.sign := by
 unfold mk
 by_cases h : z = 0
 ·subst h; rfl
 ·rw [if_neg h]
  have hn : z.natAbs ≠ 0 := by omega
  have h1 : V (D (z.natAbs / 2 ^ lw z.natAbs)) ≠ 0 := by
   rw [V_D]
   have h2 := (zcv hn).le
   have := Nat.div_pos h2 (zj _)
   omega
  show (sv (decide (z < 0)) (V (D (z.natAbs / 2 ^ lw z.natAbs)))).sign = z.sign
  rw [zeu h1]
  by_cases h3 : z < 0
  ·rw [decide_eq_true h3, if_pos rfl, Int.sign_eq_neg_one_of_neg h3]
  ·rw [decide_eq_false h3, if_neg (by simp), Int.sign_eq_one_of_pos (by omega)]
theorem zio (k : Nat) : (0 : Int) < 2 ^ k := Int.pow_pos (by omega)
theorem zcF (z e m : Int) : (al z e m).sign = z.sign := by
 unfold al
 rw [Int.sign_mul, Int.sign_eq_one_of_pos (zio _), Int.mul_one]
theorem znf (z e m : Int) : (al z e m).natAbs = z.natAbs * 2 ^ (e - m).toNat := by
 unfold al
 rw [Int.natAbs_mul, Int.natAbs_pow]; rfl
theorem zjt {z e m : Int} (h : z ≠ 0) (hm : m ≤ e) : ((bl (al z e m).natAbs : Nat) : Int) + m = top z e := by
 rw [znf, zaj (by omega)]
 unfold top
 rw [if_neg h]
 omega
theorem zkB {x y : Nat} (h : bl x < bl y) : x < y := by
 rcases Nat.lt_or_ge x y with h1 | h1
 ·exact h1
 ·have := zV h1; omega
def zaw (za ea zb eb : Int) : Int := (al za ea (min ea eb) - al zb eb (min ea eb)).sign
theorem zjR {a b : Int} : (a - b).sign = if a < b then -1 else if b < a then 1 else 0 := by
 split
 ·exact Int.sign_eq_neg_one_of_neg (by omega)
 ·split
  ·exact Int.sign_eq_one_of_pos (by omega)
  ·have : a - b = 0 := by omega
   rw [this]; rfl
theorem zcA (z : Int) : (z < 0 ∧ z.sign = -1) ∨ (z = 0 ∧ z.sign = 0) ∨ (0 < z ∧ z.sign = 1) := by
 rcases Int.lt_trichotomy z 0 with h | h | h
 ·exact .inl ⟨h, Int.sign_eq_neg_one_of_neg h⟩
 ·exact .inr (.inl ⟨h, by rw [h]; rfl⟩)
 ·exact .inr (.inr ⟨h, Int.sign_eq_one_of_pos h⟩)
theorem znS {a b : Int} (h : a.sign ≠ b.sign) : (a - b).sign = if a.sign < b.sign then -1 else 1 := by
 rw [zjR]
 rcases zcA a with ⟨h1, e1⟩ | ⟨h1, e1⟩ | ⟨h1, e1⟩ <;> rcases zcA b with ⟨h2, e2⟩ | ⟨h2, e2⟩ | ⟨h2, e2⟩ <;> rw [e1, e2] at h ⊢ <;> first | exact absurd rfl h | (simp <;> omega)
theorem znR {a b : Int} (h : a.sign = b.sign) (h0 : a.sign ≠ 0) (hl : bl a.natAbs ≠ bl b.natAbs) : (a - b).sign = if (decide (bl a.natAbs < bl b.natAbs) == decide (a.sign > 0)) = true then -1 else 1 := by
 rw [zjR]
 have hlt : bl a.natAbs < bl b.natAbs ∨ bl b.natAbs < bl a.natAbs := by omega
 have hn : a.natAbs ≠ b.natAbs := fun e => hl (by rw [e])
 rcases hlt with h1 | h1
 ·have h2 := zkB h1
  rw [decide_eq_true h1]
  rcases zcA a with ⟨h3, e1⟩ | ⟨h3, e1⟩ | ⟨h3, e1⟩
  ·rw [e1] at h ⊢
   have : b < 0 := by rcases zcA b with ⟨h4, e2⟩ | ⟨h4, e2⟩ | ⟨h4, e2⟩ <;> omega
   rw [if_neg (by omega), if_pos (by omega)]; rfl
  ·exact absurd e1 h0
  ·rw [e1] at h ⊢
   have : 0 < b := by rcases zcA b with ⟨h4, e2⟩ | ⟨h4, e2⟩ | ⟨h4, e2⟩ <;> omega
   rw [if_pos (by omega)]; rfl
 ·have h2 := zkB h1
  rw [decide_eq_false (by omega : ¬ bl a.natAbs < bl b.natAbs)]
  rcases zcA a with ⟨h3, e1⟩ | ⟨h3, e1⟩ | ⟨h3, e1⟩
  ·rw [e1] at h ⊢
   have : b < 0 := by rcases zcA b with ⟨h4, e2⟩ | ⟨h4, e2⟩ | ⟨h4, e2⟩ <;> omega
   rw [if_pos (by omega)]; rfl
  ·exact absurd e1 h0
  ·rw [e1] at h ⊢
   have : 0 < b := by rcases zcA b with ⟨h4, e2⟩ | ⟨h4, e2⟩ | ⟨h4, e2⟩ <;> omega
   rw [if_neg (by omega), if_pos (by omega)]; rfl
theorem znO (za ea zb eb : Int) : zaw za ea zb eb = (al za ea (min ea eb) - al zb eb (min ea eb)).sign := rfl
theorem zl3 {z : Int} (h : z.sign ≠ 0) : z ≠ 0 := fun e => h (by rw [e]; rfl)
theorem zqT {sa sb : Bool} {la lb : List Int} {ea eb : Int} (ha : Dy sa la ea) (hb : Dy sb lb eb) (h : zf6 la ea lb eb) : Ev (fun k => za7.f k sa la ea sb lb eb) (zaw (sv sa (V la)) ea (sv sb (V lb)) eb) := by
 have hs := zlB ha hb h
 obtain ⟨h1, h2, h3, h4⟩ := h
 have ta := zfO ha h1 (by omega) (by omega)
 have tb := zfO hb h2 (by omega) (by omega)
 unfold za7.f
 refine zi (zfN ha) ?_
 (repeat (first | with_reducible refine ep ?_ | with_reducible refine en ?_))
 refine zi (zfN hb) ?_
 (repeat (first | with_reducible refine ep ?_ | with_reducible refine en ?_))
 rw [znO]
 generalize hza : sv sa (V la) = za at *
 generalize hzb : sv sb (V lb) = zb at *
 have hm1 : min ea eb ≤ ea := by omega
 have hm2 : min ea eb ≤ eb := by omega
 by_cases c : za.sign = zb.sign
 ·refine ze (fun h => h c) ?_
  by_cases c0 : za.sign = 0
  ·refine zd c0 ?_
   refine zh (Ev.now _) ?_
   have e1 : za = 0 := by rcases zcA za with ⟨_, e⟩ | ⟨e, _⟩ | ⟨_, e⟩ <;> omega
   have e2 : zb = 0 := by rcases zcA zb with ⟨_, e⟩ | ⟨e, _⟩ | ⟨_, e⟩ <;> omega
   rw [e1, e2, zfj, zfj]; rfl
  ·refine ze c0 ?_
   refine Ev.bind ta ?_
   (repeat (first | with_reducible refine ep ?_ | with_reducible refine en ?_))
   refine Ev.bind tb ?_
   (repeat (first | with_reducible refine ep ?_ | with_reducible refine en ?_))
   have ba := zjt (zl3 c0) hm1
   have bb := zjt (z := zb) (zl3 (by rw [← c]; exact c0)) hm2
   by_cases ct : top za ea = top zb eb
   ·refine ze (fun h => h ct) ?_
    refine Ev.bind hs ?_
    (repeat (first | with_reducible refine ep ?_ | with_reducible refine en ?_))
    have hd := zY (al za ea (min ea eb) + al (-zb) eb (min ea eb)) (min ea eb)
    have hg : zZ za ea (-zb) eb = mk (al za ea (min ea eb) + al (-zb) eb (min ea eb)) (min ea eb) := rfl
    rw [hg]
    refine zi (zfN hd) ?_
    (repeat (first | with_reducible refine ep ?_ | with_reducible refine en ?_))
    refine zh (Ev.now _) ?_
    rw [zkG]
    congr 1
    unfold al
    rw [Int.neg_mul]; rfl
   ·refine zd ct ?_
    refine Ev.bind ta ?_
    (repeat (first | with_reducible refine ep ?_ | with_reducible refine en ?_))
    refine Ev.bind tb ?_
    (repeat (first | with_reducible refine ep ?_ | with_reducible refine en ?_))
    have hne : bl (al za ea (min ea eb)).natAbs ≠ bl (al zb eb (min ea eb)).natAbs := fun e => ct (by rw [← ba, ← bb, e])
    have hc := znR (a := al za ea (min ea eb)) (b := al zb eb (min ea eb)) (by rw [zcF, zcF]; exact c) (by rw [zcF]; exact c0) hne
    rw [zcF] at hc
    have hd : decide (top za ea < top zb eb) = decide (bl (al za ea (min ea eb)).natAbs < bl (al zb eb (min ea eb)).natAbs) := decide_eq_decide.2 (by omega)
    rw [hc, hd]
    generalize decide (bl (al za ea (min ea eb)).natAbs < bl (al zb eb (min ea eb)).natAbs) = p
    generalize decide (za.sign > 0) = q
    by_cases cq : p = q
    ·exact zd cq (zh (Ev.now _) (by rw [if_pos (beq_iff_eq.2 cq)]))
    ·exact ze cq (zh (Ev.now _) (by rw [if_neg (fun h => cq (beq_iff_eq.1 h))]))
 ·refine zd c ?_
  have hc := znS (a := al za ea (min ea eb)) (b := al zb eb (min ea eb)) (by rw [zcF, zcF]; exact c)
  rw [zcF, zcF] at hc
  rw [hc]
  by_cases c1 : za.sign < zb.sign
  ·refine zd c1 ?_
   exact zh (Ev.now _) (if_pos c1).symm
  ·refine ze c1 ?_
   exact zh (Ev.now _) (if_neg c1).symm
def zag (z e : Int) : Int := if 0 ≤ e then z * 2 ^ e.toNat else z / 2 ^ (-e).toNat
theorem zfw (s : Bool) (n k : Nat) : sv s n / 2 ^ k = sv s (n / 2 ^ k + if s = true ∧ n % 2 ^ k ≠ 0 then 1 else 0) := by
 have hp := zj k
 have hc : (2 : Int) ^ k = ((2 ^ k : Nat) : Int) := by rw [Int.natCast_pow]; rfl
 unfold sv
 cases s
 ·simp only [Bool.false_eq_true, if_false, false_and, Nat.add_zero]
  rw [hc]; rfl
 ·simp only [if_true, true_and]
  rw [hc]
  generalize 2 ^ k = p at *
  have h1 := Nat.div_add_mod n p
  have h2 := Nat.mod_lt n hp
  by_cases hm : n % p = 0
  ·rw [if_neg (by simp [hm]), Nat.add_zero]
   have h3 : n = p * (n / p) := by omega
   refine Int.ediv_eq_of_eq_mul_left (by omega) ?_
   rw [Int.neg_mul]
   congr 1
   have : ((n / p : Nat) : Int) * (p : Int) = ((n / p * p : Nat) : Int) := by rw [Int.natCast_mul]
   rw [this, Nat.mul_comm, ← h3]
  ·rw [if_pos hm]
   have h4 : (-(n : Int)) = (p : Int) * (-((n / p + 1 : Nat) : Int)) + ((p - n % p : Nat) : Int) := by
    have h5 : (p : Int) * (-((n / p + 1 : Nat) : Int)) = -((p * (n / p) + p : Nat) : Int) := by
     rw [Int.mul_neg, ← Int.natCast_mul, Nat.mul_add, Nat.mul_one]
    rw [h5]
    omega
   rw [h4, Int.mul_add_ediv_left _ _ (by omega), Int.ediv_eq_zero_of_lt (by omega) (by omega), Int.add_zero]
theorem zqW {s : Bool} {l : List Int} {e : Int} (h : Dy s l e) (hl : l.length ≤ 1000000) (h1 : -900000000 ≤ e) (h2 : e ≤ 900000000) : Ev (fun k => zdA.f k s l e) (mk (zag (sv s (V l)) e) 0) := by
 unfold zdA.f zag
 by_cases c : 0 ≤ e
 ·refine zd c ?_
  refine zh (Ev.now _) ?_
  rw [if_pos c, zbX, show (0 : Int) + (e.toNat : Int) = e by omega, zfC h]
 ·refine ze c ?_
  rw [if_neg c]
  have ew : wrap64 (-e) = (((-e).toNat : Nat) : Int) := by unfold wrap64; omega
  rw [ew]
  clear ew
  have hn : (-e).toNat < 1000000000 := by omega
  generalize (-e).toNat = n at *
  refine Ev.bind (ziD h.nm (by omega) n hn) ?_
  (repeat (first | with_reducible refine ep ?_ | with_reducible refine en ?_))
  have hd : (D (V l / 2 ^ n)).length ≤ l.length := zan (Nat.lt_of_le_of_lt (Nat.div_le_self _ _) (zah h.nm.dg))
  have d1 : Dg [1] := Dg.cons (by omega) (by omega) Dg.nil
  have v1 : V [1] = 1 := by simp
  have hadd := zfM (zM (V l / 2 ^ n)) d1 (by omega) (by simp)
  rw [V_D, v1] at hadd
  have hl2 : (D (V l / 2 ^ n + 1)).length ≤ l.length + 1 := zpg hd
  have f1 := zbH s (zv (V l / 2 ^ n + 1)) (by omega) (e := 0) (by omega) (by omega)
  have f0 := zbH s (zv (V l / 2 ^ n)) (by omega) (e := 0) (by omega) (by omega)
  rw [V_D] at f0 f1
  cases s
  ·refine ze (by simp) (Ev.bind f0 (zh (Ev.now _) ?_))
   rw [zfw, if_neg (by simp)]; rfl
  ·refine zd rfl ?_
   by_cases hc : V l % 2 ^ n ≠ 0
   ·refine zd (decide_eq_true hc) (Ev.bind hadd (Ev.bind f1 (zh (Ev.now _) ?_)))
    rw [zfw, if_pos ⟨rfl, hc⟩]
   ·refine ze (by rw [decide_eq_false hc]; simp) (Ev.bind f0 (zh (Ev.now _) ?_))
    rw [zfw, if_neg (fun h => hc h.2)]; rfl
theorem zqU {s : Bool} {l : List Int} {e : Int} (h : Dy s l e) (hl : l.length ≤ 1000000) (h1 : -100000000000000 ≤ e) (h2 : e ≤ 100000000000000) (b : Nat) (hb : b ≤ 100000000) : Ev (fun k => zd8.f k s l e b) ((mk (sv s (V l / 2 ^ (bl (V l) - b))) (e + ((bl (V l) - b : Nat) : Int))).1, (mk (sv s (V l / 2 ^ (bl (V l) - b))) (e + ((bl (V l) - b : Nat) : Int))).2.1, (mk (sv s (V l / 2 ^ (bl (V l) - b))) (e + ((bl (V l) - b : Nat) : Int))).2.2, decide (V l % 2 ^ (bl (V l) - b) ≠ 0)) := by
 unfold zd8.f
 have hbl := zaV h.nm.dg
 refine Ev.bind (zcz h.nm (by omega)) ?_
 (repeat (first | with_reducible refine ep ?_ | with_reducible refine en ?_))
 by_cases c : bl (V l) ≤ b
 ·have ew : wrap64 (((bl (V l) : Nat) : Int) - (b : Int)) ≤ 0 := by unfold wrap64; omega
  refine zd ew ?_
  refine zh (Ev.now _) ?_
  have e0 : bl (V l) - b = 0 := by omega
  rw [e0, Nat.pow_zero, Nat.div_one, Nat.mod_one, show e + ((0 : Nat) : Int) = e by omega, zfC h]
  rfl
 ·have ew : wrap64 (((bl (V l) : Nat) : Int) - (b : Int)) = ((bl (V l) - b : Nat) : Int) := by unfold wrap64; omega
  rw [ew]
  clear ew
  have hn : bl (V l) - b < 1000000000 := by omega
  (repeat (first | with_reducible refine ep ?_ | with_reducible refine en ?_))
  generalize bl (V l) - b = n at *
  have hd : (D (V l / 2 ^ n)).length ≤ l.length := zan (Nat.lt_of_le_of_lt (Nat.div_le_self _ _) (zah h.nm.dg))
  have f0 := zbH s (zv (V l / 2 ^ n)) (by omega) (e := e + (n : Int)) (by omega) (by omega)
  rw [V_D] at f0
  rw [zha (by omega) (by omega) (by omega)]
  refine Ev.bind (ziD h.nm (by omega) n hn) ?_
  (repeat (first | with_reducible refine ep ?_ | with_reducible refine en ?_))
  refine Ev.bind f0 ?_
  (repeat (first | with_reducible refine ep ?_ | with_reducible refine en ?_))
  exact Ev.now _
theorem zpW {n : Int} (h1 : -9223372036854775808 ≤ n) (h2 : n < 0) : IntKind.u64.wrap (-(IntKind.u64.wrap n)) = ((-n).toNat : Int) := by
 rw [zcn, zcn]; omega
theorem zeW {n : Int} (h1 : -9223372036854775808 ≤ n) (h2 : n < 9223372036854775808) : Ev (fun k => zaX.f k n) (mk n 0) := by
 unfold zaX.f
 have hlen : ∀ m : Nat, m < 18446744073709551616 → (D m).length < 10000000 := fun m hm => by
  have : (D m).length ≤ 2 := zan (by omega)
  omega
 by_cases c : n < 0
 ·rw [zpW h1 c]
  have o1 := zeX (n := ((-n).toNat : Int)) (by omega) (by omega)
  rw [Int.toNat_natCast] at o1
  have f1 := zbH (decide (n < 0)) (zv (-n).toNat) (hlen _ (by omega)) (e := 0) (by omega) (by omega)
  rw [V_D, decide_eq_true c] at f1
  have e1 : sv true (-n).toNat = n := by unfold sv; rw [if_pos rfl]; omega
  rw [e1] at f1
  refine zd c ?_
  refine zf ?_
  simp only [zaX.j0]
  rw [decide_eq_true c]
  refine Ev.bind o1 ?_
  (repeat (first | with_reducible refine ep ?_ | with_reducible refine en ?_))
  refine Ev.bind f1 ?_
  (repeat (first | with_reducible refine ep ?_ | with_reducible refine en ?_))
  exact Ev.now _
 ·have e0 : IntKind.u64.wrap n = (n.toNat : Int) := by rw [zcn]; omega
  rw [e0]
  have o1 := zeX (n := (n.toNat : Int)) (by omega) (by omega)
  rw [Int.toNat_natCast] at o1
  have f1 := zbH (decide (n < 0)) (zv n.toNat) (hlen _ (by omega)) (e := 0) (by omega) (by omega)
  rw [V_D, decide_eq_false c] at f1
  have e1 : sv false n.toNat = n := by unfold sv; rw [if_neg (by simp)]; omega
  rw [e1] at f1
  refine ze c ?_
  refine zf ?_
  simp only [zaX.j0]
  rw [decide_eq_false c]
  refine Ev.bind o1 ?_
  (repeat (first | with_reducible refine ep ?_ | with_reducible refine en ?_))
  refine Ev.bind f1 ?_
  (repeat (first | with_reducible refine ep ?_ | with_reducible refine en ?_))
  exact Ev.now _
theorem znn (X : Nat) (hX : X < 4294967296) : Go.bits .and .u32 (X : Int) 1 = ((X % 2 : Nat) : Int) := by
 have h1 : (BitVec.ofInt 32 (X : Int)).toNat = X := by
  rw [BitVec.ofInt_natCast, BitVec.toNat_ofNat]; exact Nat.mod_eq_of_lt (by omega)
 show IntKind.u32.wrap ((BitVec.ofInt 32 (X : Int) &&& BitVec.ofInt 32 1).toNat : Int) = _
 have h2 : (BitVec.ofInt 32 (1 : Int)).toNat = 1 := by decide
 have h3 : ∀ n : Int, IntKind.u32.wrap n = n % 4294967296 := fun n => by simp [IntKind.wrap, IntKind.signed, IntKind.bits]
 rw [BitVec.toNat_and, h1, h2, h3, Nat.and_one_is_mod]
 omega
theorem zpq {l : List Int} (h : Dg l) : Go.bits .and .u32 (rd l 0) 1 = ((V l % 2 : Nat) : Int) := by
 have h1 := h.getD 0
 have h2 := zjm h 0
 rw [Nat.pow_zero, Nat.div_one] at h2
 have h3 : rd l 0 = l.getD 0 0 := rdn l 0
 rw [h3]
 obtain ⟨x, hx⟩ := Int.eq_ofNat_of_zero_le h1.1
 rw [hx] at h1 h2 ⊢
 rw [znn x (by omega)]
 rw [Int.toNat_natCast] at h2
 omega
structure My (s : Bool) (l : List Int) (e : Int) : Prop where
 dy : Dy s l e
 len : l.length ≤ 4096
 lo : -16777216 ≤ e
 hi : e ≤ 16777216
theorem zdJ {s : Bool} {l : List Int} {e : Int} (h : My s l e) : zch.f s l e = some true := by
 obtain ⟨hd, hl, h1, h2⟩ := h
 unfold zch.f
 rw [zdi hd.nm.dg (by omega), Option.bind_some, zcw.2 ⟨hl, hd.nm⟩, if_neg (by simp)]
 by_cases c : l = []
 ·obtain ⟨h3, h4⟩ := hd.none c
  subst c; subst h3; subst h4
  rfl
 ·have ho := hd.odd c
  rw [if_neg (fun h => c (zcy.1 h)), if_pos (zfy c), zpq hd.nm.dg, if_pos (by omega)]
  unfold zfv.f
  rw [if_pos h1, decide_eq_true h2]; rfl
theorem zhO {s : Bool} {l : List Int} {e : Int} (h : My s l e) : Ev (fun k => zbC.f k s l e) (sv s (V l)).sign := by
 unfold zbC.f
 refine zi (zdJ h) ?_
 (repeat (first | with_reducible refine ep ?_ | with_reducible refine en ?_))
 refine zf ?_
 simp only [zbC.j0]
 by_cases c : l = []
 ·subst c
  (repeat (first | with_reducible refine ep ?_ | with_reducible refine en ?_))
  exact zh (Ev.now _) (by rw [zai, zbK]; rfl)
 ·have h1 := h.dy.odd c
  have h0 : V l ≠ 0 := by omega
  refine ze (by simpa using fun e => c e) ?_
  rw [zeu h0]
  by_cases hs : s = true
  ·refine zd hs ?_
   exact zh (Ev.now _) (if_pos hs).symm
  ·refine ze hs ?_
   exact zh (Ev.now _) (if_neg hs).symm
theorem zpz {s : Bool} {n : Nat} {e : Int} (h1 : -16777216 ≤ e) (h2 : e + (bl n : Nat) ≤ 16777216) : zfA s n e = ((mk (sv s n) e).1, (mk (sv s n) e).2.1, (mk (sv s n) e).2.2, 0) := by
 unfold zfA
 by_cases h0 : n = 0
 ·rw [if_pos h0, h0, zbK]; rfl
 ·have := zek h0
  rw [if_neg h0, if_neg (by omega), if_neg (by omega)]
theorem zkc {sa sb : Bool} {la lb : List Int} {ea eb : Int} (ha : My sa la ea) (hb : My sb lb eb) : Ev (fun k => zbp.f k [(sa, la, ea), (sb, lb, eb)]) true := by
 unfold zbp.f
 have e1 : wrap64 (0 + 1) = 1 := by rw [zau (by omega) (by omega)]; rfl
 have e2 : wrap64 (1 + 1) = 2 := by rw [zau (by omega) (by omega)]; rfl
 have el : (([(sa, la, ea), (sb, lb, eb)] : List (Bool × List Int × Int)).length : Int) = 2 := rfl
 have r0 : rdT [.b, .is .u32, .i .i64] [(sa, la, ea), (sb, lb, eb)] 0 = ⟨sa, la, ea⟩ := rfl
 have r1 : rdT [.b, .is .u32, .i .i64] [(sa, la, ea), (sb, lb, eb)] 1 = ⟨sb, lb, eb⟩ := rfl
 refine zf ?_
 simp only [zbp.l0, el, e1, e2, r0]
 (repeat (first | with_reducible refine ep ?_ | with_reducible refine en ?_))
 refine zi (zdJ ha) ?_
 (repeat (first | with_reducible refine ep ?_ | with_reducible refine en ?_))
 refine zf ?_
 simp only [zbp.l0, el, e1, e2, r1]
 (repeat (first | with_reducible refine ep ?_ | with_reducible refine en ?_))
 refine zi (zdJ hb) ?_
 (repeat (first | with_reducible refine ep ?_ | with_reducible refine en ?_))
 refine zf ?_
 simp only [zbp.l0, el, e1, e2]
 (repeat (first | with_reducible refine ep ?_ | with_reducible refine en ?_))
 exact Ev.now _
def ok3 (d : Bool × List Int × Int) : Bool × List Int × Int × Int := (d.1, d.2.1, d.2.2, 0)
theorem zdK {s : Bool} {n : Nat} {e : Int} (h1 : -16777216 ≤ e) (h2 : e + (bl n : Nat) ≤ 16777216) : zfA s n e = ok3 (mk (sv s n) e) := zpz h1 h2
theorem zgg {n : Nat} (h : bl n ≤ 131072) : z6 n = (D n, 0) := by
 have : (D n).length ≤ 4096 := zaq (by omega)
 unfold z6
 rw [if_neg (by omega)]
structure Sm (s : Bool) (l : List Int) (e : Int) : Prop where
 dy : Dy s l e
 len : l.length ≤ 1000
 lo : -40000 ≤ e
 hi : e ≤ 40000
theorem Sm.my {s : Bool} {l : List Int} {e : Int} (h : Sm s l e) : My s l e := ⟨h.dy, Nat.le_trans h.len (by omega), by have := h.lo; omega, by have := h.hi; omega⟩
theorem zmV {s : Bool} {l : List Int} {e : Int} (h : Dy s l e) : (mk (-(sv s (V l))) e).2.1 = l ∧ sv (mk (-(sv s (V l))) e).1 (V l) = -(sv s (V l)) ∧ (mk (-(sv s (V l))) e).2.2 = e := by
 by_cases c : l = []
 ·obtain ⟨h1, h2⟩ := h.none c
  subst c; subst h1; subst h2
  exact ⟨rfl, by rw [zai, zbK, zbK]; rfl, rfl⟩
 ·have h3 := h.odd c
  have h0 : V l ≠ 0 := by omega
  rw [← ziW, zdf _ h0, zeR h3, Nat.pow_zero, Nat.div_one, h.nm]
  exact ⟨rfl, rfl, by simp⟩
theorem zhE {za ea zb eb m : Int} (h1 : m ≤ ea) (h2 : m ≤ eb) : (al za ea m - al zb eb m).sign = zaw za ea zb eb := by
 unfold zaw
 have h3 : m ≤ min ea eb := by omega
 rw [← zgc (z := za) (e := ea) (m := min ea eb) (n := m) (by omega) h3, ← zgc (z := zb) (e := eb) (m := min ea eb) (n := m) (by omega) h3]
 generalize al za ea (min ea eb) = x
 generalize al zb eb (min ea eb) = y
 have e : al x (min ea eb) m - al y (min ea eb) m = al (x - y) (min ea eb) m := by unfold al; rw [Int.sub_mul]
 rw [e, zcF]
theorem zeE (n : Nat) (h : n < 18446744073709551616) : (BitVec.ofInt 64 (n : Int)).toNat = n := by
 rw [BitVec.ofInt_natCast, BitVec.toNat_ofNat]; exact Nat.mod_eq_of_lt (by omega)
theorem zjz (a b : Nat) (ha : a < 18446744073709551616) (hb : b < 18446744073709551616) : Go.bits .and .u64 (a : Int) (b : Int) = ((a &&& b : Nat) : Int) := by
 show IntKind.u64.wrap ((BitVec.ofInt 64 (a : Int) &&& BitVec.ofInt 64 (b : Int)).toNat : Int) = _
 have hx : a &&& b < 2 ^ 64 := Nat.and_lt_two_pow _ (by omega)
 rw [BitVec.toNat_and, zeE a ha, zeE b hb, zcn]
 omega
theorem zeU (a b : Nat) (ha : a < 18446744073709551616) (hb : b < 18446744073709551616) : Go.bits .or .u64 (a : Int) (b : Int) = ((a ||| b : Nat) : Int) := by
 show IntKind.u64.wrap ((BitVec.ofInt 64 (a : Int) ||| BitVec.ofInt 64 (b : Int)).toNat : Int) = _
 have hx : a ||| b < 2 ^ 64 := Nat.or_lt_two_pow (by omega) (by omega)
 rw [BitVec.toNat_or, zeE a ha, zeE b hb, zcn]
 omega
theorem znk (a b : Nat) (ha : a < 18446744073709551616) (hb : b < 18446744073709551616) : Go.bits .andNot .u64 (a : Int) (b : Int) = ((a &&& (18446744073709551616 - 1 - b) : Nat) : Int) := by
 show IntKind.u64.wrap ((BitVec.ofInt 64 (a : Int) &&& ~~~(BitVec.ofInt 64 (b : Int))).toNat : Int) = _
 have hx : a &&& (18446744073709551616 - 1 - b) < 2 ^ 64 := Nat.and_lt_two_pow _ (by omega)
 rw [BitVec.toNat_and, BitVec.toNat_not, zeE a ha, zeE b hb, zcn]
 have e : 2 ^ 64 - 1 - b = 18446744073709551616 - 1 - b := by omega
 rw [e]
 omega
theorem zhv (a k : Nat) (ha : a < 18446744073709551616) (hk : k ≤ 63) : Go.bits .and .u64 (a : Int) ((2 ^ k - 1 : Nat) : Int) = ((a % 2 ^ k : Nat) : Int) := by
 have h1 : 2 ^ k ≤ 2 ^ 63 := Nat.pow_le_pow_right (by omega) hk
 rw [zjz a _ ha (by omega), Nat.and_two_pow_sub_one_eq_mod]
theorem znl (w k : Nat) (hk : k ≤ 63) (hw : w < 2 ^ (k + 1)) : Go.bits .andNot .u64 (w : Int) ((2 ^ k : Nat) : Int) = ((w % 2 ^ k : Nat) : Int) := by
 have h1 : 2 ^ k ≤ 2 ^ 63 := Nat.pow_le_pow_right (by omega) hk
 have h2 : 2 ^ (k + 1) ≤ 2 ^ 64 := Nat.pow_le_pow_right (by omega) (by omega)
 rw [znk w _ (by omega) (by omega)]
 congr 1
 apply Nat.eq_of_testBit_eq
 intro i
 have e : 18446744073709551616 - 1 - 2 ^ k = 2 ^ 64 - (2 ^ k + 1) := by omega
 rw [Nat.testBit_and, Nat.testBit_mod_two_pow, e, Nat.testBit_two_pow_sub_succ (by omega), Nat.testBit_two_pow]
 rcases Nat.lt_trichotomy i k with h | h | h
 ·have h3 : i < 64 := by omega
  have h4 : ¬ k = i := by omega
  simp [h, h3, h4]
 ·subst h; simp
 ·have h3 : w.testBit i = false := Nat.testBit_lt_two_pow (Nat.lt_of_lt_of_le hw (Nat.pow_le_pow_right (by omega) (by omega)))
  have h4 : ¬ i < k := by omega
  simp [h3, h4]
theorem zno (w k : Nat) (hk : k ≤ 63) (hw : w < 2 ^ (k + 1)) : Go.bits .and .u64 (w : Int) ((2 ^ k : Nat) : Int) = ((w / 2 ^ k * 2 ^ k : Nat) : Int) := by
 have h1 : 2 ^ k ≤ 2 ^ 63 := Nat.pow_le_pow_right (by omega) hk
 have h2 : 2 ^ (k + 1) ≤ 2 ^ 64 := Nat.pow_le_pow_right (by omega) (by omega)
 rw [zjz w _ (by omega) (by omega)]
 congr 1
 apply Nat.eq_of_testBit_eq
 intro i
 rw [Nat.testBit_and, Nat.testBit_two_pow, Nat.testBit_mul_two_pow, Nat.testBit_div_two_pow]
 rcases Nat.lt_trichotomy i k with h | h | h
 ·have h3 : ¬ k = i := by omega
  have h4 : ¬ k ≤ i := by omega
  simp [h3, h4]
 ·subst h; simp
 ·have h3 : w.testBit i = false := Nat.testBit_lt_two_pow (Nat.lt_of_lt_of_le hw (Nat.pow_le_pow_right (by omega) (by omega)))
  have h4 : ¬ k = i := by omega
  have h5 : i - k + k = i := by omega
  simp [h3, h4, h5]
theorem zk3 (a b k : Nat) (hb : b < 2 ^ k) (h : a * 2 ^ k + b < 18446744073709551616) : Go.bits .or .u64 ((a * 2 ^ k : Nat) : Int) (b : Int) = ((a * 2 ^ k + b : Nat) : Int) := by
 rw [zeU _ _ (by omega) (by omega)]
 congr 1
 rw [Nat.mul_comm]
 exact (Nat.two_pow_add_eq_or_of_lt hb a).symm
theorem zk0 (a b : Nat) (ha : a < 18446744073709551616) (hb : b < 18446744073709551616) : Go.bits .or .u64 (a : Int) (b : Int) = Go.bits .or .u64 (b : Int) (a : Int) := by
 rw [zeU a b ha hb, zeU b a hb ha, Nat.or_comm]
def isF (f : Int) : Prop := f = 1 ∨ f = 2
def fb (f : Int) : Nat := if f = 1 then 23 else 52
def mo (f : Int) : Nat := if f = 1 then 255 else 2047
def sk (f : Int) : Nat := if f = 1 then 31 else 63
def sg (f : Int) : Nat := if f = 1 then 2147483648 else 9223372036854775808
theorem zlZ {f : Int} (h : isF f) : zew.f f = some ((fb f : Int), (mo f : Int), (sg f : Int), true) := by
 rcases h with rfl | rfl <;> rfl
theorem zrq {f : Int} (h : ¬ isF f) : zew.f f = some (0, 0, 0, false) := by
 unfold zew.f
 rw [if_neg (fun e => h (.inl e)), if_neg (fun e => h (.inr e))]
theorem zsE {f : Int} (h : ¬ isF f) (l : List Int) : Ev (fun k => zH.f k f l) (0, 0, 0, 4) := by
 unfold zH.f
 refine zi (zrq h) ?_
 (repeat (first | with_reducible refine ep ?_ | with_reducible refine en ?_))
 exact Ev.now _
theorem zf5 {f : Int} (h : isF f) : Ev (fun k => zH.f k f []) ((fb f : Int), (mo f : Int), (sg f : Int), 0) := by
 unfold zH.f
 refine zi (zlZ h) ?_
 (repeat (first | with_reducible refine ep ?_ | with_reducible refine en ?_))
 refine zf ?_
 simp only [zH.l0]
 (repeat (first | with_reducible refine ep ?_ | with_reducible refine en ?_))
 exact Ev.now _
theorem zpJ {f : Int} (h : isF f) : Go.bits .or .u64 (sg f : Int) (IntKind.u64.wrap ((sg f : Int) - 1)) = ((2 * sg f - 1 : Nat) : Int) := by
 rcases h with rfl | rfl
 ·have e : IntKind.u64.wrap (((sg 1 : Nat) : Int) - 1) = ((2147483647 : Nat) : Int) := by rw [zcn]; rfl
  rw [e, zeU _ _ (by decide) (by decide)]; rfl
 ·have e : IntKind.u64.wrap (((sg 2 : Nat) : Int) - 1) = ((9223372036854775807 : Nat) : Int) := by rw [zcn]; rfl
  rw [e, zeU _ _ (by decide) (by decide)]; rfl
theorem zbh {f : Int} (h : isF f) : 0 < sg f ∧ 2 * sg f ≤ 18446744073709551616 := by rcases h with rfl | rfl <;> decide
theorem zfT {f : Int} (h : isF f) : sg f = 2 ^ sk f := by rcases h with rfl | rfl <;> decide
theorem zl5 {f : Int} (h : isF f) : sk f ≤ 63 := by rcases h with rfl | rfl <;> decide
def zbV (f : Int) (w : Nat) : Int := if w < 2 * sg f then 0 else 6
theorem zhg {f : Int} (h : isF f) (w : Nat) : Ev (fun k => zH.f k f [(w : Int)]) ((fb f : Int), (mo f : Int), (sg f : Int), zbV f w) := by
 have hp := zbh h
 unfold zH.f zbV
 have e1 : wrap64 (0 + 1) = 1 := by rw [zau (by omega) (by omega)]; rfl
 have el : (([(w : Int)] : List Int).length : Int) = 1 := rfl
 have er : rd [(w : Int)] 0 = (w : Int) := rfl
 refine zi (zlZ h) ?_
 (repeat (first | with_reducible refine ep ?_ | with_reducible refine en ?_))
 refine zf ?_
 simp only [zH.l0, el, e1, er, zpJ h]
 (repeat (first | with_reducible refine ep ?_ | with_reducible refine en ?_))
 by_cases c : w < 2 * sg f
 ·rw [if_pos c]
  (repeat (first | with_reducible refine ep ?_ | with_reducible refine en ?_))
  refine zf ?_
  simp only [zH.l0, el]
  (repeat (first | with_reducible refine ep ?_ | with_reducible refine en ?_))
  exact Ev.now _
 ·rw [if_neg c]
  (repeat (first | with_reducible refine ep ?_ | with_reducible refine en ?_))
  exact Ev.now _
theorem zrs {f : Int} (h : isF f) : shl .u64 ((mo f : Nat) : Int) ((fb f : Nat) : Int) = ((mo f * 2 ^ fb f : Nat) : Int) := by
 rcases h with rfl | rfl <;> decide
theorem zhZ {f : Int} (h : isF f) : zb4.f (fb f : Int) (mo f : Int) (sg f : Int) = some ((mo f * 2 ^ fb f : Nat) : Int) := by
 unfold zb4.f
 have hm : mo f < 10000 := by rcases h with rfl | rfl <;> decide
 rw [if_pos (by omega), u64 (by omega) (by omega), zrs h]
def cls (f : Int) (w : Nat) : Int :=
 if w % sg f = 0 then 1 else if w % sg f < 2 ^ fb f then 2 else if w % sg f < mo f * 2 ^ fb f then 3 else if w % sg f = mo f * 2 ^ fb f then 4 else 5
theorem zl4 {f : Int} (h : isF f) {w : Nat} (hw : w < 2 * sg f) : Go.bits .andNot .u64 (w : Int) (sg f : Int) = ((w % sg f : Nat) : Int) := by
 rw [zfT h] at hw ⊢
 exact znl w (sk f) (zl5 h) (by rw [Nat.pow_succ, Nat.mul_comm]; exact hw)
theorem zeT {f : Int} (h : isF f) : shl .u64 1 ((fb f : Nat) : Int) = ((2 ^ fb f : Nat) : Int) := by rcases h with rfl | rfl <;> decide
theorem zjL {f : Int} (h : isF f) {w : Nat} (hw : w < 2 * sg f) : zcZ.f (fb f : Int) (mo f : Int) (sg f : Int) (w : Int) = some (cls f w) := by
 unfold zcZ.f cls
 rw [zl4 h hw, zeT h]
 generalize w % sg f = z
 by_cases c1 : z = 0
 ·rw [if_pos (by omega), if_pos c1]
 rw [if_neg (by omega), if_neg c1, if_pos (by omega)]
 by_cases c2 : z < 2 ^ fb f
 ·rw [if_pos (by omega), if_pos c2]
 rw [if_neg (by omega), if_neg c2, zhZ h, Option.bind_some]
 by_cases c3 : z < mo f * 2 ^ fb f
 ·rw [if_pos (by omega), if_pos c3]
 rw [if_neg (by omega), if_neg c3, Option.bind_some]
 by_cases c4 : z = mo f * 2 ^ fb f
 ·rw [if_pos (by omega), if_pos c4]
 ·rw [if_neg (by omega), if_neg c4]
theorem zsv {f : Int} (h : isF f) {w : Nat} (hw : w < 2 * sg f) : Ev (fun k => ze5.f k f (w : Int)) (cls f w, 0) := by
 have ho := zhg h w
 unfold zbV at ho
 rw [if_pos hw] at ho
 unfold ze5.f
 refine Ev.bind ho ?_
 (repeat (first | with_reducible refine ep ?_ | with_reducible refine en ?_))
 refine zi (zjL h hw) ?_
 (repeat (first | with_reducible refine ep ?_ | with_reducible refine en ?_))
 exact Ev.now _
def zk (f : Int) (w : Nat) : Bool := decide (sg f ≤ w)
def zB (f : Int) (w : Nat) : Nat := w % sg f / 2 ^ fb f
def zU (f : Int) (w : Nat) : Nat := w % sg f % 2 ^ fb f
theorem zab {f : Int} (h : isF f) : fb f ≤ 52 := by rcases h with rfl | rfl <;> decide
theorem ziP {f : Int} (h : isF f) : sg f = 2 ^ fb f * (mo f + 1) := by rcases h with rfl | rfl <;> decide
theorem pfb {f : Int} (h : isF f) : 2 ^ fb f ≤ 4503599627370496 := by rcases h with rfl | rfl <;> decide
theorem zdg {f : Int} (h : isF f) : mo f ≤ 2047 := by rcases h with rfl | rfl <;> decide
theorem zmb {f : Int} (h : isF f) {w : Nat} (hw : w < 2 * sg f) : zd2.f (fb f : Int) (mo f : Int) (sg f : Int) (w : Int) = some (zk f w, (zB f w : Int), (zU f w : Int)) := by
 have hp := zbh h
 have hk := zl5 h
 have h52 := zab h
 have hpw := pfb h
 have hpp := zj (fb f)
 unfold zd2.f
 rw [zl4 h hw, zeT h]
 have h1 : Go.bits .and .u64 (w : Int) (sg f : Int) = ((w / sg f * sg f : Nat) : Int) := by
  rw [zfT h] at hw ⊢
  exact zno w (sk f) hk (by rw [Nat.pow_succ, Nat.mul_comm]; exact hw)
 have hz : w % sg f < sg f := Nat.mod_lt _ hp.1
 have h2 : IntKind.u64.wrap (((2 ^ fb f : Nat) : Int) - 1) = ((2 ^ fb f - 1 : Nat) : Int) := by rw [zcn]; omega
 have h3 := zhv (w % sg f) (fb f) (by omega) (by omega)
 have h4 : shr .u64 ((w % sg f : Nat) : Int) ((fb f : Nat) : Int) = ((w % sg f / 2 ^ fb f : Nat) : Int) := zcV _ _ (by show fb f ≤ 64; omega)
 have h5 : wrap64 ((w % sg f / 2 ^ fb f : Nat) : Int) = ((w % sg f / 2 ^ fb f : Nat) : Int) := by
  have hq : w % sg f / 2 ^ fb f < mo f + 1 := Nat.div_lt_of_lt_mul (by rw [← ziP h]; exact hz)
  have hm := zdg h
  clear h1 h2 h3 h4
  generalize w % sg f / 2 ^ fb f = q at hq ⊢
  exact zau (by omega) (by omega)
 rw [h1, h2, h3, h4, h5]
 have h6 : (decide (¬ (((w / sg f * sg f : Nat) : Int) = 0))) = zk f w := by
  unfold zk
  by_cases c : sg f ≤ w
  ·have : w / sg f = 1 := Nat.div_eq_of_lt_le (by omega) (by omega)
   rw [this, decide_eq_true c]
   exact decide_eq_true (by omega)
  ·rw [Nat.div_eq_of_lt (by omega), decide_eq_false c]
   simp
 rw [h6, if_pos (by omega)]
 rfl
theorem zsA {f : Int} (h : isF f) {w : Nat} (hw : w < 2 * sg f) : Ev (fun k => ze8.f k f (w : Int)) (zk f w, (zB f w : Int), (zU f w : Int), 0) := by
 have ho := zhg h w
 unfold zbV at ho
 rw [if_pos hw] at ho
 unfold ze8.f
 refine Ev.bind ho ?_
 (repeat (first | with_reducible refine ep ?_ | with_reducible refine en ?_))
 refine zi (zmb h hw) ?_
 (repeat (first | with_reducible refine ep ?_ | with_reducible refine en ?_))
 exact Ev.now _
def lo (f : Int) : Int := if f = 1 then -149 else -1074
theorem zh1 {f : Int} (h : isF f) : zco.f (fb f : Int) (mo f : Int) (sg f : Int) = some (lo f) := by
 unfold zco.f
 have e : wrap64 (Int.tdiv ((mo f : Nat) : Int) 2) = ((mo f / 2 : Nat) : Int) := by
  have := zdg h
  exact zau (by show (0 : Int) ≤ ((mo f / 2 : Nat) : Int); omega) (by show ((mo f / 2 : Nat) : Int) < _; omega)
 have hm := zdg h
 have hb := zab h
 rw [e]
 have e2 : wrap64 (1 - ((mo f / 2 : Nat) : Int)) = 1 - ((mo f / 2 : Nat) : Int) := by unfold wrap64; omega
 rw [e2]
 have e3 : wrap64 (1 - ((mo f / 2 : Nat) : Int) - ((fb f : Nat) : Int)) = 1 - ((mo f / 2 : Nat) : Int) - ((fb f : Nat) : Int) := by unfold wrap64; omega
 rw [e3]
 rcases h with rfl | rfl <;> rfl
def zm (f : Int) (w : Nat) : Nat := if zB f w = 0 then zU f w else 2 ^ fb f + zU f w
def wex (f : Int) (w : Nat) : Int := (if zB f w = 0 then 0 else (zB f w : Int) - 1) + lo f
theorem zoH {f : Int} (h : isF f) {w : Nat} (hw : w < 2 * sg f) : Ev (fun k => ze9.f k f (w : Int)) ((fb f : Int), (mo f : Int), (sg f : Int), if cls f w ≥ 4 then 7 else 0) := by
 have ho := zhg h w
 unfold zbV at ho
 rw [if_pos hw] at ho
 unfold ze9.f
 refine Ev.bind ho ?_
 (repeat (first | with_reducible refine ep ?_ | with_reducible refine en ?_))
 refine zi (zjL h hw) ?_
 (repeat (first | with_reducible refine ep ?_ | with_reducible refine en ?_))
 by_cases c : cls f w ≥ 4
 ·refine zd c ?_
  exact zh (Ev.now _) (by rw [if_pos c])
 ·refine ze c ?_
  exact zh (Ev.now _) (by rw [if_neg c])
theorem mx1 (n : Nat) : (wrap64 ((mx (n : Int) 1) - 1) = if n = 0 then 0 else (n : Int) - 1) ∨ 4611686018427387904 ≤ n := by
 by_cases hb : n < 4611686018427387904
 ·left
  have e : mx (n : Int) 1 = ((max n 1 : Nat) : Int) := zpK n 1
  rw [e, zau (by omega) (by omega)]
  split <;> omega
 ·right; omega
theorem zsB {f : Int} (h : isF f) {w : Nat} (hw : w < 2 * sg f) (hc : cls f w < 4) : Ev (fun k => zb3.f k f (w : Int)) (ok3 (mk (sv (zk f w) (zm f w)) (wex f w))) := by
 have hf := zoH h hw
 rw [if_neg (by omega)] at hf
 have hp := zbh h
 have hz : w % sg f < sg f := Nat.mod_lt _ hp.1
 have he : zB f w < mo f + 1 := Nat.div_lt_of_lt_mul (by rw [← ziP h]; exact hz)
 have hm := zdg h
 have hfr : zU f w < 2 ^ fb f := Nat.mod_lt _ (zj _)
 have hpw := pfb h
 have h52 := zab h
 have hlo : -1074 ≤ lo f ∧ lo f ≤ -149 := by rcases h with rfl | rfl <;> decide
 have hmx := (mx1 (zB f w)).resolve_right (by omega)
 have hbl : ∀ m : Nat, m < 18446744073709551616 → bl m ≤ 64 := fun m hm => zI (by omega)
 unfold zb3.f
 refine Ev.bind hf ?_
 (repeat (first | with_reducible refine ep ?_ | with_reducible refine en ?_))
 refine zi (zmb h hw) ?_
 (repeat (first | with_reducible refine ep ?_ | with_reducible refine en ?_))
 have hex : wrap64 (wrap64 ((mx (zB f w : Int) 1) - 1) + lo f) = wex f w := by
  rw [hmx]
  unfold wex wrap64
  split <;> omega
 have hwx : -1074 ≤ wex f w ∧ wex f w ≤ 3000 := by unfold wex; split <;> omega
 by_cases c : zB f w = 0
 ·have hm0 : zm f w = zU f w := by unfold zm; rw [if_pos c]
  have o1 := zfF (n := (zU f w : Int)) (by omega) (by omega)
  rw [Int.toNat_natCast] at o1
  have hb := hbl (zU f w) (by omega)
  have m1 := zdI (zk f w) (zv (zU f w)) (zaq (by omega)) (wex f w)
  rw [V_D, zdK (by omega) (by omega)] at m1
  dsimp only
  (repeat (first | with_reducible refine ep ?_ | with_reducible refine en ?_))
  refine zf ?_; simp only [zb3.j1]
  refine Ev.bind (o1) ?_; try dsimp only
  refine zi (zh1 h) ?_; try dsimp only
  rw [hex, hm0]
  refine Ev.bind m1 ?_
  (repeat (first | with_reducible refine ep ?_ | with_reducible refine en ?_))
  exact Ev.now _
 ·have hm0 : zm f w = 1 * 2 ^ fb f + zU f w := by unfold zm; rw [if_neg c, Nat.one_mul]
  have eo : Go.bits .or .u64 (zU f w : Int) (shl .u64 1 ((fb f : Nat) : Int)) = ((zm f w : Nat) : Int) := by
   rw [zeT h, zk0 _ _ (by omega) (by omega), hm0]
   have := zk3 1 (zU f w) (fb f) hfr (by omega)
   rw [Nat.one_mul] at this
   rw [this, Nat.one_mul]
  have hlt : zm f w < 18446744073709551616 := by omega
  have o1 := zfF (n := (zm f w : Int)) (by omega) (by omega)
  rw [Int.toNat_natCast] at o1
  have hb := hbl (zm f w) hlt
  have m1 := zdI (zk f w) (zv (zm f w)) (zaq (by omega)) (wex f w)
  rw [V_D, zdK (by omega) (by omega)] at m1
  dsimp only
  (repeat (first | with_reducible refine ep ?_ | with_reducible refine en ?_))
  refine zf ?_; simp only [zb3.j1]
  rw [eo]
  refine Ev.bind (o1) ?_; try dsimp only
  refine zi (zh1 h) ?_; try dsimp only
  rw [hex]
  refine Ev.bind m1 ?_
  (repeat (first | with_reducible refine ep ?_ | with_reducible refine en ?_))
  exact Ev.now _
def pr (f : Int) : Nat := if f = 1 then 24 else 53
def wd (f : Int) : Int := if f = 1 then 128 else 1024
def sgn (f : Int) (s : Bool) : Nat := if s = true then sg f else 0
def zo (f : Int) (n : Nat) (e : Int) : Int := max (e + (bl n : Nat) - (pr f : Nat)) (lo f)
def enc (f : Int) (n : Nat) (e : Int) : Nat := (zo f n e - lo f).toNat * 2 ^ fb f + n * 2 ^ (e - zo f n e).toNat
theorem zL {f : Int} (h : isF f) : pr f = fb f + 1 := by rcases h with rfl | rfl <;> rfl
theorem zsm {f : Int} (h : isF f) : wd f = ((mo f / 2 : Nat) : Int) + 1 := by rcases h with rfl | rfl <;> rfl
theorem zaY {f : Int} (h : isF f) : -1074 ≤ lo f ∧ lo f ≤ -149 := by rcases h with rfl | rfl <;> decide
theorem zdp {f : Int} (h : isF f) : 128 ≤ wd f ∧ wd f ≤ 1024 := by rcases h with rfl | rfl <;> decide
theorem zhV {f : Int} (h : isF f) : wd f - (pr f : Nat) - lo f = ((mo f - 2 : Nat) : Int) := by rcases h with rfl | rfl <;> rfl
theorem zel {f : Int} (h : isF f) : 255 ≤ mo f := by rcases h with rfl | rfl <;> decide
theorem zmD (f : Int) (n : Nat) (e : Int) : lo f ≤ zo f n e := by unfold zo; omega
theorem zij {f : Int} {n : Nat} {e : Int} (hn : bl n ≤ pr f) (he : lo f ≤ e) : n * 2 ^ (e - zo f n e).toNat < 2 ^ pr f := by
 have h1 := zP n
 have h2 : n * 2 ^ (e - zo f n e).toNat < 2 ^ bl n * 2 ^ (e - zo f n e).toNat := Nat.mul_lt_mul_of_pos_right h1 (zj _)
 rw [← Nat.pow_add] at h2
 exact Nat.lt_of_lt_of_le h2 (Nat.pow_le_pow_right (by omega) (by unfold zo; omega))
theorem zmE {f : Int} {n : Nat} {e : Int} (hn : bl n ≤ pr f) (he : lo f ≤ e) : zo f n e ≤ e := by unfold zo; omega
theorem zhQ {f : Int} (h : isF f) {n : Nat} {e : Int} (hn : bl n ≤ pr f) (he : lo f ≤ e) (hw : e + (bl n : Nat) ≤ wd f) : enc f n e < mo f * 2 ^ fb f ∧ (zo f n e - lo f).toNat ≤ mo f - 2 := by
 have h1 := zij hn he
 have h2 := zhV h
 have h3 := zel h
 have h4 : (zo f n e - lo f).toNat ≤ mo f - 2 := by unfold zo; omega
 refine ⟨?_, h4⟩
 unfold enc
 rw [zL h, Nat.pow_succ] at h1
 have h5 : (zo f n e - lo f).toNat * 2 ^ fb f ≤ (mo f - 2) * 2 ^ fb f := Nat.mul_le_mul_right _ h4
 have h6 : (mo f - 2) * 2 ^ fb f + 2 ^ fb f * 2 = mo f * 2 ^ fb f := by
  rw [Nat.mul_comm (2 ^ fb f) 2, ← Nat.add_mul]; congr 1; omega
 omega
theorem zei {f : Int} (h : isF f) : mo f * 2 ^ fb f + 2 ^ fb f = sg f := by rcases h with rfl | rfl <;> decide
theorem zgY {X s : Nat} (h : X * 2 ^ s < 18446744073709551616) (hs : s ≤ 64) : shl .u64 (X : Int) (s : Int) = ((X * 2 ^ s : Nat) : Int) := by
 unfold shl
 have e : min (s : Int).toNat IntKind.u64.bits = s := by
  have : IntKind.u64.bits = 64 := rfl
  omega
 rw [e, zgL, ← Int.natCast_mul]
 exact u64 (by omega) (by omega)
theorem zk2 {f : Int} (h : isF f) {x : Nat} (hx : x < sg f) : Go.bits .or .u64 (x : Int) (sg f : Int) = ((x + sg f : Nat) : Int) := by
 have hp := zbh h
 rw [zk0 _ _ (by omega) (by omega)]
 have h1 := zk3 1 x (sk f) (by rw [← zfT h]; exact hx) (by rw [← zfT h]; omega)
 rw [Nat.one_mul, ← zfT h] at h1
 rw [h1, Nat.add_comm]
theorem zp6 {x : Nat} (h : x < 18446744073709551616) : Go.bits .or .u64 0 (x : Int) = (x : Int) := by
 have := zeU 0 x (by omega) h
 rw [Nat.zero_or] at this
 exact this
theorem zpe {f : Int} (h : isF f) {x : Nat} (hx : x < sg f) (s : Bool) : zex.f (fb f : Int) (mo f : Int) (sg f : Int) s 0 (x : Int) = some ((x + sgn f s : Nat) : Int) := by
 have hp := zbh h
 have e0 : shl .u64 (IntKind.u64.wrap 0) ((fb f : Nat) : Int) = 0 := by rcases h with rfl | rfl <;> decide
 unfold zex.f sgn
 rw [if_pos (by omega), e0, zp6 (by omega)]
 cases s
 ·rfl
 ·rw [if_pos rfl, if_pos rfl, zk2 h hx]
theorem zd3 {a b : Int} (h1 : -100000000000 ≤ a) (h2 : a ≤ 100000000000) (h3 : -100000000000 ≤ b) (h4 : b ≤ 100000000000) : wrap64 (a - b) = a - b := by unfold wrap64; omega
theorem zdY {a b : Int} (h1 : -100000000000 ≤ a) (h2 : a ≤ 100000000000) (h3 : -100000000000 ≤ b) (h4 : b ≤ 100000000000) : wrap64 (a + b) = a + b := by unfold wrap64; omega
theorem zif {l : List Int} (h : Nm l) (hb : V l < 18446744073709551616) : zcj l = true := by
 have h1 : l.length ≤ 2 := by
  have : (D (V l)).length ≤ 2 := zd4 (by omega)
  rwa [h] at this
 unfold zcj
 rw [zcw.2 ⟨by omega, h⟩, decide_eq_true h1]
 rfl
theorem zfX {f : Int} (h : isF f) : 2 ^ pr f ≤ 9007199254740992 := by rcases h with rfl | rfl <;> decide
theorem zsd {f : Int} (h : isF f) {n : Nat} {e : Int} (he : lo f ≤ e) (hw : e + (bl n : Nat) ≤ wd f) (hn : bl n ≤ 100) : mx (wrap64 (wrap64 (e + ((bl n : Nat) : Int) - ((fb f : Nat) : Int)) - 1)) (lo f) = zo f n e := by
 have hl := zaY h
 have hwb := zdp h
 have hpr := zL h
 have hfb := zab h
 have e1 : wrap64 (e + ((bl n : Nat) : Int) - ((fb f : Nat) : Int)) = e + ((bl n : Nat) : Int) - ((fb f : Nat) : Int) := by unfold wrap64; omega
 have e2 : wrap64 (e + ((bl n : Nat) : Int) - ((fb f : Nat) : Int) - 1) = e + ((bl n : Nat) : Int) - ((fb f : Nat) : Int) - 1 := by unfold wrap64; omega
 rw [e1, e2, zgC]
 unfold zo
 omega
theorem zqd {n k : Nat} (h : n ≠ 0) (hb : n * 2 ^ k < 18446744073709551616) : k ≤ 64 := by
 rcases Nat.lt_or_ge 64 k with c | c
 ·have h1 : 2 ^ 64 ≤ 2 ^ k := Nat.pow_le_pow_right (by omega) (by omega)
  have h2 : 2 ^ k ≤ n * 2 ^ k := Nat.le_mul_of_pos_left _ (by omega)
  have h3 : (2 : Nat) ^ 64 = 18446744073709551616 := by decide
  omega
 ·exact c
theorem zsy {f : Int} (h : isF f) {s : Bool} {l : List Int} {e : Int} (hd : My s l e) (h0 : l ≠ []) (hn : bl (V l) ≤ pr f) (he : lo f ≤ e) (hw : e + (bl (V l) : Nat) ≤ wd f) :
  Ev (fun k => zdr.f k f s l e) (((enc f (V l) e + sgn f s : Nat) : Int), 0) := by
 have hV : V l ≠ 0 := fun c => h0 ((zdv hd.dy.nm).1 c)
 have hl := zaY h
 have hwb := zdp h
 have hpr := zL h
 have hfb := zab h
 have h2 := zfX h
 have hbig : V l < 2 ^ pr f := Nat.lt_of_lt_of_le (zP _) (Nat.pow_le_pow_right (by omega) hn)
 have hnum := zh9 hd.dy.nm.dg (by have := hd.len; omega)
 rw [zif hd.dy.nm (by omega), if_pos rfl] at hnum
 obtain ⟨e1, e2⟩ := zhQ h hn he hw
 have hil := zei h
 have hsp := zbh h
 have hplt := zij hn he
 have hu := zmE hn he
 have hul := zmD f (V l) e
 have hpf := zj (fb f)
 have hub : zo f (V l) e ≤ 1100 := by omega
 have hA : (zo f (V l) e - lo f).toNat * 2 ^ fb f < 18446744073709551616 := by unfold enc at e1; omega
 have hB : V l * 2 ^ (e - zo f (V l) e).toNat < 18446744073709551616 := by omega
 have hsm : (e - zo f (V l) e).toNat ≤ 64 := by
  have := zqd (n := V l) (k := (e - zo f (V l) e).toNat) (by omega) hB
  exact this
 have hE : enc f (V l) e < 18446744073709551616 := by omega
 have t7 : IntKind.u64.wrap (((zo f (V l) e - lo f).toNat * 2 ^ fb f + V l * 2 ^ (e - zo f (V l) e).toNat : Nat) : Int) = ((enc f (V l) e : Nat) : Int) := u64 (by omega) (by unfold enc at hE; omega)
 have t8 := u64 (n := (((zo f (V l) e - lo f).toNat : Nat) : Int)) (by omega) (by omega)
 have t9 := zgY hA (by omega)
 have t10 := zgY hB hsm
 have hj := zpe h (x := enc f (V l) e) (by omega) s
 have hVi : ¬ ((V l : Nat) : Int) = 0 := by omega
 have c1 : ¬ ((bl (V l) : Nat) : Int) > ((fb f : Nat) : Int) + 1 := by omega
 have c2 : ¬ e < lo f := by omega
 have c3 : ¬ e + ((bl (V l) : Nat) : Int) > wd f := by omega
 have c4 : (0 : Int) ≤ (((e - zo f (V l) e).toNat : Nat) : Int) := by omega
 have c5 : (0 : Int) ≤ ((fb f : Nat) : Int) := by omega
 have hm := zdg h
 have hL := zfx (x := ((V l : Nat) : Int)) ⟨by omega, by omega⟩
 rw [Int.toNat_natCast] at hL
 have t1 : wrap64 (e + ((bl (V l) : Nat) : Int)) = e + ((bl (V l) : Nat) : Int) := zdY (by omega) (by omega) (by omega) (by omega)
 have t2 : wrap64 (((fb f : Nat) : Int) + 1) = ((fb f : Nat) : Int) + 1 := by clear t1; exact zdY (by omega) (by omega) (by omega) (by omega)
 have t3 : wrap64 (wrap64 (Int.tdiv ((mo f : Nat) : Int) 2) + 1) = wd f := by
  clear t1 t2
  have e3 : wrap64 (Int.tdiv ((mo f : Nat) : Int) 2) = ((mo f / 2 : Nat) : Int) := zau (by show (0 : Int) ≤ ((mo f / 2 : Nat) : Int); omega) (by show ((mo f / 2 : Nat) : Int) < _; omega)
  rw [e3, zdY (by clear e3; omega) (by clear e3; omega) (by clear e3; omega) (by clear e3; omega), zsm h]
 have t4 := zsd h he hw (by clear t1 t2 t3; omega : bl (V l) ≤ 100)
 have t5 : wrap64 (e - zo f (V l) e) = (((e - zo f (V l) e).toNat : Nat) : Int) := by clear t1 t2 t3 t4; rw [zd3 (by omega) (by omega) (by omega) (by omega)]; omega
 have t6 : wrap64 (zo f (V l) e - lo f) = (((zo f (V l) e - lo f).toNat : Nat) : Int) := by clear t1 t2 t3 t4 t5; rw [zd3 (by omega) (by omega) (by omega) (by omega)]; omega
 have hN := zdJ hd
 have hlow := zh1 h
 have hop := zf5 h
 clear e1 e2 hA hB hE hplt hbig h2 hil hsp hm hub hu hul he hw hn hpf hsm
 unfold zdr.f
 refine Ev.bind (hop) ?_; try dsimp only
 refine ze (fun h => h rfl) ?_
 refine zi (hN) ?_; try dsimp only
 refine ze (by simp) ?_
 refine Ev.bind (hnum) ?_; try dsimp only
 refine Ev.bind (hL) ?_; try dsimp only
 rw [t2]
 refine ze (by simp) (ze c1 (zd hVi ?_))
 refine zi (hlow) ?_; try dsimp only
 refine ze c2 ?_
 rw [t3, t1]
 refine ze c3 (ze hVi ?_)
 refine zi (hlow) ?_; try dsimp only
 rw [t4, t5]
 refine zd c4 ?_
 refine zi (hlow) ?_; try dsimp only
 refine zd c5 ?_
 rw [t6, t8, t9, t10, ← Int.natCast_add, t7]
 refine zi (hj) ?_; try dsimp only
 exact Ev.now _
theorem zh8 {f : Int} (h : isF f) (s : Bool) {x : Nat} (hx : x < sg f) : Ev (fun _ => if s = true then (some (Go.bits .or .u64 (x : Int) (sg f : Int), (0 : Int))) else (some ((x : Int), 0))) (((x + sgn f s : Nat) : Int), 0) := by
 unfold sgn
 cases s
 ·(repeat (first | with_reducible refine ep ?_ | with_reducible refine en ?_))
  exact Ev.now _
 ·(repeat (first | with_reducible refine ep ?_ | with_reducible refine en ?_))
  rw [zk2 h hx, if_pos rfl]
  exact Ev.now _
theorem zsC {f : Int} (h : isF f) (s : Bool) : Ev (fun k => zd1.f k f s) (((sgn f s : Nat) : Int), 0) := by
 have hp := zbh h
 have hn := zh8 h s (x := 0) hp.1
 rw [Nat.zero_add] at hn
 unfold zd1.f zf3.f
 refine Ev.bind (a := (((sgn f s : Nat) : Int), 0)) ?_ (Ev.now _)
 refine Ev.bind (zf5 h) ?_; try dsimp only
 (repeat (first | with_reducible refine ep ?_ | with_reducible refine en ?_))
 exact zi rfl hn
theorem zsx {f : Int} (h : isF f) (s : Bool) : Ev (fun k => zd0.f k f s) (((mo f * 2 ^ fb f + sgn f s : Nat) : Int), 0) := by
 have hil := zei h
 have hp := zj (fb f)
 have hn := zh8 h s (x := mo f * 2 ^ fb f) (by omega)
 unfold zd0.f zf4.f
 refine Ev.bind (a := (((mo f * 2 ^ fb f + sgn f s : Nat) : Int), 0)) ?_ (Ev.now _)
 refine Ev.bind (zf5 h) ?_; try dsimp only
 (repeat (first | with_reducible refine ep ?_ | with_reducible refine en ?_))
 exact zi (zhZ h) hn
theorem zsw {f : Int} (h : isF f) (s : Bool) : Ev (fun k => ze6.f k f s) (((mo f * 2 ^ fb f - 1 + sgn f s : Nat) : Int), 0) := by
 have hil := zei h
 have hp := zj (fb f)
 have hsp := zbh h
 have hm := zel h
 have hq : 1 ≤ mo f * 2 ^ fb f := Nat.mul_pos (by omega) hp
 have hl : ze7.f ((fb f : Nat) : Int) ((mo f : Nat) : Int) ((sg f : Nat) : Int) = some ((mo f * 2 ^ fb f - 1 : Nat) : Int) := by
  unfold ze7.f
  rw [zhZ h, Option.bind_some, zcn]
  congr 1
  omega
 have hn := zh8 h s (x := mo f * 2 ^ fb f - 1) (by omega)
 unfold ze6.f zf2.f
 refine Ev.bind (a := (((mo f * 2 ^ fb f - 1 + sgn f s : Nat) : Int), 0)) ?_ (Ev.now _)
 refine Ev.bind (zf5 h) ?_; try dsimp only
 (repeat (first | with_reducible refine ep ?_ | with_reducible refine en ?_))
 exact zi hl hn
def zgD (f : Int) : Nat := mo f * 2 ^ fb f + 2 ^ (fb f - 1)
instance (f : Int) : Decidable (isF f) := inferInstanceAs (Decidable (f = 1 ∨ f = 2))
theorem ziu (f : Int) : zdB.f f = some (decide (isF f)) := by
 unfold zdB.f isF
 by_cases h : f = 1
 ·rw [if_pos h]; simp [h]
 ·rw [if_neg h]; simp [h]
def isM (m : Int) : Prop := 1 ≤ m ∧ m ≤ 5
instance (m : Int) : Decidable (isM m) := inferInstanceAs (Decidable (1 ≤ m ∧ m ≤ 5))
theorem zlo {f : Int} (h : isF f) {w : Nat} (hw : w < 18446744073709551616) : zd9.f f (w : Int) = some (zbV f w) := by
 unfold zd9.f zbV
 rw [ziu, decide_eq_true h, Option.bind_some, if_neg (by simp)]
 rcases h with rfl | rfl
 ·rw [if_pos rfl]
  by_cases c : w < 2 * sg 1
  ·rw [if_neg (by simp [sg] at c; omega), if_pos c]
  ·rw [if_pos (by simp [sg] at c; omega), if_neg c]
 ·rw [if_neg (by omega), if_pos (by simp [sg]; omega)]
theorem ziy {f : Int} (h : isF f) : zcs.f f = some (sg f : Int) := by rcases h with rfl | rfl <;> rfl
theorem zdQ {f : Int} (h : isF f) : zaJ.f f = some (fb f : Int) := by rcases h with rfl | rfl <;> rfl
theorem zlq {f : Int} (h : isF f) : zcM.f f = some (mo f : Int) := by rcases h with rfl | rfl <;> rfl
theorem zdk {f : Int} (h : isF f) : zbn.f f = some (lo f) := by rcases h with rfl | rfl <;> rfl
theorem zlt {f : Int} (h : isF f) : zec.f f = some (wd f) := by rcases h with rfl | rfl <;> rfl
theorem zfZ {f : Int} (h : isF f) (w : Nat) : zB f w ≤ mo f := by
 have hz : w % sg f < sg f := Nat.mod_lt _ (zbh h).1
 have : zB f w < mo f + 1 := Nat.div_lt_of_lt_mul (by rw [← ziP h]; exact hz)
 omega
theorem zev (f : Int) (w : Nat) : zU f w < 2 ^ fb f := Nat.mod_lt _ (zj _)
theorem zmM (f : Int) (w : Nat) : w % sg f = zB f w * 2 ^ fb f + zU f w := by
 unfold zB zU
 have := Nat.div_add_mod (w % sg f) (2 ^ fb f)
 rw [Nat.mul_comm] at this
 exact this.symm
theorem zgQ {f : Int} (h : isF f) (w : Nat) : zcc.f f (w : Int) = some (zk f w, (zB f w : Int), (zU f w : Int)) := by
 have hp := zbh h
 have hpp := zj (fb f)
 have hm := zdg h
 have hx := zfZ h w
 have h52 := zab h
 unfold zcc.f
 rw [ziy h, Option.bind_some, Option.bind_some, if_neg (by omega), zdQ h, Option.bind_some, if_pos (by omega), zeT h, if_neg (by omega), Option.bind_some, if_pos (by omega), zfU, zfU, zcV _ _ (by show fb f ≤ 64; omega)]
 have e : wrap64 ((w % sg f / 2 ^ fb f : Nat) : Int) = (zB f w : Int) := by
  show wrap64 ((zB f w : Nat) : Int) = _
  exact zau (by omega) (by omega)
 rw [e]
 have e2 : decide ((w : Int) ≥ (sg f : Int)) = zk f w := decide_eq_decide.2 (by omega)
 rw [e2]
 rfl
theorem zgj {f : Int} (h : isF f) (w : Nat) : cls f w = if zB f w = 0 then (if zU f w = 0 then 1 else 2) else if zB f w < mo f then 3 else if zU f w = 0 then 4 else 5 := by
 have h1 := zmM f w
 have h2 := zev f w
 have h3 := zfZ h w
 have hpp := zj (fb f)
 have hm := zel h
 unfold cls
 rw [h1]
 generalize zU f w = r at *
 generalize zB f w = q at *
 generalize 2 ^ fb f = p at *
 by_cases c : q = 0
 ·subst c
  simp only [Nat.zero_mul, Nat.zero_add, if_true]
  by_cases c2 : r = 0
  ·simp [c2]
  ·rw [if_neg c2, if_pos h2, if_neg c2]
 ·have h4 : p ≤ q * p := Nat.le_mul_of_pos_left _ (by omega)
  rw [if_neg (by omega), if_neg (by omega), if_neg c]
  by_cases c2 : q < mo f
  ·have h5 : (q + 1) * p ≤ mo f * p := Nat.mul_le_mul_right _ c2
   rw [Nat.add_mul, Nat.one_mul] at h5
   rw [if_pos (by omega), if_pos c2]
  ·have h5 : q = mo f := by omega
   rw [h5, if_neg (by omega), if_neg (Nat.lt_irrefl _)]
   by_cases c3 : r = 0
   ·rw [if_pos (by omega), if_pos c3]
   ·rw [if_neg (by omega), if_neg c3]
theorem zgO {f : Int} (h : isF f) (w : Nat) : zcq.f f (w : Int) = some (cls f w) := by
 unfold zcq.f
 rw [zgQ h, Option.bind_some, zgj h, zlq h]
 generalize zU f w = r
 generalize zB f w = q
 generalize mo f = m
 simp only [Option.bind_some]
 by_cases c : q = 0
 ·rw [if_pos (by omega), if_pos c]
  by_cases c2 : r = 0
  ·rw [if_pos (by omega), if_pos c2]
  ·rw [if_neg (by omega), if_pos (by omega), if_neg c2]
 ·rw [if_neg (by omega), if_neg (by omega), if_neg c]
  by_cases c2 : q < m
  ·rw [if_pos (by omega), if_pos c2]
  ·rw [if_neg (by omega), if_neg c2]
   by_cases c3 : r = 0
   ·rw [if_pos (by omega), if_pos c3]
   ·rw [if_neg (by omega), if_neg c3]
theorem ziv {f : Int} (h : isF f) (s : Bool) {q r : Nat} (hq : q * 2 ^ fb f + r < sg f) : zcr.f f s (q : Int) (r : Int) = some ((q * 2 ^ fb f + r + sgn f s : Nat) : Int) := by
 have hp := zbh h
 have hpp := zj (fb f)
 have h52 := zab h
 have hqq : q ≤ q * 2 ^ fb f := Nat.le_mul_of_pos_right _ hpp
 unfold zcr.f sgn
 rw [zdQ h, Option.bind_some, if_pos (by omega), ziy h, u64 (n := (q : Int)) (by omega) (by omega), zgY (by omega) (by omega), ← Int.natCast_add, u64 (n := ((q * 2 ^ fb f + r : Nat) : Int)) (by omega) (by omega)]
 cases s
 ·rw [if_neg (by simp), if_neg (by simp)]; rfl
 ·rw [if_pos rfl, if_pos rfl, Option.bind_some, ← Int.natCast_add, u64 (by omega) (by omega)]
theorem zqD {f : Int} (h : isF f) : zfo.f f = some (zgD f : Int) := by
 rcases h with rfl | rfl <;> decide +kernel
theorem zlp {f : Int} (h : isF f) (s : Bool) : zea.f f s = some ((mo f * 2 ^ fb f + sgn f s : Nat) : Int) := by
 have hil := zei h
 have hpp := zj (fb f)
 unfold zea.f
 rw [zlq h, Option.bind_some]
 have := ziv h s (q := mo f) (r := 0) (by omega)
 rw [show ((0 : Nat) : Int) = 0 from rfl, Nat.add_zero] at this
 rw [this]; rfl
theorem ziz {f : Int} (h : isF f) (w : Nat) (s : Bool) : zcN.f f (w : Int) s = some ((w % sg f + sgn f s : Nat) : Int) := by
 have hp := zbh h
 have hz : w % sg f < sg f := Nat.mod_lt _ hp.1
 unfold zcN.f sgn
 rw [ziy h, Option.bind_some, if_neg (by omega), zfU]
 cases s
 ·rw [if_neg (by simp), if_neg (by simp)]; rfl
 ·rw [if_pos rfl, if_pos rfl, Option.bind_some, ← Int.natCast_add, u64 (by omega) (by omega)]
theorem zst {f : Int} (h : isF f) (w : Nat) : zm f w < 18446744073709551616 := by
 have := zev f w
 have := pfb h
 unfold zm; split <;> omega
theorem zso {f : Int} (h : isF f) (w : Nat) : -1074 ≤ wex f w ∧ wex f w ≤ 3000 := by
 have := zfZ h w
 have := zdg h
 have := zaY h
 unfold wex; split <;> omega
theorem zqP {f : Int} (h : isF f) (w : Nat) : Ev (fun k => zeb.f k f (w : Int)) (mk (sv (zk f w) (zm f w)) (wex f w)) := by
 have hlt := zst h w
 have hwb := zso h w
 have hfr := zev f w
 have hpw := pfb h
 have hx := zfZ h w
 have hm := zdg h
 have hlo := zaY h
 have o1 := zeX (n := (zm f w : Int)) (by omega) (by omega)
 rw [Int.toNat_natCast] at o1
 have f1 := zbH (zk f w) (zv (zm f w)) (by
  have : (D (zm f w)).length ≤ 2 := zan (by omega)
  omega) (e := wex f w) (by omega) (by omega)
 rw [V_D] at f1
 unfold zeb.f
 refine zi (zgQ h w) ?_; try dsimp only
 by_cases c : zB f w = 0
 ·have e1 : zm f w = zU f w := by unfold zm; rw [if_pos c]
  have e2 : wex f w = lo f := by unfold wex; rw [if_pos c]; omega
  rw [e1] at o1
  rw [e1, e2] at f1
  refine zd (by omega) ?_
  refine Ev.bind (o1) ?_; try dsimp only
  refine zi (zdk h) ?_; try dsimp only
  refine Ev.bind (f1) ?_; try dsimp only
  rw [e1, e2]
  exact Ev.now _
 ·have e1 : zm f w = 2 ^ fb f + zU f w := by unfold zm; rw [if_neg c]
  have e2 : wex f w = (zB f w : Int) - 1 + lo f := by unfold wex; rw [if_neg c]
  have e3 : IntKind.u64.wrap (((2 ^ fb f : Nat) : Int) + (zU f w : Int)) = (zm f w : Int) := by rw [e1, ← Int.natCast_add]; exact u64 (by omega) (by omega)
  have e4 : wrap64 (wrap64 ((zB f w : Int) - 1) + lo f) = wex f w := by rw [e2]; unfold wrap64; omega
  refine ze (by omega) ?_
  refine zi (zdQ h) ?_; try dsimp only
  rw [zeT h, e3]
  refine zd (by omega) ?_
  refine Ev.bind (o1) ?_; try dsimp only
  refine zi (zdk h) ?_; try dsimp only
  rw [e4]
  refine Ev.bind (f1) ?_; try dsimp only
  exact Ev.now _
def mz (z e : Int) : Int := sv (mk z e).1 (V (mk z e).2.1)
def me (z e : Int) : Int := (mk z e).2.2
theorem zdh (e : Int) : mz 0 e = 0 := rfl
theorem zg4 (z : Int) : sv (decide (z < 0)) z.natAbs = z := by
 unfold sv
 by_cases h : z < 0
 ·rw [decide_eq_true h, if_pos rfl]; omega
 ·rw [decide_eq_false h, if_neg (by simp)]; omega
theorem zbY {z : Int} (h : z ≠ 0) (e : Int) : ∃ j : Nat, z = mz z e * 2 ^ j ∧ me z e = e + (j : Int) ∧ mz z e ≠ 0 ∧ bl (mz z e).natAbs + j = bl z.natAbs := by
 have hn : z.natAbs ≠ 0 := by omega
 have hw := zek hn
 obtain ⟨q, hq⟩ := zcv hn
 have hd : z.natAbs / 2 ^ lw z.natAbs = 2 * q + 1 := by
  have : z.natAbs / 2 ^ lw z.natAbs = 2 ^ lw z.natAbs * (2 * q + 1) / 2 ^ lw z.natAbs := by rw [← hq]
  rw [this, Nat.mul_div_cancel_left _ (zj _)]
 have hm : mz z e = sv (decide (z < 0)) (z.natAbs / 2 ^ lw z.natAbs) := by
  unfold mz mk; rw [if_neg h]; show sv _ (V (D _)) = _; rw [V_D]
 have he : me z e = e + (lw z.natAbs : Nat) := by unfold me mk; rw [if_neg h]
 refine ⟨lw z.natAbs, ?_, he, ?_, ?_⟩
 ·rw [hm, hd]
  have h1 : sv (decide (z < 0)) (2 * q + 1) * 2 ^ lw z.natAbs = sv (decide (z < 0)) ((2 * q + 1) * 2 ^ lw z.natAbs) := by
   unfold sv
   split
   ·rw [Int.neg_mul, Int.natCast_mul, Int.natCast_pow]; rfl
   ·rw [Int.natCast_mul, Int.natCast_pow]; rfl
  rw [h1, Nat.mul_comm, ← hq, zg4]
 ·rw [hm, hd]; intro h2; have := za3.1 h2; omega
 ·rw [hm, zT, zb6]; omega
theorem zcx (z e : Int) : (mk z e).2.1.length ≤ (bl z.natAbs + 31) / 32 := by
 rw [zpA]
 refine zaq ?_
 rw [zb6]; omega
theorem zbq (z e : Int) : me z e = 0 ∧ z = 0 ∨ e ≤ me z e ∧ me z e ≤ e + (bl z.natAbs : Nat) := by
 by_cases h : z = 0
 ·exact .inl ⟨by rw [h]; rfl, h⟩
 ·obtain ⟨j, _, h2, _, h4⟩ := zbY h e
  exact .inr (by omega)
theorem zju {z : Int} (h : z ≠ 0) {e m : Int} (hm : m ≤ e) : al (mz z e) (me z e) m = al z e m := by
 obtain ⟨j, h1, h2, _, _⟩ := zbY h e
 rw [h2]
 have h3 : al z e m = al (mz z e * 2 ^ j) e m := by rw [← h1]
 rw [h3]
 unfold al
 rw [Int.mul_assoc, ← Int.pow_add]
 congr 2
 omega
theorem zh7 {z : Int} (h : z ≠ 0) (e : Int) : mz z e ≠ 0 := by obtain ⟨j, _, _, h3, _⟩ := zbY h e; exact h3
theorem zgb (za ea zb eb : Int) : zZ za ea zb eb = zZ zb eb za ea := by
 unfold zZ; rw [Int.add_comm, Int.min_comm]
theorem zhs (za ea zb eb : Int) : zZ (mz za ea) (me za ea) zb eb = zZ za ea zb eb := by
 by_cases h : za = 0
 ·subst h; rw [zdh, zht, zht]
 ·have hb := zbq za ea
  have h1 : ea ≤ me za ea := by omega
  rw [← zga (za := mz za ea) (m := min ea eb) (by omega) (by omega), zju h (by omega)]
  rfl
theorem zjs (za ea zb eb : Int) : zZ za ea (mz zb eb) (me zb eb) = zZ za ea zb eb := by
 rw [zgb, zhs, zgb]
theorem znd (a b e : Int) : zZ a e b e = mk (a + b) e := by
 unfold zZ al
 rw [Int.min_self, Int.sub_self]; simp
theorem zjO (ea zb eb : Int) : zaw 0 ea zb eb = -zb.sign := by
 unfold zaw
 rw [zfj, Int.zero_sub, Int.sign_neg, zcF]
theorem zjM (za ea zb eb : Int) : zaw za ea zb eb = -zaw zb eb za ea := by
 unfold zaw
 rw [← Int.sign_neg, Int.neg_sub, Int.min_comm]
theorem zjN (za ea zb eb : Int) : zaw (mz za ea) (me za ea) zb eb = zaw za ea zb eb := by
 by_cases h : za = 0
 ·subst h; rw [zdh, zjO, zjO]
 ·have hb := zbq za ea
  have h1 : ea ≤ me za ea := by omega
  rw [← zhE (za := mz za ea) (m := min ea eb) (by omega) (by omega), zju h (by omega)]
  rfl
theorem znP (za ea zb eb : Int) : zaw za ea (mz zb eb) (me zb eb) = zaw za ea zb eb := by
 rw [zjM, zjN, ← zjM]
theorem znQ (a b e : Int) : zaw a e b e = (a - b).sign := by
 unfold zaw al
 rw [Int.min_self, Int.sub_self]; simp
theorem zoK (z : Int) (j k : Nat) : z * 2 ^ j / 2 ^ (j + k) = z / 2 ^ k := by
 rw [Int.pow_add, Int.mul_comm z, Int.mul_ediv_mul_of_pos _ _ (Int.pow_pos (by omega))]
theorem zoJ (z e : Int) (j : Nat) : zag z (e + j) = zag (z * 2 ^ j) e := by
 unfold zag
 by_cases h : 0 ≤ e
 ·rw [if_pos (by omega), if_pos h, Int.mul_assoc, ← Int.pow_add]
  congr 2; omega
 ·rw [if_neg h]
  by_cases h2 : 0 ≤ e + (j : Int)
  ·rw [if_pos h2]
   have e1 : z * 2 ^ j = z * 2 ^ (e + (j : Int)).toNat * 2 ^ (-e).toNat := by
    rw [Int.mul_assoc, ← Int.pow_add]; congr 2; omega
   rw [e1, Int.mul_ediv_cancel _ (by have := Int.pow_pos (n := 2) (m := (-e).toNat) (by omega); omega)]
  ·rw [if_neg h2]
   have e1 : (-e).toNat = j + (-(e + (j : Int))).toNat := by omega
   rw [e1, zoK]
theorem zoI (z e n : Int) : zag (mz z e) (me z e + n) = zag z (e + n) := by
 by_cases h : z = 0
 ·subst h; rw [zdh]; unfold zag; split <;> split <;> simp
 ·obtain ⟨j, h1, h2, _, _⟩ := zbY h e
  have h3 : zag z (e + n) = zag (mz z e * 2 ^ j) (e + n) := by rw [← h1]
  rw [h3, h2, ← zoJ]
  congr 1; omega
theorem zi0 (z e : Int) : top (mz z e) (me z e) = top z e := by
 by_cases h : z = 0
 ·subst h; rfl
 ·obtain ⟨j, h1, h2, h3, h4⟩ := zbY h e
  unfold top
  rw [if_neg h, if_neg h3, h2]; omega
structure Rg (z e : Int) : Prop where
 b : bl z.natAbs ≤ 10000000
 lo : -40000000 ≤ e
 hi : e ≤ 40000000
theorem ziI {za ea zb eb : Int} (ha : Rg za ea) (hb : Rg zb eb) : zf6 (mk za ea).2.1 (me za ea) (mk zb eb).2.1 (me zb eb) := by
 have a1 := zcx za ea
 have b1 := zcx zb eb
 have a2 := zbq za ea
 have b2 := zbq zb eb
 obtain ⟨h1, h2, h3⟩ := ha
 obtain ⟨h4, h5, h6⟩ := hb
 refine ⟨by omega, by omega, by omega, by omega⟩
theorem zlm {za ea zb eb : Int} (ha : Rg za ea) (hb : Rg zb eb) : Ev (fun k => zaW.f k (mk za ea).1 (mk za ea).2.1 (mk za ea).2.2 (mk zb eb).1 (mk zb eb).2.1 (mk zb eb).2.2) (zZ za ea zb eb) := by
 refine zh (zlx (zY za ea) (zY zb eb) (ziI ha hb)) ?_
 show zZ (mz za ea) (me za ea) (mz zb eb) (me zb eb) = _
 rw [zhs, zjs]
theorem zkL (z e : Int) : mz (-z) e = -mz z e ∧ me (-z) e = me z e := by
 by_cases h : z = 0
 ·subst h; exact ⟨rfl, rfl⟩
 ·have hv := zmV (zY z e)
  have h1 : mk (-mz z e) (me z e) = mk (-z) e := by
   obtain ⟨j, h1, h2, h3, h4⟩ := zbY h e
   have h5 : mk (-z) e = mk (-mz z e * 2 ^ j) e := by rw [Int.neg_mul, ← h1]
   rw [h5, zbX, h2]
  have h2 : mk (-(sv (mk z e).1 (V (mk z e).2.1))) (mk z e).2.2 = mk (-z) e := h1
  rw [h2] at hv
  refine ⟨?_, hv.2.2⟩
  have h3 : mz (-z) e = sv (mk (-z) e).1 (V (mk z e).2.1) := by unfold mz; rw [hv.1]
  rw [h3, hv.2.1]; rfl
theorem ziA {za ea zb eb : Int} (ha : Rg za ea) (hb : Rg zb eb) : Ev (fun k => zcb.f k (mk za ea).1 (mk za ea).2.1 (mk za ea).2.2 (mk zb eb).1 (mk zb eb).2.1 (mk zb eb).2.2) (zZ za ea (-zb) eb) := by
 refine zh (zlB (zY za ea) (zY zb eb) (ziI ha hb)) ?_
 show zZ (mz za ea) (me za ea) (-mz zb eb) (me zb eb) = _
 rw [zhs, ← (zkL zb eb).1, ← (zkL zb eb).2, zjs]
theorem zep {za ea zb eb : Int} (ha : Rg za ea) (hb : Rg zb eb) : Ev (fun k => za7.f k (mk za ea).1 (mk za ea).2.1 (mk za ea).2.2 (mk zb eb).1 (mk zb eb).2.1 (mk zb eb).2.2) (zaw za ea zb eb) := by
 refine zh (zqT (zY za ea) (zY zb eb) (ziI ha hb)) ?_
 show zaw (mz za ea) (me za ea) (mz zb eb) (me zb eb) = _
 rw [zjN, znP]
theorem zqL (z e : Int) : zbO.f (mk z e).1 (mk z e).2.1 (mk z e).2.2 = some z.sign := by
 rw [zfN (zY z e), zkG]
theorem zgR {z e : Int} (h : Rg z e) : Ev (fun k => zay.f k (mk z e).1 (mk z e).2.1 (mk z e).2.2) (top z e) := by
 have a1 := zcx z e
 have a2 := zbq z e
 obtain ⟨h1, h2, h3⟩ := h
 have e1 : (mk z e).2.2 = me z e := rfl
 refine zh (zfO (zY z e) (by omega) (by omega) (by omega)) ?_
 exact zi0 z e
theorem zgP {za ea zb eb : Int} (ha : Rg za ea) (hb : Rg zb eb) : Ev (fun k => zbm.f k (mk za ea).1 (mk za ea).2.1 (mk za ea).2.2 (mk zb eb).1 (mk zb eb).2.1 (mk zb eb).2.2) (mk (za * zb) (ea + eb)) := by
 have a1 := zcx za ea
 have b1 := zcx zb eb
 have a2 := zbq za ea
 have b2 := zbq zb eb
 obtain ⟨h1, h2, h3⟩ := ha
 obtain ⟨h4, h5, h6⟩ := hb
 have e1 : (mk za ea).2.2 = me za ea := rfl
 have e2 : (mk zb eb).2.2 = me zb eb := rfl
 refine zh (zqX (zY za ea) (zY zb eb) (by omega) (by omega) (by omega) (by omega) (by omega) (by omega)) ?_
 show mk (mz za ea * mz zb eb) (me za ea + me zb eb) = _
 by_cases c : za = 0
 ·subst c; rw [zdh, Int.zero_mul, Int.zero_mul]; rfl
 by_cases c2 : zb = 0
 ·subst c2; rw [zdh, Int.mul_zero, Int.mul_zero]; rfl
 obtain ⟨j, p1, p2, _, _⟩ := zbY c ea
 obtain ⟨i, q1, q2, _, _⟩ := zbY c2 eb
 have e3 : za * zb = mz za ea * mz zb eb * 2 ^ (j + i) := by
  conv => lhs; rw [p1, q1]
  rw [Int.pow_add, Int.mul_assoc, Int.mul_assoc]
  congr 1
  rw [Int.mul_left_comm]
 rw [e3, zbX, p2, q2]
 congr 1
 omega
theorem zfK (z : Int) {e n : Int} (hb : bl z.natAbs ≤ 10000000000) (h1 : -10000000000000 ≤ e) (h2 : e ≤ 10000000000000) (h3 : -10000000000000 ≤ n) (h4 : n ≤ 10000000000000) : zbN.f (mk z e).1 (mk z e).2.1 (mk z e).2.2 n = some (mk z (e + n)) := by
 have a2 := zbq z e
 have e1 : (mk z e).2.2 = me z e := rfl
 rw [zq2 (zY z e) (by omega) (by omega) (by omega) (by omega)]
 congr 1
 show mk (mz z e) (me z e + n) = _
 by_cases c : z = 0
 ·subst c; rfl
 ·obtain ⟨j, p1, p2, _, _⟩ := zbY c e
  have e3 : mk z (e + n) = mk (mz z e * 2 ^ j) (e + n) := by rw [← p1]
  rw [e3, zbX, p2]
  congr 1; omega
theorem zln {z e : Int} (hb : bl z.natAbs ≤ 20000000) (h1 : -800000000 ≤ e) (h2 : e ≤ 800000000) : Ev (fun k => zdA.f k (mk z e).1 (mk z e).2.1 (mk z e).2.2) (mk (zag z e) 0) := by
 have a1 := zcx z e
 have a2 := zbq z e
 have e1 : (mk z e).2.2 = me z e := rfl
 refine zh (zqW (zY z e) (by omega) (by omega) (by omega)) ?_
 show mk (zag (mz z e) (me z e)) 0 = _
 have := zoI z e 0
 rw [Int.add_zero, Int.add_zero] at this
 rw [this]
theorem zix (a e b e' : Int) (h : bl a.natAbs ≤ 1000000000) : Ev (fun k => zcK.f k (mk a e).1 (mk a e).2.1 (mk a e).2.2 (mk b e').1 (mk b e').2.1 (mk b e').2.2) (decide (mk a e = mk b e')) := by
 have a1 := zcx a e
 exact zq0 _ _ _ _ _ _ (by omega)
theorem zh2 {a b e : Int} (h : mk a e = mk b e) : a = b := by
 by_cases c : a = 0
 ·by_cases c2 : b = 0
  ·rw [c, c2]
  ·exfalso
   have h1 := zh7 c2 e
   have h2 : mz a e = mz b e := by unfold mz; rw [h]
   rw [c, zdh] at h2
   exact h1 h2.symm
 ·by_cases c2 : b = 0
  ·exfalso
   have h1 := zh7 c e
   have h2 : mz a e = mz b e := by unfold mz; rw [h]
   rw [c2, zdh] at h2
   exact h1 h2
  ·have h2 : mz a e = mz b e := by unfold mz; rw [h]
   have h3 : me a e = me b e := by unfold me; rw [h]
   obtain ⟨j, p1, p2, _, _⟩ := zbY c e
   obtain ⟨i, q1, q2, _, _⟩ := zbY c2 e
   have : j = i := by omega
   subst this
   rw [p1, q1, h2]
theorem zpC {a b ea eb m : Int} (h1 : m ≤ ea) (h2 : m ≤ eb) : mk a ea = mk b eb ↔ al a ea m = al b eb m := by
 rw [← zfB (z := a) h1, ← zfB (z := b) h2]
 exact ⟨zh2, fun h => by rw [h]⟩
def upB (m : Int) (s odd zam more : Bool) : Bool :=
 if m = 1 then zam && (more || odd) else if m = 2 then zam else if m = 4 then !s && (zam || more) else if m = 5 then s && (zam || more) else false
def rnd (m : Int) (s : Bool) (n k : Nat) : Nat :=
 n / 2 ^ k + (if upB m s (decide (n / 2 ^ k % 2 = 1)) (decide (2 ^ k ≤ 2 * (n % 2 ^ k))) (decide (2 * (n % 2 ^ k) % 2 ^ k ≠ 0)) = true then 1 else 0)
theorem zlG {m : Int} {s : Bool} {n k : Nat} (h : n % 2 ^ k = 0) : rnd m s n k = n / 2 ^ k := by
 have hp := zj k
 unfold rnd
 rw [h]
 have e1 : decide (2 ^ k ≤ 2 * 0) = false := decide_eq_false (by omega)
 have e2 : decide (2 * 0 % 2 ^ k ≠ 0) = false := decide_eq_false (by simp)
 rw [e1, e2]
 unfold upB
 simp
theorem zeq (m : Int) (s : Bool) (n : Nat) : rnd m s n 0 = n := by
 rw [zlG (by rw [Nat.pow_zero, Nat.mod_one]), Nat.pow_zero, Nat.div_one]
theorem ziK (m : Int) (s : Bool) (n k j : Nat) : rnd m s (n * 2 ^ j) (k + j) = rnd m s n k := by
 have hj := zj j
 have hk := zj k
 have e1 : n * 2 ^ j / 2 ^ (k + j) = n / 2 ^ k := by rw [Nat.pow_add, Nat.mul_div_mul_right _ _ hj]
 have e2 : n * 2 ^ j % 2 ^ (k + j) = n % 2 ^ k * 2 ^ j := by rw [Nat.pow_add, Nat.mul_mod_mul_right]
 unfold rnd
 rw [e1, e2]
 have e3 : decide (2 ^ (k + j) ≤ 2 * (n % 2 ^ k * 2 ^ j)) = decide (2 ^ k ≤ 2 * (n % 2 ^ k)) := decide_eq_decide.2 (by
  rw [Nat.pow_add, ← Nat.mul_assoc]
  exact ⟨fun h => Nat.le_of_mul_le_mul_right h hj, fun h => Nat.mul_le_mul_right _ h⟩)
 have e4 : decide (2 * (n % 2 ^ k * 2 ^ j) % 2 ^ (k + j) ≠ 0) = decide (2 * (n % 2 ^ k) % 2 ^ k ≠ 0) := decide_eq_decide.2 (by
  rw [Nat.pow_add, ← Nat.mul_assoc, Nat.mul_mod_mul_right]
  constructor
  ·intro h h2; exact h (by rw [h2, Nat.zero_mul])
  ·intro h h2
   rcases Nat.mul_eq_zero.1 h2 with h3 | h3
   ·exact h h3
   ·omega)
 rw [e3, e4]
def R (m : Int) (s : Bool) (n : Nat) (e E : Int) : Nat := rnd m s (n * 2 ^ (e - E).toNat) (E - e).toNat
theorem zjh (m : Int) (s : Bool) (n : Nat) (e E : Int) (j : Nat) : R m s (n * 2 ^ j) e E = R m s n (e + j) E := by
 unfold R
 by_cases h : E ≤ e
 ·have e1 : (E - e).toNat = 0 := by omega
  have e2 : (E - (e + (j : Int))).toNat = 0 := by omega
  rw [e1, e2, zeq, zeq, Nat.mul_assoc, ← Nat.pow_add]
  congr 2; omega
 ·by_cases h2 : E ≤ e + (j : Int)
  ·have e1 : (e - E).toNat = 0 := by omega
   have e2 : (E - (e + (j : Int))).toNat = 0 := by omega
   rw [e1, e2, zeq, Nat.pow_zero, Nat.mul_one]
   have e3 : n * 2 ^ j = n * 2 ^ (e + (j : Int) - E).toNat * 2 ^ (E - e).toNat := by
    rw [Nat.mul_assoc, ← Nat.pow_add]; congr 2; omega
   rw [e3]
   have := ziK m s (n * 2 ^ (e + (j : Int) - E).toNat) 0 (E - e).toNat
   rw [Nat.zero_add, zeq] at this
   exact this
  ·have e1 : (e - E).toNat = 0 := by omega
   have e2 : (e + (j : Int) - E).toNat = 0 := by omega
   have e3 : (E - e).toNat = (E - (e + (j : Int))).toNat + j := by omega
   rw [e1, e2, e3, Nat.pow_zero, Nat.mul_one, Nat.mul_one, ziK]
def exR (n : Nat) (e E : Int) : Bool := decide (n % 2 ^ (E - e).toNat = 0)
theorem zkf (n : Nat) (e E : Int) (j : Nat) : exR (n * 2 ^ j) e E = exR n (e + j) E := by
 unfold exR
 apply decide_eq_decide.2
 by_cases h2 : E ≤ e + (j : Int)
 ·have e2 : (E - (e + (j : Int))).toNat = 0 := by omega
  rw [e2, Nat.pow_zero, Nat.mod_one]
  have e3 : n * 2 ^ j = n * 2 ^ (j - (E - e).toNat) * 2 ^ (E - e).toNat := by
   rw [Nat.mul_assoc, ← Nat.pow_add]; congr 2; omega
  rw [e3, Nat.mul_mod_left]
 ·have e3 : (E - e).toNat = (E - (e + (j : Int))).toNat + j := by omega
  rw [e3, Nat.pow_add, Nat.mul_mod_mul_right]
  constructor
  ·intro h
   rcases Nat.mul_eq_zero.1 h with h3 | h3
   ·exact h3
   ·have := zj j; omega
  ·intro h; rw [h, Nat.zero_mul]
theorem zgf (q : Nat) : bl (q + 1) ≤ bl q + 1 := by
 refine zI ?_
 have := zP q
 rw [Nat.pow_succ]
 have := zj (bl q)
 omega
theorem zm3 {m : Int} {s : Bool} {n : Nat} {e E : Int} (hn : n ≠ 0) : (bl (R m s n e E) : Int) ≤ max 1 (e + (bl n : Nat) - E + 1) := by
 have h0 : rnd m s (n * 2 ^ (e - E).toNat) (E - e).toNat ≤ n * 2 ^ (e - E).toNat / 2 ^ (E - e).toNat + 1 := by unfold rnd; split <;> omega
 have h1 := zV h0
 have h2 := zgf (n * 2 ^ (e - E).toNat / 2 ^ (E - e).toNat)
 rw [zb6, zaj hn] at h2
 unfold R
 by_cases c : E ≤ e
 ·have e1 : (E - e).toNat = 0 := by omega
  rw [e1, zeq, zaj hn]; omega
 ·omega
theorem zfd {m : Int} {s : Bool} {n : Nat} {e E : Int} (hn : n ≠ 0) (h : E ≤ e + (bl n : Nat) - 1) : e + (bl n : Nat) ≤ (bl (R m s n e E) : Int) + E ∧ (bl (R m s n e E) : Int) + E ≤ e + (bl n : Nat) + 1 := by
 have h3 := zm3 (m := m) (s := s) (e := e) (E := E) hn
 refine ⟨?_, by omega⟩
 have h0 : n * 2 ^ (e - E).toNat / 2 ^ (E - e).toNat ≤ rnd m s (n * 2 ^ (e - E).toNat) (E - e).toNat := by unfold rnd; split <;> omega
 have h1 := zV h0
 rw [zb6, zaj hn] at h1
 unfold R; omega
def TK (m : Int) (z e E : Int) : Int := sv (decide (z < 0)) (R m (decide (z < 0)) z.natAbs e E)
theorem zoB {z e E : Int} : exR z.natAbs e E = true ↔ mk (zag z (e - E)) E = mk z e := by
 unfold exR zag
 rw [decide_eq_true_iff]
 by_cases c : E ≤ e
 ·have e1 : (E - e).toNat = 0 := by omega
  rw [e1, Nat.pow_zero, Nat.mod_one, if_pos (by omega), zbX, show E + ((e - E).toNat : Int) = e by omega]
  simp
 ·rw [if_neg (by omega), show (-(e - E)).toNat = (E - e).toNat by omega]
  generalize hk : (E - e).toNat = k
  have hE : E = e + (k : Int) := by omega
  rw [hE, ← zbX]
  constructor
  ·intro h
   congr 1
   have h1 : (2 ^ k : Int) ∣ z := by
    have h2 : 2 ^ k ∣ z.natAbs := Nat.dvd_of_mod_eq_zero h
    have h3 : ((2 ^ k : Nat) : Int) ∣ z := Int.ofNat_dvd_left.2 h2
    rwa [Int.natCast_pow] at h3
   exact Int.ediv_mul_cancel h1
  ·intro h
   have h1 := zh2 h
   have h2 : (2 ^ k : Int) ∣ z := ⟨z / 2 ^ k, by rw [Int.mul_comm]; exact h1.symm⟩
   have h3 : ((2 ^ k : Nat) : Int) ∣ z := by rw [Int.natCast_pow]; exact h2
   exact Nat.mod_eq_zero_of_dvd (Int.ofNat_dvd_left.1 h3)
theorem zho {m z e E : Int} (h : exR z.natAbs e E = true) : mk (TK m z e E) E = mk z e := by
 unfold TK R
 unfold exR at h
 have h := of_decide_eq_true h
 by_cases c : E ≤ e
 ·have e1 : (E - e).toNat = 0 := by omega
  rw [e1, zeq]
  have e2 : sv (decide (z < 0)) (z.natAbs * 2 ^ (e - E).toNat) = z * 2 ^ (e - E).toNat := by
   have := zhu (decide (z < 0)) z.natAbs e E
   rw [zg4] at this
   exact this.symm
  rw [e2, zbX]; congr 1; omega
 ·have e1 : (e - E).toNat = 0 := by omega
  rw [e1, Nat.pow_zero, Nat.mul_one, zlG h]
  generalize hk : (E - e).toNat = k at *
  have hE : E = e + (k : Int) := by omega
  rw [hE, ← zbX]
  congr 1
  have e2 : sv (decide (z < 0)) (z.natAbs / 2 ^ k) * 2 ^ k = sv (decide (z < 0)) (z.natAbs / 2 ^ k * 2 ^ k) := by
   unfold sv; split
   ·rw [Int.neg_mul, Int.natCast_mul, Int.natCast_pow]; rfl
   ·rw [Int.natCast_mul, Int.natCast_pow]; rfl
  rw [e2, Nat.div_mul_cancel (Nat.dvd_of_mod_eq_zero h), zg4]
def pick (m : Int) (s : Bool) (F c : Int) : Int :=
 if m = 5 then F else if m = 4 then F + 1 else if m = 3 then (if s = true then F + 1 else F)
 else if c < 0 then F else if c > 0 then F + 1 else if m = 2 then (if s = true then F else F + 1) else if F % 2 = 0 then F else F + 1
theorem zqh (m : Int) (hm : isM m) (n k : Nat) (h : n % 2 ^ k ≠ 0) : pick m false ((n : Int) / 2 ^ k) (2 * ((n : Int) % 2 ^ k) - 2 ^ k).sign = (rnd m false n k : Int) := by
 have hp := zj k
 have e0 : (2 : Int) ^ k = ((2 ^ k : Nat) : Int) := by rw [Int.natCast_pow]; rfl
 have hlt := Nat.mod_lt n hp
 rw [e0]
 have e1 : (n : Int) / ((2 ^ k : Nat) : Int) = ((n / 2 ^ k : Nat) : Int) := rfl
 have e2 : (n : Int) % ((2 ^ k : Nat) : Int) = ((n % 2 ^ k : Nat) : Int) := rfl
 rw [e1, e2]
 have e3 : decide (2 * (n % 2 ^ k) % 2 ^ k ≠ 0) = decide (2 * (n % 2 ^ k) ≠ 2 ^ k) := decide_eq_decide.2 (by
  generalize n % 2 ^ k = r at *
  generalize 2 ^ k = p at *
  by_cases c : 2 * r < p
  ·rw [Nat.mod_eq_of_lt c]; omega
  ·have : 2 * r % p = 2 * r - p := by
    rw [Nat.mod_eq_sub_mod (by omega), Nat.mod_eq_of_lt (by omega)]
   rw [this]; omega)
 unfold rnd
 rw [e3]
 generalize n % 2 ^ k = r at *
 generalize n / 2 ^ k = q at *
 generalize 2 ^ k = p at *
 unfold pick upB
 obtain ⟨m1, m2⟩ := hm
 have hm5 : m = 1 ∨ m = 2 ∨ m = 3 ∨ m = 4 ∨ m = 5 := by omega
 rcases Nat.lt_trichotomy (2 * r) p with c | c | c
 ·have s1 : (2 * (r : Int) - (p : Int)).sign = -1 := Int.sign_eq_neg_one_of_neg (by omega)
  have d1 : decide (p ≤ 2 * r) = false := decide_eq_false (by omega)
  have d2 : decide (2 * r ≠ p) = true := decide_eq_true (by omega)
  rw [s1, d1, d2]
  rcases hm5 with rfl | rfl | rfl | rfl | rfl <;> simp
 ·have s1 : (2 * (r : Int) - (p : Int)).sign = 0 := by
   have : 2 * (r : Int) - (p : Int) = 0 := by omega
   rw [this]; rfl
  have d1 : decide (p ≤ 2 * r) = true := decide_eq_true (by omega)
  have d2 : decide (2 * r ≠ p) = false := decide_eq_false (by omega)
  rw [s1, d1, d2]
  rcases hm5 with rfl | rfl | rfl | rfl | rfl <;> simp
  by_cases hq : q % 2 = 1
  ·rw [if_neg (by omega)]; simp [hq]
  ·rw [if_pos (by omega)]; simp [hq]
 ·have s1 : (2 * (r : Int) - (p : Int)).sign = 1 := Int.sign_eq_one_of_pos (by omega)
  have d1 : decide (p ≤ 2 * r) = true := decide_eq_true (by omega)
  have d2 : decide (2 * r ≠ p) = true := decide_eq_true (by omega)
  rw [s1, d1, d2]
  rcases hm5 with rfl | rfl | rfl | rfl | rfl <;> simp
theorem zqg (m : Int) (hm : isM m) (n k : Nat) (h : n % 2 ^ k ≠ 0) : pick m true (-(n : Int) / 2 ^ k) (2 * (-(n : Int) % 2 ^ k) - 2 ^ k).sign = -(rnd m true n k : Int) := by
 have hp := zj k
 have e0 : (2 : Int) ^ k = ((2 ^ k : Nat) : Int) := by rw [Int.natCast_pow]; rfl
 have hlt := Nat.mod_lt n hp
 have e1 := zfw true n k
 rw [if_pos ⟨rfl, h⟩] at e1
 have e1 : -(n : Int) / 2 ^ k = -((n / 2 ^ k + 1 : Nat) : Int) := e1
 have e2 : -(n : Int) % 2 ^ k = ((2 ^ k - n % 2 ^ k : Nat) : Int) := by
  have h1 := Int.mul_ediv_add_emod (-(n : Int)) (2 ^ k)
  rw [e1, e0] at h1
  have h2 := Nat.div_add_mod n (2 ^ k)
  rw [e0]
  rw [Int.mul_neg, ← Int.natCast_mul, Nat.mul_add, Nat.mul_one] at h1
  generalize -(n : Int) % ((2 ^ k : Nat) : Int) = y at *
  generalize 2 ^ k * (n / 2 ^ k) = w at *
  omega
 rw [e1, e2, e0]
 have e3 : decide (2 * (n % 2 ^ k) % 2 ^ k ≠ 0) = decide (2 * (n % 2 ^ k) ≠ 2 ^ k) := decide_eq_decide.2 (by
  generalize n % 2 ^ k = r at *
  generalize 2 ^ k = p at *
  by_cases c : 2 * r < p
  ·rw [Nat.mod_eq_of_lt c]; omega
  ·have : 2 * r % p = 2 * r - p := by
    rw [Nat.mod_eq_sub_mod (by omega), Nat.mod_eq_of_lt (by omega)]
   rw [this]; omega)
 unfold rnd
 rw [e3]
 clear e1 e2 e3
 generalize n % 2 ^ k = r at *
 generalize n / 2 ^ k = q at *
 generalize 2 ^ k = p at *
 unfold pick upB
 obtain ⟨m1, m2⟩ := hm
 have hm5 : m = 1 ∨ m = 2 ∨ m = 3 ∨ m = 4 ∨ m = 5 := by omega
 have hpr : ((p - r : Nat) : Int) = (p : Int) - (r : Int) := by omega
 rw [hpr]
 rcases Nat.lt_trichotomy (2 * r) p with c | c | c
 ·have s1 : (2 * ((p : Int) - (r : Int)) - (p : Int)).sign = 1 := Int.sign_eq_one_of_pos (by omega)
  have d1 : decide (p ≤ 2 * r) = false := decide_eq_false (by omega)
  have d2 : decide (2 * r ≠ p) = true := decide_eq_true (by omega)
  rw [s1, d1, d2]
  rcases hm5 with rfl | rfl | rfl | rfl | rfl <;> simp <;> omega
 ·have s1 : (2 * ((p : Int) - (r : Int)) - (p : Int)).sign = 0 := by
   have : 2 * ((p : Int) - (r : Int)) - (p : Int) = 0 := by omega
   rw [this]; rfl
  have d1 : decide (p ≤ 2 * r) = true := decide_eq_true (by omega)
  have d2 : decide (2 * r ≠ p) = false := decide_eq_false (by omega)
  rw [s1, d1, d2]
  rcases hm5 with rfl | rfl | rfl | rfl | rfl <;> simp <;> try omega
  by_cases hq : q % 2 = 1
  ·rw [if_pos (by omega)]; simp [hq]
  ·rw [if_neg (by omega)]; simp [hq]; omega
 ·have s1 : (2 * ((p : Int) - (r : Int)) - (p : Int)).sign = -1 := Int.sign_eq_neg_one_of_neg (by omega)
  have d1 : decide (p ≤ 2 * r) = true := decide_eq_true (by omega)
  have d2 : decide (2 * r ≠ p) = true := decide_eq_true (by omega)
  rw [s1, d1, d2]
  rcases hm5 with rfl | rfl | rfl | rfl | rfl <;> simp <;> omega
theorem zqe {m : Int} (hm : isM m) {z e E : Int} (h : exR z.natAbs e E = false) : e < E ∧ pick m (decide (z < 0)) (zag z (e - E)) (2 * (z % 2 ^ (E - e).toNat) - 2 ^ (E - e).toNat).sign = TK m z e E := by
 unfold exR at h
 have h := of_decide_eq_false h
 have c : e < E := by
  rcases Int.lt_or_le e E with c | c
  ·exact c
  ·exfalso
   have e1 : (E - e).toNat = 0 := by omega
   rw [e1, Nat.pow_zero, Nat.mod_one] at h
   exact h rfl
 refine ⟨c, ?_⟩
 unfold TK R zag
 rw [if_neg (by omega), show (e - E).toNat = 0 by omega, show (-(e - E)).toNat = (E - e).toNat by omega, Nat.pow_zero, Nat.mul_one]
 generalize (E - e).toNat = k at *
 by_cases hz : z < 0
 ·obtain ⟨n, rfl⟩ : ∃ n : Nat, z = -(n : Int) := ⟨z.natAbs, by omega⟩
  have e1 : (-(n : Int)).natAbs = n := by omega
  rw [e1] at h ⊢
  rw [decide_eq_true hz]
  show _ = -((rnd m true n k : Nat) : Int)
  exact zqg m hm n k h
 ·obtain ⟨n, rfl⟩ : ∃ n : Nat, z = (n : Int) := ⟨z.natAbs, by omega⟩
  have e1 : ((n : Int)).natAbs = n := by omega
  rw [e1] at h ⊢
  rw [decide_eq_false hz]
  show _ = ((rnd m false n k : Nat) : Int)
  exact zqh m hm n k h
end Go.Proofs.YtnkpmjhlkmlmbaaGreatDoor.Eng.K
