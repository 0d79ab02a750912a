import Derived.Test.YtnkpmjhlkmlmbaaGreatDoorQDeciFewestF1
import Derived.Lib.Strings
import Derived.Laws.RangeString
import Derived.Laws.BitsAllLaws
import Derived.Lib.Bytes
import Derived.KernelRfl
set_option linter.unusedVariables false
set_option linter.unusedSimpArgs false
namespace Go.Proofs.YtnkpmjhlkmlmbaaGreatDoor.Eng
def Ev {α : Type} (g : Nat → Option α) (r : α) : Prop := ∃ n, ∀ k, n ≤ k → g k = some r
theorem Ev.now {α : Type} (r : α) : Ev (fun _ => some r) r := ⟨0, fun _ _ => rfl⟩
theorem Ev.bind {α β : Type} {g : Nat → Option α} {f : Nat → α → Option β} {a : α} {r : β} (h : Ev g a) (k : Ev (fun n => f n a) r) : Ev (fun n => (g n).bind (f n)) r := by
 obtain ⟨n, hn⟩ := h
 obtain ⟨m, hm⟩ := k
 exact ⟨n + m, fun i hi => by show (g i).bind (f i) = some r; rw [hn i (by omega), Option.bind_some]; exact hm i (by omega)⟩
theorem Ev.step {α : Type} {g f : Nat → Option α} {r : α} (h : ∀ k, g (k + 1) = f k) (k : Ev f r) : Ev g r := by
 obtain ⟨n, hn⟩ := k
 refine ⟨n + 1, fun i hi => ?_⟩
 obtain ⟨i, rfl⟩ : ∃ j, i = j + 1 := ⟨i - 1, by omega⟩
 rw [h]; exact hn i (by omega)
end Go.Proofs.YtnkpmjhlkmlmbaaGreatDoor.Eng
namespace Go.Proofs.YtnkpmjhlkmlmbaaGreatDoor.Eng.K
open Go.RowKit
theorem w64 {n : Int} (h0 : -9223372036854775808 ≤ n) (h1 : n < 9223372036854775808) : wrap64 n = n := by unfold wrap64; omega
theorem zah {n : Int} (h0 : 0 ≤ n) (h1 : n < 9223372036854775808) : wrap64 n = n := by unfold wrap64; omega
theorem u64 {n : Int} (h0 : 0 ≤ n) (h1 : n < 18446744073709551616) : IntKind.u64.wrap n = n := by
 simp [IntKind.wrap, IntKind.bits, IntKind.signed]; omega
theorem zcL (n : Int) : IntKind.u64.wrap n = n % 18446744073709551616 := by
 simp [IntKind.wrap, IntKind.bits, IntKind.signed]
theorem rdn (xs : List Int) (n : Nat) : rd xs (n : Int) = xs.getD n 0 := by simp [rd]
theorem zW {xs ys : List Int} {y : Int} {i : Int} (h : i = (xs.length : Int)) : rd (xs ++ y :: ys) i = y := by
 subst h; simp [rd]
theorem zaW {xs ys : List Int} {y z : Int} {i : Int} (h : i = (xs.length : Int)) : (xs ++ y :: ys).set i.toNat z = (xs ++ [z]) ++ ys := by
 subst h; simp
theorem zi {α : Type} {g : Nat → Option α} {r s : α} (h : Ev g r) (e : r = s) : Ev g s := e ▸ h
theorem zkV {α : Type} {x : Option α} {r : α} (h : x = some r) : Ev (fun _ => x) r := by subst h; exact Ev.now r
theorem zd {α : Type} {c : Prop} {_ : Decidable c} {g f : Nat → Option α} {r : α} (h : c) (k : Ev g r) : Ev (fun n => if c then g n else f n) r := by
 simpa [h] using k
theorem ze {α : Type} {c : Prop} {_ : Decidable c} {g f : Nat → Option α} {r : α} (h : ¬ c) (k : Ev f r) : Ev (fun n => if c then g n else f n) r := by
 simpa [h] using k
theorem ep {α : Type} {c : Prop} {_ : Decidable c} {g f : Nat → Option α} {r : α} (k : Ev g r) (h : c := by (first | omega | assumption | (simp; done) | (simp; omega))) : Ev (fun n => if c then g n else f n) r := zd h k
theorem en {α : Type} {c : Prop} {_ : Decidable c} {g f : Nat → Option α} {r : α} (k : Ev f r) (h : ¬ c := by (first | omega | assumption | (simp; done) | (simp; omega))) : Ev (fun n => if c then g n else f n) r := ze h k
theorem zk {α β : Type} {x : Option α} {f : Nat → α → Option β} {a : α} {r : β} (h : x = some a) (k : Ev (fun n => f n a) r) : Ev (fun n => x.bind (f n)) r := by
 subst h; exact k
theorem zf {α : Type} {g : Nat → Option α} {r : α} (k : Ev (fun n => g (n + 1)) r) : Ev g r := Ev.step (fun _ => rfl) k
theorem Ev.unique {α : Type} {g : Nat → Option α} {r s : α} (h : Ev g r) (k : Ev g s) : r = s := by
 obtain ⟨a, ha⟩ := h; obtain ⟨b, hb⟩ := k
 have h1 := ha (max a b) (Nat.le_max_left _ _); have h2 := hb (max a b) (Nat.le_max_right _ _)
 rw [h1] at h2; exact Option.some.inj h2
def Dg (l : List Int) : Prop := ∀ x ∈ l, 0 ≤ x ∧ x < 4294967296
def V : List Int → Nat
 | [] => 0
 | d :: l => d.toNat + 4294967296 * V l
def D (n : Nat) : List Int := if h : n = 0 then [] else ((n % 4294967296 : Nat) : Int) :: D (n / 4294967296)
termination_by n
decreasing_by omega
theorem Dg.nil : Dg [] := fun _ h => by simp at h
theorem Dg.cons {d : Int} {l : List Int} (h0 : 0 ≤ d) (h1 : d < 4294967296) (h : Dg l) : Dg (d :: l) := fun x hx => by
 rcases List.mem_cons.1 hx with rfl | hx
 ·exact ⟨h0, h1⟩
 ·exact h x hx
theorem Dg.head {d : Int} {l : List Int} (h : Dg (d :: l)) : 0 ≤ d ∧ d < 4294967296 := h d (by simp)
theorem Dg.tail {d : Int} {l : List Int} (h : Dg (d :: l)) : Dg l := fun x hx => h x (by simp [hx])
theorem Dg.app {a b : List Int} (h : Dg a) (k : Dg b) : Dg (a ++ b) := fun x hx => by
 rcases List.mem_append.1 hx with hx | hx
 ·exact h x hx
 ·exact k x hx
theorem Dg.left {a b : List Int} (h : Dg (a ++ b)) : Dg a := fun x hx => h x (by simp [hx])
theorem Dg.right {a b : List Int} (h : Dg (a ++ b)) : Dg b := fun x hx => h x (by simp [hx])
theorem Dg.take {a : List Int} (h : Dg a) (n : Nat) : Dg (a.take n) := fun x hx => h x (List.mem_of_mem_take hx)
theorem Dg.drop {a : List Int} (h : Dg a) (n : Nat) : Dg (a.drop n) := fun x hx => h x (List.mem_of_mem_drop hx)
theorem Dg.zeros (n : Nat) : Dg (List.replicate n 0) := fun x hx => by
 obtain ⟨_, rfl⟩ := List.mem_replicate.1 hx; omega
theorem Dg.getD {a : List Int} (h : Dg a) (n : Nat) : 0 ≤ a.getD n 0 ∧ a.getD n 0 < 4294967296 := by
 rw [List.getD_eq_getElem?_getD]
 cases e : a[n]? with
 | none => simp
 | some x => simpa using h x (List.mem_of_getElem? e)
theorem Dg.set {a : List Int} (h : Dg a) (n : Nat) {x : Int} (h0 : 0 ≤ x) (h1 : x < 4294967296) : Dg (a.set n x) := fun y hy => by
 rcases List.mem_or_eq_of_mem_set hy with hy | rfl
 ·exact h y hy
 ·exact ⟨h0, h1⟩
@[simp] theorem za4 : V [] = 0 := rfl
@[simp] theorem zB (d : Int) (l : List Int) : V (d :: l) = d.toNat + 4294967296 * V l := rfl
theorem zaG (a b : List Int) : V (a ++ b) = V a + 4294967296 ^ a.length * V b := by
 induction a with
 | nil => simp
 | cons d a ih => simp [ih, Nat.pow_succ]; grind
theorem zel (n : Nat) : V (List.replicate n 0) = 0 := by
 induction n with
 | zero => rfl
 | succ n ih => simp [List.replicate_succ, ih]
theorem zar {l : List Int} (h : Dg l) : V l < 4294967296 ^ l.length := by
 induction l with
 | nil => simp
 | cons d l ih =>
  have := ih h.tail; have := h.head
  simp only [zB, List.length_cons, Nat.pow_succ]
  omega
theorem zK : D 0 = [] := by unfold D; simp
theorem zcu {n : Nat} (h : n ≠ 0) : D n = ((n % 4294967296 : Nat) : Int) :: D (n / 4294967296) := by
 conv => lhs; unfold D
 simp [h]
theorem V_D (n : Nat) : V (D n) = n := by
 induction n using Nat.strongRecOn with
 | _ n ih =>
  by_cases h : n = 0
  ·subst h; simp [zK]
  ·rw [zcu h, zB, ih _ (by omega)]; omega
theorem zaA (n : Nat) : Dg (D n) := by
 induction n using Nat.strongRecOn with
 | _ n ih =>
  by_cases h : n = 0
  ·subst h; rw [zK]; exact Dg.nil
  ·rw [zcu h]; exact Dg.cons (by omega) (by omega) (ih _ (by omega))
theorem zeZ {d : Int} {n : Nat} (h0 : 0 ≤ d) (h1 : d < 4294967296) (h : d ≠ 0 ∨ n ≠ 0) : D (d.toNat + 4294967296 * n) = d :: D n := by
 rw [zcu (by omega)]
 congr 1
 ·omega
 ·congr 1; omega
theorem zjr {a b : Nat} (h : D a = D b) : a = b := by rw [← V_D a, h, V_D]
def Nm (l : List Int) : Prop := D (V l) = l
instance (l : List Int) : Decidable (Nm l) := inferInstanceAs (Decidable (D (V l) = l))
theorem Nm.dg {l : List Int} (h : Nm l) : Dg l := h ▸ zaA _
theorem z6 (n : Nat) : Nm (D n) := by unfold Nm; rw [V_D]
theorem zcv : Nm [] := by unfold Nm; exact zK
theorem Nm.inj {a b : List Int} (h : Nm a) (k : Nm b) (e : V a = V b) : a = b := by rw [← h, e, k]
theorem zdt {l : List Int} (h : Nm l) : V l = 0 ↔ l = [] := by
 constructor
 ·intro e; rw [← h, e, zK]
 ·rintro rfl; rfl
theorem zei {l : List Int} {d : Int} (h : Dg l) (h0 : 0 < d) (h1 : d < 4294967296) : Nm (l ++ [d]) := by
 unfold Nm
 induction l with
 | nil =>
  have := zeZ (d := d) (n := 0) (by omega) h1 (by omega)
  simpa [zK] using this
 | cons x l ih =>
  have hx := h.head
  rw [List.cons_append, zB, zeZ hx.1 hx.2, ih h.tail]
  right; rw [zaG]
  have : 0 < 4294967296 ^ l.length := Nat.pow_pos (by omega)
  have : 0 < 4294967296 ^ l.length * V [d] := Nat.mul_pos this (by simp; omega)
  omega
theorem ze7 (l : List Int) : V (l ++ [0]) = V l := by rw [zaG]; simp
theorem zjs {l : List Int} (h : Dg l) : (D (V l)).length ≤ l.length := by
 induction l with
 | nil => simp [zK]
 | cons x l ih =>
  have hx := h.head
  by_cases e : x ≠ 0 ∨ V l ≠ 0
  ·rw [zB, zeZ hx.1 hx.2 e]; simpa using ih h.tail
  ·have h1 : x = 0 := by omega
   have h2 : V l = 0 := by omega
   simp [h1, h2, zK]
theorem ze5 {l : List Int} {d : Int} (h : Nm (l ++ [d])) : d ≠ 0 := by
 intro e; subst e
 have h2 := zjs h.dg.left
 have h3 : D (V (l ++ [0])) = l ++ [0] := h
 rw [ze7] at h3
 rw [h3] at h2
 simp at h2
 omega
theorem zgw {l : List Int} (h : Dg l) : Nm l ↔ l = [] ∨ l.getD (l.length - 1) 0 ≠ 0 := by
 rcases List.eq_nil_or_concat l with rfl | ⟨a, d, rfl⟩
 ·simp [zcv]
 ·rw [List.concat_eq_append] at h ⊢
  have : (a ++ [d]).getD ((a ++ [d]).length - 1) 0 = d := by simp
  rw [this]
  constructor
  ·intro k; exact .inr (ze5 k)
  ·rintro (k | k)
   ·simp at k
   ·have := h d (by simp)
    exact zei h.left (by omega) this.2
theorem zdr {n k : Nat} (h : n < 4294967296 ^ k) : (D n).length ≤ k := by
  induction k generalizing n with
  | zero => have : n = 0 := by simpa using h
            subst this; simp [zK]
  | succ k ih =>
    by_cases e : n = 0
    · subst e; simp [zK]
    · rw [zcu e, List.length_cons]
      have := ih (n := n / 4294967296) (by rw [Nat.pow_succ] at h; omega)
      omega
theorem zc8 (n : Nat) : n < 4294967296 ^ (D n).length := by
 have := zar (zaA n); rwa [V_D] at this
theorem ze0 {n : Nat} (h : n ≠ 0) : 4294967296 ^ ((D n).length - 1) ≤ n := by
 apply Nat.le_of_not_lt
 intro k
 have := zdr k
 have : (D n).length ≠ 0 := by rw [zcu h]; simp
 omega
theorem zeg {a b : Nat} (h : a ≤ b) : (D a).length ≤ (D b).length :=
 zdr (Nat.lt_of_le_of_lt h (zc8 b))
theorem zlK {a b : Nat} (h : (D a).length < (D b).length) : a < b := by
 apply Nat.lt_of_not_le
 intro k
 have := zeg k
 omega
theorem Nm.len {l : List Int} (h : Nm l) : (D (V l)).length = l.length := by rw [h]
theorem Nm.lt_of_len {a b : List Int} (h : Nm a) (k : Nm b) (e : a.length < b.length) : V a < V b := by
 apply zlK; rw [h, k]; exact e
open Go.RowKit Go.Proofs Go.Proofs.YtnkpmjhlkmlmbaaGreatDoor.Eng
def tl (s : ByteArray) : List UInt8 := s.data.toList
theorem zi0 (s : ByteArray) : (tl s).length = s.size := by simp [tl]
theorem za1 {a b : ByteArray} : tl a = tl b ↔ a = b := ⟨fun h => by
 cases a; cases b
 congr
 exact Array.toList_inj.1 h, fun h => by rw [h]⟩
theorem ziZ (a b : ByteArray) : tl (a ++ b) = tl a ++ tl b := by simp [tl]
theorem zeS (s : ByteArray) (i j : Nat) : tl (s.extract i j) = ((tl s).take j).drop i := by
 simp only [tl, ByteArray.data_extract, Array.toList_extract, List.extract_eq_take_drop]
 rw [List.take_drop, List.drop_take, List.drop_take]
 congr 1
 omega
theorem zi1 {s : ByteArray} : tl s = [] ↔ s = ⟨#[]⟩ := by
 rw [← za1]
 simp [tl]
theorem zng (l : List Int) : tl (qfL l) = l.map fun n => UInt8.ofNat n.toNat := rfl
theorem zdg (s : ByteArray) : s.size = (tl s).length := (zi0 s).symm
theorem zgL (s : ByteArray) (i : Int) : bt s i = (((tl s).getD i.toNat 0).toNat : Int) := by
 unfold bt tl
 split
 ·rename_i h
  have : i.toNat < s.data.toList.length := by simpa using h
  simp [List.getD, List.getElem?_eq_getElem this]
  rfl
 ·rename_i h
  have : ¬ i.toNat < s.data.toList.length := by simpa using h
  simp [List.getD, List.getElem?_eq_none (by omega : s.data.toList.length ≤ i.toNat)]
def hx (b : UInt8) : Option Nat := if 48 ≤ b.toNat ∧ b.toNat ≤ 57 then some (b.toNat - 48) else if 97 ≤ b.toNat ∧ b.toNat ≤ 102 then some (b.toNat - 87) else none
def isD (b : UInt8) : Bool := decide (48 ≤ b.toNat ∧ b.toNat ≤ 57)
def zg (l : List UInt8) (a : Nat) : Nat := l.foldl (fun a b => 10 * a + (b.toNat - 48)) a
def zcf : List UInt8 → Bool
 | 45 :: _ => true
 | _ => false
def zw : List UInt8 → List UInt8
 | 45 :: r => r
 | 43 :: r => r
 | r => r
def zaU (E : List UInt8) : Bool := decide (zw E ≠ []) && decide ((zw E).length ≤ 6) && (zw E).all isD
def zc5 (E : List UInt8) : Int := if zcf E = true then -(zg (zw E) 0 : Int) else zg (zw E) 0
theorem zdi {α : Type} (p : α → Bool) (l : List α) : (l.takeWhile p).all p = true := by
 induction l with
 | nil => rfl
 | cons a l ih => by_cases h : p a = true <;> simp [h]
theorem zb3 {α : Type} (p : α → Bool) (l : List α) : l.takeWhile p ++ l.dropWhile p = l := List.takeWhile_append_dropWhile
theorem zhd {α : Type} (p : α → Bool) (l : List α) {c : α} {r : List α} (h : l.dropWhile p = c :: r) : p c = false := by
 induction l with
 | nil => simp at h
 | cons a l ih =>
  by_cases ha : p a = true
  ·simp [ha] at h; exact ih h
  ·simp [ha] at h; rw [← h.1]; simpa using ha
theorem zkJ (l : List UInt8) (hl : l.all isD = true) (n : Nat) : zg l n < (n + 1) * 10 ^ l.length := by
 induction l generalizing n with
 | nil => simp [zg]
 | cons a l ih =>
  simp only [List.all_cons, Bool.and_eq_true] at hl
  have h : zg (a :: l) n = zg l (10 * n + (a.toNat - 48)) := rfl
  have h1 := hl.1
  simp only [isD, decide_eq_true_eq] at h1
  have := ih hl.2 (10 * n + (a.toNat - 48))
  rw [h, List.length_cons, Nat.pow_succ]
  have h2 : (10 * n + (a.toNat - 48) + 1) * 10 ^ l.length ≤ ((n + 1) * 10) * 10 ^ l.length := Nat.mul_le_mul_right _ (by omega)
  have h3 : (n + 1) * (10 ^ l.length * 10) = ((n + 1) * 10) * 10 ^ l.length := by rw [Nat.mul_assoc, Nat.mul_comm 10]
  omega
def zhx (d : Nat) : UInt8 := UInt8.ofNat (if d < 10 then 48 + d else 87 + d)
theorem zbw {n : Nat} (h : n < 4611686018427387904) : wrap64 ((n : Int) + 1) = ((n + 1 : Nat) : Int) := by unfold wrap64; omega
theorem zjk {n : Nat} (h : n < 4611686018427387904) : wrap64 (((n + 1 : Nat) : Int) - 1) = (n : Int) := by unfold wrap64; omega
theorem zi9 : ∀ (n : Nat) (l : List Int), l.length = n → Dg l → n < 4611686018427387904 → Ev (fun k => zn.f k l) (D (V l))
 | 0, l, hn, hd, hb => by
  have : l = [] := List.eq_nil_of_length_eq_zero hn
  subst this
  refine zf (zkV ?_)
  simp [zn.f, zn.l0, zK]
 | n + 1, l, hn, hd, hb => by
  rcases List.eq_nil_or_concat l with rfl | ⟨a, d, rfl⟩
  ·simp at hn
  rw [List.concat_eq_append] at hn hd ⊢
  have hl : (a ++ [d]).length = n + 1 := hn
  have ha : a.length = n := by simpa using hn
  refine zf ?_
  show Ev (fun k => zn.l0 (k + 1) (a ++ [d])) _
  simp only [zn.l0, hl, zjk (n := n) (by omega)]
  refine zd (by omega) (zd (by omega) (zd (by omega) ?_))
  rw [zW (by omega)]
  by_cases h0 : d = 0
  ·subst h0
   refine zd rfl (zd (by omega) ?_)
   rw [ze7]
   have : (a ++ [(0 : Int)]).take (n : Int).toNat = a := by simp [← ha]
   rw [this]
   exact zd (by omega) (zi9 n a ha hd.left (by omega))
  ·refine ze h0 ?_
   have := hd d (by simp)
   rw [zei hd.left (by omega) this.2]
   exact Ev.now _
theorem zbZ {l : List Int} (hd : Dg l) (hb : l.length < 4611686018427387904) : Ev (fun k => zn.f k l) (D (V l)) := zi9 _ l rfl hd hb
theorem zjO (n : Int) (h0 : 0 ≤ n) (h1 : n < 18446744073709551616) : V [n % 4294967296, (n / 4294967296) % 4294967296] = n.toNat := by
 simp; omega
theorem zju (n : Int) : Dg [n % 4294967296, (n / 4294967296) % 4294967296] := Dg.cons (by omega) (by omega) (Dg.cons (by omega) (by omega) Dg.nil)
theorem zdQ {n : Int} (h0 : 0 ≤ n) (h1 : n < 18446744073709551616) : Ev (fun k => zaV.f k n) (D n.toNat) := by
 unfold zaV.f
 refine Ev.bind (zbZ (zju n) (by simp)) ?_
 rw [zjO n h0 h1]; exact Ev.now _
def may (l : List Int) : Bool := decide (l.length ≤ 4096) && decide (Nm l)
theorem zbr {l : List Int} : may l = true ↔ l.length ≤ 4096 ∧ Nm l := by simp [may]
theorem zbY {l : List Int} (h : Dg l) (hb : l.length < 4611686018427387904) : zZ.f l = some (may l) := by
 unfold zZ.f may
 by_cases h1 : l.length ≤ 4096
 ·rw [if_pos (by omega)]
  by_cases h2 : l.length = 0
  ·have : l = [] := List.eq_nil_of_length_eq_zero h2
   subst this; simp [zcv]
  ·rw [if_neg (by omega)]
   have e : wrap64 ((l.length : Int) - 1) = ((l.length - 1 : Nat) : Int) := by unfold wrap64; omega
   rw [e, if_pos (by omega), if_pos (by omega), rdn]
   have h3 : l ≠ [] := fun e => h2 (by rw [e]; rfl)
   have h4 := zgw h
   by_cases h5 : l.getD (l.length - 1) 0 = 0
   ·have : ¬ Nm l := fun k => by rcases h4.1 k with k | k <;> contradiction
    rw [h5]; simp [this]
   ·have : Nm l := h4.2 (.inr h5)
    simp only [h5, not_false_eq_true, decide_true]; simp [h1, this]
 ·rw [if_neg (by omega)]; simp [h1]
theorem zgE {a b : List Int} (ha : Dg a) (hb : Dg b) (la : a.length < 4611686018427387904) (lb : b.length < 4611686018427387904) : Ev (fun k => zU.f k [a, b]) (may a && may b) := by
 unfold zU.f
 refine zf ?_
 simp only [zU.l0]
 refine zd (by simp) (zd (by omega) (zd (by simp) ?_))
 have e0 : rdT [.is .u32] [a, b] 0 = a := rfl
 have e1 : rdT [.is .u32] [a, b] 1 = b := rfl
 rw [e0]
 refine zk (zbY ha la) ?_
 cases may a with
 | false => exact zd (by simp) (Ev.now _)
 | true =>
  refine ze (by simp) ?_
  have w1 : wrap64 (0 + 1) = 1 := by unfold wrap64; omega
  have w2 : wrap64 (1 + 1) = 2 := by unfold wrap64; omega
  rw [w1]
  refine zf ?_
  simp only [zU.l0]
  refine zd (by simp) (zd (by omega) (zd (by simp) ?_))
  rw [e1]
  refine zk (zbY hb lb) ?_
  cases may b with
  | false => exact zd (by simp) (Ev.now _)
  | true =>
   refine ze (by simp) ?_
   rw [w2]
   refine zf ?_
   simp only [zU.l0]
   exact ze (by simp) (Ev.now _)
def zG (n : Nat) : List Int × Int := if (D n).length > 4096 then ([], 3) else (D n, 0)
theorem zl1 (n : Nat) : zaE.f (D n) = some (zG n) := by
 unfold zaE.f zG
 by_cases h : (D n).length > 4096
 ·rw [if_pos (by omega), if_pos h]
 ·rw [if_neg (by omega), if_neg h]
theorem zjP {x y c : Int} (hx : 0 ≤ x ∧ x < 4294967296) (hy : 0 ≤ y ∧ y < 4294967296) (hc : 0 ≤ c ∧ c < 4294967296) : zb6.f x y c = some ((x + y + c) % 4294967296, (x + y + c) / 4294967296) := by
 unfold zb6.f
 rw [u64 hx.1 (by omega), u64 hy.1 (by omega), u64 hc.1 (by omega), u64 (n := x + y) (by omega) (by omega), u64 (by omega) (by omega)]
 have : (x + y + c) / 4294967296 % 4294967296 = (x + y + c) / 4294967296 := by omega
 rw [this]
theorem Dg.headD {b : List Int} (h : Dg b) : 0 ≤ b.headD 0 ∧ b.headD 0 < 4294967296 := by
 cases b with
 | nil => simp
 | cons y b => exact h.head
theorem zjM (b : List Int) : V b = (b.headD 0).toNat + 4294967296 * V b.tail := by
 cases b <;> simp
theorem zkH (b : List Int) (n : Nat) : (b.drop n).headD 0 = b.getD n 0 := by
 rw [List.headD_eq_head?_getD, List.head?_drop, List.getD_eq_getElem?_getD]
def za9 (m n : Nat) : Int := if m < n then -1 else if n < m then 1 else 0
theorem zek {l : List Int} {n : Nat} (h : n < l.length) : V (l.take (n + 1)) = V (l.take n) + 4294967296 ^ n * (l.getD n 0).toNat := by
 rw [List.take_succ_eq_append_getElem h, zaG]
 simp [Nat.min_eq_left (Nat.le_of_lt h), h]
theorem zi4 {p q P d e : Nat} (hp : p < P) (h : d < e) : p + P * d < q + P * e := by
 have : P * (d + 1) ≤ P * e := Nat.mul_le_mul_left _ h
 rw [Nat.mul_add] at this
 omega
theorem zdu {l : List Int} (h : Dg l) {n : Nat} (hn : n ≤ l.length) : V (l.take n) < 4294967296 ^ n := by
 have := zar (h.take n); rwa [List.length_take, Nat.min_eq_left hn] at this
theorem zkf {x y : List Int} (hx : Dg x) (hy : Dg y) {n : Nat} (h1 : n < x.length) (h2 : n < y.length) :
  za9 (V (x.take (n + 1))) (V (y.take (n + 1))) = if x.getD n 0 = y.getD n 0 then za9 (V (x.take n)) (V (y.take n)) else if x.getD n 0 < y.getD n 0 then -1 else 1 := by
 rw [zek h1, zek h2]
 have a := hx.getD n
 have b := hy.getD n
 have p := zdu hx (Nat.le_of_lt h1)
 have q := zdu hy (Nat.le_of_lt h2)
 by_cases e : x.getD n 0 = y.getD n 0
 ·rw [if_pos e, e]; unfold za9; simp
 ·rw [if_neg e]
  by_cases c : x.getD n 0 < y.getD n 0
  ·rw [if_pos c]
   have := zi4 (q := V (y.take n)) p (show (x.getD n 0).toNat < (y.getD n 0).toNat by omega)
   unfold za9; rw [if_pos this]
  ·rw [if_neg c]
   have := zi4 (q := V (x.take n)) q (show (y.getD n 0).toNat < (x.getD n 0).toNat by omega)
   unfold za9; rw [if_neg (by omega), if_pos this]
theorem zb4 {n : Nat} (h : n < 4611686018427387904) : wrap64 ((n : Int) - 1) = (n : Int) - 1 := by unfold wrap64; omega
theorem zgS {x y : List Int} (hx : Dg x) (hy : Dg y) (hb : x.length < 4611686018427387904) : ∀ (n : Nat), n ≤ x.length → n ≤ y.length → Ev (fun k => zam.l0 k x y ((n : Int) - 1)) (za9 (V (x.take n)) (V (y.take n)))
 | 0, _, _ => by
  refine zf ?_
  simp only [zam.l0]
  (repeat (first | with_reducible refine ep ?_ | with_reducible refine en ?_)); exact Ev.now _
 | n + 1, h1, h2 => by
  refine zf ?_
  simp only [zam.l0]
  have e : ((n + 1 : Nat) : Int) - 1 = (n : Int) := by omega
  rw [e, zb4 (n := n) (by omega)]
  (repeat (first | with_reducible refine ep ?_ | with_reducible refine en ?_))
  rw [zkf hx hy (by omega) (by omega), rdn, rdn]
  by_cases c : x.getD n 0 = y.getD n 0
  ·(repeat (first | with_reducible refine ep ?_ | with_reducible refine en ?_))
   rw [if_pos c]
   exact zgS hx hy hb n (by omega) (by omega)
  ·(repeat (first | with_reducible refine ep ?_ | with_reducible refine en ?_))
   rw [if_neg c]
   by_cases c2 : x.getD n 0 < y.getD n 0
   ·(repeat (first | with_reducible refine ep ?_ | with_reducible refine en ?_))
    rw [if_pos c2]; exact Ev.now _
   ·(repeat (first | with_reducible refine ep ?_ | with_reducible refine en ?_))
    rw [if_neg c2]; exact Ev.now _
theorem zl2 {x y : List Int} (hx : Nm x) (hy : Nm y) (hb : x.length < 4611686018427387904) : Ev (fun k => zam.f k x y) (za9 (V x) (V y)) := by
 unfold zam.f
 by_cases c : x.length < y.length
 ·(repeat (first | with_reducible refine ep ?_ | with_reducible refine en ?_))
  unfold za9; rw [if_pos (hx.lt_of_len hy c)]; exact Ev.now _
 ·(repeat (first | with_reducible refine ep ?_ | with_reducible refine en ?_))
  by_cases c2 : y.length < x.length
  ·(repeat (first | with_reducible refine ep ?_ | with_reducible refine en ?_))
   have := hy.lt_of_len hx c2
   unfold za9; rw [if_neg (by omega), if_pos this]; exact Ev.now _
  ·(repeat (first | with_reducible refine ep ?_ | with_reducible refine en ?_))
   have e : x.length = y.length := by omega
   rw [zb4 (by omega)]
   have := zgS hx.dg hy.dg hb x.length (by omega) (by omega)
   rwa [List.take_length, e, List.take_length, ← e] at this
theorem zQ (n : Nat) : n >>> 31 = n / 2147483648 := by rw [Nat.shiftRight_eq_div_pow]
theorem zfc {n : Nat} (h : n < 4294967296) : n / 2147483648 = 0 ∨ n / 2147483648 = 1 := by omega
theorem zj6 {x y d : Nat} (hx : x < 4294967296) (hy : y < 4294967296) (hd : d < 4294967296) :
  ((((4294967295 ^^^ x) &&& y) ||| ((4294967295 ^^^ (x ^^^ y)) &&& d)) / 2147483648 : Nat) =
   if x / 2147483648 = 0 then (if y / 2147483648 = 0 then d / 2147483648 else 1) else (if y / 2147483648 = 0 then 0 else d / 2147483648) := by
 rw [← zQ, ← zQ, ← zQ, ← zQ, Nat.shiftRight_or_distrib, Nat.shiftRight_and_distrib, Nat.shiftRight_and_distrib, Nat.shiftRight_xor_distrib, Nat.shiftRight_xor_distrib, Nat.shiftRight_xor_distrib]
 simp only [zQ]
 have e : 4294967295 / 2147483648 = 1 := by decide
 rw [e]
 rcases zfc hx with h1 | h1 <;> rcases zfc hy with h2 | h2 <;> rcases zfc hd with h3 | h3 <;> rw [h1, h2, h3] <;> decide
theorem ziQ {x y c : Int} (hx : 0 ≤ x ∧ x < 4294967296) (hy : 0 ≤ y ∧ y < 4294967296) (hc : 0 ≤ c ∧ c ≤ 1) : zbR.f x y c = some ((x - y - c) % 4294967296, if x < y + c then 1 else 0) := by
 unfold zbR.f
 have hd : ((x - y) % 4294967296 - c) % 4294967296 = (x - y - c) % 4294967296 := by omega
 rw [hd]
 obtain ⟨X, rfl⟩ := Int.eq_ofNat_of_zero_le hx.1
 obtain ⟨Y, rfl⟩ := Int.eq_ofNat_of_zero_le hy.1
 obtain ⟨Z, hZ⟩ := Int.eq_ofNat_of_zero_le (show 0 ≤ ((X : Int) - Y - c) % 4294967296 by omega)
 have hZl : Z < 4294967296 := by omega
 have h1 : 4294967295 ^^^ X < 4294967296 := Nat.xor_lt_two_pow (n := 32) (by omega) (by omega)
 have h2 : X ^^^ Y < 4294967296 := Nat.xor_lt_two_pow (n := 32) (by omega) (by omega)
 have h3 : 4294967295 ^^^ (X ^^^ Y) < 4294967296 := Nat.xor_lt_two_pow (n := 32) (by omega) (by omega)
 have h4 : (4294967295 ^^^ X) &&& Y < 4294967296 := Nat.and_lt_two_pow (n := 32) _ (by omega)
 have h5 : (4294967295 ^^^ (X ^^^ Y)) &&& Z < 4294967296 := Nat.and_lt_two_pow (n := 32) _ (by omega)
 have e : (4294967295 : Int) = ((4294967295 : Nat) : Int) := rfl
 rw [hZ, e, u32_xor_nat _ _ (by omega) (by omega), u32_and_nat _ _ h1 (by omega), u32_xor_nat _ _ (by omega) (by omega), u32_xor_nat _ _ (by omega) h2, u32_and_nat _ _ h3 hZl, u32_or_nat _ _ h4 h5]
 have b := zj6 (x := X) (y := Y) (d := Z) (by omega) (by omega) hZl
 have : (((((4294967295 ^^^ X) &&& Y ||| (4294967295 ^^^ (X ^^^ Y)) &&& Z : Nat) : Int)) / 2147483648) = (((((4294967295 ^^^ X) &&& Y ||| (4294967295 ^^^ (X ^^^ Y)) &&& Z) / 2147483648 : Nat)) : Int) := by omega
 rw [this, b]
 congr 2
 by_cases c1 : X / 2147483648 = 0 <;> by_cases c2 : Y / 2147483648 = 0 <;> simp only [c1, c2, if_true, if_false] <;> by_cases c3 : (X : Int) < Y + c <;> simp only [c3, if_true, if_false] <;> omega
theorem zfJ {x y : Int} (hx : 0 ≤ x ∧ x < 4294967296) (hy : 0 ≤ y ∧ y < 4294967296) : 0 ≤ x * y ∧ x * y ≤ 18446744065119617025 := by
 constructor
 ·exact Int.mul_nonneg hx.1 hy.1
 ·have h1 : x * y ≤ 4294967295 * y := Int.mul_le_mul_of_nonneg_right (by omega) hy.1
  have h2 : 4294967295 * y ≤ 4294967295 * 4294967295 := Int.mul_le_mul_of_nonneg_left (by omega) (by omega)
  omega
def zX : Int → List Int → List Int → Int → List Int
 | _, [], o, c => c :: o.tail
 | x, y :: b, o, c => ((x * y + o.headD 0 + c) % 4294967296) :: zX x b o.tail ((x * y + o.headD 0 + c) / 4294967296)
theorem zni {x y : Int} (hx : 0 ≤ x) (hy : 0 ≤ y) : (x * y).toNat = x.toNat * y.toNat := Int.toNat_mul hx hy
theorem zf9 {x : Int} (hx : 0 ≤ x ∧ x < 4294967296) : ∀ (b o : List Int) (c : Int) (m : Nat), Dg b → Dg o → 0 ≤ c ∧ c < 4294967296 → o.drop b.length = List.replicate (m + 1) 0 →
  V (zX x b o c) = V o + x.toNat * V b + c.toNat ∧ Dg (zX x b o c) ∧ (zX x b o c).tail.drop b.length = List.replicate m 0 ∧ (zX x b o c).length = o.length
 | [], o, c, m, hb, ho, hc, hz => by
  have hz' : o = 0 :: List.replicate m 0 := by simpa [List.replicate_succ] using hz
  subst hz'
  refine ⟨?_, ?_, ?_, ?_⟩
  ·simp [zX, zel]
  ·exact Dg.cons hc.1 hc.2 (Dg.zeros m)
  ·simp [zX]
  ·simp [zX]
 | y :: b, o, c, m, hb, ho, hc, hz => by
  obtain ⟨o0, o, rfl⟩ : ∃ o0 o', o = o0 :: o' := by
   cases o with
   | nil => simp at hz
   | cons o0 o' => exact ⟨o0, o', rfl⟩
  have hy := hb.head
  have h0 := ho.head
  have hp := zfJ hx hy
  have hz2 : o.drop b.length = List.replicate (m + 1) 0 := by simpa using hz
  have := zf9 hx b o ((x * y + o0 + c) / 4294967296) m hb.tail ho.tail (by omega) hz2
  simp only [zX, List.headD_cons, List.tail_cons]
  refine ⟨?_, Dg.cons (by omega) (by omega) this.2.1, ?_, by simp [this.2.2.2]⟩
  ·have e1 : x.toNat * (y.toNat + 4294967296 * V b) = (x * y).toNat + 4294967296 * (x.toNat * V b) := by
    rw [Nat.mul_add, Nat.mul_left_comm, zni hx.1 hy.1]
   rw [zB, this.1, zB, zB, e1]
   omega
  ·obtain ⟨r0, r, hr⟩ : ∃ r0 r', zX x b o ((x * y + o0 + c) / 4294967296) = r0 :: r' := by
    cases h : zX x b o ((x * y + o0 + c) / 4294967296) with
    | nil =>
     have hl := this.2.2.2
     rw [h] at hl
     have : o = [] := List.eq_nil_of_length_eq_zero (by simpa using hl.symm)
     subst this; simp at hz2
    | cons r0 r' => exact ⟨r0, r', rfl⟩
   have h3 := this.2.2.1
   rw [hr] at h3 ⊢
   simpa using h3
def zbH : List Int → List Int → List Int → List Int
 | [], _, o => o
 | x :: a, b, o => (zX x b o 0).headD 0 :: zbH a b (zX x b o 0).tail
theorem zhR : ∀ (a b o : List Int), Dg a → Dg b → Dg o → o.drop b.length = List.replicate a.length 0 → V (zbH a b o) = V o + V a * V b ∧ Dg (zbH a b o) ∧ (zbH a b o).length = o.length
 | [], b, o, ha, hb, ho, hz => by simp [zbH, ho]
 | x :: a, b, o, ha, hb, ho, hz => by
  have hr := zf9 ha.head b o 0 a.length hb ho (by omega) (by simpa using hz)
  obtain ⟨r0, r, he⟩ : ∃ r0 r', zX x b o 0 = r0 :: r' := by
   cases h : zX x b o 0 with
   | nil =>
    have hl := hr.2.2.2
    rw [h] at hl
    have : o = [] := List.eq_nil_of_length_eq_zero (by simpa using hl.symm)
    subst this; simp at hz
   | cons r0 r' => exact ⟨r0, r', rfl⟩
  rw [he] at hr
  have := zhR a b r ha.tail hb hr.2.1.tail (by simpa using hr.2.2.1)
  simp only [zbH, he, List.headD_cons, List.tail_cons]
  refine ⟨?_, Dg.cons hr.2.1.head.1 hr.2.1.head.2 this.2.1, ?_⟩
  ·have h1 := hr.1
   rw [zB] at h1
   rw [zB, this.1, zB, Nat.add_mul, Nat.mul_add, Nat.mul_assoc]
   simp at h1
   omega
  ·have := hr.2.2.2
   simp at this ⊢; omega
theorem ze1 {l : List Int} (h : Nm l) (h0 : l ≠ []) : 4294967296 ^ (l.length - 1) ≤ V l := by
 have h1 : V l ≠ 0 := fun e => h0 ((zdt h).1 e)
 have := ze0 h1
 rwa [h.len] at this
def conv : List Int → List Int → Nat → Nat
 | [], _, _ => 0
 | x :: _, b, 0 => x.toNat * (b.getD 0 0).toNat
 | x :: a, b, k + 1 => x.toNat * (b.getD (k + 1) 0).toNat + conv a b k
theorem zjK {l : List Int} (h : Dg l) {n : Nat} (hn : l.length ≤ n) : V l < 4294967296 ^ n := Nat.lt_of_lt_of_le (zar h) (Nat.pow_le_pow_right (by omega) hn)
theorem zmh {x y : Int} (h0 : 0 ≤ x ∧ x < 4294967296) (h1 : 0 ≤ y ∧ y < 4294967296) : Go.bits .or .u64 x (y * 4294967296) = x + y * 4294967296 := by
 obtain ⟨X, rfl⟩ := Int.eq_ofNat_of_zero_le h0.1
 obtain ⟨Y, rfl⟩ := Int.eq_ofNat_of_zero_le h1.1
 have e : (Y : Int) * 4294967296 = ((2 ^ 32 * Y : Nat) : Int) := by omega
 rw [e, u64_or_nat _ _ (by omega) (by omega), Nat.or_comm, ← Nat.two_pow_add_eq_or_of_lt (by omega)]
 omega
theorem ziE {d : Int} (h : 0 ≤ d ∧ d < 4294967296) : shl .u64 d 0 = d := by
 unfold shl; simp; exact u64 h.1 (by omega)
theorem zmV {d : Int} (h : 0 ≤ d ∧ d < 4294967296) : shl .u64 d 32 = d * 4294967296 := by
 unfold shl
 have e : min (32 : Int).toNat IntKind.u64.bits = 32 := by decide
 rw [e, show (2 : Int) ^ 32 = 4294967296 from rfl, u64 (by omega) (by omega)]
def zbe (l : List Int) : Bool := may l && decide (l.length ≤ 2)
theorem zfM {l : List Int} (h : Dg l) (hb : l.length < 4611686018427387904) : Ev (fun k => zae.f k l) (if zbe l then ((V l : Nat) : Int) else 0, zbe l) := by
 unfold zae.f
 refine zk (zbY h hb) ?_
 have no : zbe l = false → Ev (fun _ : Nat => some ((0 : Int), false)) (if zbe l then ((V l : Nat) : Int) else 0, zbe l) := by
  intro e
  rw [e]
  exact Ev.now _
 by_cases c1 : may l = true
 ·rw [c1]
  (repeat (first | with_reducible refine ep ?_ | with_reducible refine en ?_))
  by_cases c2 : l.length > 2
  ·(repeat (first | with_reducible refine ep ?_ | with_reducible refine en ?_))
   exact no (by unfold zbe; rw [decide_eq_false (by omega)]; simp)
  ·(repeat (first | with_reducible refine ep ?_ | with_reducible refine en ?_))
   have e : zbe l = true := by unfold zbe; rw [c1, decide_eq_true (by omega)]; rfl
   rw [e]
   have w0 : wrap64 (32 * 0) = 0 := by unfold wrap64; omega
   have w1 : wrap64 (0 + 1) = 1 := by unfold wrap64; omega
   have w2 : wrap64 (32 * 1) = 32 := by unfold wrap64; omega
   have w3 : wrap64 (1 + 1) = 2 := by unfold wrap64; omega
   match l, h with
   | [], h =>
    refine zf ?_
    simp only [zae.l0]
    (repeat (first | with_reducible refine ep ?_ | with_reducible refine en ?_)); exact Ev.now _
   | [x], h =>
    have hx := h.head
    refine zf ?_
    simp only [zae.l0, w0, w1]
    (repeat (first | with_reducible refine ep ?_ | with_reducible refine en ?_))
    have r0 : rd [x] 0 = x := rfl
    rw [r0, u64 hx.1 (by omega), ziE hx, u64_or _ _ (by omega) (by omega) (by omega) (by omega)]
    refine zf ?_
    simp only [zae.l0]
    (repeat (first | with_reducible refine ep ?_ | with_reducible refine en ?_))
    refine zi (Ev.now _) ?_
    simp
   | [x, y], h =>
    have hx := h.head
    have hy := h.tail.head
    refine zf ?_
    simp only [zae.l0, w0, w1]
    (repeat (first | with_reducible refine ep ?_ | with_reducible refine en ?_))
    have r0 : rd [x, y] 0 = x := rfl
    have r1 : rd [x, y] 1 = y := rfl
    rw [r0, u64 hx.1 (by omega), ziE hx, u64_or _ _ (by omega) (by omega) (by omega) (by omega)]
    have z : (((0 : Int).toNat ||| x.toNat : Nat) : Int) = x := by simp; omega
    rw [z]
    refine zf ?_
    simp only [zae.l0, w2, w3]
    (repeat (first | with_reducible refine ep ?_ | with_reducible refine en ?_))
    rw [r1, u64 (n := y) hy.1 (by omega), zmV hy, zmh hx hy]
    refine zf ?_
    simp only [zae.l0]
    (repeat (first | with_reducible refine ep ?_ | with_reducible refine en ?_))
    refine zi (Ev.now _) ?_
    simp; omega
   | x :: y :: z :: l, h => simp at c2
 ·have c1 : may l = false := by simpa using c1
  rw [c1]
  (repeat (first | with_reducible refine ep ?_ | with_reducible refine en ?_)); exact no (by unfold zbe; simp [c1])
theorem zff {m n : Nat} (h : (D m).length > 4096) (k : m ≤ n) : zG n = ([], 3) := by
 have := zeg k
 unfold zG; rw [if_pos (by omega)]
theorem zlE {m e : Nat} (he : 4096 = e) (h : 4294967296 ^ e ≤ m) : (D m).length > 4096 := by
 apply Nat.lt_of_not_le
 rw [he]
 intro k
 exact absurd (Nat.lt_of_lt_of_le (zc8 m) (Nat.le_trans (Nat.pow_le_pow_right (by decide) k) h)) (Nat.lt_irrefl _)
theorem zno {m e k : Nat} (he : 32 * k ≤ e) (h : 2 ^ e ≤ m) : 4294967296 ^ k ≤ m := by
 have e1 : (4294967296 : Nat) ^ k = 2 ^ (32 * k) := by rw [Nat.pow_mul]
 rw [e1]
 exact Nat.le_trans (Nat.pow_le_pow_right (by decide) he) h
theorem znn {m e : Nat} (he : 131072 ≤ e) (h : 2 ^ e ≤ m) : zG m = ([], 3) :=
 have key : ∀ k, 4096 = k → zG m = ([], 3) := fun k hk => zff (zlE hk (zno (by omega) h)) (Nat.le_refl _)
 key 4096 rfl
def bl (n : Nat) : Nat := if n = 0 then 0 else n.log2 + 1
theorem za7 : bl 0 = 0 := rfl
theorem zcw {n : Nat} (h : n ≠ 0) : 2 ^ (bl n - 1) ≤ n := by
 unfold bl; rw [if_neg h]; exact Nat.log2_self_le h
theorem zP (n : Nat) : n < 2 ^ bl n := by
 unfold bl
 split
 ·subst n; simp
 ·exact Nat.lt_log2_self
theorem za6 {n : Nat} (h : n ≠ 0) : 0 < bl n := by unfold bl; rw [if_neg h]; omega
theorem zI {n k : Nat} (h : n < 2 ^ k) : bl n ≤ k := by
 by_cases e : n = 0
 ·subst e; simp [za7]
 ·have h1 := zcw e
  have h2 := za6 e
  have : bl n - 1 < k := (Nat.pow_lt_pow_iff_right (a := 2) (by omega)).1 (Nat.lt_of_le_of_lt h1 h)
  omega
theorem zj5 {n k : Nat} (h1 : 2 ^ k ≤ n) (h2 : n < 2 ^ (k + 1)) : bl n = k + 1 := by
 have := zI h2
 have h3 : 2 ^ k < 2 ^ bl n := Nat.lt_of_le_of_lt h1 (zP n)
 have := (Nat.pow_lt_pow_iff_right (a := 2) (by omega)).1 h3
 omega
theorem zbS {n k : Nat} (h : 2 ^ k ≤ n) : bl n = k + bl (n / 2 ^ k) := by
 have hp : 0 < 2 ^ k := Nat.pow_pos (by omega)
 have h0 : n / 2 ^ k ≠ 0 := by
  have := (Nat.le_div_iff_mul_le hp (x := 1) (y := n)).2 (by omega)
  omega
 have h1 := zcw h0
 have h2 := zP (n / 2 ^ k)
 have h3 := za6 h0
 have e : k + bl (n / 2 ^ k) = (k + (bl (n / 2 ^ k) - 1)) + 1 := by omega
 rw [e]
 apply zj5
 ·rw [Nat.pow_add]
  have := (Nat.le_div_iff_mul_le hp).1 h1
  rw [Nat.mul_comm]; exact this
 ·have := (Nat.div_lt_iff_lt_mul hp).1 h2
  rw [show k + (bl (n / 2 ^ k) - 1) + 1 = bl (n / 2 ^ k) + k by omega, Nat.pow_add]
  exact this
theorem zj3 {n : Nat} (h : n ≠ 0) : bl n = bl (n / 2) + 1 := by
 by_cases h1 : n = 1
 ·subst h1; rfl
 ·have := zbS (n := n) (k := 1) (by omega)
  simp at this; omega
theorem zas {a b : Nat} (h : a ≤ b) : bl a ≤ bl b := zI (Nat.lt_of_le_of_lt h (zP b))
def ziU : ByteArray := ⟨#[0, 1, 2, 2, 3, 3, 3, 3, 4, 4, 4, 4, 4, 4, 4, 4, 5, 5, 5, 5, 5, 5, 5, 5, 5, 5, 5, 5, 5, 5, 5, 5, 6, 6, 6, 6, 6, 6, 6, 6, 6, 6, 6, 6, 6, 6, 6, 6, 6, 6, 6, 6, 6, 6, 6, 6, 6, 6, 6, 6, 6, 6, 6, 6, 7, 7, 7, 7, 7, 7, 7, 7, 7, 7, 7, 7, 7, 7, 7, 7, 7, 7, 7, 7, 7, 7, 7, 7, 7, 7, 7, 7, 7, 7, 7, 7, 7, 7, 7, 7, 7, 7, 7, 7, 7, 7, 7, 7, 7, 7, 7, 7, 7, 7, 7, 7, 7, 7, 7, 7, 7, 7, 7, 7, 7, 7, 7, 7, 8, 8, 8, 8, 8, 8, 8, 8, 8, 8, 8, 8, 8, 8, 8, 8, 8, 8, 8, 8, 8, 8, 8, 8, 8, 8, 8, 8, 8, 8, 8, 8, 8, 8, 8, 8, 8, 8, 8, 8, 8, 8, 8, 8, 8, 8, 8, 8, 8, 8, 8, 8, 8, 8, 8, 8, 8, 8, 8, 8, 8, 8, 8, 8, 8, 8, 8, 8, 8, 8, 8, 8, 8, 8, 8, 8, 8, 8, 8, 8, 8, 8, 8, 8, 8, 8, 8, 8, 8, 8, 8, 8, 8, 8, 8, 8, 8, 8, 8, 8, 8, 8, 8, 8, 8, 8, 8, 8, 8, 8, 8, 8, 8, 8, 8, 8, 8, 8, 8, 8, 8, 8, 8, 8, 8, 8, 8, 8]⟩
theorem zm7 : (List.range 256).all (fun i => bt ziU (i : Int) == (bl i : Int)) = true := by decide +kernel
theorem bt8 {t : ByteArray} {n : Nat} (h : n < 256) (ht : t = ziU) : bt t (n : Int) = (bl n : Int) := by
 subst ht
 have := List.all_eq_true.1 zm7 n (List.mem_range.2 h)
 exact eq_of_beq this
theorem zgK {n : Nat} (h : n < 256) : bl n ≤ 8 := zI h
theorem zhI : zd5.size = 256 := by decide +kernel
theorem zhE {n : Nat} (h : n < 256) {m : Int} (hm : 0 ≤ m ∧ m ≤ 64) : Ev (fun k => zY.j1 k (n : Int) m) (m + (bl n : Nat)) := by
 refine zf ?_
 simp only [zY.j1]
 have e : (n : Int) % 256 = n := by omega
 have l := zgK h
 rw [e, zhI]
 (repeat (first | with_reducible refine ep ?_ | with_reducible refine en ?_))
 rw [bt8 h (by rfl), zah (n := ((bl n : Nat) : Int)) (by omega) (by omega), zah (by omega) (by omega)]
 exact Ev.now _
theorem zhD {n : Nat} (h : n < 65536) {m : Int} (hm : 0 ≤ m ∧ m ≤ 32) : Ev (fun k => zY.j0 k (n : Int) m) (m + (bl n : Nat)) := by
 refine zf ?_
 simp only [zY.j0]
 by_cases c : n ≥ 256
 ·(repeat (first | with_reducible refine ep ?_ | with_reducible refine en ?_))
  have e2 : bl n = 8 + bl (n / 256) := zbS (k := 8) c
  have := zhE (n := n / 256) (by omega) (m := m + 8) (by omega)
  rw [zah (by omega) (by omega), show (n : Int) / 256 = ((n / 256 : Nat) : Int) by omega]
  exact zi this (by rw [e2]; omega)
 ·(repeat (first | with_reducible refine ep ?_ | with_reducible refine en ?_))
  exact zhE (by omega) (by omega)
theorem zhC {x : Int} (h : 0 ≤ x ∧ x < 4294967296) : Ev (fun k => zY.f k x) ((bl x.toNat : Nat) : Int) := by
 obtain ⟨n, rfl⟩ := Int.eq_ofNat_of_zero_le h.1
 unfold zY.f
 rw [Int.toNat_natCast]
 by_cases c : n ≥ 65536
 ·(repeat (first | with_reducible refine ep ?_ | with_reducible refine en ?_))
  have e1 : bl n = 16 + bl (n / 65536) := zbS (k := 16) c
  rw [show (n : Int) / 65536 = ((n / 65536 : Nat) : Int) by omega]
  exact zi (zhD (by omega) (by omega)) (by rw [e1]; omega)
 ·(repeat (first | with_reducible refine ep ?_ | with_reducible refine en ?_))
  exact zi (zhD (by omega) (by omega)) (by omega)
theorem zhH {n : Nat} (h : n < 256) {m : Int} (hm : 0 ≤ m ∧ m ≤ 128) : Ev (fun k => zz.j2 k (n : Int) m) (m + (bl n : Nat)) := by
 refine zf ?_
 simp only [zz.j2]
 have e : (n : Int) % 256 = n := by omega
 have l := zgK h
 rw [e, zhI]
 (repeat (first | with_reducible refine ep ?_ | with_reducible refine en ?_))
 rw [bt8 h (by rfl), zah (n := ((bl n : Nat) : Int)) (by omega) (by omega), zah (by omega) (by omega)]
 exact Ev.now _
theorem zhG {n : Nat} (h : n < 65536) {m : Int} (hm : 0 ≤ m ∧ m ≤ 100) : Ev (fun k => zz.j1 k (n : Int) m) (m + (bl n : Nat)) := by
 refine zf ?_
 simp only [zz.j1]
 by_cases c : n ≥ 256
 ·(repeat (first | with_reducible refine ep ?_ | with_reducible refine en ?_))
  have e2 : bl n = 8 + bl (n / 256) := zbS (k := 8) c
  have := zhH (n := n / 256) (by omega) (m := m + 8) (by omega)
  rw [zah (by omega) (by omega), show (n : Int) / 256 = ((n / 256 : Nat) : Int) by omega]
  exact zi this (by rw [e2]; omega)
 ·(repeat (first | with_reducible refine ep ?_ | with_reducible refine en ?_))
  exact zhH (by omega) (by omega)
theorem zhF {n : Nat} (h : n < 4294967296) {m : Int} (hm : 0 ≤ m ∧ m ≤ 64) : Ev (fun k => zz.j0 k n m) (m + (bl n : Nat)) := by
 refine zf ?_
 simp only [zz.j0]
 by_cases c : n ≥ 65536
 ·(repeat (first | with_reducible refine ep ?_ | with_reducible refine en ?_))
  have e2 : bl n = 16 + bl (n / 65536) := zbS (k := 16) c
  have := zhG (n := n / 65536) (by omega) (m := m + 16) (by omega)
  rw [zah (by omega) (by omega), show (n : Int) / 65536 = ((n / 65536 : Nat) : Int) by omega]
  exact zi this (by rw [e2]; omega)
 ·(repeat (first | with_reducible refine ep ?_ | with_reducible refine en ?_))
  exact zhG (by omega) (by omega)
theorem zdK {x : Int} (h : 0 ≤ x ∧ x < 18446744073709551616) : Ev (fun k => zz.f k x) ((bl x.toNat : Nat) : Int) := by
 obtain ⟨n, rfl⟩ := Int.eq_ofNat_of_zero_le h.1
 rw [Int.toNat_natCast]
 unfold zz.f
 by_cases c : n ≥ 4294967296
 ·(repeat (first | with_reducible refine ep ?_ | with_reducible refine en ?_))
  have e : bl n = 32 + bl (n / 4294967296) := zbS (k := 32) c
  have := zhF (n := n / 4294967296) (by omega) (m := 32) (by omega)
  refine zi this ?_
  omega
 ·(repeat (first | with_reducible refine ep ?_ | with_reducible refine en ?_))
  have := zhF (n := n) (by omega) (m := 0) (by omega)
  exact zi this (by omega)
theorem zj1 {l : List Int} (h : Nm l) (h0 : l ≠ []) : bl (V l) = 32 * (l.length - 1) + bl (l.getD (l.length - 1) 0).toNat := by
 rcases List.eq_nil_or_concat l with rfl | ⟨a, d, rfl⟩
 ·exact absurd rfl h0
 rw [List.concat_eq_append] at h ⊢
 have hd := h.dg d (by simp)
 have hn := ze5 h
 have e : (a ++ [d]).getD ((a ++ [d]).length - 1) 0 = d := by simp
 rw [e]
 have hl : (a ++ [d]).length - 1 = a.length := by simp
 rw [hl, zaG]
 simp only [zB, za4, Nat.mul_zero, Nat.add_zero]
 have hv := zar h.dg.left
 have hp : (4294967296 : Nat) ^ a.length = 2 ^ (32 * a.length) := by rw [Nat.pow_mul]
 rw [hp] at hv ⊢
 have hpos : 0 < 2 ^ (32 * a.length) := Nat.pow_pos (by omega)
 have hd1 : 2 ^ (32 * a.length) * 1 ≤ 2 ^ (32 * a.length) * d.toNat := Nat.mul_le_mul_left _ (by omega)
 rw [zbS (n := V a + 2 ^ (32 * a.length) * d.toNat) (k := 32 * a.length) (by omega)]
 rw [Nat.add_mul_div_left _ _ hpos, Nat.div_eq_of_lt hv, Nat.zero_add]
theorem zh6 {x y : Int} (h0 : 0 ≤ x ∧ x < 4294967296) (h1 : 0 ≤ y ∧ y < 4294967296) : Go.bits .or .u64 (x * 4294967296) y = x * 4294967296 + y := by
 obtain ⟨X, rfl⟩ := Int.eq_ofNat_of_zero_le h0.1
 obtain ⟨Y, rfl⟩ := Int.eq_ofNat_of_zero_le h1.1
 have e : (X : Int) * 4294967296 = ((2 ^ 32 * X : Nat) : Int) := by omega
 rw [e, u64_or_nat _ _ (by omega) (by omega), ← Nat.two_pow_add_eq_or_of_lt (by omega)]
 omega
theorem zi3 {r x d : Int} (hr : 0 ≤ r ∧ r < d) (hx : 0 ≤ x ∧ x < 4294967296) (hd : d < 4294967296) : 0 ≤ (r * 4294967296 + x) / d ∧ (r * 4294967296 + x) / d < 4294967296 := by
 constructor
 ·exact Int.ediv_nonneg (by omega) (by omega)
 ·apply Int.ediv_lt_of_lt_mul (by omega)
  have : r * 4294967296 + 4294967296 ≤ d * 4294967296 := by omega
  rw [Int.mul_comm]; omega
theorem zky {r x d : Int} (hr : 0 ≤ r ∧ r < d) (hx : 0 ≤ x ∧ x < 4294967296) (hd : d < 4294967296) : zcP.f r x d = some ((r * 4294967296 + x) / d, (r * 4294967296 + x) % d) := by
 have hn : 0 ≤ r * 4294967296 + x := by omega
 have hd0 : d ≠ 0 := by omega
 have hr0 : ¬ d ≤ r := by omega
 have ur := u64 (n := r) (by omega) (by omega)
 have ur2 := u64 (n := r * 4294967296) (by omega) (by omega)
 have ux := u64 (n := x) (by omega) (by omega)
 have ud := u64 (n := d) (by omega) (by omega)
 have ho := zh6 (x := r) (by omega) hx
 have h1 := zi3 hr hx hd
 have h2 : 0 ≤ (r * 4294967296 + x) % d := Int.emod_nonneg _ hd0
 have h3 : (r * 4294967296 + x) % d < d := Int.emod_lt_of_pos _ (by omega)
 unfold zcP.f
 rw [if_pos hd0, if_neg hr0, ud, if_neg hd0, if_neg hd0, ur, ur2, ux, ho, Int.tdiv_eq_ediv_of_nonneg hn, Int.tmod_eq_emod_of_nonneg hn]
 clear ur ur2 ux ud ho
 generalize (r * 4294967296 + x) / d = q at *
 generalize (r * 4294967296 + x) % d = m at *
 rw [u64 h1.1 (by omega), Int.emod_eq_of_lt h1.1 h1.2, Int.emod_eq_of_lt h2 (by omega)]
theorem zjq (n : Nat) (l : List Int) : List.replicate (n + 1) (0 : Int) ++ l = List.replicate n 0 ++ 0 :: l := by
 rw [List.replicate_succ', List.append_assoc]; rfl
theorem zmY (t P X R E w : Nat) (hE : 0 < E) :
  (t + P * X + P * 4294967296 * R) / E + P * 4294967296 * w = (t + P * ((R * 4294967296 + X) % E)) / E + P * ((R * 4294967296 + X) / E + 4294967296 * w) ∧
  (t + P * X + P * 4294967296 * R) % E = (t + P * ((R * 4294967296 + X) % E)) % E := by
 have h := Nat.div_add_mod (R * 4294967296 + X) E
 have e4 : P * (R * 4294967296 + X) = P * 4294967296 * R + P * X := by rw [Nat.mul_add, Nat.mul_comm R, Nat.mul_assoc]
 generalize (R * 4294967296 + X) / E = q at *
 generalize (R * 4294967296 + X) % E = m at *
 have e3 : P * (E * q + m) = E * (P * q) + P * m := by rw [Nat.mul_add, Nat.mul_left_comm]
 rw [h, e4] at e3
 have key : t + P * X + P * 4294967296 * R = t + P * m + E * (P * q) := by
  rw [Nat.add_assoc, Nat.add_comm (P * X), e3, Nat.add_assoc, Nat.add_comm (P * m)]
 rw [key, Nat.add_mul_div_left _ _ hE, Nat.add_mul_mod_self_left, Nat.mul_add, Nat.mul_assoc P, Nat.add_assoc]
 exact ⟨rfl, rfl⟩
theorem zmZ {a : List Int} (ha : Dg a) {i : Nat} (hi : i < a.length) {r d : Int} (hr : 0 ≤ r ∧ r < d) (w : Nat) :
  (V (a.take (i + 1)) + 4294967296 ^ (i + 1) * r.toNat) / d.toNat + 4294967296 ^ (i + 1) * w =
   (V (a.take i) + 4294967296 ^ i * ((r * 4294967296 + a.getD i 0) % d).toNat) / d.toNat + 4294967296 ^ i * (((r * 4294967296 + a.getD i 0) / d).toNat + 4294967296 * w) ∧
  (V (a.take (i + 1)) + 4294967296 ^ (i + 1) * r.toNat) % d.toNat = (V (a.take i) + 4294967296 ^ i * ((r * 4294967296 + a.getD i 0) % d).toNat) % d.toNat := by
 have hx := ha.getD i
 rw [zek hi]
 obtain ⟨R, rfl⟩ := Int.eq_ofNat_of_zero_le hr.1
 obtain ⟨E, rfl⟩ := Int.eq_ofNat_of_zero_le (show 0 ≤ d by omega)
 obtain ⟨X, hX⟩ := Int.eq_ofNat_of_zero_le hx.1
 rw [hX]
 have hE : 0 < E := by omega
 clear hx hX hr ha hi
 have e1 : ((R : Int) * 4294967296 + X) % E = (((R * 4294967296 + X) % E : Nat) : Int) := by
  rw [Int.natCast_emod, Int.natCast_add, Int.natCast_mul, Int.cast_ofNat_Int]
 have e2 : ((R : Int) * 4294967296 + X) / E = (((R * 4294967296 + X) / E : Nat) : Int) := by
  rw [Int.natCast_ediv, Int.natCast_add, Int.natCast_mul, Int.cast_ofNat_Int]
 rw [e1, e2]
 rw [Int.toNat_natCast, Int.toNat_natCast, Int.toNat_natCast, Int.toNat_natCast, Int.toNat_natCast, Nat.pow_succ]
 exact zmY _ _ _ _ _ _ hE
theorem ziJ {a : List Int} (ha : Dg a) (hl : a.length < 1000000000) {d : Int} (hd : 0 < d ∧ d < 4294967296) : ∀ (i : Nat) (r : Int) (done : List Int), i + done.length = a.length → 0 ≤ r ∧ r < d → Dg done →
  Ev (fun k => zaF.l0 k a d (List.replicate i 0 ++ done) r ((i : Int) - 1)) (D ((V (a.take i) + 4294967296 ^ i * r.toNat) / d.toNat + 4294967296 ^ i * V done), (((V (a.take i) + 4294967296 ^ i * r.toNat) % d.toNat : Nat) : Int))
 | 0, r, done, hi, hr, hg => by
  refine zf ?_
  simp only [zaF.l0]
  (repeat (first | with_reducible refine ep ?_ | with_reducible refine en ?_))
  refine Ev.bind (zbZ (l := List.replicate 0 0 ++ done) (by simpa using hg) (by simp; omega)) (zi (Ev.now _) ?_)
  have h1 : r.toNat / d.toNat = 0 := Nat.div_eq_of_lt (by omega)
  have h2 : r.toNat % d.toNat = r.toNat := Nat.mod_eq_of_lt (by omega)
  simp [h1, h2]; omega
 | i + 1, r, done, hi, hr, hg => by
  have e0 : ((i + 1 : Nat) : Int) - 1 = (i : Int) := by omega
  have hx := ha.getD i
  have ht := zi3 hr hx hd.2
  have st := zmZ ha (i := i) (by omega) hr (V done)
  have hm0 : 0 ≤ (r * 4294967296 + a.getD i 0) % d := Int.emod_nonneg _ (by omega)
  have hm1 : (r * 4294967296 + a.getD i 0) % d < d := Int.emod_lt_of_pos _ (by omega)
  have ih := ziJ ha hl hd i ((r * 4294967296 + a.getD i 0) % d) (((r * 4294967296 + a.getD i 0) / d) :: done) (by simp; omega) ⟨hm0, hm1⟩ (Dg.cons ht.1 ht.2 hg)
  rw [e0]
  refine zf ?_
  simp only [zaF.l0, zb4 (n := i) (by omega)]
  (repeat (first | with_reducible refine ep ?_ | with_reducible refine en ?_))
  rw [rdn]
  refine zk (zky hr hx hd.2) ?_
  refine zd (by omega) (zd (by simp; omega) ?_)
  have hs : (List.replicate (i + 1) (0 : Int) ++ done).set ((i : Int)).toNat ((r * 4294967296 + a.getD i 0) / d) = List.replicate i 0 ++ ((r * 4294967296 + a.getD i 0) / d) :: done := by
   rw [zjq, zaW (by simp)]; simp
  rw [hs]
  refine zi ih ?_
  rw [zB, st.1, st.2]
theorem zh2 {a : List Int} (ha : Dg a) (hl : a.length < 1000000000) {d : Int} (hd : 0 < d ∧ d < 4294967296) : Ev (fun k => zaF.f k a d) (D (V a / d.toNat), ((V a % d.toNat : Nat) : Int)) := by
 unfold zaF.f
 (repeat (first | with_reducible refine ep ?_ | with_reducible refine en ?_))
 have := ziJ ha hl hd a.length 0 [] (by simp) (by omega) Dg.nil
 rw [zb4 (by omega)]
 simpa using this
theorem pw {s : Nat} (h : s ≤ 32) : 2 ^ s * 2 ^ (32 - s) = 4294967296 := by
 rw [← Nat.pow_add]; have : s + (32 - s) = 32 := by omega
 rw [this]
theorem zh (s : Nat) : 0 < 2 ^ s := Nat.pow_pos (by omega)
theorem zde {X P Q c : Nat} (hP : 0 < P) (hc : c < P) : (X * P + c) / (P * Q) = X / Q ∧ (X * P + c) % (P * Q) = P * (X % Q) + c := by
 have h1 : (X * P + c) / P = X := by rw [Nat.mul_comm, Nat.mul_add_div hP, Nat.div_eq_of_lt hc, Nat.add_zero]
 have h2 : (X * P + c) % P = c := by rw [Nat.mul_comm, Nat.mul_add_mod, Nat.mod_eq_of_lt hc]
 exact ⟨by rw [← Nat.div_div_eq_div_mul, h1], by rw [Nat.mod_mul, h1, h2, Nat.add_comm]⟩
theorem zeM (s : Nat) : ((2 : Int) ^ s) = ((2 ^ s : Nat) : Int) := by simp
theorem zmT (X s : Nat) (hs : s < 32) : shl .u32 (X : Int) (s : Int) = ((X * 2 ^ s % 4294967296 : Nat) : Int) := by
 unfold shl
 rw [Int.toNat_natCast, Nat.min_eq_left (by simp [IntKind.bits]; omega), zeM, ← Int.natCast_mul]
 simp [IntKind.wrap, IntKind.bits, IntKind.signed]
theorem zmU (X s : Nat) (hs : s ≤ 32) (hX : X < 4294967296) : shl .u64 (X : Int) (s : Int) = ((X * 2 ^ s : Nat) : Int) := by
 unfold shl
 rw [Int.toNat_natCast, Nat.min_eq_left (by simp [IntKind.bits]; omega), zeM, ← Int.natCast_mul]
 have h1 : 2 ^ s ≤ 2 ^ 32 := Nat.pow_le_pow_right (by omega) hs
 have h2 : X * 2 ^ s ≤ 4294967295 * 2 ^ 32 := Nat.mul_le_mul (by omega) h1
 exact u64 (by omega) (by omega)
theorem zdf {k : IntKind} (X s : Nat) (hs : s ≤ k.bits) : shr k (X : Int) (s : Int) = ((X / 2 ^ s : Nat) : Int) := by
 unfold shr
 rw [Int.toNat_natCast, Nat.min_eq_left hs, zeM, ← Int.natCast_ediv]
theorem zjo (X : Nat) (hX : X < 4294967296) : IntKind.u64.wrap (X : Int) = (X : Int) := u64 (by omega) (by omega)
theorem zjj {s : Nat} (hs : s ≤ 32) : wrap64 (32 - (s : Int)) = ((32 - s : Nat) : Int) := by unfold wrap64; omega
theorem zet {X s : Nat} (hs : s ≤ 32) (hX : X < 4294967296) : X / 2 ^ s < 2 ^ (32 - s) := by
 rw [Nat.div_lt_iff_lt_mul (zh _), Nat.mul_comm, pw hs]; exact hX
theorem znG (X s c : Nat) (hs : s < 32) (hX : X < 4294967296) (hc : c < 2 ^ s) : Go.bits .or .u32 (shl .u32 (X : Int) (s : Int)) (c : Int) = (((X * 2 ^ s + c) % 4294967296 : Nat) : Int) := by
 have h1 := (zde (X := X) (Q := 2 ^ (32 - s)) (zh s) hc).2
 have h0 := (zde (X := X) (Q := 2 ^ (32 - s)) (c := 0) (zh s) (zh s)).2
 have hle : 2 ^ s ≤ 2 ^ 31 := Nat.pow_le_pow_right (by omega) (by omega)
 rw [pw (by omega)] at h1 h0
 rw [zmT _ _ hs, u32_or_nat _ _ (by omega) (by omega), h1]
 rw [Nat.add_zero, Nat.add_zero] at h0
 rw [h0, ← Nat.two_pow_add_eq_or_of_lt hc]
theorem znF (X s c : Nat) (hs : s < 32) (hX : X < 4294967296) (hc : c < 2 ^ s) : (shr .u64 (IntKind.u64.wrap (X : Int)) (wrap64 (32 - (s : Int)))) % 4294967296 = (((X * 2 ^ s + c) / 4294967296 : Nat) : Int) := by
 have h1 := (zde (X := X) (Q := 2 ^ (32 - s)) (zh s) hc).1
 rw [pw (by omega)] at h1
 rw [zjo _ hX, zjj (by omega), zdf _ _ (by simp [IntKind.bits]; omega), h1]
 have := zet (s := 32 - s) (by omega) hX
 have h3 : X / 2 ^ (32 - s) ≤ X := Nat.div_le_self _ _
 omega
theorem zjg (X s c : Nat) (hs : s < 32) (hX : X < 4294967296) (hc : c < 2 ^ s) : (X * 2 ^ s + c) / 4294967296 < 2 ^ s := by
 have h1 := (zde (X := X) (Q := 2 ^ (32 - s)) (zh s) hc).1
 rw [pw (by omega)] at h1
 rw [h1]
 have := zet (s := 32 - s) (by omega) hX
 have e : 32 - (32 - s) = s := by omega
 rwa [e] at this
def zcp (P : Nat) : List Int → Nat → List Int
 | [], c => [(c : Int)]
 | d :: l, c => (((d.toNat * P + c) % 4294967296 : Nat) : Int) :: zcp P l ((d.toNat * P + c) / 4294967296)
theorem zjf {s : Nat} (hs : s < 32) : ∀ (l : List Int) (c : Nat), Dg l → c < 2 ^ s → V (zcp (2 ^ s) l c) = V l * 2 ^ s + c ∧ Dg (zcp (2 ^ s) l c)
 | [], c, _, hc => by
  have hle : 2 ^ s ≤ 2 ^ 31 := Nat.pow_le_pow_right (by omega) (by omega)
  simp only [zcp, zB, za4]
  exact ⟨by omega, Dg.cons (by omega) (by omega) Dg.nil⟩
 | d :: l, c, hg, hc => by
  have hd := hg.head
  have hX : d.toNat < 4294967296 := by omega
  have ih := zjf hs l _ hg.tail (zjg d.toNat s c hs hX hc)
  simp only [zcp, zB, ih.1]
  refine ⟨?_, Dg.cons (by omega) (by omega) ih.2⟩
  generalize hm : d.toNat * 2 ^ s + c = m
  rw [Nat.add_mul, Nat.mul_assoc]
  generalize V l * 2 ^ s = z
  omega
theorem nn {i : Nat} : 0 ≤ (i : Int) := Int.natCast_nonneg i
theorem zji (A : List Int) (hA : Dg A) (hl : A.length < 1000000000) {s : Nat} (hs : s < 32) : ∀ (a done pa : List Int) (c : Nat), A = pa ++ a → c < 2 ^ s → Dg done → done.length + a.length < 2000000000 →
  Ev (fun k => zaz.l0 k done s c A A.length pa.length) (D (V (done ++ zcp (2 ^ s) a c)))
 | [], done, pa, c, he, hc, hg, hb => by
  have hlen : A.length = pa.length := by rw [he]; simp
  have hle : 2 ^ s ≤ 2 ^ 31 := Nat.pow_le_pow_right (by omega) (by omega)
  refine zf ?_
  simp only [zaz.l0]
  (repeat (first | with_reducible refine ep ?_ | with_reducible refine en ?_))
  exact Ev.bind (zbZ (hg.app (Dg.cons (by omega) (by omega) Dg.nil)) (by simp at hb ⊢; omega)) (Ev.now _)
 | d :: a, done, pa, c, he, hc, hg, hb => by
  have hlen : A.length = pa.length + 1 + a.length := by rw [he]; simp; omega
  have hd : 0 ≤ d ∧ d < 4294967296 := by rw [he] at hA; exact hA.right.head
  obtain ⟨X, rfl⟩ := Int.eq_ofNat_of_zero_le hd.1
  have hX : X < 4294967296 := by omega
  have h1 : rd A (pa.length : Int) = (X : Int) := by rw [he]; exact zW rfl
  refine zf ?_
  simp only [zaz.l0, h1, zbw (n := pa.length) (by omega), znG X s c hs hX hc, znF X s c hs hX hc]
  have w32 : wrap64 (32 - (s : Int)) = 32 - (s : Int) := by unfold wrap64; omega
  (repeat (first | with_reducible refine ep ?_ | with_reducible refine en ?_))
  have := zji A hA hl hs a (done ++ [(((X * 2 ^ s + c) % 4294967296 : Nat) : Int)]) (pa ++ [(X : Int)]) ((X * 2 ^ s + c) / 4294967296) (by rw [he]; simp) (zjg X s c hs hX hc) (hg.app (Dg.cons (by omega) (by omega) Dg.nil)) (by simp at hb ⊢; omega)
  rw [List.length_append, List.length_singleton] at this
  refine zi this ?_
  simp [zcp]
theorem t32 {n : Nat} (h : n < 4611686018427387904) : wrap64 (Int.tdiv (n : Int) 32) = ((n / 32 : Nat) : Int) := by
 rw [Int.tdiv_eq_ediv_of_nonneg (by omega)]; unfold wrap64; omega
theorem m32 (n : Nat) : Int.tmod (n : Int) 32 = ((n % 32 : Nat) : Int) := by
 rw [Int.tmod_eq_emod_of_nonneg (by omega)]; omega
theorem zf1 (n : Nat) : 2 ^ n = 4294967296 ^ (n / 32) * 2 ^ (n % 32) := by
 have h : (4294967296 : Nat) = 2 ^ 32 := by decide
 rw [h, ← Nat.pow_mul, ← Nat.pow_add]; congr 1; omega
theorem znE {a : List Int} (ha : Dg a) (n : Nat) : V (List.replicate (n / 32) 0 ++ zcp (2 ^ (n % 32)) a 0) = V a * 2 ^ n := by
 have h := (zjf (s := n % 32) (by omega) a 0 ha (zh _)).1
 rw [zaG, zel, List.length_replicate, h, Nat.zero_add, Nat.add_zero, zf1 n, Nat.mul_left_comm]
theorem zfP {a : List Int} (ha : Dg a) (la : a.length < 1000000000) (n : Nat) (hn : n < 1000000000) : Ev (fun k => zaz.f k a n) (D (V a * 2 ^ n)) := by
 unfold zaz.f
 have e1 : wrap64 (wrap64 (((n / 32 : Nat) : Int) + (a.length : Int)) + 1) = ((n / 32 + a.length + 1 : Nat) : Int) := by unfold wrap64; omega
 simp only [t32 (n := n) (by omega), m32, e1]
 clear e1
 by_cases h0 : a = []
 ·subst h0
  (repeat (first | with_reducible refine ep ?_ | with_reducible refine en ?_))
  exact zi (Ev.now _) (by simp [zK])
 ·have : 0 < a.length := List.length_pos_iff.2 h0
  (repeat (first | with_reducible refine ep ?_ | with_reducible refine en ?_))
  have h := zji a ha la (s := n % 32) (by omega) a (List.replicate (n / 32) 0) [] 0 rfl (zh _) (Dg.zeros _) (by simp; omega)
  rw [znE ha] at h
  simp only [Int.toNat_natCast]
  simpa using h
theorem pw' {s : Nat} (h : s ≤ 32) : 2 ^ (32 - s) * 2 ^ s = 4294967296 := by rw [Nat.mul_comm]; exact pw h
theorem zds {l : List Int} (h : Dg l) (q : Nat) : V (l.drop q) = V l / 4294967296 ^ q := by
 by_cases hq : q ≤ l.length
 ·have e : V l = V (l.take q) + 4294967296 ^ q * V (l.drop q) := by
   conv => lhs; rw [← List.take_append_drop q l, zaG, List.length_take, Nat.min_eq_left hq]
  have hlt : V (l.take q) < 4294967296 ^ q := by
   have := zar (h.take q); rwa [List.length_take, Nat.min_eq_left hq] at this
  rw [e, Nat.add_mul_div_left _ _ (Nat.pow_pos (by omega)), Nat.div_eq_of_lt hlt, Nat.zero_add]
 ·rw [List.drop_eq_nil_of_le (by omega), za4, Nat.div_eq_of_lt]
  exact Nat.lt_of_lt_of_le (zar h) (Nat.pow_le_pow_right (by omega) (by omega))
theorem zeD {m : Nat} (h : m < 4294967296) : (m : Int) < 4294967296 := by omega
theorem zkG (Y s : Nat) (hs : s < 32) (hY : Y < 4294967296) : (shl .u64 (IntKind.u64.wrap (Y : Int)) (wrap64 (32 - (s : Int)))) % 4294967296 = ((2 ^ (32 - s) * (Y % 2 ^ s) : Nat) : Int) := by
 rw [zjo _ hY, zjj (by omega), zmU _ _ (by omega) hY]
 have h := (zde (X := Y) (P := 2 ^ (32 - s)) (Q := 2 ^ s) (c := 0) (zh _) (zh _)).2
 rw [pw' (by omega), Nat.add_zero, Nat.add_zero] at h
 rw [← h]; omega
theorem zfn (X Y s : Nat) (hs : s < 32) (hX : X < 4294967296) : X / 2 ^ s + 2 ^ (32 - s) * (Y % 2 ^ s) < 4294967296 := by
 have h1 := zet (s := s) (by omega) hX
 have h2 : Y % 2 ^ s + 1 ≤ 2 ^ s := Nat.mod_lt _ (zh _)
 have h3 := Nat.mul_le_mul_left (2 ^ (32 - s)) h2
 rw [pw' (by omega), Nat.mul_add] at h3
 omega
theorem zkF (X Y s : Nat) (hs : s < 32) (hX : X < 4294967296) (hY : Y < 4294967296) : Go.bits .or .u32 ((X / 2 ^ s : Nat) : Int) ((shl .u64 (IntKind.u64.wrap (Y : Int)) (wrap64 (32 - (s : Int)))) % 4294967296) = ((X / 2 ^ s + 2 ^ (32 - s) * (Y % 2 ^ s) : Nat) : Int) := by
 have hl := zfn X Y s hs hX
 rw [zkG Y s hs hY, u32_or_nat _ _ (Nat.lt_of_le_of_lt (Nat.le_add_right _ _) hl) (Nat.lt_of_le_of_lt (Nat.le_add_left _ _) hl), Nat.or_comm, ← Nat.two_pow_add_eq_or_of_lt (zet (by omega) hX), Nat.add_comm]
def zbm (s : Nat) : List Int → List Int
 | [] => []
 | d :: l => ((d.toNat / 2 ^ s + 2 ^ (32 - s) * ((l.headD 0).toNat % 2 ^ s) : Nat) : Int) :: zbm s l
theorem zjN {l : List Int} {s : Nat} (hs : s ≤ 32) : V l % 2 ^ s = (l.headD 0).toNat % 2 ^ s := by
 cases l with
 | nil => simp
 | cons d l =>
  have h := pw (s := s) hs
  simp only [zB, List.headD_cons]
  rw [← h, Nat.mul_assoc, Nat.add_mul_mod_self_left]
theorem zg8 {s : Nat} (hs : s < 32) : ∀ (l : List Int), Dg l → V (zbm s l) = V l / 2 ^ s ∧ Dg (zbm s l)
 | [], _ => by simp [zbm, Dg.nil]
 | d :: l, hg => by
  have hd := hg.head
  have ih := zg8 hs l hg.tail
  have hl := zfn d.toNat (l.headD 0).toNat s hs (by omega)
  simp only [zbm, zB, ih.1]
  refine ⟨?_, Dg.cons nn (zeD hl) ih.2⟩
  rw [← zjN (l := l) (by omega), Int.toNat_natCast]
  have h := pw (s := s) (by omega)
  have h' := pw' (s := s) (by omega)
  have e1 : (d.toNat + 4294967296 * V l) / 2 ^ s = d.toNat / 2 ^ s + 2 ^ (32 - s) * V l := by
   rw [← h, Nat.mul_assoc, Nat.add_mul_div_left _ _ (zh _)]
  have e2 : 2 ^ (32 - s) * V l = 2 ^ (32 - s) * (V l % 2 ^ s) + 4294967296 * (V l / 2 ^ s) := by
   rw [← h', Nat.mul_assoc, ← Nat.mul_add, Nat.mod_add_div]
  rw [e1, e2, Nat.add_assoc]
theorem zkE {a : List Int} (ha : Dg a) (n : Nat) : V (zbm (n % 32) (a.drop (n / 32))) = V a / 2 ^ n := by
 rw [(zg8 (by omega) _ (ha.drop _)).1, zds ha, Nat.div_div_eq_div_mul, ← zf1]
theorem zg9 (A : List Int) (hA : Dg A) (hl : A.length < 1000000000) {s : Nat} (hs : s < 32) : ∀ (a done pa : List Int), A = pa ++ a → done.length = pa.length → Dg done →
  Ev (fun k => zay.l0 k A s (done ++ List.replicate a.length 0) A A.length pa.length) (D (V (done ++ zbm s a)))
 | [], done, pa, he, hd, hg => by
  have hlen : A.length = pa.length := by rw [he]; simp
  refine zf ?_
  simp only [zay.l0]
  (repeat (first | with_reducible refine ep ?_ | with_reducible refine en ?_))
  simp only [List.length_nil, List.replicate_zero, zbm]
  exact Ev.bind (zbZ (l := done ++ []) (by simpa using hg) (by simp; omega)) (Ev.now _)
 | d :: a, done, pa, he, hd, hg => by
  have hlen : A.length = pa.length + 1 + a.length := by rw [he]; simp; omega
  have hdd : 0 ≤ d ∧ d < 4294967296 := by rw [he] at hA; exact hA.right.head
  obtain ⟨X, rfl⟩ := Int.eq_ofNat_of_zero_le hdd.1
  have hX : X < 4294967296 := by omega
  have h1 : rd A (pa.length : Int) = (X : Int) := by rw [he]; exact zW rfl
  have hg2 : Dg (a) := by rw [he] at hA; exact hA.right.tail
  have hy := hg2.headD
  have ih := zg9 A hA hl hs a (done ++ [((X / 2 ^ s + 2 ^ (32 - s) * ((a.headD 0).toNat % 2 ^ s) : Nat) : Int)]) (pa ++ [(X : Int)]) (by rw [he]; simp) (by simp [hd])
   (hg.app (Dg.cons nn (zeD (zfn X (a.headD 0).toNat s hs hX)) Dg.nil))
  rw [@List.length_append _ pa, List.length_singleton] at ih
  refine zf ?_
  have hset : (done ++ List.replicate ((X : Int) :: a).length 0).set ((pa.length : Int)).toNat ((X / 2 ^ s : Nat) : Int) = (done ++ [((X / 2 ^ s : Nat) : Int)]) ++ List.replicate a.length 0 := by
   rw [List.length_cons, List.replicate_succ, zaW (by omega)]
  simp only [zay.l0, h1, zbw (n := pa.length) (by omega), zdf (k := .u32) X s (by simp [IntKind.bits]; omega), hset, Option.bind_some]
  have w32 : wrap64 (32 - (s : Int)) = 32 - (s : Int) := by unfold wrap64; omega
  (repeat (first | with_reducible refine ep ?_ | with_reducible refine en ?_))
  by_cases hn : a = []
  ·subst hn
   simp only [List.length_nil, Nat.add_zero] at hlen
   (repeat (first | with_reducible refine ep ?_ | with_reducible refine en ?_))
   refine zi (by simpa [zbm] using ih) ?_
   simp [zbm]
  ·obtain ⟨y, a', rfl⟩ := List.exists_cons_of_ne_nil hn
   obtain ⟨Y, rfl⟩ := Int.eq_ofNat_of_zero_le hy.1
   simp only [List.headD_cons] at hy ih
   have hlen' := hlen
   simp only [List.length_cons] at hlen'
   have h2 : rd A ((pa.length + 1 : Nat) : Int) = (Y : Int) := by rw [he, show pa ++ (X : Int) :: (Y : Int) :: a' = (pa ++ [(X : Int)]) ++ (Y : Int) :: a' by simp]; exact zW (by simp)
   have h3 : rd (done ++ [((X / 2 ^ s : Nat) : Int)] ++ List.replicate ((Y : Int) :: a').length 0) (pa.length : Int) = ((X / 2 ^ s : Nat) : Int) := by rw [List.append_assoc, List.singleton_append]; exact zW (by omega)
   have hset2 : (done ++ [((X / 2 ^ s : Nat) : Int)] ++ List.replicate ((Y : Int) :: a').length 0).set ((pa.length : Int)).toNat ((X / 2 ^ s + 2 ^ (32 - s) * (Y % 2 ^ s) : Nat) : Int) = done ++ [((X / 2 ^ s + 2 ^ (32 - s) * (Y % 2 ^ s) : Nat) : Int)] ++ List.replicate ((Y : Int) :: a').length 0 := by
    rw [List.append_assoc, List.singleton_append, zaW (by omega)]
   simp only [h2, h3, zkF X Y s hs hX (by omega), hset2]
   (repeat (first | with_reducible refine ep ?_ | with_reducible refine en ?_))
   rw [Int.toNat_natCast] at ih
   refine zi ih ?_
   simp [zbm]
theorem zh0 {a : List Int} (ha : Dg a) (la : a.length < 1000000000) (n : Nat) (hn : n < 100000000000) : Ev (fun k => zay.f k a n) (D (V a / 2 ^ n)) := by
 unfold zay.f
 simp only [t32 (n := n) (by omega), m32]
 by_cases h : n / 32 ≥ a.length
 ·(repeat (first | with_reducible refine ep ?_ | with_reducible refine en ?_))
  have : V a / 2 ^ n = 0 := by
   rw [zf1, ← Nat.div_div_eq_div_mul, ← zds ha, List.drop_eq_nil_of_le h]; simp
  rw [this, zK]; exact Ev.now _
 ·(repeat (first | with_reducible refine ep ?_ | with_reducible refine en ?_))
  have h := zg9 (a.drop (n / 32)) (ha.drop _) (by simp; omega) (s := n % 32) (by omega) (a.drop (n / 32)) [] [] rfl rfl Dg.nil
  simp only [List.nil_append, zkE ha] at h
  simp only [Int.toNat_natCast]
  simpa using h
theorem zdw {l : List Int} (h : Dg l) : bl (V l) ≤ 32 * l.length := by
 apply zI
 have := zar h
 rwa [show (4294967296 : Nat) = 2 ^ 32 from rfl, ← Nat.pow_mul] at this
theorem zbx {n k : Nat} (h : n < 4294967296 ^ k) : (D n).length ≤ k := by
 rcases Nat.lt_or_ge k (D n).length with h1 | h1
 ·have h2 := ze1 (z6 n) (by intro e; rw [e] at h1; simp at h1)
  rw [V_D] at h2
  have h3 : 4294967296 ^ k ≤ 4294967296 ^ ((D n).length - 1) := Nat.pow_le_pow_right (by omega) (by omega)
  omega
 ·exact h1
theorem zgC {l : List Int} (h : Nm l) (h0 : l ≠ []) : V l ≠ 0 := fun e => h0 ((zdt h).1 e)
theorem zke {m n : Nat} : (za9 m n ≥ 0) ↔ n ≤ m := by
 unfold za9; split
 ·constructor <;> intro h <;> omega
 ·split <;> constructor <;> intro h <;> omega
theorem zlc {U3 V2 P ul vl Q : Nat} (hP : 0 < P) (hul : ul < P) (hQ : Q * (V2 * P + vl) ≤ U3 * P + ul) : Q * V2 ≤ U3 := by
 have h1 : Q * V2 * P ≤ Q * (V2 * P + vl) := by rw [Nat.mul_add, Nat.mul_assoc]; omega
 have h2 : Q * V2 * P < (U3 + 1) * P := by rw [Nat.add_mul, Nat.one_mul]; omega
 have := Nat.lt_of_mul_lt_mul_right h2
 omega
theorem zlb {U3 V2 P ul vl g B : Nat} (hP : 0 < P) (hg : g * V2 ≤ U3) (hB : g < B) (hvl : vl < P) (hv : B * P ≤ V2 * P + vl) : g * (V2 * P + vl) < (U3 * P + ul) + (V2 * P + vl) := by
 have h1 : g * V2 * P ≤ U3 * P := Nat.mul_le_mul_right _ hg
 have h2 : g * vl ≤ g * P := Nat.mul_le_mul_left _ (by omega)
 have h3 : g * P < B * P := Nat.mul_lt_mul_of_pos_right hB hP
 rw [Nat.mul_add, ← Nat.mul_assoc]
 omega
theorem zfB {g left v1 v2 top u2 B : Nat} (h : left + g * v1 = top) : g * (v1 * B + v2) ≤ top * B + u2 ↔ g * v2 ≤ left * B + u2 := by
 rw [← h, Nat.mul_add, Nat.add_mul, ← Nat.mul_assoc]; omega
theorem zla {g left v1 v2 top u2 B : Nat} (h : left + g * v1 = top) (ht : top < v1 * B + B) (hl : B ≤ left) (hv : v2 < B) : g < B ∧ g * (v1 * B + v2) ≤ top * B + u2 := by
 have hg : g < B := by
  rcases Nat.lt_or_ge g B with h1 | h1
  ·exact h1
  ·have := Nat.mul_le_mul_right v1 h1
   rw [Nat.mul_comm B] at this
   omega
 refine ⟨hg, (zfB h).2 ?_⟩
 have h1 : g * v2 ≤ B * B := Nat.mul_le_mul (by omega) (by omega)
 have h2 : B * B ≤ left * B := Nat.mul_le_mul_right _ hl
 omega
theorem zap {n : Nat} (h : n < 18446744073709551616) : IntKind.u64.wrap (n : Int) = (n : Int) := u64 (by omega) (by omega)
theorem zfK {a b : Nat} (ha : a < 4294967296) (hb : b < 4294967296) : a * b ≤ 18446744065119617025 := by
 have := Nat.mul_le_mul (show a ≤ 4294967295 by omega) (show b ≤ 4294967295 by omega)
 omega
theorem zh7 (a b : Nat) (ha : a < 4294967296) (hb : b < 4294967296) : Go.bits .or .u64 (IntKind.u64.wrap ((a : Int) * 4294967296)) (b : Int) = ((a * 4294967296 + b : Nat) : Int) := by
 have e : (a : Int) * 4294967296 = ((a * 4294967296 : Nat) : Int) := by omega
 rw [e, zap (by omega), ← e, zh6 (by omega) (by omega)]; omega
theorem ziM {u v : List Int} {n v1 v2 u2 top Q : Nat} (hn : 2 ≤ n) (hnb : n < 1000000000) (hv : v.length = n) (hu : u.length = n + 1)
  (h1 : rd v ((n - 1 : Nat) : Int) = (v1 : Int)) (h2 : rd v ((n - 2 : Nat) : Int) = (v2 : Int)) (h3 : rd u ((n - 2 : Nat) : Int) = (u2 : Int))
  (b1 : v1 < 4294967296) (b2 : v2 < 4294967296) (b3 : u2 < 4294967296) (ht : top < v1 * 4294967296 + 4294967296)
  (hQ : Q * (v1 * 4294967296 + v2) ≤ top * 4294967296 + u2) (hQB : Q < 4294967296) {res : Int × List Int}
  (H : ∀ G : Nat, G < 4294967296 → Q ≤ G → G * (v1 * 4294967296 + v2) ≤ top * 4294967296 + u2 → Ev (fun k => zx.l1 k u v n G 0 0 v (v.length : Int) 0) res) :
  ∀ (g left : Nat), Q ≤ g → left + g * v1 = top → left < 4294967296 → g < 18446744073709551616 → Ev (fun k => zx.l0 k u v n g left) res
 | g, left, hg, hl, hlb, hgb => by
  have e1 : wrap64 ((n : Int) - 1) = ((n - 1 : Nat) : Int) := by unfold wrap64; omega
  have e2 : wrap64 ((n : Int) - 2) = ((n - 2 : Nat) : Int) := by unfold wrap64; omega
  have tru : Q < g → Ev (fun k => if 0 ≤ ((n - 1 : Nat) : Int) then (if ((n - 1 : Nat) : Int) < (v.length : Int) then (if (IntKind.u64.wrap ((left : Int) + (v1 : Int))) ≥ 4294967296 then (zx.l1 k u v n (IntKind.u64.wrap ((g : Int) - 1)) 0 0 v (v.length : Int) 0) else (zx.l0 k u v n (IntKind.u64.wrap ((g : Int) - 1)) (IntKind.u64.wrap ((left : Int) + (v1 : Int))))) else none) else none) res := by
   intro hlt
   obtain ⟨g', rfl⟩ : ∃ g', g = g' + 1 := ⟨g - 1, by omega⟩
   have e3 : IntKind.u64.wrap (((g' + 1 : Nat) : Int) - 1) = (g' : Int) := by
    rw [show ((g' + 1 : Nat) : Int) - 1 = (g' : Int) by omega]; exact zap (by omega)
   have e4 : IntKind.u64.wrap ((left : Int) + (v1 : Int)) = ((left + v1 : Nat) : Int) := by
    rw [← Int.natCast_add]; exact zap (by omega)
   have hl2 : (left + v1) + g' * v1 = top := by rw [← hl, Nat.add_mul, Nat.one_mul]; omega
   simp only [e3, e4]
   refine zd nn (zd (by omega) ?_)
   by_cases hb : 4294967296 ≤ left + v1
   ·obtain ⟨k1, k2⟩ := zla (u2 := u2) hl2 ht hb b2
    (repeat (first | with_reducible refine ep ?_ | with_reducible refine en ?_)); exact H g' k1 (by omega) k2
   ·(repeat (first | with_reducible refine ep ?_ | with_reducible refine en ?_)); exact ziM hn hnb hv hu h1 h2 h3 b1 b2 b3 ht hQ hQB H g' (left + v1) (by omega) hl2 (by omega) (by omega)
  refine zf ?_
  simp only [zx.l0, e1, h1, zap (n := v1) (by omega)]
  by_cases hB : 4294967296 ≤ g
  ·exact zd (by omega) (tru (by omega))
  ·have hm := zfK (a := g) (b := v2) (by omega) b2
   have e5 : IntKind.u64.wrap ((g : Int) * (v2 : Int)) = ((g * v2 : Nat) : Int) := by
    rw [← Int.natCast_mul]; exact zap (by omega)
   refine ze (by omega) ?_
   simp only [e2, h2, h3, zap (n := v2) (by omega), zap (n := u2) (by omega), e5, zh7 left u2 hlb b3]
   refine zd nn (zd (by omega) (zd nn (zd (by omega) ?_)))
   by_cases hc : g * v2 ≤ left * 4294967296 + u2
   ·exact ze (by have := Int.ofNat_le.2 hc; omega) (H g (by omega) hg ((zfB hl).2 hc))
   ·refine zd (by have := Int.ofNat_lt.2 (Nat.lt_of_not_le hc); omega) (tru ?_)
    rcases Nat.lt_or_ge Q g with h | h
    ·exact h
    ·have : g = Q := by omega
     subst this
     exact absurd ((zfB hl).1 hQ) hc
termination_by g => g
theorem zcF (n : Nat) : (4294967296 : Nat) ^ (n + 1) = 4294967296 ^ n * 4294967296 := Nat.pow_succ ..
def bw (x y : Nat) : Nat := if x < y then 1 else 0
def zad (g : Nat) : List Int → List Int → Nat → Nat → List Int × Nat
 | d :: v, x :: u, c, b =>
  let r := zad g v u ((c + g * d.toNat) / 4294967296) (bw x.toNat ((c + g * d.toNat) % 4294967296 + b))
  ((x - (((c + g * d.toNat) % 4294967296 : Nat) : Int) - (b : Int)) % 4294967296 :: r.1, r.2)
 | [], x :: u, c, b => ((x - (c : Int) - (b : Int)) % 4294967296 :: u, bw x.toNat (c + b))
 | _, [], c, b => ([], b)
theorem zg6 {x t b : Nat} (hx : x < 4294967296) (ht : t < 4294967296) (hb : b ≤ 1) : (((x : Int) - (t : Int) - (b : Int)) % 4294967296).toNat + t + b = x + bw x (t + b) * 4294967296 := by
 unfold bw; split <;> omega
theorem zgO {g d c : Nat} (hg : g < 4294967296) (hd : d < 4294967296) (hc : c < 4294967296) : (c + g * d) / 4294967296 < 4294967296 := by
 have := zfK hg hd; omega
theorem zfh (x y : Nat) : bw x y ≤ 1 := by unfold bw; split <;> omega
theorem zfI {g : Nat} (hg : g < 4294967296) : ∀ (v u : List Int) (c b : Nat), Dg v → Dg u → u.length = v.length + 1 → c < 4294967296 → b ≤ 1 →
  V (zad g v u c b).1 + g * V v + c + b = V u + (zad g v u c b).2 * 4294967296 ^ (v.length + 1) ∧ Dg (zad g v u c b).1 ∧ (zad g v u c b).1.length = u.length ∧ (zad g v u c b).2 ≤ 1
 | [], x :: u, c, b, hv, hu, hl, hc, hb => by
  have hx := hu.head
  have : u = [] := List.eq_nil_of_length_eq_zero (by simpa using hl)
  subst this
  obtain ⟨X, rfl⟩ := Int.eq_ofNat_of_zero_le hx.1
  have h := zg6 (x := X) (t := c) (b := b) (by omega) hc hb
  simp only [zad, zB, za4, List.length_nil, Int.toNat_natCast, Nat.zero_add, Nat.pow_one]
  refine ⟨by omega, Dg.cons (by omega) (by omega) Dg.nil, rfl, zfh _ _⟩
 | d :: v, x :: u, c, b, hv, hu, hl, hc, hb => by
  have hx := hu.head; have hd := hv.head
  obtain ⟨X, rfl⟩ := Int.eq_ofNat_of_zero_le hx.1
  obtain ⟨Y, rfl⟩ := Int.eq_ofNat_of_zero_le hd.1
  have hcl := zgO (d := Y) hg (by omega) hc
  have h := zg6 (x := X) (t := (c + g * Y) % 4294967296) (b := b) (by omega) (by omega) hb
  have ih := zfI hg v u _ _ hv.tail hu.tail (by simpa using hl) hcl (zfh X ((c + g * Y) % 4294967296 + b))
  have hdm := Nat.div_add_mod (c + g * Y) 4294967296
  simp only [zad, zB, List.length_cons, Int.toNat_natCast]
  generalize zad g v u ((c + g * Y) / 4294967296) (bw X ((c + g * Y) % 4294967296 + b)) = r at *
  refine ⟨?_, Dg.cons (by omega) (by omega) ih.2.1, by rw [ih.2.2.1], ih.2.2.2⟩
  have e1 := ih.1
  rw [zcF (v.length + 1), Nat.mul_add g, Nat.mul_left_comm g]
  generalize 4294967296 ^ (v.length + 1) = p at *
  rw [← Nat.mul_assoc r.2]
  generalize r.2 * p = rp at *
  generalize g * V v = gv at *
  generalize g * Y = gy at *
  generalize bw X ((c + gy) % 4294967296 + b) = o at *
  omega
def za5 : List Int → List Int → Nat → List Int
 | d :: v, x :: u, c => (x + d + (c : Int)) % 4294967296 :: za5 v u ((x.toNat + d.toNat + c) / 4294967296)
 | [], x :: u, c => (x + (c : Int)) % 4294967296 :: u
 | _, [], c => []
theorem zgD : ∀ (v u : List Int) (c : Nat), Dg v → Dg u → u.length = v.length + 1 → c ≤ 1 →
  (∃ o : Nat, V (za5 v u c) + o * 4294967296 ^ (v.length + 1) = V u + V v + c) ∧ Dg (za5 v u c) ∧ (za5 v u c).length = u.length
 | [], x :: u, c, hv, hu, hl, hc => by
  have hx := hu.head
  have : u = [] := List.eq_nil_of_length_eq_zero (by simpa using hl)
  subst this
  obtain ⟨X, rfl⟩ := Int.eq_ofNat_of_zero_le hx.1
  simp only [za5, zB, za4, List.length_nil, Int.toNat_natCast, Nat.zero_add, Nat.pow_one]
  refine ⟨⟨(X + c) / 4294967296, by omega⟩, Dg.cons (by omega) (by omega) Dg.nil, rfl⟩
 | d :: v, x :: u, c, hv, hu, hl, hc => by
  have hx := hu.head; have hd := hv.head
  obtain ⟨X, rfl⟩ := Int.eq_ofNat_of_zero_le hx.1
  obtain ⟨Y, rfl⟩ := Int.eq_ofNat_of_zero_le hd.1
  have ih := zgD v u ((X + Y + c) / 4294967296) hv.tail hu.tail (by simpa using hl) (by omega)
  simp only [za5, zB, List.length_cons, Int.toNat_natCast]
  generalize za5 v u ((X + Y + c) / 4294967296) = r at *
  obtain ⟨⟨o, e1⟩, e2, e3⟩ := ih
  refine ⟨⟨o, ?_⟩, Dg.cons (by omega) (by omega) e2, by rw [e3]⟩
  rw [zcF (v.length + 1)]
  generalize 4294967296 ^ (v.length + 1) = p at *
  rw [← Nat.mul_assoc o]
  generalize o * p = rp at *
  omega
theorem ziO (Vl : List Int) (hV : Dg Vl) (hl : Vl.length < 1000000000) (G : Nat) (hG0 : 0 < G) (hG : G < 4294967297) : ∀ (v pv done u : List Int) (c : Nat), Vl = pv ++ v → done.length = pv.length → u.length = v.length + 1 → Dg u → c ≤ 1 →
  Ev (fun k => zx.l2 k (done ++ u) Vl.length G c Vl Vl.length pv.length) (((G - 1 : Nat) : Int), done ++ za5 v u c)
 | [], pv, done, u, c, he, hd, hlu, hu, hc => by
  have hlen : Vl.length = pv.length := by rw [he]; simp
  obtain ⟨x, rfl⟩ := List.length_eq_one_iff.1 (show u.length = 1 by simpa using hlu)
  have hx := hu.head
  refine zf ?_
  simp only [zx.l2]
  (repeat (first | with_reducible refine ep ?_ | with_reducible refine en ?_))
  refine zi (Ev.now _) ?_
  have e3 : IntKind.u64.wrap ((G : Int) - 1) = ((G - 1 : Nat) : Int) := by
   rw [show (G : Int) - 1 = ((G - 1 : Nat) : Int) by omega]; exact zap (by omega)
  rw [e3, zW (xs := done) (ys := []) (y := x) (by omega), zaW (by omega)]
  simp [za5]; omega
 | d :: v, pv, done, u, c, he, hd, hlu, hu, hc => by
  have hlen : Vl.length = pv.length + 1 + v.length := by rw [he]; simp; omega
  obtain ⟨x, u, rfl⟩ := List.exists_cons_of_ne_nil (show u ≠ [] by intro e; rw [e] at hlu; simp at hlu)
  have hx := hu.head
  have hdd : 0 ≤ d ∧ d < 4294967296 := by rw [he] at hV; exact hV.right.head
  refine zf ?_
  simp only [zx.l2, zbw (n := pv.length) (by omega)]
  have h1 : rd Vl (pv.length : Int) = d := by rw [he]; exact zW rfl
  have h2 : rd (done ++ x :: u) (pv.length : Int) = x := zW (by omega)
  rw [h1, h2]
  (repeat (first | with_reducible refine ep ?_ | with_reducible refine en ?_))
  refine zk (zjP hx hdd (by omega)) ?_
  rw [zaW (by omega)]
  have := ziO Vl hV hl G hG0 hG v (pv ++ [d]) (done ++ [(x + d + (c : Int)) % 4294967296]) u ((x.toNat + d.toNat + c) / 4294967296) (by rw [he]; simp) (by simp [hd]) (by simpa using hlu) hu.tail (by omega)
  rw [List.length_append, List.length_singleton] at this
  have e4 : (x + d + (c : Int)) / 4294967296 = (((x.toNat + d.toNat + c) / 4294967296 : Nat) : Int) := by omega
  simp only [e4]
  (repeat (first | with_reducible refine ep ?_ | with_reducible refine en ?_))
  refine zi this ?_
  simp [za5]
theorem zgB : ∀ (a b : List Int), Dg a → Dg b → a.length = b.length → V a = V b → a = b
 | [], [], _, _, _, _ => rfl
 | [], y :: b, _, _, h, _ => by simp at h
 | x :: a, [], _, _, h, _ => by simp at h
 | x :: a, y :: b, ha, hb, h, e => by
  have h1 := ha.head; have h2 := hb.head
  simp only [zB] at e
  have h3 : x = y := by omega
  subst h3
  rw [zgB a b ha.tail hb.tail (by simpa using h) (by omega)]
def Dk (k n : Nat) : List Int := D n ++ List.replicate (k - (D n).length) 0
theorem ze4 (k n : Nat) : V (Dk k n) = n := by unfold Dk; rw [zaG, zel, V_D]; simp
theorem zgt (k n : Nat) : Dg (Dk k n) := (zaA n).app (Dg.zeros _)
theorem zgv {k n : Nat} (h : n < 4294967296 ^ k) : (Dk k n).length = k := by
 have := zbx h
 unfold Dk; simp; omega
theorem zgu {k n : Nat} {l : List Int} (h : Dg l) (hl : l.length = k) (hv : V l = n) : l = Dk k n := by
 have hk : n < 4294967296 ^ k := by rw [← hv, ← hl]; exact zar h
 exact zgB _ _ h (zgt k n) (by rw [hl, zgv hk]) (by rw [hv, ze4])
theorem zgN {X Y : Nat} : (if (X : Int) < (Y : Int) then (1 : Int) else 0) = ((bw X Y : Nat) : Int) := by
 unfold bw; split <;> split <;> omega
theorem ziN (Vl : List Int) (hV : Dg Vl) (hl : Vl.length < 1000000000) (G : Nat) (hG : G < 4294967296) : ∀ (v pv done u : List Int) (c b : Nat), Vl = pv ++ v → done.length = pv.length → Dg done → u.length = v.length + 1 → Dg u → c < 4294967296 → b ≤ 1 → ((zad G v u c b).2 ≠ 0 → 0 < G) →
  Ev (fun k => zx.l1 k (done ++ u) Vl Vl.length G b c Vl Vl.length pv.length) (if (zad G v u c b).2 = 0 then ((G : Int), done ++ (zad G v u c b).1) else (((G - 1 : Nat) : Int), za5 Vl (done ++ (zad G v u c b).1) 0))
 | [], pv, done, u, c, b, he, hd, hdg, hlu, hu, hc, hb, hG0 => by
  have hlen : Vl.length = pv.length := by rw [he]; simp
  have hms := zfI hG [] u c b Dg.nil hu hlu hc hb
  obtain ⟨x, rfl⟩ := List.length_eq_one_iff.1 (show u.length = 1 by simpa using hlu)
  have hx := hu.head
  obtain ⟨X, rfl⟩ := Int.eq_ofNat_of_zero_le hx.1
  have e0 : (c : Int) % 4294967296 = (c : Int) := by omega
  have e1 : (X : Int) - (c : Int) - (b : Int) = (X : Int) - (c : Int) - (b : Int) := rfl
  have e2 : (G : Int) % 4294967296 = (G : Int) := by omega
  refine zf ?_
  simp only [zx.l1, e0]
  (repeat (first | with_reducible refine ep ?_ | with_reducible refine en ?_))
  rw [zW (xs := done) (ys := []) (y := (X : Int)) (by omega)]
  refine zk (ziQ hx (by omega) (by omega)) ?_
  rw [zaW (by omega), ← Int.natCast_add, zgN]
  simp only [Option.bind_some, e2]
  have hm : zad G [] [(X : Int)] c b = ([((X : Int) - (c : Int) - (b : Int)) % 4294967296], bw X (c + b)) := by simp [zad]
  rw [hm] at hms hG0 ⊢
  have hap : done ++ [((X : Int) - (c : Int) - (b : Int)) % 4294967296] ++ [] = done ++ [((X : Int) - (c : Int) - (b : Int)) % 4294967296] := List.append_nil _
  rw [hap]
  by_cases h0 : bw X (c + b) = 0
  ·simp only [h0]
   (repeat (first | with_reducible refine ep ?_ | with_reducible refine en ?_))
   exact zi (Ev.now _) (by simp)
  ·simp only [if_neg h0]
   (repeat (first | with_reducible refine ep ?_ | with_reducible refine en ?_))
   have := ziO Vl hV hl G (hG0 h0) (by omega) Vl [] [] (done ++ [((X : Int) - (c : Int) - (b : Int)) % 4294967296]) 0 rfl rfl (by simp; omega) (hdg.app hms.2.1) (by omega)
   simpa using this
 | d :: v, pv, done, u, c, b, he, hd, hdg, hlu, hu, hc, hb, hG0 => by
  have hlen : Vl.length = pv.length + 1 + v.length := by rw [he]; simp; omega
  obtain ⟨x, u, rfl⟩ := List.exists_cons_of_ne_nil (show u ≠ [] by intro e; rw [e] at hlu; simp at hlu)
  have hx := hu.head
  have hdd : 0 ≤ d ∧ d < 4294967296 := by rw [he] at hV; exact hV.right.head
  obtain ⟨X, rfl⟩ := Int.eq_ofNat_of_zero_le hx.1
  obtain ⟨Y, rfl⟩ := Int.eq_ofNat_of_zero_le hdd.1
  have hcl := zgO (d := Y) hG (by omega) hc
  have hm64 := zfK (a := G) (b := Y) hG (by omega)
  have h1 : rd Vl (pv.length : Int) = (Y : Int) := by rw [he]; exact zW rfl
  have h2 : rd (done ++ (X : Int) :: u) (pv.length : Int) = (X : Int) := zW (by omega)
  have e5 : IntKind.u64.wrap ((c : Int) + (IntKind.u64.wrap ((G : Int) * (IntKind.u64.wrap (Y : Int))))) = ((c + G * Y : Nat) : Int) := by
   rw [zap (n := Y) (by omega), ← Int.natCast_mul, zap (by omega), ← Int.natCast_add]
   exact zap (by omega)
  have e6 : ((c + G * Y : Nat) : Int) % 4294967296 = (((c + G * Y) % 4294967296 : Nat) : Int) := by generalize c + G * Y = t; omega
  have e7 : ((c + G * Y : Nat) : Int) / 4294967296 = (((c + G * Y) / 4294967296 : Nat) : Int) := by generalize c + G * Y = t; omega
  refine zf ?_
  simp only [zx.l1, h1, h2, e5, e6, e7, zbw (n := pv.length) (by omega)]
  (repeat (first | with_reducible refine ep ?_ | with_reducible refine en ?_))
  refine zk (ziQ hx (by omega) (by omega)) ?_
  rw [zaW (by omega), ← Int.natCast_add, zgN]
  have hbd : 0 ≤ ((X : Int) - (((c + G * Y) % 4294967296 : Nat) : Int) - (b : Int)) % 4294967296 ∧ ((X : Int) - (((c + G * Y) % 4294967296 : Nat) : Int) - (b : Int)) % 4294967296 < 4294967296 := by omega
  have := ziN Vl hV hl G hG v (pv ++ [(Y : Int)]) (done ++ [((X : Int) - (((c + G * Y) % 4294967296 : Nat) : Int) - (b : Int)) % 4294967296]) u ((c + G * Y) / 4294967296) (bw X ((c + G * Y) % 4294967296 + b)) (by rw [he]; simp) (by simp [hd]) (hdg.app (Dg.cons hbd.1 hbd.2 Dg.nil)) (by simpa using hlu) hu.tail hcl (zfh _ _) (by simpa [zad] using hG0)
  rw [List.length_append, List.length_singleton] at this
  (repeat (first | with_reducible refine ep ?_ | with_reducible refine en ?_))
  refine zi this ?_
  simp only [zad, Int.toNat_natCast, List.append_assoc, List.singleton_append]
  rfl
theorem znj (T U2 P w : Nat) : T * (P * 4294967296) ≤ (T * 4294967296 + U2) * P + w := by
 rw [Nat.mul_comm P, ← Nat.mul_assoc, Nat.add_mul, Nat.add_assoc]; exact Nat.le_add_right _ _
theorem dm1 (Q a b c : Nat) : Q * a * c ≤ Q * (a * c + b) := by rw [Nat.mul_add, ← Nat.mul_assoc]; exact Nat.le_add_right _ _
theorem znd (a b : Nat) : Int.tdiv (a : Int) (b : Int) = ((a / b : Nat) : Int) := rfl
theorem zeT (a b : Nat) : Int.tmod (a : Int) (b : Int) = ((a % b : Nat) : Int) := rfl
theorem zgf {v : List Int} {n : Nat} (h : v.length = n + 2) : ∃ vl v2 v1, v = vl ++ [v2, v1] ∧ vl.length = n := by
 rcases List.eq_nil_or_concat v with rfl | ⟨a, d, rfl⟩
 ·simp at h
 rcases List.eq_nil_or_concat a with rfl | ⟨b, e, rfl⟩
 ·simp at h
 exact ⟨b, e, d, by simp, by simp at h; omega⟩
theorem zm1 {u : List Int} {n : Nat} (h : u.length = n + 3) : ∃ ul u2 u1 u0, u = ul ++ [u2, u1, u0] ∧ ul.length = n := by
 rcases List.eq_nil_or_concat u with rfl | ⟨a, d, rfl⟩
 ·simp at h
 obtain ⟨ul, u2, u1, rfl, h2⟩ := zgf (v := a) (n := n) (by simp at h; omega)
 exact ⟨ul, u2, u1, d, by simp, h2⟩
theorem zdV {l : List Int} {n : Nat} {pre post : List Int} {y : Int} (h : l = pre ++ y :: post) (hn : pre.length = n) : rd l (n : Int) = y := by
 rw [h]; exact zW (by omega)
theorem zl4 {u v : List Int} {m : Nat} (hv : Dg v) (hu : Dg u) (lv : v.length = m + 2) (lu : u.length = m + 3) (hm : m < 100000000) (htop : 4294967296 ^ (m + 1) ≤ V v) (hlt : V u < V v * 4294967296) :
  Ev (fun k => zx.f k u v) (((V u / V v : Nat) : Int), Dk (m + 3) (V u % V v)) := by
 obtain ⟨vl, v2, v1, rfl, lvl⟩ := zgf lv
 obtain ⟨ul, u2, u1, u0, rfl, lul⟩ := zm1 lu
 have d2 := hv v2 (by simp); have d1 := hv v1 (by simp)
 have c2 := hu u2 (by simp); have c1 := hu u1 (by simp); have c0 := hu u0 (by simp)
 obtain ⟨V1, rfl⟩ := Int.eq_ofNat_of_zero_le d1.1
 obtain ⟨V2, rfl⟩ := Int.eq_ofNat_of_zero_le d2.1
 obtain ⟨U2, rfl⟩ := Int.eq_ofNat_of_zero_le c2.1
 obtain ⟨U1, rfl⟩ := Int.eq_ofNat_of_zero_le c1.1
 obtain ⟨U0, rfl⟩ := Int.eq_ofNat_of_zero_le c0.1
 have hP : 0 < 4294967296 ^ m := Nat.pow_pos (by omega)
 have hvl := zar hv.left; rw [lvl] at hvl
 have hul := zar hu.left; rw [lul] at hul
 have eV : V (vl ++ [(V2 : Int), (V1 : Int)]) = (V1 * 4294967296 + V2) * 4294967296 ^ m + V vl := by
  rw [zaG, lvl]; simp only [zB, za4, Int.toNat_natCast]
  rw [Nat.mul_comm (4294967296 ^ m), Nat.add_comm, show V2 + 4294967296 * (V1 + 4294967296 * 0) = V1 * 4294967296 + V2 by omega]
 have eU : V (ul ++ [(U2 : Int), (U1 : Int), (U0 : Int)]) = ((U0 * 4294967296 + U1) * 4294967296 + U2) * 4294967296 ^ m + V ul := by
  rw [zaG, lul]; simp only [zB, za4, Int.toNat_natCast]
  rw [Nat.mul_comm (4294967296 ^ m), Nat.add_comm, show U2 + 4294967296 * (U1 + 4294967296 * (U0 + 4294967296 * 0)) = (U0 * 4294967296 + U1) * 4294967296 + U2 by omega]
 have hpm := zcF m
 have hvv := zar hv; rw [lv] at hvv
 have hvpos : 0 < V (vl ++ [(V2 : Int), (V1 : Int)]) := Nat.lt_of_lt_of_le (by rw [hpm]; omega) htop
 have hms0 := fun G (hG : G < 4294967296) => zfI (g := G) hG (vl ++ [(V2 : Int), (V1 : Int)]) (ul ++ [(U2 : Int), (U1 : Int), (U0 : Int)]) 0 0 hv hu (by rw [lv, lu]) (by omega) (by omega)
 have hab0 := fun r (hr : Dg r) (hl : r.length = m + 3) => zgD (vl ++ [(V2 : Int), (V1 : Int)]) r 0 hv hr (by rw [lv, hl]) (by omega)
 have hl1 := fun G (hG : G < 4294967296) => ziN (vl ++ [(V2 : Int), (V1 : Int)]) hv (by omega) G hG (vl ++ [(V2 : Int), (V1 : Int)]) [] [] (ul ++ [(U2 : Int), (U1 : Int), (U0 : Int)]) 0 0 rfl rfl Dg.nil (by rw [lv, lu]) hu (by omega) (by omega)
 have r1 : rd (vl ++ [(V2 : Int), (V1 : Int)]) ((m + 1 : Nat) : Int) = (V1 : Int) := zdV (pre := vl ++ [(V2 : Int)]) (post := []) (by simp) (by simp [lvl])
 have r2 : rd (vl ++ [(V2 : Int), (V1 : Int)]) ((m : Nat) : Int) = (V2 : Int) := zdV (pre := vl) (post := [(V1 : Int)]) rfl lvl
 have s2 : rd (ul ++ [(U2 : Int), (U1 : Int), (U0 : Int)]) ((m : Nat) : Int) = (U2 : Int) := zdV (pre := ul) (post := [(U1 : Int), (U0 : Int)]) rfl lul
 have s1 : rd (ul ++ [(U2 : Int), (U1 : Int), (U0 : Int)]) ((m + 1 : Nat) : Int) = (U1 : Int) := zdV (pre := ul ++ [(U2 : Int)]) (post := [(U0 : Int)]) (by simp) (by simp [lul])
 have s0 : rd (ul ++ [(U2 : Int), (U1 : Int), (U0 : Int)]) ((m + 2 : Nat) : Int) = (U0 : Int) := zdV (pre := ul ++ [(U2 : Int), (U1 : Int)]) (post := []) (by simp) (by simp [lul])
 generalize hvE : vl ++ [(V2 : Int), (V1 : Int)] = v at *
 generalize huE : ul ++ [(U2 : Int), (U1 : Int), (U0 : Int)] = u at *
 have hv1 : 0 < V1 := by
  rcases Nat.eq_zero_or_pos V1 with h | h
  ·exfalso
   subst h
   have h3 : (0 * 4294967296 + V2) * 4294967296 ^ m + V vl < 4294967296 * 4294967296 ^ m := by
    have h4 : (V2 + 1) * 4294967296 ^ m ≤ 4294967296 * 4294967296 ^ m := Nat.mul_le_mul_right _ (by omega)
    rw [Nat.add_mul] at h4
    rw [Nat.zero_mul, Nat.zero_add]; omega
   rw [← eV, Nat.mul_comm, ← hpm] at h3
   omega
  ·exact h
 have hQB : V u / V v < 4294967296 := by rw [Nat.div_lt_iff_lt_mul hvpos, Nat.mul_comm]; exact hlt
 have hQ0 : V u / V v * V v ≤ V u := Nat.div_mul_le_self _ _
 have hR : V u % V v < V v := Nat.mod_lt _ hvpos
 have hdm : V v * (V u / V v) + V u % V v = V u := Nat.div_add_mod _ _
 have hdl0 : ∀ g, g * V v ≤ V u → g ≤ V u / V v := fun g h => (Nat.le_div_iff_mul_le hvpos).2 h
 generalize V u / V v = Qq at *
 generalize V u % V v = Rr at *
 have hQ2 : Qq * (V1 * 4294967296 + V2) ≤ (U0 * 4294967296 + U1) * 4294967296 + U2 := by
  refine zlc (vl := V vl) hP hul ?_
  rw [← eV, ← eU]; exact hQ0
 have htl : U0 * 4294967296 + U1 < V1 * 4294967296 + 4294967296 := by
  have h1 : (U0 * 4294967296 + U1) * (4294967296 ^ m * 4294967296) < (V1 * 4294967296 + 4294967296) * (4294967296 ^ m * 4294967296) := by
   have h2 : (U0 * 4294967296 + U1) * (4294967296 ^ m * 4294967296) ≤ V u := by
    rw [eU]; exact znj _ _ _ _
   have h3 : V v * 4294967296 ≤ (V1 * 4294967296 + 4294967296) * (4294967296 ^ m * 4294967296) := by
    rw [← Nat.mul_assoc]
    refine Nat.mul_le_mul_right _ ?_
    rw [eV]
    have h4 : (V1 * 4294967296 + V2 + 1) * 4294967296 ^ m ≤ (V1 * 4294967296 + 4294967296) * 4294967296 ^ m := Nat.mul_le_mul_right _ (by omega)
    rw [Nat.add_mul _ 1, Nat.one_mul] at h4
    omega
   omega
  exact Nat.lt_of_mul_lt_mul_right h1
 have H : ∀ G : Nat, G < 4294967296 → Qq ≤ G → G * (V1 * 4294967296 + V2) ≤ (U0 * 4294967296 + U1) * 4294967296 + U2 → Ev (fun k => zx.l1 k u v ((m + 2 : Nat) : Int) G 0 0 v (v.length : Int) 0) (((Qq : Nat) : Int), Dk (m + 3) (Rr)) := by
  intro G hG hge hg2
  have hlow : G * V v < V u + V v := by
   have := zlb (ul := V ul) (B := 4294967296) hP hg2 hG hvl (by rw [← eV, Nat.mul_comm, ← hpm]; exact htop)
   rwa [← eV, ← eU] at this
  have hGQ : G = Qq ∨ G = Qq + 1 := by
   have h1 : (G - 1) * V v ≤ V u := by
    rcases Nat.eq_zero_or_pos G with h | h
    ·subst h; simp
    ·obtain ⟨g, rfl⟩ : ∃ g, G = g + 1 := ⟨G - 1, by omega⟩
     rw [Nat.add_mul, Nat.one_mul] at hlow
     simp; omega
   have := hdl0 _ h1
   omega
  obtain ⟨m1, m2, m3, m4⟩ := hms0 G hG
  have hl := hl1 G hG
  rw [lv] at m1
  rw [lu] at m3
  have m5 := zar m2; rw [m3] at m5
  have ab := hab0 _ m2 m3
  rw [lv] at ab
  generalize zad G v u 0 0 = r at *
  obtain ⟨⟨o, ab1⟩, ab2, ab3⟩ := ab
  have ab4 := zar ab2; rw [ab3, m3] at ab4
  rw [show m + 2 + 1 = m + 3 from rfl] at m1 ab1
  have hvM : V v < 4294967296 ^ (m + 3) := by
   rw [zcF (m + 2)]; omega
  generalize hM : 4294967296 ^ (m + 3) = M at *
  have hgv : ∀ q, q * V v = V v * q := fun q => Nat.mul_comm _ _
  have key : (if r.2 = 0 then ((G : Int), [] ++ r.1) else (((G - 1 : Nat) : Int), za5 v ([] ++ r.1) 0)) = (((Qq : Nat) : Int), Dk (m + 3) (Rr)) ∧ (r.2 ≠ 0 → 0 < G) := by
   have hmul : G = Qq + 1 → G * V v = V v * (Qq) + V v := fun h => by rw [h, Nat.mul_comm, Nat.mul_add, Nat.mul_one]
   have hmul0 : G = Qq → G * V v = V v * (Qq) := fun h => by rw [Nat.mul_comm, h]
   by_cases h0 : r.2 = 0
   ·rw [h0, Nat.zero_mul] at m1
    have hG2 : G = Qq := by
     rcases hGQ with h | h
     ·exact h
     ·have := hmul h; omega
    refine ⟨?_, fun h => absurd h0 h⟩
    rw [if_pos h0, List.nil_append, zgu m2 m3 (n := Rr) (by have := hmul0 hG2; omega), ← hG2]
   ·have hr1 : r.2 = 1 := by omega
    rw [hr1, Nat.one_mul] at m1
    have hG2 : G = Qq + 1 := by
     rcases hGQ with h | h
     ·exfalso; have := hmul0 h; omega
     ·exact h
    have hmm := hmul hG2
    refine ⟨?_, fun _ => by omega⟩
    have ho : o = 1 := by
     rcases Nat.lt_or_ge o 1 with h | h
     ·have : o = 0 := by omega
      subst this; omega
     ·rcases Nat.lt_or_ge 1 o with h2 | h2
      ·have := Nat.mul_le_mul_right M h2; omega
      ·omega
    subst ho
    rw [if_neg h0, List.nil_append, zgu ab2 (by rw [ab3, m3]) (n := Rr) (by omega)]
    congr 2; omega
  have hl2 := hl key.2
  rw [key.1] at hl2
  rw [lv] at hl2 ⊢
  simpa using hl2
 unfold zx.f
 have e1 : wrap64 (((m + 2 : Nat) : Int) - 1) = ((m + 1 : Nat) : Int) := by unfold wrap64; omega
 simp only [lv, lu, e1, r1, s1, s0]
 clear e1
 rw [zap (n := U0) (by omega), zap (n := U1) (by omega), zap (n := V1) (by omega), zh7 U0 U1 (by omega) (by omega)]
 (repeat (first | with_reducible refine ep ?_ | with_reducible refine en ?_))
 have hdl : (U0 * 4294967296 + U1) / V1 ≤ U0 * 4294967296 + U1 := Nat.div_le_self _ _
 rw [znd, zeT, zap (n := (U0 * 4294967296 + U1) / V1) (by omega)]
 have hml : (U0 * 4294967296 + U1) % V1 < V1 := Nat.mod_lt _ hv1
 have hdm2 := Nat.mod_add_div (U0 * 4294967296 + U1) V1
 refine ziM (n := m + 2) (top := U0 * 4294967296 + U1) (Q := Qq) (by omega) (by omega) lv lu r1 r2 s2 (by omega) (by omega) (by omega) htl hQ2 hQB H _ _ ?_ ?_ (by omega) (by omega)
 ·rw [Nat.le_div_iff_mul_le hv1]
  have h1 : Qq * V1 * 4294967296 ≤ Qq * (V1 * 4294967296 + V2) := dm1 _ _ _ _
  have h2 := Nat.le_trans h1 hQ2
  generalize Qq * V1 = z at *
  omega
 ·rw [Nat.mul_comm _ V1]; exact hdm2
theorem ze8 {l : List Int} (h : Dg l) {n : Nat} (hn : n ≤ l.length) : V (l.take n) = V l % 4294967296 ^ n := by
 have e : V l = V (l.take n) + 4294967296 ^ n * V (l.drop n) := by
  conv => lhs; rw [← List.take_append_drop n l, zaG, List.length_take, Nat.min_eq_left hn]
 rw [e, Nat.add_mul_mod_self_left, Nat.mod_eq_of_lt (zdu h hn)]
theorem zlN {x : Int} (h : 0 ≤ x ∧ x < 4294967296) : Ev (fun k => zcQ.f k x) ((32 - bl x.toNat : Nat) : Int) := by
 have hb : bl x.toNat ≤ 32 := zI (by omega)
 unfold zcQ.f
 refine Ev.bind (zhC h) (zi (Ev.now _) ?_)
 unfold wrap64; omega
theorem zhL {a v : List Int} (s : Int) (ha : a.length < 10000000) {res : List Int × List Int} : ∀ (d : Nat) (u : List Int), u.length + d = a.length + 1 → v.length ≤ a.length →
  Ev (fun k => zV.l1 k s v (u ++ List.replicate d 0) v.length (List.replicate (a.length + 1 - v.length) 0) (((a.length + 1 - v.length : Nat) : Int) - 1)) res →
  Ev (fun k => zV.l0 k a s v u) res
 | 0, u, hu, hv, H => by
  refine zf ?_
  have e1 : wrap64 ((u.length : Int) - (v.length : Int)) = ((a.length + 1 - v.length : Nat) : Int) := by unfold wrap64; omega
  have e2 : wrap64 ((((List.replicate (a.length + 1 - v.length) (0 : Int)).length : Nat) : Int) - 1) = ((a.length + 1 - v.length : Nat) : Int) - 1 := by rw [List.length_replicate]; unfold wrap64; omega
  simp only [zV.l0, e1, Int.toNat_natCast, Option.bind_some, e2]
  (repeat (first | with_reducible refine ep ?_ | with_reducible refine en ?_))
  simpa using H
 | d + 1, u, hu, hv, H => by
  refine zf ?_
  simp only [zV.l0]
  (repeat (first | with_reducible refine ep ?_ | with_reducible refine en ?_))
  refine zhL s ha d (u ++ [0]) (by simp; omega) hv ?_
  have e : u ++ [0] ++ List.replicate d 0 = u ++ List.replicate (d + 1) 0 := by rw [List.append_assoc, List.replicate_succ]; rfl
  rw [e]; exact H
theorem zg7 (w p : Nat) : w = p * (w / p) + w % p := (Nat.div_add_mod w p).symm
theorem zlD {B W Y T t R p Vu X L : Nat} (hW : W = T * (Y * (p * B)) + Vu) (hVu : Vu = p * X + L) (hX : X = Y * t + R) : W = (t + B * T) * (Y * p) + (L + p * R) := by
 rw [hW, hVu, hX, Nat.mul_add, Nat.add_mul]
 have e1 : T * (Y * (p * B)) = B * T * (Y * p) := by ac_rfl
 have e2 : p * (Y * t) = t * (Y * p) := by ac_rfl
 rw [e1, e2]; omega
def Pw (n M : Nat) : Prop := M = 4294967296 ^ n
theorem Pw.up {n M x : Nat} (hM : Pw n M) (h : x < M * 4294967296) : x < 4294967296 ^ (n + 1) := by rw [zcF, ← hM]; exact h
theorem Pw.at {n M x : Nat} (hM : Pw n M) (h : x < M) : x < 4294967296 ^ n := by rw [← hM]; exact h
def Top (v : List Int) (m : Nat) : Prop := 4294967296 ^ (m + 1) ≤ V v
theorem Top.pos {v : List Int} {m : Nat} (h : Top v m) : 0 < V v := Nat.lt_of_lt_of_le (Nat.pow_pos (by omega)) h
theorem zlC {R Y p L : Nat} (hR : R < Y) (hL : L < p) : L + p * R < Y * p := by
 have := Nat.mul_le_mul_left p (Nat.succ_le_of_lt hR)
 rw [Nat.mul_succ, Nat.mul_comm p Y] at this
 omega
theorem w3 {i m : Nat} (h1 : i < 100000000) (h2 : m < 100000000) : wrap64 (wrap64 ((i : Int) + ((m + 2 : Nat) : Int)) + 1) = ((i + (m + 3) : Nat) : Int) := by unfold wrap64; omega
def Inv (W T Y p Vu : Nat) : Prop := W = T * (Y * p) + Vu ∧ Vu < Y * p
theorem Inv.next {B W T Y p Vu X t R L : Nat} (h : Inv W T Y (p * B) Vu) (h1 : Vu = p * X + L) (h2 : X = Y * t + R) (h3 : R < Y) (h4 : L < p) : Inv W (t + B * T) Y p (L + p * R) :=
 ⟨zlD h.1 h1 h2, zlC h3 h4⟩
theorem Inv.quo {W T Y p B Vu : Nat} (h : Inv W T Y (p * B) Vu) (hp : 0 < p) : Vu / p < Y * B := by
 rw [Nat.div_lt_iff_lt_mul hp, Nat.mul_assoc, Nat.mul_comm B p]; exact h.2
theorem Inv.succ {W T Y i Vu : Nat} (h : Inv W T Y (4294967296 ^ (i + 1)) Vu) : Inv W T Y (4294967296 ^ i * 4294967296) Vu := by rw [← zcF]; exact h
theorem Inv.end {W T Y Vu : Nat} (h : Inv W T Y (4294967296 ^ 0) Vu) (hp : 0 < Y) : W / Y = T ∧ W % Y = Vu ∧ Vu < Y := by
 obtain ⟨h1, h2⟩ := h
 rw [Nat.pow_zero, Nat.mul_one] at h1 h2
 exact ⟨by rw [h1, Nat.mul_comm, Nat.mul_add_div hp, Nat.div_eq_of_lt h2, Nat.add_zero], by rw [h1, Nat.mul_comm, Nat.mul_add_mod, Nat.mod_eq_of_lt h2], h2⟩
theorem zmp {u : List Int} {i m N : Nat} (hu : Dg u) (lu : u.length = N) (hi : i + (m + 3) ≤ N) (hX : V u / 4294967296 ^ i < 4294967296 ^ (m + 3)) : V ((u.take (i + (m + 3))).drop i) = V u / 4294967296 ^ i ∧ V (u.drop (i + (m + 3))) = 0 := by
 have e : i + (m + 3) - i = m + 3 := Nat.add_sub_cancel_left ..
 constructor
 ·rw [List.drop_take, e, ze8 (hu.drop i) (by rw [List.length_drop, lu]; clear hX; omega), zds hu, Nat.mod_eq_of_lt hX]
 ·rw [zds hu, Nat.pow_add, ← Nat.div_div_eq_div_mul, Nat.div_eq_of_lt hX]
theorem znP {u w : List Int} {i j R : Nat} (hi : i ≤ u.length) (hw : V w = R) (h0 : V (u.drop j) = 0) : V (u.take i ++ w ++ u.drop j) = V (u.take i) + 4294967296 ^ i * R := by
 rw [zaG, h0, zaG, List.length_take, Nat.min_eq_left hi, hw, Nat.mul_zero, Nat.add_zero]
theorem znb {u : List Int} (hu : Dg u) {i : Nat} (hi : i ≤ u.length) : V u = 4294967296 ^ i * (V u / 4294967296 ^ i) + V (u.take i) := by rw [ze8 hu hi]; exact zg7 _ _
theorem zhM {v : List Int} {m N s W : Nat} (hv : Dg v) (lv : v.length = m + 2) (hm : m < 10000000) (hN : N < 10000000) (hs : s < 1000000000) (htop : Top v m) {M : Nat} (hM : Pw (m + 2) M) (hvl : V v < M) : ∀ (i T : Nat) (u done : List Int), i + (m + 2) ≤ N → u.length = N → Dg u → Dg done → i + done.length + (m + 2) = N → V done = T → Inv W T (V v) (4294967296 ^ i) (V u) →
  Ev (fun k => zV.l1 k s v u ((m + 2 : Nat) : Int) (List.replicate i 0 ++ done) ((i : Int) - 1)) (D (W / V v), D (W % V v / 2 ^ s))
 | 0, T, u, done, hi, lu, hu, hdn, hdl, hT, hI => by
  obtain ⟨h1, h2, hlt⟩ := hI.end htop.pos
  have l1 : (D (V u)).length ≤ m + 2 := zbx (hM.at (Nat.lt_trans hlt hvl))
  have l2 : (D (V u / 2 ^ s)).length ≤ m + 2 := zbx (hM.at (Nat.lt_of_le_of_lt (Nat.div_le_self (V u) (2 ^ s)) (Nat.lt_trans hlt hvl)))
  have et : V (u.take (m + 2)) = V u := by rw [ze8 hu (by omega), Nat.mod_eq_of_lt (hM.at (Nat.lt_trans hlt hvl))]
  rw [h1, h2]
  clear h1 h2 hlt hI
  refine zf ?_
  simp only [zV.l1]
  (repeat (first | with_reducible refine ep ?_ | with_reducible refine en ?_))
  refine Ev.bind (zbZ (l := List.replicate 0 0 ++ done) (by simpa using hdn) (by simp; omega)) ?_
  (repeat (first | with_reducible refine ep ?_ | with_reducible refine en ?_))
  refine Ev.bind (zbZ (hu.take _) (by simp; omega)) ?_
  rw [Int.toNat_natCast, et]
  refine Ev.bind (zh0 (zaA _) (by omega) s (by omega)) ?_
  rw [V_D]
  refine Ev.bind (zbZ (zaA _) (by omega)) (zi (Ev.now _) ?_)
  rw [V_D]; simp [hT]
 | i + 1, T, u, done, hi, lu, hu, hdn, hdl, hT, hI => by
  have hp : 0 < 4294967296 ^ i := Nat.pow_pos (Nat.zero_lt_succ _)
  have hI2 := hI.succ
  have hX := hI2.quo hp
  have hXM : V u / 4294967296 ^ i < M * 4294967296 := Nat.lt_trans hX (Nat.mul_lt_mul_of_pos_right hvl (Nat.zero_lt_succ _))
  obtain ⟨hpc, hdd⟩ := zmp (i := i) (m := m) hu lu (by omega) (hM.up hXM)
  have hlen : ((u.take (i + (m + 3))).drop i).length = m + 3 := by rw [List.length_drop, List.length_take]; omega
  have hst := zl4 (u := (u.take (i + (m + 3))).drop i) hv ((hu.take _).drop _) lv hlen (by omega) htop (by rw [hpc]; exact hX)
  rw [hpc] at hst
  have hsp := znb hu (i := i) (by omega)
  have hLt : V (u.take i) < 4294967296 ^ i := zdu hu (by omega)
  clear hI hp hpc
  generalize V u / 4294967296 ^ i = X at *
  have hR : X % V v < V v := Nat.mod_lt _ htop.pos
  have htB : X / V v < 4294967296 := by rw [Nat.div_lt_iff_lt_mul htop.pos, Nat.mul_comm]; exact hX
  have hdk : (Dk (m + 3) (X % V v)).length = m + 3 := zgv (hM.up (Nat.lt_of_le_of_lt (Nat.mod_le _ _) hXM))
  have hI3 := hI2.next hsp (zg7 X (V v)) hR hLt
  rw [← znP (u := u) (w := Dk (m + 3) (X % V v)) (by omega) (ze4 _ _) hdd] at hI3
  clear hI2 hsp hLt hdd hX hXM hR
  have ih := zhM hv lv hm hN hs htop hM hvl i (X / V v + 4294967296 * T) (u.take i ++ Dk (m + 3) (X % V v) ++ u.drop (i + (m + 3))) (((X / V v : Nat) : Int) :: done) (by omega) (by simp [hdk]; omega) (((hu.take _).app (zgt _ _)).app (hu.drop _)) (Dg.cons nn (zeD htB) hdn) (by simp; omega) (by rw [zB, hT, Int.toNat_natCast]) hI3
  clear hI3 htB
  have e0 : ((i + 1 : Nat) : Int) - 1 = (i : Int) := by omega
  have e2 : wrap64 ((i : Int) - 1) = (i : Int) - 1 := zb4 (by omega)
  have hs2 : (List.replicate (i + 1) (0 : Int) ++ done).set ((i : Int)).toNat ((X / V v : Nat) : Int) = List.replicate i 0 ++ ((X / V v : Nat) : Int) :: done := by
   rw [zjq, zaW (by simp)]; simp
  rw [e0]
  refine zf ?_
  simp only [zV.l1, w3 (i := i) (m := m) (by omega) (by omega), e2]
  clear e2 e0
  (repeat (first | with_reducible refine ep ?_ | with_reducible refine en ?_))
  simp only [Int.toNat_natCast]
  refine Ev.bind hst ?_
  (repeat (first | with_reducible refine ep ?_ | with_reducible refine en ?_))
  rw [Int.toNat_natCast] at hs2
  rw [hs2]
  exact ih
theorem znI {b : List Int} {m d : Nat} (hb : Nm b) (lb : b.length = m + 2) (hd : (b.getD (m + 1) 0).toNat = d) : 0 < d ∧ d < 4294967296 ∧ 4294967296 ^ (m + 1) * d ≤ V b ∧ V b < 4294967296 ^ (m + 1) * (d + 1) := by
 obtain ⟨bl0, x2, x1, rfl, hl⟩ := zgf lb
 have e : bl0 ++ [x2, x1] = (bl0 ++ [x2]) ++ [x1] := by simp
 rw [e] at hb hd ⊢
 have hlen : (bl0 ++ [x2]).length = m + 1 := by simp [hl]
 have h1 := ze5 hb
 have h2 := hb.dg x1 (by simp)
 have hv := zar hb.dg.left
 rw [hlen] at hv
 have hx : ((bl0 ++ [x2]) ++ [x1]).getD (m + 1) 0 = x1 := by rw [← hlen]; simp
 rw [hx] at hd
 rw [zaG, hlen]
 simp only [zB, za4, Nat.mul_zero, Nat.add_zero, hd]
 rw [Nat.mul_add, Nat.mul_one]
 generalize 4294967296 ^ (m + 1) = p at *
 refine ⟨by omega, by omega, by omega, by omega⟩
theorem zl8 {Va Vb p d s B pi Ba : Nat} (hs : (d + 1) * 2 ^ s ≤ B) (h1 : p * d ≤ Vb) (h2 : Vb < p * (d + 1)) (hd : 0 < d) (hp : 0 < p) (ha : Va < Ba) (hB : Ba = p * pi) (hpi : 0 < pi) : Vb * 2 ^ s < p * B ∧ p ≤ Vb * 2 ^ s ∧ Va * 2 ^ s < Ba * B ∧ Va * 2 ^ s < Vb * 2 ^ s * pi := by
 have hz : 0 < 2 ^ s := zh s
 have e1 : p ≤ Vb := Nat.le_trans (by have := Nat.mul_le_mul_left p hd; omega) h1
 have hsB : 2 ^ s ≤ B := Nat.le_trans (by have := Nat.mul_le_mul_right (2 ^ s) (show 1 ≤ d + 1 by omega); omega) hs
 generalize 2 ^ s = z at *
 refine ⟨?_, ?_, ?_, ?_⟩
 ·refine Nat.lt_of_lt_of_le (Nat.mul_lt_mul_of_pos_right h2 hz) ?_
  rw [Nat.mul_assoc]; exact Nat.mul_le_mul_left _ hs
 ·exact Nat.le_trans e1 (Nat.le_mul_of_pos_right _ hz)
 ·exact Nat.lt_of_lt_of_le (Nat.mul_lt_mul_of_pos_right ha hz) (Nat.mul_le_mul_left _ hsB)
 ·refine Nat.lt_of_lt_of_le (Nat.mul_lt_mul_of_pos_right ha hz) ?_
  rw [hB, Nat.mul_right_comm]
  exact Nat.mul_le_mul_right _ (Nat.mul_le_mul_right _ e1)
theorem zl3 {a b : List Int} (ha : Nm a) (hb : Nm b) (la : a.length ≤ 4096) (lb : b.length ≤ a.length) (h2 : 2 ≤ b.length) : Ev (fun k => zV.f k a b) (D (V a / V b), D (V a % V b)) := by
 obtain ⟨m, lm⟩ : ∃ m, b.length = m + 2 := ⟨b.length - 2, by omega⟩
 obtain ⟨hd0, hdB, hlo, hhi⟩ := znI hb lm rfl
 have hrd : rd b ((m + 1 : Nat) : Int) = b.getD (m + 1) 0 := rdn _ _
 have zhx := hb.dg.getD (m + 1)
 have hlz := zlN zhx
 generalize (b.getD (m + 1) 0).toNat = d at *
 have hbl : bl d ≤ 32 := zI (by omega)
 have hblp : 0 < bl d := za6 (by omega)
 obtain ⟨s, hs⟩ : ∃ s, s = 32 - bl d := ⟨_, rfl⟩
 have hs32 : (d + 1) * 2 ^ s ≤ 4294967296 := by
  have h1 := Nat.mul_le_mul_right (2 ^ s) (Nat.succ_le_of_lt (zP d))
  rw [hs, pw hbl] at h1
  rw [hs]; exact h1
 have hi : m + 1 + (a.length - (m + 1)) = a.length := by omega
 have hnn := zl8 (Va := V a) (Vb := V b) (s := s) (B := 4294967296) (pi := 4294967296 ^ (a.length - (m + 1))) (Ba := 4294967296 ^ a.length) hs32 hlo hhi hd0 (Nat.pow_pos (Nat.zero_lt_succ _)) (zar ha.dg) (by rw [← Nat.pow_add, hi]) (Nat.pow_pos (Nat.zero_lt_succ _))
 obtain ⟨n1, n2, n3, n4⟩ := hnn
 rw [← zcF] at n1 n3
 have hup1 := zfP hb.dg (by omega) s (by omega)
 have hup2 := zfP ha.dg (by omega) s (by omega)
 have lY : (D (V b * 2 ^ s)).length = m + 2 := by
  have h3 := zbx n1
  rcases Nat.lt_or_ge (D (V b * 2 ^ s)).length (m + 2) with h4 | h4
  ·exfalso
   have h5 := zjK (zaA (V b * 2 ^ s)) (n := m + 1) (by omega)
   rw [V_D] at h5
   exact Nat.not_lt.2 n2 h5
  ·omega
 have lW : (D (V a * 2 ^ s)).length ≤ a.length + 1 := zbx n3
 have hT : Top (D (V b * 2 ^ s)) m := by unfold Top; rw [V_D]; exact n2
 have e1 : V a * 2 ^ s / (V b * 2 ^ s) = V a / V b := Nat.mul_div_mul_right _ _ (zh s)
 have e2 : V a * 2 ^ s % (V b * 2 ^ s) / 2 ^ s = V a % V b := by rw [Nat.mul_mod_mul_right, Nat.mul_div_cancel _ (zh s)]
 have hu : V (D (V a * 2 ^ s) ++ List.replicate (a.length + 1 - (D (V a * 2 ^ s)).length) 0) = V a * 2 ^ s := ze4 (a.length + 1) (V a * 2 ^ s)
 have main := zhM (v := D (V b * 2 ^ s)) (m := m) (N := a.length + 1) (s := s) (W := V a * 2 ^ s) (zaA _) lY (by omega) (by omega) (by omega) hT (M := 4294967296 ^ (m + 2)) rfl (by rw [V_D]; exact n1) (a.length - (m + 1)) 0 (D (V a * 2 ^ s) ++ List.replicate (a.length + 1 - (D (V a * 2 ^ s)).length) 0) [] (by omega) (by rw [List.length_append, List.length_replicate]; omega) ((zaA _).app (Dg.zeros _)) Dg.nil (by rw [List.length_nil]; omega) rfl ⟨by rw [hu]; omega, by rw [hu, V_D]; exact n4⟩
 rw [V_D, e1, e2, List.append_nil] at main
 clear n1 n2 n3 n4 hlo hhi hT e1 e2 hu hs32
 unfold zV.f
 have e3 : wrap64 ((b.length : Int) - 1) = ((m + 1 : Nat) : Int) := by unfold wrap64; omega
 simp only [e3, hrd]
 clear e3
 (repeat (first | with_reducible refine ep ?_ | with_reducible refine en ?_))
 refine Ev.bind hlz ?_
 rw [← hs]
 refine Ev.bind hup1 (Ev.bind hup2 ?_)
 refine zhL (s : Int) (by omega) (a.length + 1 - (D (V a * 2 ^ s)).length) _ (by omega) (by omega) ?_
 have e4 : a.length + 1 - (m + 2) = a.length - (m + 1) := by omega
 rw [lY, e4]
 exact main
def zf3 (m n : Nat) : List Int × List Int × Int := if n = 0 then ([], [], 11) else (D (m / n), D (m % n), 0)
theorem zgR {m n : Nat} : (za9 m n < 0) ↔ m < n := by
 have := zke (m := m) (n := n)
 constructor <;> intro h <;> omega
theorem zjw {a b : List Int} (ha : Nm a) (hb : Nm b) (h : V b ≤ V a) : b.length ≤ a.length := by
 have h1 := zbx (Nat.lt_of_le_of_lt h (zar ha.dg))
 rwa [hb] at h1
theorem zl0 {a b : List Int} (ha : Nm a) (hb : Nm b) (la : a.length ≤ 4096) (lb : b.length ≤ 4096) : Ev (fun k => zck.f k a b) (zf3 (V a) (V b)) := by
 have hall := zgE ha.dg hb.dg (by omega) (by omega)
 rw [zbr.2 ⟨la, ha⟩, zbr.2 ⟨lb, hb⟩] at hall
 unfold zck.f zf3
 refine Ev.bind hall ?_
 (repeat (first | with_reducible refine ep ?_ | with_reducible refine en ?_))
 by_cases h0 : b = []
 ·subst h0
  (repeat (first | with_reducible refine ep ?_ | with_reducible refine en ?_))
  exact zi (Ev.now _) (by simp)
 have hb0 := zgC hb h0
 have hlp : 0 < b.length := List.length_pos_iff.2 h0
 rw [if_neg hb0]
 (repeat (first | with_reducible refine ep ?_ | with_reducible refine en ?_))
 refine Ev.bind (zl2 ha hb (by omega)) ?_
 (repeat (first | with_reducible refine ep ?_ | with_reducible refine en ?_))
 by_cases hc : V a < V b
 ·refine zd (zgR.2 hc) ?_
  (repeat (first | with_reducible refine ep ?_ | with_reducible refine en ?_))
  refine zi (Ev.now _) ?_
  rw [Nat.div_eq_of_lt hc, Nat.mod_eq_of_lt hc, zK, ha]
 refine ze (fun h => hc (zgR.1 h)) ?_
 by_cases h1 : b.length = 1
 ·obtain ⟨d, rfl⟩ := List.length_eq_one_iff.1 h1
  have hd := hb.dg.head
  have hdne : d ≠ 0 := by simp at hb0; omega
  have h4 : rd [d] 0 = d := by simp [rd]
  have h5 : V [d] = d.toNat := by simp
  rw [h4, h5]
  (repeat (first | with_reducible refine ep ?_ | with_reducible refine en ?_))
  refine Ev.bind (zh2 ha.dg (by omega) (d := d) (by omega)) ?_
  (repeat (first | with_reducible refine ep ?_ | with_reducible refine en ?_))
  have hm : V a % d.toNat < d.toNat := Nat.mod_lt _ (by omega)
  refine Ev.bind (zbZ (Dg.cons nn (zeD (by omega)) Dg.nil) (by simp)) ?_
  (repeat (first | with_reducible refine ep ?_ | with_reducible refine en ?_))
  refine zi (Ev.now _) ?_
  simp only [zB, za4, Int.toNat_natCast, Nat.mul_zero, Nat.add_zero]
 ·(repeat (first | with_reducible refine ep ?_ | with_reducible refine en ?_))
  refine Ev.bind (zl3 ha hb la (zjw ha hb (by omega)) (by omega)) ?_
  (repeat (first | with_reducible refine ep ?_ | with_reducible refine en ?_))
  refine Ev.now _
theorem zlX (a b : Nat) : mx (a : Int) (b : Int) = ((max a b : Nat) : Int) := by unfold mx; split <;> omega
theorem zeF (a b : Int) : mx a b = max a b := by unfold mx; split <;> omega
theorem zda {l : List Int} (h : Nm l) (hb : l.length ≤ 4096) : Ev (fun k => zak.f k l) ((bl (V l) : Nat) : Int) := by
 unfold zak.f
 refine zk (zbY h.dg (by omega)) ?_
 rw [zbr.2 ⟨hb, h⟩]
 (repeat (first | with_reducible refine ep ?_ | with_reducible refine en ?_))
 by_cases c : l.length = 0
 ·have : l = [] := List.eq_nil_of_length_eq_zero c
  subst this
  (repeat (first | with_reducible refine ep ?_ | with_reducible refine en ?_))
  exact zi (Ev.now _) rfl
 ·have e : wrap64 ((l.length : Int) - 1) = ((l.length - 1 : Nat) : Int) := by unfold wrap64; omega
  rw [e]
  clear e
  have hd := h.dg.getD (l.length - 1)
  have hne : l ≠ [] := fun e => c (by rw [e]; rfl)
  rw [rdn]
  (repeat (first | with_reducible refine ep ?_ | with_reducible refine en ?_))
  refine Ev.bind (zhC hd) (zi (Ev.now _) ?_)
  rw [zj1 h hne]
  generalize l.getD (l.length - 1) 0 = x at hd
  have hbn : bl x.toNat ≤ 32 := zI (by omega)
  unfold wrap64
  omega
def zaq (n b : Nat) : Prop := ∃ m, n = 2 ^ b * (2 * m + 1)
theorem zaq.ne {n b : Nat} (h : zaq n b) : n ≠ 0 := by
 obtain ⟨m, h⟩ := h
 have := Nat.mul_pos (zh b) (show 0 < 2 * m + 1 by omega)
 omega
theorem zaq.le {n b : Nat} (h : zaq n b) : 2 ^ b ≤ n := by
 obtain ⟨m, h⟩ := h
 rw [h]; exact Nat.le_mul_of_pos_right _ (by omega)
theorem zaq.mod {n b k : Nat} (h : zaq n b) : n % 2 ^ k = 0 ↔ k ≤ b := by
 obtain ⟨m, h⟩ := h
 constructor
 ·intro hk
  rcases Nat.lt_or_ge b k with h1 | h1
  ·exfalso
   obtain ⟨d, rfl⟩ := Nat.exists_eq_add_of_lt h1
   have hd : 2 ^ (b + d + 1) ∣ 2 ^ b * (2 * m + 1) := by rw [← h]; exact Nat.dvd_of_mod_eq_zero hk
   rw [Nat.add_assoc, Nat.pow_add] at hd
   have h2 := Nat.dvd_of_mul_dvd_mul_left (zh b) hd
   rw [Nat.pow_succ] at h2
   have h3 : 2 ∣ 2 * m + 1 := Nat.dvd_trans (Nat.dvd_mul_left 2 _) h2
   omega
  ·exact h1
 ·intro hk
  obtain ⟨d, rfl⟩ := Nat.exists_eq_add_of_le hk
  rw [h, Nat.pow_add, Nat.mul_assoc]
  exact Nat.mul_mod_right _ _
theorem zaq.unique {n b c : Nat} (h : zaq n b) (k : zaq n c) : b = c := by
 have h1 := (h.mod (k := b)).2 (Nat.le_refl _)
 have h2 := (k.mod (k := c)).2 (Nat.le_refl _)
 have h3 := k.mod.1 h1
 have h4 := h.mod.1 h2
 omega
theorem zhA {n b k : Nat} (h : zaq n b) : zaq (n * 2 ^ k) (b + k) := by
 obtain ⟨m, h⟩ := h
 exact ⟨m, by rw [h, Nat.pow_add, Nat.mul_assoc, Nat.mul_comm (2 * m + 1), ← Nat.mul_assoc]⟩
theorem zli {x : Nat} (h : x ≠ 0) (hx : x < 4294967296) : zaq x (Lib.ctz 32 x) ∧ Lib.ctz 32 x < 32 := by
 obtain ⟨m, h1, h2⟩ := Lib.ctzFrom_spec 32 x (by omega) hx
 unfold Lib.ctz
 rw [if_neg h]
 exact ⟨⟨m, h1⟩, h2⟩
theorem zlh {x r b : Nat} (h : zaq x b) (hb : b < 32) : zaq (x + 4294967296 * r) b := by
 obtain ⟨m, h⟩ := h
 obtain ⟨d, hd⟩ : ∃ d, 32 = b + (d + 1) := ⟨31 - b, by omega⟩
 have e : 4294967296 = 2 ^ b * (2 ^ d * 2) := by
  rw [← Nat.pow_succ, ← Nat.pow_add, Nat.succ_eq_add_one, ← hd]
 have e2 : 2 ^ b * (2 ^ d * 2) * r = 2 ^ b * (2 * (2 ^ d * r)) := by
  rw [Nat.mul_assoc, Nat.mul_comm (2 ^ d) 2, Nat.mul_assoc]
 refine ⟨m + 2 ^ d * r, ?_⟩
 rw [h, e, e2, ← Nat.mul_add]
 congr 1
 omega
def lw (n : Nat) : Nat := if n = 0 then 0 else Lib.ctzFrom n n
theorem zbG {n : Nat} (h : n ≠ 0) : zaq n (lw n) := by
 obtain ⟨m, h1, _⟩ := Lib.ctzFrom_spec n n (by omega) Nat.lt_two_pow_self
 unfold lw
 rw [if_neg h]
 exact ⟨m, h1⟩
theorem zfF {n b : Nat} (h : zaq n b) : lw n = b := (zbG h.ne).unique h
theorem znw {x : Int} (h : 0 ≤ x ∧ x < 4294967296) : zaH.f x = some ((Lib.ctz 32 x.toNat : Nat) : Int) := by
 unfold zaH.f
 rw [if_pos h]
theorem znK {i b : Nat} (hi : i < 1000000) (hb : b < 32) : wrap64 (wrap64 (32 * (i : Int)) + (b : Int)) = ((b + 32 * i : Nat) : Int) := by unfold wrap64; omega
theorem zh3 (A : List Int) (hA : Dg A) (hl : A.length < 1000000) : ∀ (a pa : List Int), A = pa ++ a → V pa = 0 → Ev (fun k => zaD.l0 k A A.length pa.length) ((lw (V A) : Nat) : Int)
 | [], pa, he, hv => by
  have hlen : A.length = pa.length := by rw [he]; simp
  refine zf ?_
  simp only [zaD.l0]
  (repeat (first | with_reducible refine ep ?_ | with_reducible refine en ?_))
  refine zi (Ev.now _) ?_
  have : V A = 0 := by rw [he, List.append_nil, hv]
  rw [this]; rfl
 | d :: a, pa, he, hv => by
  have hlen : A.length = pa.length + 1 + a.length := by rw [he]; simp; omega
  have hdd : 0 ≤ d ∧ d < 4294967296 := by rw [he] at hA; exact hA.right.head
  have h1 : rd A (pa.length : Int) = d := by rw [he]; exact zW rfl
  refine zf ?_
  simp only [zaD.l0, h1, zbw (n := pa.length) (by omega)]
  (repeat (first | with_reducible refine ep ?_ | with_reducible refine en ?_))
  by_cases h0 : d = 0
  ·refine ze (fun h => h h0) ?_
   have := zh3 A hA hl a (pa ++ [0]) (by rw [he, h0]; simp) (by rw [ze7, hv])
   rwa [@List.length_append _ pa, List.length_singleton] at this
  ·refine zd h0 ?_
   refine zk (znw hdd) ?_
   (repeat (first | with_reducible refine ep ?_ | with_reducible refine en ?_))
   refine zi (Ev.now _) ?_
   have hz := zli (x := d.toNat) (by omega) (by omega)
   have e : V A = (d.toNat + 4294967296 * V a) * 2 ^ (32 * pa.length) := by
    rw [he, zaG, hv, zB, Nat.zero_add, Nat.mul_comm, Nat.pow_mul]
   rw [e, zfF (zhA (zlh hz.1 hz.2)), znK (by omega) hz.2]
theorem zhW {a : List Int} (ha : Nm a) (la : a.length ≤ 4096) : Ev (fun k => zaD.f k a) ((lw (V a) : Nat) : Int) := by
 unfold zaD.f
 refine zk (zbY ha.dg (by omega)) ?_
 rw [zbr.2 ⟨la, ha⟩]
 (repeat (first | with_reducible refine ep ?_ | with_reducible refine en ?_))
 exact zh3 a ha.dg (by omega) a [] rfl rfl
theorem zjL {l : List Int} (h : Dg l) (q : Nat) : V l / 4294967296 ^ q % 4294967296 = (l.getD q 0).toNat := by
 have h1 := zjM (l.drop q)
 rw [zkH, zds h] at h1
 have h2 := h.getD q
 rw [h1, Nat.add_mul_mod_self_left, Nat.mod_eq_of_lt (by omega)]
theorem zlL {n k : Nat} (h : n ≠ 0) : k > lw n ↔ n % 2 ^ k ≠ 0 := by
 have := (zbG h).mod (k := k)
 constructor
 ·intro h1 h2; have := this.1 h2; omega
 ·intro h1; rcases Nat.lt_or_ge (lw n) k with h2 | h2
  ·exact h2
  ·exact absurd (this.2 h2) h1
def zbL (v : Nat) (n : Int) : List Int × Bool × Int :=
 if v = 0 then ([], false, 0) else if n < -131072 then ([], true, 0) else if n < 0 then (D (v / 2 ^ (-n).toNat), decide (v % 2 ^ (-n).toNat ≠ 0), 0) else if n > 131072 - (bl v : Int) then ([], false, 3) else (D (v * 2 ^ n.toNat), false, 0)
theorem zdR {a : List Int} (ha : Nm a) (la : a.length ≤ 4096) (n : Int) : Ev (fun k => zal.f k a n) (zbL (V a) n) := by
 unfold zal.f zbL
 refine zk (zbY ha.dg (by omega)) ?_
 rw [zbr.2 ⟨la, ha⟩]
 (repeat (first | with_reducible refine ep ?_ | with_reducible refine en ?_))
 by_cases c : a = []
 ·subst c
  (repeat (first | with_reducible refine ep ?_ | with_reducible refine en ?_))
  exact zi (Ev.now _) (by simp)
 have h0 : V a ≠ 0 := fun h => c ((zdt ha).1 h)
 have hl : a.length ≠ 0 := fun h => c (List.eq_nil_of_length_eq_zero h)
 have hbl := zdw ha.dg
 rw [if_neg h0]
 (repeat (first | with_reducible refine ep ?_ | with_reducible refine en ?_))
 by_cases h1 : n < -131072
 ·rw [if_pos h1]; exact zd h1 (Ev.now _)
 rw [if_neg h1]
 refine ze h1 ?_
 by_cases h2 : n < 0
 ·rw [if_pos h2]
  have e : wrap64 (-n) = (((-n).toNat : Nat) : Int) := by unfold wrap64; omega
  rw [e]
  clear e
  have hm : (-n).toNat ≤ 131072 := by omega
  generalize (-n).toNat = m at *
  refine zd h2 ?_
  refine Ev.bind (zh0 ha.dg (by omega) m (by omega)) ?_
  (repeat (first | with_reducible refine ep ?_ | with_reducible refine en ?_))
  refine Ev.bind (zhW ha la) ?_
  (repeat (first | with_reducible refine ep ?_ | with_reducible refine en ?_))
  refine zi (Ev.now _) ?_
  congr 2
  exact decide_eq_decide.2 (by rw [← zlL h0]; omega)
 ·rw [if_neg h2]
  have e : wrap64 (131072 - ((bl (V a) : Nat) : Int)) = 131072 - ((bl (V a) : Nat) : Int) := by unfold wrap64; omega
  refine ze h2 ?_
  refine Ev.bind (zda ha la) ?_
  (repeat (first | with_reducible refine ep ?_ | with_reducible refine en ?_))
  rw [e]
  clear e
  by_cases h3 : n > 131072 - ((bl (V a) : Nat) : Int)
  ·rw [if_pos h3]; exact zd h3 (Ev.now _)
  ·rw [if_neg h3]
   obtain ⟨m, rfl⟩ := Int.eq_ofNat_of_zero_le (show 0 ≤ n by omega)
   refine ze h3 ?_
   refine Ev.bind (zfP ha.dg (by omega) m (by omega)) ?_
   (repeat (first | with_reducible refine ep ?_ | with_reducible refine en ?_))
   refine zi (Ev.now _) ?_
   rw [Int.toNat_natCast]
theorem zaK {x k : Nat} (h : bl x ≤ 32 * k) : (D x).length ≤ k := by
 refine zbx ?_
 have e : 4294967296 ^ k = 2 ^ (32 * k) := by rw [Nat.pow_mul]
 rw [e]
 exact Nat.lt_of_lt_of_le (zP x) (Nat.pow_le_pow_right (by omega) h)
theorem zfe (v m : Nat) : bl (v * 2 ^ m) ≤ bl v + m := by
 refine zI ?_
 rw [Nat.pow_add]
 exact Nat.mul_lt_mul_of_pos_right (zP v) (zh m)
theorem zaI {v : Nat} (h : v ≠ 0) (m : Nat) : bl (v * 2 ^ m) = bl v + m := by
 rw [zbS (n := v * 2 ^ m) (k := m) (Nat.le_mul_of_pos_left _ (by omega)), Nat.mul_div_cancel _ (zh m), Nat.add_comm]
theorem zbz (v m : Nat) : bl (v / 2 ^ m) = bl v - m := by
 rcases Nat.lt_or_ge v (2 ^ m) with h | h
 ·rw [Nat.div_eq_of_lt h, za7]
  have := zI h
  omega
 ·rw [zbS h]; omega
theorem zgd {v m : Nat} (h : bl v + m ≤ 131072) : zbL v (m : Int) = (D (v * 2 ^ m), false, 0) := by
 unfold zbL
 by_cases hv : v = 0
 ·rw [if_pos hv, hv, Nat.zero_mul, zK]
 ·rw [if_neg hv, if_neg (by omega), if_neg (by omega), if_neg (by omega), Int.toNat_natCast]
theorem zgc {v m : Nat} (h : bl v ≤ 131072) (hm : m ≤ 131072) : zbL v (-(m : Int)) = (D (v / 2 ^ m), decide (v % 2 ^ m ≠ 0), 0) := by
 by_cases hv : v = 0
 ·unfold zbL
  rw [if_pos hv, hv, Nat.zero_div, Nat.zero_mod, zK]; rfl
 rcases Nat.eq_zero_or_pos m with h0 | h0
 ·subst h0
  have e := zgd (v := v) (m := 0) (by omega)
  rw [Nat.pow_zero, Nat.mul_one] at e
  rw [Nat.pow_zero, Nat.div_one, Nat.mod_one]
  exact e
 ·unfold zbL
  have e : (-(-(m : Int))).toNat = m := by omega
  rw [if_neg hv, if_neg (by omega), if_pos (by omega), e]
def sv (s : Bool) (n : Nat) : Int := if s = true then -(n : Int) else n
theorem zaN (s : Bool) (n : Nat) : (sv s n).natAbs = n := by unfold sv; split <;> simp
theorem zcJ {s : Bool} {n : Nat} : sv s n = 0 ↔ n = 0 := by unfold sv; split <;> omega
theorem zd1 {s : Bool} {n : Nat} (h : n ≠ 0) : decide (sv s n < 0) = s := by
 unfold sv
 cases s
 ·exact decide_eq_false (by simp)
 ·exact decide_eq_true (by simp; omega)
theorem zeR (s : Bool) : sv s 0 = 0 := by unfold sv; split <;> rfl
def mk (z e : Int) : Bool × List Int × Int := if z = 0 then (false, [], 0) else (decide (z < 0), D (z.natAbs / 2 ^ lw z.natAbs), e + (lw z.natAbs : Nat))
theorem zhP (e : Int) : mk 0 e = (false, [], 0) := rfl
theorem zhN {n : Nat} (h : n ≠ 0) (k : Nat) : lw (n * 2 ^ k) = lw n + k := zfF (zhA (zbG h))
theorem zfH (z e : Int) (k : Nat) : mk (z * 2 ^ k) e = mk z (e + k) := by
 unfold mk
 by_cases h : z = 0
 ·subst h; simp
 ·have hp : (0 : Int) < 2 ^ k := Int.pow_pos (by omega)
  have h1 : z * 2 ^ k ≠ 0 := Int.mul_ne_zero h (by omega)
  have hn : z.natAbs ≠ 0 := by omega
  have h2 : (z * 2 ^ k).natAbs = z.natAbs * 2 ^ k := by rw [Int.natAbs_mul, Int.natAbs_pow]; rfl
  have h3 : decide (z * 2 ^ k < 0) = decide (z < 0) := decide_eq_decide.2 (by
   constructor
   ·intro h4
    rcases (show z < 0 ∨ 0 ≤ z by omega) with h5 | h5
    ·exact h5
    ·have := Int.mul_nonneg h5 (Int.le_of_lt hp); omega
   ·intro h4; exact Int.mul_neg_of_neg_of_pos h4 hp)
  rw [if_neg h, if_neg h1, h2, h3, zhN hn]
  have h4 : z.natAbs * 2 ^ k / 2 ^ (lw z.natAbs + k) = z.natAbs / 2 ^ lw z.natAbs := by
   rw [Nat.pow_add]; exact Nat.mul_div_mul_right _ _ (zh k)
  rw [h4]
  congr 2
  omega
structure Dy (s : Bool) (l : List Int) (e : Int) : Prop where
 nm : Nm l
 none : l = [] → s = false ∧ e = 0
 odd : l ≠ [] → V l % 2 = 1
theorem zeh (z e : Int) : Dy (mk z e).1 (mk z e).2.1 (mk z e).2.2 := by
 unfold mk
 by_cases h : z = 0
 ·rw [if_pos h]; exact ⟨zcv, fun _ => ⟨rfl, rfl⟩, fun h => absurd rfl h⟩
 ·rw [if_neg h]
  obtain ⟨m, hm⟩ := zbG (n := z.natAbs) (by omega)
  have h1 : z.natAbs / 2 ^ lw z.natAbs = 2 * m + 1 := by
   have : z.natAbs / 2 ^ lw z.natAbs = 2 ^ lw z.natAbs * (2 * m + 1) / 2 ^ lw z.natAbs := by rw [← hm]
   rw [this, Nat.mul_div_cancel_left _ (zh _)]
  have h2 : D (z.natAbs / 2 ^ lw z.natAbs) ≠ [] := by rw [h1, zcu (by omega)]; simp
  exact ⟨z6 _, fun h => absurd h h2, fun _ => by show V (D _) % 2 = 1; rw [V_D, h1]; omega⟩
theorem zeE (s : Bool) {n : Nat} (h : n ≠ 0) (e : Int) : mk (sv s n) e = (s, D (n / 2 ^ lw n), e + (lw n : Nat)) := by
 unfold mk
 rw [if_neg (fun h2 => h (zcJ.1 h2)), zaN, zd1 h]
theorem zdL {n : Nat} (h : n ≠ 0) : lw n < bl n := by
 have h1 := (zbG h).le
 rcases Nat.lt_or_ge (lw n) (bl n) with h2 | h2
 ·exact h2
 ·have h3 := zP n
  have h4 : 2 ^ bl n ≤ 2 ^ lw n := Nat.pow_le_pow_right (by omega) h2
  omega
theorem zeH {l : List Int} : (l.length : Int) = 0 ↔ l = [] := by
 constructor
 ·intro h; exact List.eq_nil_of_length_eq_zero (by omega)
 ·intro h; rw [h]; rfl
theorem znO {e : Int} {b : Nat} (h1 : -1000000000000000 ≤ e) (h2 : e ≤ 1000000000000000) (hb : b < 100000000000) : wrap64 (e + (b : Int)) = e + (b : Int) := by unfold wrap64; omega
def zdM (s : Bool) (n : Nat) (e : Int) : Bool × List Int × Int × Int :=
 if n = 0 then (false, [], 0, 0) else if e > 16777216 - (lw n : Nat) then (false, [], 0, 20) else if e < -16777216 - (lw n : Nat) then (false, [], 0, 20) else ((mk (sv s n) e).1, (mk (sv s n) e).2.1, (mk (sv s n) e).2.2, 0)
theorem zcd (s : Bool) {l : List Int} (hl : Nm l) (ll : l.length ≤ 4096) (e : Int) : Ev (fun k => zat.f k s l e) (zdM s (V l) e) := by
 unfold zat.f zdM
 refine zk (zbY hl.dg (by omega)) ?_
 rw [zbr.2 ⟨ll, hl⟩]
 (repeat (first | with_reducible refine ep ?_ | with_reducible refine en ?_))
 by_cases c : l = []
 ·subst c
  (repeat (first | with_reducible refine ep ?_ | with_reducible refine en ?_))
  exact zi (Ev.now _) (by rw [za4, if_pos rfl])
 ·have h0 : V l ≠ 0 := fun h => c ((zdt hl).1 h)
  have hb := zdw hl.dg
  have hw := zdL h0
  rw [if_neg h0]
  refine ze (fun h => c (zeH.1 h)) ?_
  refine Ev.bind (zhW hl ll) ?_
  (repeat (first | with_reducible refine ep ?_ | with_reducible refine en ?_))
  have e1 : wrap64 (16777216 - ((lw (V l) : Nat) : Int)) = 16777216 - ((lw (V l) : Nat) : Int) := by unfold wrap64; omega
  have e2 : wrap64 (-16777216 - ((lw (V l) : Nat) : Int)) = -16777216 - ((lw (V l) : Nat) : Int) := by unfold wrap64; omega
  have e3 : wrap64 (-((lw (V l) : Nat) : Int)) = -((lw (V l) : Nat) : Int) := by unfold wrap64; omega
  rw [e1, e2, e3]
  clear e1 e2 e3
  by_cases h1 : e > 16777216 - ((lw (V l) : Nat) : Int)
  ·rw [if_pos h1]; exact zd h1 (Ev.now _)
  rw [if_neg h1]
  refine ze h1 ?_
  by_cases h2 : e < -16777216 - ((lw (V l) : Nat) : Int)
  ·rw [if_pos h2]; exact zd h2 (Ev.now _)
  rw [if_neg h2]
  have hs := zdR hl ll (-((lw (V l) : Nat) : Int))
  rw [zgc (by omega) (by omega)] at hs
  refine ze h2 ?_
  refine Ev.bind hs ?_
  (repeat (first | with_reducible refine ep ?_ | with_reducible refine en ?_))
  refine zi (Ev.now _) ?_
  rw [zeE s h0, znO (by omega) (by omega) (by omega)]
def al (z e m : Int) : Int := z * 2 ^ (e - m).toNat
theorem zjQ (s : Bool) (n : Nat) (e m : Int) : al (sv s n) e m = sv s (n * 2 ^ (e - m).toNat) := by
 unfold al sv
 split
 ·rw [Int.neg_mul, Int.natCast_mul, Int.natCast_pow]; rfl
 ·rw [Int.natCast_mul, Int.natCast_pow]; rfl
theorem zhK {l : List Int} (c : l ≠ []) : (l.length : Int) > 0 := by
 have := List.length_pos_iff.2 c
 omega
theorem zlS {z e : Int} : (mk z e).2.1 = D (z.natAbs / 2 ^ lw z.natAbs) := by
 unfold mk
 by_cases h : z = 0
 ·subst h; rw [if_pos rfl]; simp [zK]
 ·rw [if_neg h]
theorem zeQ {s : Bool} {n : Nat} (h : n ≠ 0) : (sv s n).sign = if s = true then -1 else 1 := by
 unfold sv
 split
 ·exact Int.sign_eq_neg_one_of_neg (by omega)
 ·exact Int.sign_eq_one_of_pos (by omega)
def top (z e : Int) : Int := if z = 0 then 0 else e + (bl z.natAbs : Nat)
theorem ziR (s t : Bool) (x y : Nat) : sv s x * sv t y = sv (s != t) (x * y) := by
 unfold sv
 cases s <;> cases t <;> simp [Int.mul_neg, Int.neg_mul]
theorem zjU (X : Nat) (hX : X < 4294967296) : Go.bits .and .u32 (X : Int) 1 = ((X % 2 : Nat) : Int) := by
 have h1 : (BitVec.ofInt 32 (X : Int)).toNat = X := by
  rw [BitVec.ofInt_natCast, BitVec.toNat_ofNat]; exact Nat.mod_eq_of_lt (by omega)
 show IntKind.u32.wrap ((BitVec.ofInt 32 (X : Int) &&& BitVec.ofInt 32 1).toNat : Int) = _
 have h2 : (BitVec.ofInt 32 (1 : Int)).toNat = 1 := by decide
 have h3 : ∀ n : Int, IntKind.u32.wrap n = n % 4294967296 := fun n => by simp [IntKind.wrap, IntKind.signed, IntKind.bits]
 rw [BitVec.toNat_and, h1, h2, h3, Nat.and_one_is_mod]
 omega
theorem zlG {l : List Int} (h : Dg l) : Go.bits .and .u32 (rd l 0) 1 = ((V l % 2 : Nat) : Int) := by
 have h1 := h.getD 0
 have h2 := zjL h 0
 rw [Nat.pow_zero, Nat.div_one] at h2
 have h3 : rd l 0 = l.getD 0 0 := rdn l 0
 rw [h3]
 obtain ⟨x, hx⟩ := Int.eq_ofNat_of_zero_le h1.1
 rw [hx] at h1 h2 ⊢
 rw [zjU x (by omega)]
 rw [Int.toNat_natCast] at h2
 omega
structure My (s : Bool) (l : List Int) (e : Int) : Prop where
 dy : Dy s l e
 len : l.length ≤ 4096
 lo : -16777216 ≤ e
 hi : e ≤ 16777216
theorem zce {s : Bool} {l : List Int} {e : Int} (h : My s l e) : zbc.f s l e = some true := by
 obtain ⟨hd, hl, h1, h2⟩ := h
 unfold zbc.f
 rw [zbY hd.nm.dg (by omega), Option.bind_some, zbr.2 ⟨hl, hd.nm⟩, if_neg (by simp)]
 by_cases c : l = []
 ·obtain ⟨h3, h4⟩ := hd.none c
  subst c; subst h3; subst h4
  rfl
 ·have ho := hd.odd c
  rw [if_neg (fun h => c (zeH.1 h)), if_pos (zhK c), zlG hd.nm.dg, if_pos (by omega)]
  unfold zdI.f
  rw [if_pos h1, decide_eq_true h2]; rfl
theorem zft {s : Bool} {l : List Int} {e : Int} (h : My s l e) : Ev (fun k => zaJ.f k s l e) (sv s (V l)).sign := by
 unfold zaJ.f
 refine zk (zce h) ?_
 (repeat (first | with_reducible refine ep ?_ | with_reducible refine en ?_))
 refine zf ?_
 simp only [zaJ.j0]
 by_cases c : l = []
 ·subst c
  (repeat (first | with_reducible refine ep ?_ | with_reducible refine en ?_))
  exact zi (Ev.now _) (by rw [za4, zeR]; rfl)
 ·have h1 := h.dy.odd c
  have h0 : V l ≠ 0 := by omega
  refine ze (by simpa using fun e => c e) ?_
  rw [zeQ h0]
  by_cases hs : s = true
  ·refine zd hs ?_
   exact zi (Ev.now _) (if_pos hs).symm
  ·refine ze hs ?_
   exact zi (Ev.now _) (if_neg hs).symm
theorem zlR {s : Bool} {n : Nat} {e : Int} (h1 : -16777216 ≤ e) (h2 : e + (bl n : Nat) ≤ 16777216) : zdM s n e = ((mk (sv s n) e).1, (mk (sv s n) e).2.1, (mk (sv s n) e).2.2, 0) := by
 unfold zdM
 by_cases h0 : n = 0
 ·rw [if_pos h0, h0, zeR]; rfl
 ·have := zdL h0
  rw [if_neg h0, if_neg (by omega), if_neg (by omega)]
theorem zhh {sa sb : Bool} {la lb : List Int} {ea eb : Int} (ha : My sa la ea) (hb : My sb lb eb) : Ev (fun k => zaC.f k [(sa, la, ea), (sb, lb, eb)]) true := by
 unfold zaC.f
 have e1 : wrap64 (0 + 1) = 1 := by rw [zah (by omega) (by omega)]; rfl
 have e2 : wrap64 (1 + 1) = 2 := by rw [zah (by omega) (by omega)]; rfl
 have el : (([(sa, la, ea), (sb, lb, eb)] : List (Bool × List Int × Int)).length : Int) = 2 := rfl
 have r0 : rdT [.b, .is .u32, .i .i64] [(sa, la, ea), (sb, lb, eb)] 0 = ⟨sa, la, ea⟩ := rfl
 have r1 : rdT [.b, .is .u32, .i .i64] [(sa, la, ea), (sb, lb, eb)] 1 = ⟨sb, lb, eb⟩ := rfl
 refine zf ?_
 simp only [zaC.l0, el, e1, e2, r0]
 (repeat (first | with_reducible refine ep ?_ | with_reducible refine en ?_))
 refine zk (zce ha) ?_
 (repeat (first | with_reducible refine ep ?_ | with_reducible refine en ?_))
 refine zf ?_
 simp only [zaC.l0, el, e1, e2, r1]
 (repeat (first | with_reducible refine ep ?_ | with_reducible refine en ?_))
 refine zk (zce hb) ?_
 (repeat (first | with_reducible refine ep ?_ | with_reducible refine en ?_))
 refine zf ?_
 simp only [zaC.l0, el, e1, e2]
 (repeat (first | with_reducible refine ep ?_ | with_reducible refine en ?_))
 exact Ev.now _
def ok3 (d : Bool × List Int × Int) : Bool × List Int × Int × Int := (d.1, d.2.1, d.2.2, 0)
theorem zch {s : Bool} {n : Nat} {e : Int} (h1 : -16777216 ≤ e) (h2 : e + (bl n : Nat) ≤ 16777216) : zdM s n e = ok3 (mk (sv s n) e) := zlR h1 h2
theorem zdx {n : Nat} (h : bl n ≤ 131072) : zG n = (D n, 0) := by
 have : (D n).length ≤ 4096 := zaK (by omega)
 unfold zG
 rw [if_neg (by omega)]
theorem zcS (n : Nat) (h : n < 18446744073709551616) : (BitVec.ofInt 64 (n : Int)).toNat = n := by
 rw [BitVec.ofInt_natCast, BitVec.toNat_ofNat]; exact Nat.mod_eq_of_lt (by omega)
theorem zgI (a b : Nat) (ha : a < 18446744073709551616) (hb : b < 18446744073709551616) : Go.bits .and .u64 (a : Int) (b : Int) = ((a &&& b : Nat) : Int) := by
 show IntKind.u64.wrap ((BitVec.ofInt 64 (a : Int) &&& BitVec.ofInt 64 (b : Int)).toNat : Int) = _
 have hx : a &&& b < 2 ^ 64 := Nat.and_lt_two_pow _ (by omega)
 rw [BitVec.toNat_and, zcS a ha, zcS b hb, zcL]
 omega
theorem zdb (a b : Nat) (ha : a < 18446744073709551616) (hb : b < 18446744073709551616) : Go.bits .or .u64 (a : Int) (b : Int) = ((a ||| b : Nat) : Int) := by
 show IntKind.u64.wrap ((BitVec.ofInt 64 (a : Int) ||| BitVec.ofInt 64 (b : Int)).toNat : Int) = _
 have hx : a ||| b < 2 ^ 64 := Nat.or_lt_two_pow (by omega) (by omega)
 rw [BitVec.toNat_or, zcS a ha, zcS b hb, zcL]
 omega
theorem zjR (a b : Nat) (ha : a < 18446744073709551616) (hb : b < 18446744073709551616) : Go.bits .andNot .u64 (a : Int) (b : Int) = ((a &&& (18446744073709551616 - 1 - b) : Nat) : Int) := by
 show IntKind.u64.wrap ((BitVec.ofInt 64 (a : Int) &&& ~~~(BitVec.ofInt 64 (b : Int))).toNat : Int) = _
 have hx : a &&& (18446744073709551616 - 1 - b) < 2 ^ 64 := Nat.and_lt_two_pow _ (by omega)
 rw [BitVec.toNat_and, BitVec.toNat_not, zcS a ha, zcS b hb, zcL]
 have e : 2 ^ 64 - 1 - b = 18446744073709551616 - 1 - b := by omega
 rw [e]
 omega
theorem zfb (a k : Nat) (ha : a < 18446744073709551616) (hk : k ≤ 63) : Go.bits .and .u64 (a : Int) ((2 ^ k - 1 : Nat) : Int) = ((a % 2 ^ k : Nat) : Int) := by
 have h1 : 2 ^ k ≤ 2 ^ 63 := Nat.pow_le_pow_right (by omega) hk
 rw [zgI a _ ha (by omega), Nat.and_two_pow_sub_one_eq_mod]
theorem zjS (w k : Nat) (hk : k ≤ 63) (hw : w < 2 ^ (k + 1)) : Go.bits .andNot .u64 (w : Int) ((2 ^ k : Nat) : Int) = ((w % 2 ^ k : Nat) : Int) := by
 have h1 : 2 ^ k ≤ 2 ^ 63 := Nat.pow_le_pow_right (by omega) hk
 have h2 : 2 ^ (k + 1) ≤ 2 ^ 64 := Nat.pow_le_pow_right (by omega) (by omega)
 rw [zjR w _ (by omega) (by omega)]
 congr 1
 apply Nat.eq_of_testBit_eq
 intro i
 have e : 18446744073709551616 - 1 - 2 ^ k = 2 ^ 64 - (2 ^ k + 1) := by omega
 rw [Nat.testBit_and, Nat.testBit_mod_two_pow, e, Nat.testBit_two_pow_sub_succ (by omega), Nat.testBit_two_pow]
 rcases Nat.lt_trichotomy i k with h | h | h
 ·have h3 : i < 64 := by omega
  have h4 : ¬ k = i := by omega
  simp [h, h3, h4]
 ·subst h; simp
 ·have h3 : w.testBit i = false := Nat.testBit_lt_two_pow (Nat.lt_of_lt_of_le hw (Nat.pow_le_pow_right (by omega) (by omega)))
  have h4 : ¬ i < k := by omega
  simp [h3, h4]
theorem zjV (w k : Nat) (hk : k ≤ 63) (hw : w < 2 ^ (k + 1)) : Go.bits .and .u64 (w : Int) ((2 ^ k : Nat) : Int) = ((w / 2 ^ k * 2 ^ k : Nat) : Int) := by
 have h1 : 2 ^ k ≤ 2 ^ 63 := Nat.pow_le_pow_right (by omega) hk
 have h2 : 2 ^ (k + 1) ≤ 2 ^ 64 := Nat.pow_le_pow_right (by omega) (by omega)
 rw [zgI w _ (by omega) (by omega)]
 congr 1
 apply Nat.eq_of_testBit_eq
 intro i
 rw [Nat.testBit_and, Nat.testBit_two_pow, Nat.testBit_mul_two_pow, Nat.testBit_div_two_pow]
 rcases Nat.lt_trichotomy i k with h | h | h
 ·have h3 : ¬ k = i := by omega
  have h4 : ¬ k ≤ i := by omega
  simp [h3, h4]
 ·subst h; simp
 ·have h3 : w.testBit i = false := Nat.testBit_lt_two_pow (Nat.lt_of_lt_of_le hw (Nat.pow_le_pow_right (by omega) (by omega)))
  have h4 : ¬ k = i := by omega
  have h5 : i - k + k = i := by omega
  simp [h3, h4, h5]
theorem zh9 (a b k : Nat) (hb : b < 2 ^ k) (h : a * 2 ^ k + b < 18446744073709551616) : Go.bits .or .u64 ((a * 2 ^ k : Nat) : Int) (b : Int) = ((a * 2 ^ k + b : Nat) : Int) := by
 rw [zdb _ _ (by omega) (by omega)]
 congr 1
 rw [Nat.mul_comm]
 exact (Nat.two_pow_add_eq_or_of_lt hb a).symm
theorem zh5 (a b : Nat) (ha : a < 18446744073709551616) (hb : b < 18446744073709551616) : Go.bits .or .u64 (a : Int) (b : Int) = Go.bits .or .u64 (b : Int) (a : Int) := by
 rw [zdb a b ha hb, zdb b a hb ha, Nat.or_comm]
def isF (f : Int) : Prop := f = 1 ∨ f = 2
def fb (f : Int) : Nat := if f = 1 then 23 else 52
def mo (f : Int) : Nat := if f = 1 then 255 else 2047
def sk (f : Int) : Nat := if f = 1 then 31 else 63
def sg (f : Int) : Nat := if f = 1 then 2147483648 else 9223372036854775808
theorem ziD {f : Int} (h : isF f) : zee.f f = some ((fb f : Int), (mo f : Int), (sg f : Int), true) := by
 rcases h with rfl | rfl <;> rfl
theorem zdp {f : Int} (h : isF f) : Ev (fun k => zD.f k f []) ((fb f : Int), (mo f : Int), (sg f : Int), 0) := by
 unfold zD.f
 refine zk (ziD h) ?_
 (repeat (first | with_reducible refine ep ?_ | with_reducible refine en ?_))
 refine zf ?_
 simp only [zD.l0]
 (repeat (first | with_reducible refine ep ?_ | with_reducible refine en ?_))
 exact Ev.now _
theorem zlW {f : Int} (h : isF f) : Go.bits .or .u64 (sg f : Int) (IntKind.u64.wrap ((sg f : Int) - 1)) = ((2 * sg f - 1 : Nat) : Int) := by
 rcases h with rfl | rfl
 ·have e : IntKind.u64.wrap (((sg 1 : Nat) : Int) - 1) = ((2147483647 : Nat) : Int) := by rw [zcL]; rfl
  rw [e, zdb _ _ (by decide) (by decide)]; rfl
 ·have e : IntKind.u64.wrap (((sg 2 : Nat) : Int) - 1) = ((9223372036854775807 : Nat) : Int) := by rw [zcL]; rfl
  rw [e, zdb _ _ (by decide) (by decide)]; rfl
theorem zbK {f : Int} (h : isF f) : 0 < sg f ∧ 2 * sg f ≤ 18446744073709551616 := by rcases h with rfl | rfl <;> decide
theorem zdZ {f : Int} (h : isF f) : sg f = 2 ^ sk f := by rcases h with rfl | rfl <;> decide
theorem ziI {f : Int} (h : isF f) : sk f ≤ 63 := by rcases h with rfl | rfl <;> decide
def zdJ (f : Int) (w : Nat) : Int := if w < 2 * sg f then 0 else 6
theorem zgr {f : Int} (h : isF f) (w : Nat) : Ev (fun k => zD.f k f [(w : Int)]) ((fb f : Int), (mo f : Int), (sg f : Int), zdJ f w) := by
 have hp := zbK h
 unfold zD.f zdJ
 have e1 : wrap64 (0 + 1) = 1 := by rw [zah (by omega) (by omega)]; rfl
 have el : (([(w : Int)] : List Int).length : Int) = 1 := rfl
 have er : rd [(w : Int)] 0 = (w : Int) := rfl
 refine zk (ziD h) ?_
 (repeat (first | with_reducible refine ep ?_ | with_reducible refine en ?_))
 refine zf ?_
 simp only [zD.l0, el, e1, er, zlW h]
 (repeat (first | with_reducible refine ep ?_ | with_reducible refine en ?_))
 by_cases c : w < 2 * sg f
 ·rw [if_pos c]
  (repeat (first | with_reducible refine ep ?_ | with_reducible refine en ?_))
  refine zf ?_
  simp only [zD.l0, el]
  (repeat (first | with_reducible refine ep ?_ | with_reducible refine en ?_))
  exact Ev.now _
 ·rw [if_neg c]
  (repeat (first | with_reducible refine ep ?_ | with_reducible refine en ?_))
  exact Ev.now _
theorem zmW {f : Int} (h : isF f) : shl .u64 ((mo f : Nat) : Int) ((fb f : Nat) : Int) = ((mo f * 2 ^ fb f : Nat) : Int) := by
 rcases h with rfl | rfl <;> decide
theorem zfC {f : Int} (h : isF f) : za3.f (fb f : Int) (mo f : Int) (sg f : Int) = some ((mo f * 2 ^ fb f : Nat) : Int) := by
 unfold za3.f
 have hm : mo f < 10000 := by rcases h with rfl | rfl <;> decide
 rw [if_pos (by omega), u64 (by omega) (by omega), zmW h]
def cls (f : Int) (w : Nat) : Int :=
 if w % sg f = 0 then 1 else if w % sg f < 2 ^ fb f then 2 else if w % sg f < mo f * 2 ^ fb f then 3 else if w % sg f = mo f * 2 ^ fb f then 4 else 5
theorem ziH {f : Int} (h : isF f) {w : Nat} (hw : w < 2 * sg f) : Go.bits .andNot .u64 (w : Int) (sg f : Int) = ((w % sg f : Nat) : Int) := by
 rw [zdZ h] at hw ⊢
 exact zjS w (sk f) (ziI h) (by rw [Nat.pow_succ, Nat.mul_comm]; exact hw)
theorem zeJ {f : Int} (h : isF f) : shl .u64 1 ((fb f : Nat) : Int) = ((2 ^ fb f : Nat) : Int) := by rcases h with rfl | rfl <;> decide
theorem zgP {f : Int} (h : isF f) {w : Nat} (hw : w < 2 * sg f) : zcs.f (fb f : Int) (mo f : Int) (sg f : Int) (w : Int) = some (cls f w) := by
 unfold zcs.f cls
 rw [ziH h hw, zeJ h]
 generalize w % sg f = z
 by_cases c1 : z = 0
 ·rw [if_pos (by omega), if_pos c1]
 rw [if_neg (by omega), if_neg c1, if_pos (by omega)]
 by_cases c2 : z < 2 ^ fb f
 ·rw [if_pos (by omega), if_pos c2]
 rw [if_neg (by omega), if_neg c2, zfC h, Option.bind_some]
 by_cases c3 : z < mo f * 2 ^ fb f
 ·rw [if_pos (by omega), if_pos c3]
 rw [if_neg (by omega), if_neg c3, Option.bind_some]
 by_cases c4 : z = mo f * 2 ^ fb f
 ·rw [if_pos (by omega), if_pos c4]
 ·rw [if_neg (by omega), if_neg c4]
theorem znS {f : Int} (h : isF f) {w : Nat} (hw : w < 2 * sg f) : Ev (fun k => zdj.f k f (w : Int)) (cls f w, 0) := by
 have ho := zgr h w
 unfold zdJ at ho
 rw [if_pos hw] at ho
 unfold zdj.f
 refine Ev.bind ho ?_
 (repeat (first | with_reducible refine ep ?_ | with_reducible refine en ?_))
 refine zk (zgP h hw) ?_
 (repeat (first | with_reducible refine ep ?_ | with_reducible refine en ?_))
 exact Ev.now _
def zq (f : Int) (w : Nat) : Bool := decide (sg f ≤ w)
def zy (f : Int) (w : Nat) : Nat := w % sg f / 2 ^ fb f
def zR (f : Int) (w : Nat) : Nat := w % sg f % 2 ^ fb f
theorem zab {f : Int} (h : isF f) : fb f ≤ 52 := by rcases h with rfl | rfl <;> decide
theorem zgb {f : Int} (h : isF f) : sg f = 2 ^ fb f * (mo f + 1) := by rcases h with rfl | rfl <;> decide
theorem pfb {f : Int} (h : isF f) : 2 ^ fb f ≤ 4503599627370496 := by rcases h with rfl | rfl <;> decide
theorem zc9 {f : Int} (h : isF f) : mo f ≤ 2047 := by rcases h with rfl | rfl <;> decide
theorem ziK {f : Int} (h : isF f) {w : Nat} (hw : w < 2 * sg f) : zct.f (fb f : Int) (mo f : Int) (sg f : Int) (w : Int) = some (zq f w, (zy f w : Int), (zR f w : Int)) := by
 have hp := zbK h
 have hk := ziI h
 have h52 := zab h
 have hpw := pfb h
 have hpp := zh (fb f)
 unfold zct.f
 rw [ziH h hw, zeJ h]
 have h1 : Go.bits .and .u64 (w : Int) (sg f : Int) = ((w / sg f * sg f : Nat) : Int) := by
  rw [zdZ h] at hw ⊢
  exact zjV w (sk f) hk (by rw [Nat.pow_succ, Nat.mul_comm]; exact hw)
 have hz : w % sg f < sg f := Nat.mod_lt _ hp.1
 have h2 : IntKind.u64.wrap (((2 ^ fb f : Nat) : Int) - 1) = ((2 ^ fb f - 1 : Nat) : Int) := by rw [zcL]; omega
 have h3 := zfb (w % sg f) (fb f) (by omega) (by omega)
 have h4 : shr .u64 ((w % sg f : Nat) : Int) ((fb f : Nat) : Int) = ((w % sg f / 2 ^ fb f : Nat) : Int) := zdf _ _ (by show fb f ≤ 64; omega)
 have h5 : wrap64 ((w % sg f / 2 ^ fb f : Nat) : Int) = ((w % sg f / 2 ^ fb f : Nat) : Int) := by
  have hq : w % sg f / 2 ^ fb f < mo f + 1 := Nat.div_lt_of_lt_mul (by rw [← zgb h]; exact hz)
  have hm := zc9 h
  clear h1 h2 h3 h4
  generalize w % sg f / 2 ^ fb f = q at hq ⊢
  exact zah (by omega) (by omega)
 rw [h1, h2, h3, h4, h5]
 have h6 : (decide (¬ (((w / sg f * sg f : Nat) : Int) = 0))) = zq f w := by
  unfold zq
  by_cases c : sg f ≤ w
  ·have : w / sg f = 1 := Nat.div_eq_of_lt_le (by omega) (by omega)
   rw [this, decide_eq_true c]
   exact decide_eq_true (by omega)
  ·rw [Nat.div_eq_of_lt (by omega), decide_eq_false c]
   simp
 rw [h6, if_pos (by omega)]
 rfl
theorem znX {f : Int} (h : isF f) {w : Nat} (hw : w < 2 * sg f) : Ev (fun k => zdn.f k f (w : Int)) (zq f w, (zy f w : Int), (zR f w : Int), 0) := by
 have ho := zgr h w
 unfold zdJ at ho
 rw [if_pos hw] at ho
 unfold zdn.f
 refine Ev.bind ho ?_
 (repeat (first | with_reducible refine ep ?_ | with_reducible refine en ?_))
 refine zk (ziK h hw) ?_
 (repeat (first | with_reducible refine ep ?_ | with_reducible refine en ?_))
 exact Ev.now _
def lo (f : Int) : Int := if f = 1 then -149 else -1074
theorem zfE {f : Int} (h : isF f) : zbj.f (fb f : Int) (mo f : Int) (sg f : Int) = some (lo f) := by
 unfold zbj.f
 have e : wrap64 (Int.tdiv ((mo f : Nat) : Int) 2) = ((mo f / 2 : Nat) : Int) := by
  have := zc9 h
  exact zah (by show (0 : Int) ≤ ((mo f / 2 : Nat) : Int); omega) (by show ((mo f / 2 : Nat) : Int) < _; omega)
 have hm := zc9 h
 have hb := zab h
 rw [e]
 have e2 : wrap64 (1 - ((mo f / 2 : Nat) : Int)) = 1 - ((mo f / 2 : Nat) : Int) := by unfold wrap64; omega
 rw [e2]
 have e3 : wrap64 (1 - ((mo f / 2 : Nat) : Int) - ((fb f : Nat) : Int)) = 1 - ((mo f / 2 : Nat) : Int) - ((fb f : Nat) : Int) := by unfold wrap64; omega
 rw [e3]
 rcases h with rfl | rfl <;> rfl
def zu (f : Int) (w : Nat) : Nat := if zy f w = 0 then zR f w else 2 ^ fb f + zR f w
def wex (f : Int) (w : Nat) : Int := (if zy f w = 0 then 0 else (zy f w : Int) - 1) + lo f
theorem zk4 {f : Int} (h : isF f) {w : Nat} (hw : w < 2 * sg f) : Ev (fun k => zdo.f k f (w : Int)) ((fb f : Int), (mo f : Int), (sg f : Int), if cls f w ≥ 4 then 7 else 0) := by
 have ho := zgr h w
 unfold zdJ at ho
 rw [if_pos hw] at ho
 unfold zdo.f
 refine Ev.bind ho ?_
 (repeat (first | with_reducible refine ep ?_ | with_reducible refine en ?_))
 refine zk (zgP h hw) ?_
 (repeat (first | with_reducible refine ep ?_ | with_reducible refine en ?_))
 by_cases c : cls f w ≥ 4
 ·refine zd c ?_
  exact zi (Ev.now _) (by rw [if_pos c])
 ·refine ze c ?_
  exact zi (Ev.now _) (by rw [if_neg c])
theorem mx1 (n : Nat) : (wrap64 ((mx (n : Int) 1) - 1) = if n = 0 then 0 else (n : Int) - 1) ∨ 4611686018427387904 ≤ n := by
 by_cases hb : n < 4611686018427387904
 ·left
  have e : mx (n : Int) 1 = ((max n 1 : Nat) : Int) := zlX n 1
  rw [e, zah (by omega) (by omega)]
  split <;> omega
 ·right; omega
theorem znY {f : Int} (h : isF f) {w : Nat} (hw : w < 2 * sg f) (hc : cls f w < 4) : Ev (fun k => za2.f k f (w : Int)) (ok3 (mk (sv (zq f w) (zu f w)) (wex f w))) := by
 have hf := zk4 h hw
 rw [if_neg (by omega)] at hf
 have hp := zbK h
 have hz : w % sg f < sg f := Nat.mod_lt _ hp.1
 have he : zy f w < mo f + 1 := Nat.div_lt_of_lt_mul (by rw [← zgb h]; exact hz)
 have hm := zc9 h
 have hfr : zR f w < 2 ^ fb f := Nat.mod_lt _ (zh _)
 have hpw := pfb h
 have h52 := zab h
 have hlo : -1074 ≤ lo f ∧ lo f ≤ -149 := by rcases h with rfl | rfl <;> decide
 have hmx := (mx1 (zy f w)).resolve_right (by omega)
 have hbl : ∀ m : Nat, m < 18446744073709551616 → bl m ≤ 64 := fun m hm => zI (by omega)
 unfold za2.f
 refine Ev.bind hf ?_
 (repeat (first | with_reducible refine ep ?_ | with_reducible refine en ?_))
 refine zk (ziK h hw) ?_
 (repeat (first | with_reducible refine ep ?_ | with_reducible refine en ?_))
 have hex : wrap64 (wrap64 ((mx (zy f w : Int) 1) - 1) + lo f) = wex f w := by
  rw [hmx]
  unfold wex wrap64
  split <;> omega
 have hwx : -1074 ≤ wex f w ∧ wex f w ≤ 3000 := by unfold wex; split <;> omega
 by_cases c : zy f w = 0
 ·have hm0 : zu f w = zR f w := by unfold zu; rw [if_pos c]
  have o1 := zdQ (n := (zR f w : Int)) (by omega) (by omega)
  rw [Int.toNat_natCast] at o1
  have hb := hbl (zR f w) (by omega)
  have m1 := zcd (zq f w) (z6 (zR f w)) (zaK (by omega)) (wex f w)
  rw [V_D, zch (by omega) (by omega)] at m1
  dsimp only
  (repeat (first | with_reducible refine ep ?_ | with_reducible refine en ?_))
  refine zf ?_; simp only [za2.j1]
  refine Ev.bind (o1) ?_; try dsimp only
  refine zk (zfE h) ?_; try dsimp only
  rw [hex, hm0]
  refine Ev.bind m1 ?_
  (repeat (first | with_reducible refine ep ?_ | with_reducible refine en ?_))
  exact Ev.now _
 ·have hm0 : zu f w = 1 * 2 ^ fb f + zR f w := by unfold zu; rw [if_neg c, Nat.one_mul]
  have eo : Go.bits .or .u64 (zR f w : Int) (shl .u64 1 ((fb f : Nat) : Int)) = ((zu f w : Nat) : Int) := by
   rw [zeJ h, zh5 _ _ (by omega) (by omega), hm0]
   have := zh9 1 (zR f w) (fb f) hfr (by omega)
   rw [Nat.one_mul] at this
   rw [this, Nat.one_mul]
  have hlt : zu f w < 18446744073709551616 := by omega
  have o1 := zdQ (n := (zu f w : Int)) (by omega) (by omega)
  rw [Int.toNat_natCast] at o1
  have hb := hbl (zu f w) hlt
  have m1 := zcd (zq f w) (z6 (zu f w)) (zaK (by omega)) (wex f w)
  rw [V_D, zch (by omega) (by omega)] at m1
  dsimp only
  (repeat (first | with_reducible refine ep ?_ | with_reducible refine en ?_))
  refine zf ?_; simp only [za2.j1]
  rw [eo]
  refine Ev.bind (o1) ?_; try dsimp only
  refine zk (zfE h) ?_; try dsimp only
  rw [hex]
  refine Ev.bind m1 ?_
  (repeat (first | with_reducible refine ep ?_ | with_reducible refine en ?_))
  exact Ev.now _
def pr (f : Int) : Nat := if f = 1 then 24 else 53
def wd (f : Int) : Int := if f = 1 then 128 else 1024
def sgn (f : Int) (s : Bool) : Nat := if s = true then sg f else 0
def zo (f : Int) (n : Nat) (e : Int) : Int := max (e + (bl n : Nat) - (pr f : Nat)) (lo f)
def enc (f : Int) (n : Nat) (e : Int) : Nat := (zo f n e - lo f).toNat * 2 ^ fb f + n * 2 ^ (e - zo f n e).toNat
theorem zM {f : Int} (h : isF f) : pr f = fb f + 1 := by rcases h with rfl | rfl <;> rfl
theorem znN {f : Int} (h : isF f) : wd f = ((mo f / 2 : Nat) : Int) + 1 := by rcases h with rfl | rfl <;> rfl
theorem zbq {f : Int} (h : isF f) : -1074 ≤ lo f ∧ lo f ≤ -149 := by rcases h with rfl | rfl <;> decide
theorem zcM {f : Int} (h : isF f) : 128 ≤ wd f ∧ wd f ≤ 1024 := by rcases h with rfl | rfl <;> decide
theorem zfz {f : Int} (h : isF f) : wd f - (pr f : Nat) - lo f = ((mo f - 2 : Nat) : Int) := by rcases h with rfl | rfl <;> rfl
theorem zcD {f : Int} (h : isF f) : 255 ≤ mo f := by rcases h with rfl | rfl <;> decide
theorem znz (f : Int) (n : Nat) (e : Int) : lo f ≤ zo f n e := by unfold zo; omega
theorem zie {f : Int} {n : Nat} {e : Int} (hn : bl n ≤ pr f) (he : lo f ≤ e) : n * 2 ^ (e - zo f n e).toNat < 2 ^ pr f := by
 have h1 := zP n
 have h2 : n * 2 ^ (e - zo f n e).toNat < 2 ^ bl n * 2 ^ (e - zo f n e).toNat := Nat.mul_lt_mul_of_pos_right h1 (zh _)
 rw [← Nat.pow_add] at h2
 exact Nat.lt_of_lt_of_le h2 (Nat.pow_le_pow_right (by omega) (by unfold zo; omega))
theorem znA {f : Int} {n : Nat} {e : Int} (hn : bl n ≤ pr f) (he : lo f ≤ e) : zo f n e ≤ e := by unfold zo; omega
theorem zkT {f : Int} (h : isF f) {n : Nat} {e : Int} (hn : bl n ≤ pr f) (he : lo f ≤ e) (hw : e + (bl n : Nat) ≤ wd f) : enc f n e < mo f * 2 ^ fb f ∧ (zo f n e - lo f).toNat ≤ mo f - 2 := by
 have h1 := zie hn he
 have h2 := zfz h
 have h3 := zcD h
 have h4 : (zo f n e - lo f).toNat ≤ mo f - 2 := by unfold zo; omega
 refine ⟨?_, h4⟩
 unfold enc
 rw [zM h, Nat.pow_succ] at h1
 have h5 : (zo f n e - lo f).toNat * 2 ^ fb f ≤ (mo f - 2) * 2 ^ fb f := Nat.mul_le_mul_right _ h4
 have h6 : (mo f - 2) * 2 ^ fb f + 2 ^ fb f * 2 = mo f * 2 ^ fb f := by
  rw [Nat.mul_comm (2 ^ fb f) 2, ← Nat.add_mul]; congr 1; omega
 omega
theorem zev {f : Int} (h : isF f) : mo f * 2 ^ fb f + 2 ^ fb f = sg f := by rcases h with rfl | rfl <;> decide
theorem zge {X s : Nat} (h : X * 2 ^ s < 18446744073709551616) (hs : s ≤ 64) : shl .u64 (X : Int) (s : Int) = ((X * 2 ^ s : Nat) : Int) := by
 unfold shl
 have e : min (s : Int).toNat IntKind.u64.bits = s := by
  have : IntKind.u64.bits = 64 := rfl
  omega
 rw [e, zeM, ← Int.natCast_mul]
 exact u64 (by omega) (by omega)
theorem zh8 {f : Int} (h : isF f) {x : Nat} (hx : x < sg f) : Go.bits .or .u64 (x : Int) (sg f : Int) = ((x + sg f : Nat) : Int) := by
 have hp := zbK h
 rw [zh5 _ _ (by omega) (by omega)]
 have h1 := zh9 1 x (sk f) (by rw [← zdZ h]; exact hx) (by rw [← zdZ h]; omega)
 rw [Nat.one_mul, ← zdZ h] at h1
 rw [h1, Nat.add_comm]
theorem zmi {x : Nat} (h : x < 18446744073709551616) : Go.bits .or .u64 0 (x : Int) = (x : Int) := by
 have := zdb 0 x (by omega) h
 rw [Nat.zero_or] at this
 exact this
theorem zlv {f : Int} (h : isF f) {x : Nat} (hx : x < sg f) (s : Bool) : zcN.f (fb f : Int) (mo f : Int) (sg f : Int) s 0 (x : Int) = some ((x + sgn f s : Nat) : Int) := by
 have hp := zbK h
 have e0 : shl .u64 (IntKind.u64.wrap 0) ((fb f : Nat) : Int) = 0 := by rcases h with rfl | rfl <;> decide
 unfold zcN.f sgn
 rw [if_pos (by omega), e0, zmi (by omega)]
 cases s
 ·rfl
 ·rw [if_pos rfl, if_pos rfl, zh8 h hx]
theorem zdq {a b : Int} (h1 : -100000000000 ≤ a) (h2 : a ≤ 100000000000) (h3 : -100000000000 ≤ b) (h4 : b ≤ 100000000000) : wrap64 (a - b) = a - b := by unfold wrap64; omega
theorem zbP {a b : Int} (h1 : -100000000000 ≤ a) (h2 : a ≤ 100000000000) (h3 : -100000000000 ≤ b) (h4 : b ≤ 100000000000) : wrap64 (a + b) = a + b := by unfold wrap64; omega
theorem zfR {l : List Int} (h : Nm l) (hb : V l < 18446744073709551616) : zbe l = true := by
 have h1 : l.length ≤ 2 := by
  have : (D (V l)).length ≤ 2 := zdr (by omega)
  rwa [h] at this
 unfold zbe
 rw [zbr.2 ⟨by omega, h⟩, decide_eq_true h1]
 rfl
theorem zgm {f : Int} (h : isF f) : 2 ^ pr f ≤ 9007199254740992 := by rcases h with rfl | rfl <;> decide
theorem znC {f : Int} (h : isF f) {n : Nat} {e : Int} (he : lo f ≤ e) (hw : e + (bl n : Nat) ≤ wd f) (hn : bl n ≤ 100) : mx (wrap64 (wrap64 (e + ((bl n : Nat) : Int) - ((fb f : Nat) : Int)) - 1)) (lo f) = zo f n e := by
 have hl := zbq h
 have hwb := zcM h
 have hpr := zM h
 have hfb := zab h
 have e1 : wrap64 (e + ((bl n : Nat) : Int) - ((fb f : Nat) : Int)) = e + ((bl n : Nat) : Int) - ((fb f : Nat) : Int) := by unfold wrap64; omega
 have e2 : wrap64 (e + ((bl n : Nat) : Int) - ((fb f : Nat) : Int) - 1) = e + ((bl n : Nat) : Int) - ((fb f : Nat) : Int) - 1 := by unfold wrap64; omega
 rw [e1, e2, zeF]
 unfold zo
 omega
theorem zmo {n k : Nat} (h : n ≠ 0) (hb : n * 2 ^ k < 18446744073709551616) : k ≤ 64 := by
 rcases Nat.lt_or_ge 64 k with c | c
 ·have h1 : 2 ^ 64 ≤ 2 ^ k := Nat.pow_le_pow_right (by omega) (by omega)
  have h2 : 2 ^ k ≤ n * 2 ^ k := Nat.le_mul_of_pos_left _ (by omega)
  have h3 : (2 : Nat) ^ 64 = 18446744073709551616 := by decide
  omega
 ·exact c
theorem znV {f : Int} (h : isF f) {s : Bool} {l : List Int} {e : Int} (hd : My s l e) (h0 : l ≠ []) (hn : bl (V l) ≤ pr f) (he : lo f ≤ e) (hw : e + (bl (V l) : Nat) ≤ wd f) :
  Ev (fun k => zb5.f k f s l e) (((enc f (V l) e + sgn f s : Nat) : Int), 0) := by
 have hV : V l ≠ 0 := fun c => h0 ((zdt hd.dy.nm).1 c)
 have hl := zbq h
 have hwb := zcM h
 have hpr := zM h
 have hfb := zab h
 have h2 := zgm h
 have hbig : V l < 2 ^ pr f := Nat.lt_of_lt_of_le (zP _) (Nat.pow_le_pow_right (by omega) hn)
 have hnum := zfM hd.dy.nm.dg (by have := hd.len; omega)
 rw [zfR hd.dy.nm (by omega), if_pos rfl] at hnum
 obtain ⟨e1, e2⟩ := zkT h hn he hw
 have hil := zev h
 have hsp := zbK h
 have hplt := zie hn he
 have hu := znA hn he
 have hul := znz f (V l) e
 have hpf := zh (fb f)
 have hub : zo f (V l) e ≤ 1100 := by omega
 have hA : (zo f (V l) e - lo f).toNat * 2 ^ fb f < 18446744073709551616 := by unfold enc at e1; omega
 have hB : V l * 2 ^ (e - zo f (V l) e).toNat < 18446744073709551616 := by omega
 have hsm : (e - zo f (V l) e).toNat ≤ 64 := by
  have := zmo (n := V l) (k := (e - zo f (V l) e).toNat) (by omega) hB
  exact this
 have hE : enc f (V l) e < 18446744073709551616 := by omega
 have t7 : IntKind.u64.wrap (((zo f (V l) e - lo f).toNat * 2 ^ fb f + V l * 2 ^ (e - zo f (V l) e).toNat : Nat) : Int) = ((enc f (V l) e : Nat) : Int) := u64 (by omega) (by unfold enc at hE; omega)
 have t8 := u64 (n := (((zo f (V l) e - lo f).toNat : Nat) : Int)) (by omega) (by omega)
 have t9 := zge hA (by omega)
 have t10 := zge hB hsm
 have hj := zlv h (x := enc f (V l) e) (by omega) s
 have hVi : ¬ ((V l : Nat) : Int) = 0 := by omega
 have c1 : ¬ ((bl (V l) : Nat) : Int) > ((fb f : Nat) : Int) + 1 := by omega
 have c2 : ¬ e < lo f := by omega
 have c3 : ¬ e + ((bl (V l) : Nat) : Int) > wd f := by omega
 have c4 : (0 : Int) ≤ (((e - zo f (V l) e).toNat : Nat) : Int) := by omega
 have c5 : (0 : Int) ≤ ((fb f : Nat) : Int) := by omega
 have hm := zc9 h
 have hL := zdK (x := ((V l : Nat) : Int)) ⟨by omega, by omega⟩
 rw [Int.toNat_natCast] at hL
 have t1 : wrap64 (e + ((bl (V l) : Nat) : Int)) = e + ((bl (V l) : Nat) : Int) := zbP (by omega) (by omega) (by omega) (by omega)
 have t2 : wrap64 (((fb f : Nat) : Int) + 1) = ((fb f : Nat) : Int) + 1 := by clear t1; exact zbP (by omega) (by omega) (by omega) (by omega)
 have t3 : wrap64 (wrap64 (Int.tdiv ((mo f : Nat) : Int) 2) + 1) = wd f := by
  clear t1 t2
  have e3 : wrap64 (Int.tdiv ((mo f : Nat) : Int) 2) = ((mo f / 2 : Nat) : Int) := zah (by show (0 : Int) ≤ ((mo f / 2 : Nat) : Int); omega) (by show ((mo f / 2 : Nat) : Int) < _; omega)
  rw [e3, zbP (by clear e3; omega) (by clear e3; omega) (by clear e3; omega) (by clear e3; omega), znN h]
 have t4 := znC h he hw (by clear t1 t2 t3; omega : bl (V l) ≤ 100)
 have t5 : wrap64 (e - zo f (V l) e) = (((e - zo f (V l) e).toNat : Nat) : Int) := by clear t1 t2 t3 t4; rw [zdq (by omega) (by omega) (by omega) (by omega)]; omega
 have t6 : wrap64 (zo f (V l) e - lo f) = (((zo f (V l) e - lo f).toNat : Nat) : Int) := by clear t1 t2 t3 t4 t5; rw [zdq (by omega) (by omega) (by omega) (by omega)]; omega
 have hN := zce hd
 have hlow := zfE h
 have hop := zdp h
 clear e1 e2 hA hB hE hplt hbig h2 hil hsp hm hub hu hul he hw hn hpf hsm
 unfold zb5.f
 refine Ev.bind (hop) ?_; try dsimp only
 refine ze (fun h => h rfl) ?_
 refine zk (hN) ?_; try dsimp only
 refine ze (by simp) ?_
 refine Ev.bind (hnum) ?_; try dsimp only
 refine Ev.bind (hL) ?_; try dsimp only
 rw [t2]
 refine ze (by simp) (ze c1 (zd hVi ?_))
 refine zk (hlow) ?_; try dsimp only
 refine ze c2 ?_
 rw [t3, t1]
 refine ze c3 (ze hVi ?_)
 refine zk (hlow) ?_; try dsimp only
 rw [t4, t5]
 refine zd c4 ?_
 refine zk (hlow) ?_; try dsimp only
 refine zd c5 ?_
 rw [t6, t8, t9, t10, ← Int.natCast_add, t7]
 refine zk (hj) ?_; try dsimp only
 exact Ev.now _
theorem zfL {f : Int} (h : isF f) (s : Bool) {x : Nat} (hx : x < sg f) : Ev (fun _ => if s = true then (some (Go.bits .or .u64 (x : Int) (sg f : Int), (0 : Int))) else (some ((x : Int), 0))) (((x + sgn f s : Nat) : Int), 0) := by
 unfold sgn
 cases s
 ·(repeat (first | with_reducible refine ep ?_ | with_reducible refine en ?_))
  exact Ev.now _
 ·(repeat (first | with_reducible refine ep ?_ | with_reducible refine en ?_))
  rw [zh8 h hx, if_pos rfl]
  exact Ev.now _
theorem zjn {f : Int} (h : isF f) (s : Bool) : Ev (fun k => zcr.f k f s) (((sgn f s : Nat) : Int), 0) := by
 have hp := zbK h
 have hn := zfL h s (x := 0) hp.1
 rw [Nat.zero_add] at hn
 unfold zcr.f zeb.f
 refine Ev.bind (a := (((sgn f s : Nat) : Int), 0)) ?_ (Ev.now _)
 refine Ev.bind (zdp h) ?_; try dsimp only
 (repeat (first | with_reducible refine ep ?_ | with_reducible refine en ?_))
 exact zk rfl hn
theorem zjm {f : Int} (h : isF f) (s : Bool) : Ev (fun k => zcq.f k f s) (((mo f * 2 ^ fb f + sgn f s : Nat) : Int), 0) := by
 have hil := zev h
 have hp := zh (fb f)
 have hn := zfL h s (x := mo f * 2 ^ fb f) (by omega)
 unfold zcq.f zec.f
 refine Ev.bind (a := (((mo f * 2 ^ fb f + sgn f s : Nat) : Int), 0)) ?_ (Ev.now _)
 refine Ev.bind (zdp h) ?_; try dsimp only
 (repeat (first | with_reducible refine ep ?_ | with_reducible refine en ?_))
 exact zk (zfC h) hn
theorem znT {f : Int} (h : isF f) (s : Bool) : Ev (fun k => zdk.f k f s) (((mo f * 2 ^ fb f - 1 + sgn f s : Nat) : Int), 0) := by
 have hil := zev h
 have hp := zh (fb f)
 have hsp := zbK h
 have hm := zcD h
 have hq : 1 ≤ mo f * 2 ^ fb f := Nat.mul_pos (by omega) hp
 have hl : zdl.f ((fb f : Nat) : Int) ((mo f : Nat) : Int) ((sg f : Nat) : Int) = some ((mo f * 2 ^ fb f - 1 : Nat) : Int) := by
  unfold zdl.f
  rw [zfC h, Option.bind_some, zcL]
  congr 1
  omega
 have hn := zfL h s (x := mo f * 2 ^ fb f - 1) (by omega)
 unfold zdk.f zea.f
 refine Ev.bind (a := (((mo f * 2 ^ fb f - 1 + sgn f s : Nat) : Int), 0)) ?_ (Ev.now _)
 refine Ev.bind (zdp h) ?_; try dsimp only
 (repeat (first | with_reducible refine ep ?_ | with_reducible refine en ?_))
 exact zk hl hn
def zdP (f : Int) : Nat := mo f * 2 ^ fb f + 2 ^ (fb f - 1)
theorem znU {f : Int} (h : isF f) : Ev (fun k => zdm.f k f) (((zdP f : Nat) : Int), 0) := by
 have hl : zef.f ((fb f : Nat) : Int) ((mo f : Nat) : Int) ((sg f : Nat) : Int) = some ((zdP f : Nat) : Int) := by
  rcases h with rfl | rfl <;> decide +kernel
 unfold zdm.f zed.f
 refine Ev.bind (a := (((zdP f : Nat) : Int), 0)) ?_ (Ev.now _)
 refine Ev.bind (zdp h) ?_; try dsimp only
 (repeat (first | with_reducible refine ep ?_ | with_reducible refine en ?_))
 refine zk (hl) ?_; try dsimp only
 (repeat (first | with_reducible refine ep ?_ | with_reducible refine en ?_))
 exact Ev.now _
instance (f : Int) : Decidable (isF f) := inferInstanceAs (Decidable (f = 1 ∨ f = 2))
theorem ziq (f : Int) : zb9.f f = some (decide (isF f)) := by
 unfold zb9.f isF
 by_cases h : f = 1
 ·rw [if_pos h]; simp [h]
 ·rw [if_neg h]; simp [h]
def isM (m : Int) : Prop := 1 ≤ m ∧ m ≤ 5
instance (m : Int) : Decidable (isM m) := inferInstanceAs (Decidable (1 ≤ m ∧ m ≤ 5))
theorem zip (m : Int) : zcY.f m = some (decide (isM m)) := by
 unfold zcY.f isM
 by_cases h : m ≥ 1
 ·rw [if_pos h]; simp [show 1 ≤ m from h]
 ·rw [if_neg h]; simp [show ¬ 1 ≤ m from h]
theorem zmF {f : Int} (h : isF f) : zcW.f f = some (sg f : Int) := by rcases h with rfl | rfl <;> rfl
theorem zmD {f : Int} (h : isF f) : zcU.f f = some (fb f : Int) := by rcases h with rfl | rfl <;> rfl
theorem zmE {f : Int} (h : isF f) : zcV.f f = some (mo f : Int) := by rcases h with rfl | rfl <;> rfl
theorem zgp {f : Int} (h : isF f) (w : Nat) : zy f w ≤ mo f := by
 have hz : w % sg f < sg f := Nat.mod_lt _ (zbK h).1
 have : zy f w < mo f + 1 := Nat.div_lt_of_lt_mul (by rw [← zgb h]; exact hz)
 omega
theorem zd9 (f : Int) (w : Nat) : zR f w < 2 ^ fb f := Nat.mod_lt _ (zh _)
theorem zjl (f : Int) (w : Nat) : w % sg f = zy f w * 2 ^ fb f + zR f w := by
 unfold zy zR
 have := Nat.div_add_mod (w % sg f) (2 ^ fb f)
 rw [Nat.mul_comm] at this
 exact this.symm
theorem zmG {f : Int} (h : isF f) (w : Nat) : zcX.f f (w : Int) = some (zq f w, (zy f w : Int), (zR f w : Int)) := by
 have hp := zbK h
 have hpp := zh (fb f)
 have hm := zc9 h
 have hx := zgp h w
 have h52 := zab h
 unfold zcX.f
 rw [zmF h, Option.bind_some, Option.bind_some, if_neg (by omega), zmD h, Option.bind_some, if_pos (by omega), zeJ h, if_neg (by omega), Option.bind_some, if_pos (by omega), zeT, zeT, zdf _ _ (by show fb f ≤ 64; omega)]
 have e : wrap64 ((w % sg f / 2 ^ fb f : Nat) : Int) = (zy f w : Int) := by
  show wrap64 ((zy f w : Nat) : Int) = _
  exact zah (by omega) (by omega)
 rw [e]
 have e2 : decide ((w : Int) ≥ (sg f : Int)) = zq f w := decide_eq_decide.2 (by omega)
 rw [e2]
 rfl
theorem zeq {f : Int} (h : isF f) (w : Nat) : cls f w = if zy f w = 0 then (if zR f w = 0 then 1 else 2) else if zy f w < mo f then 3 else if zR f w = 0 then 4 else 5 := by
 have h1 := zjl f w
 have h2 := zd9 f w
 have h3 := zgp h w
 have hpp := zh (fb f)
 have hm := zcD h
 unfold cls
 rw [h1]
 generalize zR f w = r at *
 generalize zy f w = q at *
 generalize 2 ^ fb f = p at *
 by_cases c : q = 0
 ·subst c
  simp only [Nat.zero_mul, Nat.zero_add, if_true]
  by_cases c2 : r = 0
  ·simp [c2]
  ·rw [if_neg c2, if_pos h2, if_neg c2]
 ·have h4 : p ≤ q * p := Nat.le_mul_of_pos_left _ (by omega)
  rw [if_neg (by omega), if_neg (by omega), if_neg c]
  by_cases c2 : q < mo f
  ·have h5 : (q + 1) * p ≤ mo f * p := Nat.mul_le_mul_right _ c2
   rw [Nat.add_mul, Nat.one_mul] at h5
   rw [if_pos (by omega), if_pos c2]
  ·have h5 : q = mo f := by omega
   rw [h5, if_neg (by omega), if_neg (Nat.lt_irrefl _)]
   by_cases c3 : r = 0
   ·rw [if_pos (by omega), if_pos c3]
   ·rw [if_neg (by omega), if_neg c3]
theorem zf4 {f : Int} (h : isF f) (w : Nat) : zbB.f f (w : Int) = some (cls f w) := by
 unfold zbB.f
 rw [zmG h, Option.bind_some, zeq h, zmE h]
 generalize zR f w = r
 generalize zy f w = q
 generalize mo f = m
 simp only [Option.bind_some]
 by_cases c : q = 0
 ·rw [if_pos (by omega), if_pos c]
  by_cases c2 : r = 0
  ·rw [if_pos (by omega), if_pos c2]
  ·rw [if_neg (by omega), if_pos (by omega), if_neg c2]
 ·rw [if_neg (by omega), if_neg (by omega), if_neg c]
  by_cases c2 : q < m
  ·rw [if_pos (by omega), if_pos c2]
  ·rw [if_neg (by omega), if_neg c2]
   by_cases c3 : r = 0
   ·rw [if_pos (by omega), if_pos c3]
   ·rw [if_neg (by omega), if_neg c3]
def mz (z e : Int) : Int := sv (mk z e).1 (V (mk z e).2.1)
def me (z e : Int) : Int := (mk z e).2.2
theorem zhU (e : Int) : mz 0 e = 0 := rfl
theorem zgh (z : Int) : sv (decide (z < 0)) z.natAbs = z := by
 unfold sv
 by_cases h : z < 0
 ·rw [decide_eq_true h, if_pos rfl]; omega
 ·rw [decide_eq_false h, if_neg (by simp)]; omega
theorem zdN {z : Int} (h : z ≠ 0) (e : Int) : ∃ j : Nat, z = mz z e * 2 ^ j ∧ me z e = e + (j : Int) ∧ mz z e ≠ 0 ∧ bl (mz z e).natAbs + j = bl z.natAbs := by
 have hn : z.natAbs ≠ 0 := by omega
 have hw := zdL hn
 obtain ⟨q, hq⟩ := zbG hn
 have hd : z.natAbs / 2 ^ lw z.natAbs = 2 * q + 1 := by
  have : z.natAbs / 2 ^ lw z.natAbs = 2 ^ lw z.natAbs * (2 * q + 1) / 2 ^ lw z.natAbs := by rw [← hq]
  rw [this, Nat.mul_div_cancel_left _ (zh _)]
 have hm : mz z e = sv (decide (z < 0)) (z.natAbs / 2 ^ lw z.natAbs) := by
  unfold mz mk; rw [if_neg h]; show sv _ (V (D _)) = _; rw [V_D]
 have he : me z e = e + (lw z.natAbs : Nat) := by unfold me mk; rw [if_neg h]
 refine ⟨lw z.natAbs, ?_, he, ?_, ?_⟩
 ·rw [hm, hd]
  have h1 : sv (decide (z < 0)) (2 * q + 1) * 2 ^ lw z.natAbs = sv (decide (z < 0)) ((2 * q + 1) * 2 ^ lw z.natAbs) := by
   unfold sv
   split
   ·rw [Int.neg_mul, Int.natCast_mul, Int.natCast_pow]; rfl
   ·rw [Int.natCast_mul, Int.natCast_pow]; rfl
  rw [h1, Nat.mul_comm, ← hq, zgh]
 ·rw [hm, hd]; intro h2; have := zcJ.1 h2; omega
 ·rw [hm, zaN, zbz]; omega
theorem zlT (z e : Int) : (mk z e).2.1.length ≤ (bl z.natAbs + 31) / 32 := by
 rw [zlS]
 refine zaK ?_
 rw [zbz]; omega
theorem zfG (z e : Int) : me z e = 0 ∧ z = 0 ∨ e ≤ me z e ∧ me z e ≤ e + (bl z.natAbs : Nat) := by
 by_cases h : z = 0
 ·exact .inl ⟨by rw [h]; rfl, h⟩
 ·obtain ⟨j, _, h2, _, h4⟩ := zdN h e
  exact .inr (by omega)
theorem zlY {z : Int} (h : z ≠ 0) (e : Int) : mz z e ≠ 0 := by obtain ⟨j, _, _, h3, _⟩ := zdN h e; exact h3
theorem zi5 (z e : Int) : top (mz z e) (me z e) = top z e := by
 by_cases h : z = 0
 ·subst h; rfl
 ·obtain ⟨j, h1, h2, h3, h4⟩ := zdN h e
  unfold top
  rw [if_neg h, if_neg h3, h2]; omega
def upB (m : Int) (s odd zQ more : Bool) : Bool :=
 if m = 1 then zQ && (more || odd) else if m = 2 then zQ else if m = 4 then !s && (zQ || more) else if m = 5 then s && (zQ || more) else false
def rnd (m : Int) (s : Bool) (n k : Nat) : Nat :=
 n / 2 ^ k + (if upB m s (decide (n / 2 ^ k % 2 = 1)) (decide (2 ^ k ≤ 2 * (n % 2 ^ k))) (decide (2 * (n % 2 ^ k) % 2 ^ k ≠ 0)) = true then 1 else 0)
theorem zit {m : Int} {s : Bool} {n k : Nat} (h : n % 2 ^ k = 0) : rnd m s n k = n / 2 ^ k := by
 have hp := zh k
 unfold rnd
 rw [h]
 have e1 : decide (2 ^ k ≤ 2 * 0) = false := decide_eq_false (by omega)
 have e2 : decide (2 * 0 % 2 ^ k ≠ 0) = false := decide_eq_false (by simp)
 rw [e1, e2]
 unfold upB
 simp
theorem zcG (m : Int) (s : Bool) (n : Nat) : rnd m s n 0 = n := by
 rw [zit (by rw [Nat.pow_zero, Nat.mod_one]), Nat.pow_zero, Nat.div_one]
theorem zf6 (m : Int) (s : Bool) (n k j : Nat) : rnd m s (n * 2 ^ j) (k + j) = rnd m s n k := by
 have hj := zh j
 have hk := zh k
 have e1 : n * 2 ^ j / 2 ^ (k + j) = n / 2 ^ k := by rw [Nat.pow_add, Nat.mul_div_mul_right _ _ hj]
 have e2 : n * 2 ^ j % 2 ^ (k + j) = n % 2 ^ k * 2 ^ j := by rw [Nat.pow_add, Nat.mul_mod_mul_right]
 unfold rnd
 rw [e1, e2]
 have e3 : decide (2 ^ (k + j) ≤ 2 * (n % 2 ^ k * 2 ^ j)) = decide (2 ^ k ≤ 2 * (n % 2 ^ k)) := decide_eq_decide.2 (by
  rw [Nat.pow_add, ← Nat.mul_assoc]
  exact ⟨fun h => Nat.le_of_mul_le_mul_right h hj, fun h => Nat.mul_le_mul_right _ h⟩)
 have e4 : decide (2 * (n % 2 ^ k * 2 ^ j) % 2 ^ (k + j) ≠ 0) = decide (2 * (n % 2 ^ k) % 2 ^ k ≠ 0) := decide_eq_decide.2 (by
  rw [Nat.pow_add, ← Nat.mul_assoc, Nat.mul_mod_mul_right]
  constructor
  ·intro h h2; exact h (by rw [h2, Nat.zero_mul])
  ·intro h h2
   rcases Nat.mul_eq_zero.1 h2 with h3 | h3
   ·exact h h3
   ·omega)
 rw [e3, e4]
def R (m : Int) (s : Bool) (n : Nat) (e E : Int) : Nat := rnd m s (n * 2 ^ (e - E).toNat) (E - e).toNat
theorem zgy (m : Int) (s : Bool) (n : Nat) (e E : Int) (j : Nat) : R m s (n * 2 ^ j) e E = R m s n (e + j) E := by
 unfold R
 by_cases h : E ≤ e
 ·have e1 : (E - e).toNat = 0 := by omega
  have e2 : (E - (e + (j : Int))).toNat = 0 := by omega
  rw [e1, e2, zcG, zcG, Nat.mul_assoc, ← Nat.pow_add]
  congr 2; omega
 ·by_cases h2 : E ≤ e + (j : Int)
  ·have e1 : (e - E).toNat = 0 := by omega
   have e2 : (E - (e + (j : Int))).toNat = 0 := by omega
   rw [e1, e2, zcG, Nat.pow_zero, Nat.mul_one]
   have e3 : n * 2 ^ j = n * 2 ^ (e + (j : Int) - E).toNat * 2 ^ (E - e).toNat := by
    rw [Nat.mul_assoc, ← Nat.pow_add]; congr 2; omega
   rw [e3]
   have := zf6 m s (n * 2 ^ (e + (j : Int) - E).toNat) 0 (E - e).toNat
   rw [Nat.zero_add, zcG] at this
   exact this
  ·have e1 : (e - E).toNat = 0 := by omega
   have e2 : (e + (j : Int) - E).toNat = 0 := by omega
   have e3 : (E - e).toNat = (E - (e + (j : Int))).toNat + j := by omega
   rw [e1, e2, e3, Nat.pow_zero, Nat.mul_one, Nat.mul_one, zf6]
def exR (n : Nat) (e E : Int) : Bool := decide (n % 2 ^ (E - e).toNat = 0)
theorem zhm (n : Nat) (e E : Int) (j : Nat) : exR (n * 2 ^ j) e E = exR n (e + j) E := by
 unfold exR
 apply decide_eq_decide.2
 by_cases h2 : E ≤ e + (j : Int)
 ·have e2 : (E - (e + (j : Int))).toNat = 0 := by omega
  rw [e2, Nat.pow_zero, Nat.mod_one]
  have e3 : n * 2 ^ j = n * 2 ^ (j - (E - e).toNat) * 2 ^ (E - e).toNat := by
   rw [Nat.mul_assoc, ← Nat.pow_add]; congr 2; omega
  rw [e3, Nat.mul_mod_left]
 ·have e3 : (E - e).toNat = (E - (e + (j : Int))).toNat + j := by omega
  rw [e3, Nat.pow_add, Nat.mul_mod_mul_right]
  constructor
  ·intro h
   rcases Nat.mul_eq_zero.1 h with h3 | h3
   ·exact h3
   ·have := zh j; omega
  ·intro h; rw [h, Nat.zero_mul]
theorem zj4 (q : Nat) : bl (q + 1) ≤ bl q + 1 := by
 refine zI ?_
 have := zP q
 rw [Nat.pow_succ]
 have := zh (bl q)
 omega
theorem zjB {m : Int} {s : Bool} {n : Nat} {e E : Int} (hn : n ≠ 0) : (bl (R m s n e E) : Int) ≤ max 1 (e + (bl n : Nat) - E + 1) := by
 have h0 : rnd m s (n * 2 ^ (e - E).toNat) (E - e).toNat ≤ n * 2 ^ (e - E).toNat / 2 ^ (E - e).toNat + 1 := by unfold rnd; split <;> omega
 have h1 := zas h0
 have h2 := zj4 (n * 2 ^ (e - E).toNat / 2 ^ (E - e).toNat)
 rw [zbz, zaI hn] at h2
 unfold R
 by_cases c : E ≤ e
 ·have e1 : (E - e).toNat = 0 := by omega
  rw [e1, zcG, zaI hn]; omega
 ·omega
theorem ze6 {m : Int} {s : Bool} {n : Nat} {e E : Int} (hn : n ≠ 0) (h : E ≤ e + (bl n : Nat) - 1) : e + (bl n : Nat) ≤ (bl (R m s n e E) : Int) + E ∧ (bl (R m s n e E) : Int) + E ≤ e + (bl n : Nat) + 1 := by
 have h3 := zjB (m := m) (s := s) (e := e) (E := E) hn
 refine ⟨?_, by omega⟩
 have h0 : n * 2 ^ (e - E).toNat / 2 ^ (E - e).toNat ≤ rnd m s (n * 2 ^ (e - E).toNat) (E - e).toNat := by unfold rnd; split <;> omega
 have h1 := zas h0
 rw [zbz, zaI hn] at h1
 unfold R; omega
def TK (m : Int) (z e E : Int) : Int := sv (decide (z < 0)) (R m (decide (z < 0)) z.natAbs e E)
theorem zjG {m z e E : Int} (h : exR z.natAbs e E = true) : mk (TK m z e E) E = mk z e := by
 unfold TK R
 unfold exR at h
 have h := of_decide_eq_true h
 by_cases c : E ≤ e
 ·have e1 : (E - e).toNat = 0 := by omega
  rw [e1, zcG]
  have e2 : sv (decide (z < 0)) (z.natAbs * 2 ^ (e - E).toNat) = z * 2 ^ (e - E).toNat := by
   have := zjQ (decide (z < 0)) z.natAbs e E
   rw [zgh] at this
   exact this.symm
  rw [e2, zfH]; congr 1; omega
 ·have e1 : (e - E).toNat = 0 := by omega
  rw [e1, Nat.pow_zero, Nat.mul_one, zit h]
  generalize hk : (E - e).toNat = k at *
  have hE : E = e + (k : Int) := by omega
  rw [hE, ← zfH]
  congr 1
  have e2 : sv (decide (z < 0)) (z.natAbs / 2 ^ k) * 2 ^ k = sv (decide (z < 0)) (z.natAbs / 2 ^ k * 2 ^ k) := by
   unfold sv; split
   ·rw [Int.neg_mul, Int.natCast_mul, Int.natCast_pow]; rfl
   ·rw [Int.natCast_mul, Int.natCast_pow]; rfl
  rw [e2, Nat.div_mul_cancel (Nat.dvd_of_mod_eq_zero h), zgh]
theorem zeX {E : Int} (h1 : -1000000000 ≤ E) (h2 : E ≤ 1000000000) : wrap64 (-E) = -E := by unfold wrap64; omega
def inw (m : Int) (s : Bool) : Bool := decide (m = 3) || (decide (m = 4) && s) || (decide (m = 5) && !s)
def zcE (f m : Int) (s : Bool) : Nat := (if inw m s = true then mo f * 2 ^ fb f - 1 else mo f * 2 ^ fb f) + sgn f s
def zav (f : Int) (n : Nat) (e : Int) : Nat := enc f (n / 2 ^ lw n) (e + (lw n : Nat))
def zl (f : Int) (n : Nat) (e : Int) : Int := max (e + (bl n : Nat) - (pr f : Nat)) (lo f)
def zt (f m : Int) (s : Bool) (n : Nat) (e : Int) : Int × Int :=
 let q := R m s n e (zl f n e)
 if (bl q : Int) + zl f n e > wd f then ((zcE f m s : Int), 20)
 else ((((if q = 0 then 0 else zav f q (zl f n e)) + sgn f s : Nat) : Int),
  if exR n e (zl f n e) = true then 0
  else if (bl (R m s n e (e + (bl n : Nat) - (pr f : Nat))) : Int) + (e + (bl n : Nat) - (pr f : Nat)) < lo f + (pr f : Nat) then 24 else 16)
theorem zjC {m : Int} {s : Bool} {n : Nat} {e E : Int} {p : Nat} (h : e + (bl n : Nat) - (p : Nat) ≤ E) : R m s n e E ≤ 2 ^ p := by
 have h1 := zP n
 unfold R
 by_cases c : E ≤ e
 ·have e1 : (E - e).toNat = 0 := by omega
  rw [e1, zcG]
  have h2 : n * 2 ^ (e - E).toNat < 2 ^ bl n * 2 ^ (e - E).toNat := Nat.mul_lt_mul_of_pos_right h1 (zh _)
  rw [← Nat.pow_add] at h2
  exact Nat.le_trans (Nat.le_of_lt h2) (Nat.pow_le_pow_right (by omega) (by omega))
 ·have e1 : (e - E).toNat = 0 := by omega
  rw [e1, Nat.pow_zero, Nat.mul_one]
  have h3 : n / 2 ^ (E - e).toNat < 2 ^ p := by
   rw [Nat.div_lt_iff_lt_mul (zh _), ← Nat.pow_add]
   exact Nat.lt_of_lt_of_le h1 (Nat.pow_le_pow_right (by omega) (by omega))
  unfold rnd
  split <;> omega
theorem zl9 {q p : Nat} (h0 : q ≠ 0) (h : q ≤ 2 ^ p) : bl (q / 2 ^ lw q) ≤ p ∨ p = 0 := by
 rcases Nat.eq_zero_or_pos p with hp | hp
 ·exact .inr hp
 left
 rcases Nat.lt_or_ge q (2 ^ p) with c | c
 ·exact zI (Nat.lt_of_le_of_lt (Nat.div_le_self _ _) c)
 ·have e : q = 2 ^ p := by omega
  have hw : lw q = p := zfF ⟨0, by rw [e]; omega⟩
  rw [hw, e, Nat.div_self (zh p)]
  have : bl 1 = 1 := by decide
  omega
theorem zgi {n : Nat} (h : n ≠ 0) : bl (n / 2 ^ lw n) + lw n = bl n := by
 have := zdL h
 rw [zbz]; omega
def bN (b : Bool) : Nat := if b = true then 1 else 0
theorem zmI {m : Int} {s : Bool} {n k n' k' : Nat} (h1 : n / 2 ^ k = n' / 2 ^ k') (h2 : 2 ^ k ≤ 2 * (n % 2 ^ k) ↔ 2 ^ k' ≤ 2 * (n' % 2 ^ k')) (h3 : 2 * (n % 2 ^ k) % 2 ^ k = 0 ↔ 2 * (n' % 2 ^ k') % 2 ^ k' = 0) : rnd m s n k = rnd m s n' k' := by
 unfold rnd
 rw [h1, decide_eq_decide.2 h2, decide_eq_decide.2 (show 2 * (n % 2 ^ k) % 2 ^ k ≠ 0 ↔ 2 * (n' % 2 ^ k') % 2 ^ k' ≠ 0 from not_congr h3)]
theorem zfk {x M : Nat} (h : x < M) : 2 * x % M = 0 ↔ x = 0 ∨ 2 * x = M := by
 by_cases c : 2 * x < M
 ·rw [Nat.mod_eq_of_lt c]; omega
 ·have : 2 * x % M = 2 * x - M := by rw [Nat.mod_eq_sub_mod (by omega), Nat.mod_eq_of_lt (by omega)]
  rw [this]; omega
theorem zd0 {H j r d : Nat} (hr : r < 2 ^ j) : (H * 2 ^ j + r) / 2 ^ (d + j) = H / 2 ^ d ∧ (H * 2 ^ j + r) % 2 ^ (d + j) = H % 2 ^ d * 2 ^ j + r := by
 have := zde (X := H) (P := 2 ^ j) (Q := 2 ^ d) (c := r) (zh j) hr
 rw [Nat.pow_add, Nat.mul_comm (2 ^ d)]
 exact ⟨this.1, by rw [this.2, Nat.mul_comm]⟩
theorem ziu (m : Int) (s : Bool) {H j r d : Nat} (hr : r < 2 ^ j) (hd : 1 ≤ d) : rnd m s (H * 2 ^ j + r) (d + j) = rnd m s (2 * H + bN (decide (r ≠ 0))) (d + 1) := by
 have hb : bN (decide (r ≠ 0)) < 2 ^ 1 := by unfold bN; split <;> omega
 have hb0 : bN (decide (r ≠ 0)) = 0 ↔ r = 0 := by
  unfold bN
  by_cases c : r = 0
  ·simp [c]
  ·simp [c]
 have e0 : 2 * H + bN (decide (r ≠ 0)) = H * 2 ^ 1 + bN (decide (r ≠ 0)) := by omega
 rw [e0]
 generalize bN (decide (r ≠ 0)) = b at *
 obtain ⟨a1, a2⟩ := zd0 (H := H) (d := d) hr
 obtain ⟨b1, b2⟩ := zd0 (H := H) (d := d) hb
 have hh := Nat.mod_lt H (zh d)
 have hj := zh j
 obtain ⟨d', rfl⟩ : ∃ d', d = d' + 1 := ⟨d - 1, by omega⟩
 have he : 2 ^ (d' + 1) = 2 * 2 ^ d' := by rw [Nat.pow_succ, Nat.mul_comm]
 refine zmI (by rw [a1, b1]) ?_ ?_
 ·rw [a2, b2, Nat.pow_add 2 (d' + 1) j, Nat.pow_add 2 (d' + 1) 1, he]
  rw [he] at hh
  generalize H % (2 * 2 ^ d') = h at *
  generalize 2 ^ d' = p at *
  generalize 2 ^ j = q at *
  constructor
  ·intro h1
   rcases Nat.lt_or_ge h p with c | c
   ·exfalso
    have h2 : (h + 1) * q ≤ p * q := Nat.mul_le_mul_right _ c
    rw [Nat.add_mul, Nat.one_mul] at h2
    rw [Nat.mul_assoc] at h1
    omega
   ·omega
  ·intro h1
   have h2 : p * q ≤ h * q := Nat.mul_le_mul_right _ (by omega)
   rw [Nat.mul_assoc]; omega
 ·have l1 : H % 2 ^ (d' + 1) * 2 ^ j + r < 2 ^ (d' + 1 + j) := by
   rw [Nat.pow_add 2 (d' + 1) j]
   have h2 : (H % 2 ^ (d' + 1) + 1) * 2 ^ j ≤ 2 ^ (d' + 1) * 2 ^ j := Nat.mul_le_mul_right _ hh
   rw [Nat.add_mul, Nat.one_mul] at h2
   omega
  have l2 : H % 2 ^ (d' + 1) * 2 ^ 1 + b < 2 ^ (d' + 1 + 1) := by rw [Nat.pow_add 2 (d' + 1) 1]; omega
  rw [a2, b2, zfk l1, zfk l2, Nat.pow_add 2 (d' + 1) j, Nat.pow_add 2 (d' + 1) 1, he]
  rw [he] at hh
  generalize H % (2 * 2 ^ d') = h at *
  generalize 2 ^ d' = p at *
  generalize 2 ^ j = q at *
  constructor
  ·rintro (h1 | h1)
   ·have h2 : h * q = 0 := by omega
    rcases Nat.mul_eq_zero.1 h2 with h3 | h3
    ·left; have := hb0.2 (by omega); omega
    ·omega
   ·right
    rw [Nat.mul_assoc] at h1
    rcases Nat.lt_trichotomy h p with c | c | c
    ·have h2 : (h + 1) * q ≤ p * q := Nat.mul_le_mul_right _ c
     rw [Nat.add_mul, Nat.one_mul] at h2
     omega
    ·subst c
     have := hb0.2 (by omega)
     omega
    ·have h2 : (p + 1) * q ≤ h * q := Nat.mul_le_mul_right _ c
     rw [Nat.add_mul, Nat.one_mul] at h2
     omega
  ·rintro (h1 | h1)
   ·left
    have h2 : h = 0 := by omega
    have h3 := hb0.1 (by omega)
    rw [h2, h3]; omega
   ·right
    have h2 : h = p := by omega
    have h3 := hb0.1 (by omega)
    rw [h2, h3, Nat.mul_assoc]; omega
theorem zho {H j r d : Nat} (hr : r < 2 ^ j) : (H * 2 ^ j + r) % 2 ^ (d + j) = 0 ↔ (2 * H + bN (decide (r ≠ 0))) % 2 ^ (d + 1) = 0 := by
 have hb : bN (decide (r ≠ 0)) < 2 ^ 1 := by unfold bN; split <;> omega
 have hb0 : bN (decide (r ≠ 0)) = 0 ↔ r = 0 := by
  unfold bN
  by_cases c : r = 0
  ·simp [c]
  ·simp [c]
 have e0 : 2 * H + bN (decide (r ≠ 0)) = H * 2 ^ 1 + bN (decide (r ≠ 0)) := by omega
 rw [e0]
 generalize bN (decide (r ≠ 0)) = b at *
 rw [(zd0 (H := H) (d := d) hr).2, (zd0 (H := H) (d := d) hb).2]
 have hj := zh j
 constructor
 ·intro h
  have h2 : H % 2 ^ d * 2 ^ j = 0 := by omega
  rcases Nat.mul_eq_zero.1 h2 with h3 | h3
  ·have := hb0.2 (by omega); omega
  ·omega
 ·intro h
  have h2 : H % 2 ^ d = 0 := by omega
  have h3 := hb0.1 (by omega)
  rw [h2, h3]; omega
def UP (m : Int) (s : Bool) (H : Nat) (T : Int) (b : Bool) (E : Int) : Nat := rnd m s (2 * H + bN b) ((E - T + 64).toNat + 1)
def XP (H : Nat) (T : Int) (b : Bool) (E : Int) : Bool := decide ((2 * H + bN b) % 2 ^ ((E - T + 64).toNat + 1) = 0)
def zJ (n : Nat) : Nat := n * 2 ^ (64 - bl n) / 2 ^ (bl n - 64)
def zaL (n : Nat) : Bool := decide (n % 2 ^ (bl n - 64) ≠ 0)
theorem zhw {n : Nat} (h : n ≠ 0) : 2 ^ 63 ≤ zJ n ∧ zJ n < 2 ^ 64 := by
 have h1 := zP n
 have h2 := zcw h
 have hp := za6 h
 unfold zJ
 by_cases c : bl n ≤ 64
 ·have e1 : bl n - 64 = 0 := by omega
  rw [e1, Nat.pow_zero, Nat.div_one]
  have h3 : 2 ^ (bl n - 1) * 2 ^ (64 - bl n) ≤ n * 2 ^ (64 - bl n) := Nat.mul_le_mul_right _ h2
  have h4 : n * 2 ^ (64 - bl n) < 2 ^ bl n * 2 ^ (64 - bl n) := Nat.mul_lt_mul_of_pos_right h1 (zh _)
  rw [← Nat.pow_add] at h3 h4
  rw [show bl n - 1 + (64 - bl n) = 63 by omega] at h3
  rw [show bl n + (64 - bl n) = 64 by omega] at h4
  exact ⟨h3, h4⟩
 ·have e1 : 64 - bl n = 0 := by omega
  rw [e1, Nat.pow_zero, Nat.mul_one]
  constructor
  ·rw [Nat.le_div_iff_mul_le (zh _), ← Nat.pow_add, show 63 + (bl n - 64) = bl n - 1 by omega]; exact h2
  ·rw [Nat.div_lt_iff_lt_mul (zh _), ← Nat.pow_add, show 64 + (bl n - 64) = bl n by omega]; exact h1
theorem zjI (m : Int) (s : Bool) {n : Nat} (hn : n ≠ 0) {e E : Int} (h : 1 ≤ E - (e + (bl n : Nat)) + 64) : UP m s (zJ n) (e + (bl n : Nat)) (zaL n) E = R m s n e E ∧ XP (zJ n) (e + (bl n : Nat)) (zaL n) E = exR n e E := by
 have hp := za6 hn
 generalize hd : (E - (e + (bl n : Nat)) + 64).toNat = d
 by_cases c : 64 ≤ bl n
 ·have e1 : 64 - bl n = 0 := by omega
  have hH : zJ n = n / 2 ^ (bl n - 64) := by unfold zJ; rw [e1, Nat.pow_zero, Nat.mul_one]
  have hsp : n = zJ n * 2 ^ (bl n - 64) + n % 2 ^ (bl n - 64) := by
   rw [hH]
   have := Nat.div_add_mod n (2 ^ (bl n - 64))
   rw [Nat.mul_comm] at this
   exact this.symm
  have hr := Nat.mod_lt n (zh (bl n - 64))
  have hk : (E - e).toNat = d + (bl n - 64) := by omega
  have hz : (e - E).toNat = 0 := by omega
  have st := ziu m s (H := zJ n) (d := d) hr (by omega)
  have ex := zho (H := zJ n) (d := d) hr
  rw [← hsp] at st ex
  unfold UP XP R exR zaL
  rw [hd, hk, hz, Nat.pow_zero, Nat.mul_one]
  exact ⟨st.symm, decide_eq_decide.2 ex.symm⟩
 ·have e1 : bl n - 64 = 0 := by omega
  have hH : zJ n = n * 2 ^ (64 - bl n) := by unfold zJ; rw [e1, Nat.pow_zero, Nat.div_one]
  have hm : zaL n = false := by unfold zaL; rw [e1, Nat.pow_zero, Nat.mod_one]; rfl
  have hR := zgy m s n (e - (64 - bl n : Nat)) E (64 - bl n)
  have hX := zhm n (e - (64 - bl n : Nat)) E (64 - bl n)
  rw [show e - ((64 - bl n : Nat) : Int) + ((64 - bl n : Nat) : Int) = e by omega, ← hH] at hR hX
  rw [← hR, ← hX, hm]
  unfold UP XP R exR bN
  rw [if_neg (by simp), Nat.add_zero, hd, show (e - ((64 - bl n : Nat) : Int) - E).toNat = 0 by omega, show (E - (e - ((64 - bl n : Nat) : Int))).toNat = d by omega, Nat.pow_zero, Nat.mul_one]
  have := zf6 m s (zJ n) d 1
  rw [Nat.pow_one, Nat.mul_comm] at this
  refine ⟨this, ?_⟩
  apply decide_eq_decide.2
  rw [Nat.pow_succ, Nat.mul_comm 2, Nat.mul_mod_mul_right]
  omega
theorem zjh (m : Int) (s odd zQ more : Bool) : zcI.f m s odd zQ more = some (upB m s odd zQ more) := by
 unfold zcI.f upB
 by_cases c1 : m = 1
 ·rw [if_pos c1, if_pos c1]; cases more <;> cases odd <;> cases zQ <;> rfl
 rw [if_neg c1, if_neg c1]
 by_cases c2 : m = 2
 ·rw [if_pos c2, if_pos c2]
 rw [if_neg c2, if_neg c2]
 by_cases c4 : m = 4
 ·rw [if_pos c4, if_pos c4]; cases s <;> cases zQ <;> cases more <;> rfl
 rw [if_neg c4, if_neg c4]
 by_cases c5 : m = 5
 ·rw [if_pos c5, if_pos c5]; cases s <;> cases zQ <;> cases more <;> rfl
 ·rw [if_neg c5, if_neg c5]
theorem zgM (b : Bool) : zdd.f b = some (bN b : Int) := by cases b <;> rfl
theorem zgH (a : Nat) (ha : a < 18446744073709551616) : Go.bits .and .u64 (a : Int) 1 = ((a % 2 : Nat) : Int) := zfb a 1 ha (by omega)
theorem zje (m : Int) (s : Bool) {W : Nat} (hW : W < 9223372036854775808) (zQ more : Bool) : Ev (fun k => z3.j2 k m s (W : Int) zQ more) (((W + bN (upB m s (decide (W % 2 = 1)) zQ more) : Nat) : Int), !zQ && !more) := by
 have hb : bN (upB m s (decide (W % 2 = 1)) zQ more) ≤ 1 := by unfold bN; split <;> omega
 refine zf ?_
 simp only [z3.j2]
 rw [zgH W (by omega)]
 have e1 : decide (((W % 2 : Nat) : Int) = 1) = decide (W % 2 = 1) := decide_eq_decide.2 (by omega)
 rw [e1]
 refine zk (zjh _ _ _ _ _) ?_; try dsimp only
 refine zk (zgM _) ?_; try dsimp only
 rw [← Int.natCast_add, zap (by omega)]
 cases zQ
 ·exact zd rfl (Ev.now _)
 ·exact ze (by simp) (Ev.now _)
theorem zjZ {H d : Nat} (b : Bool) (hd : 1 ≤ d) : (2 * H + bN b) / 2 ^ (d + 1) = H / 2 ^ d ∧
  decide (2 ^ (d + 1) ≤ 2 * ((2 * H + bN b) % 2 ^ (d + 1))) = decide (H / 2 ^ (d - 1) % 2 = 1) ∧
  decide (2 * ((2 * H + bN b) % 2 ^ (d + 1)) % 2 ^ (d + 1) ≠ 0) = (b || decide (H % 2 ^ (d - 1) ≠ 0)) ∧
  decide ((2 * H + bN b) % 2 ^ (d + 1) = 0) = (!decide (H / 2 ^ (d - 1) % 2 = 1) && !(b || decide (H % 2 ^ (d - 1) ≠ 0))) := by
 have hb : bN b < 2 ^ 1 := by unfold bN; split <;> omega
 have hb0 : bN b = 0 ↔ b = false := by unfold bN; cases b <;> simp
 have hb1 : bN b ≤ 1 := by unfold bN; split <;> omega
 obtain ⟨d', rfl⟩ : ∃ d', d = d' + 1 := ⟨d - 1, by omega⟩
 have hs := zd0 (H := H) (d := d' + 1) hb
 have e0 : H * 2 ^ 1 + bN b = 2 * H + bN b := by omega
 rw [e0] at hs
 have hm : H % 2 ^ (d' + 1) = H % 2 ^ d' + 2 ^ d' * (H / 2 ^ d' % 2) := by rw [Nat.pow_succ, Nat.mod_mul]
 have hl := Nat.mod_lt H (zh d')
 have h2 : H / 2 ^ d' % 2 = 0 ∨ H / 2 ^ d' % 2 = 1 := by omega
 have hp : 2 ^ (d' + 1 + 1) = 4 * 2 ^ d' := by rw [Nat.pow_succ, Nat.pow_succ]; omega
 have hx : H % 2 ^ (d' + 1) * 2 ^ 1 + bN b < 4 * 2 ^ d' := by
  rw [hm]; rcases h2 with h | h <;> rw [h] <;> omega
 rw [hs.1, hs.2, hp]
 rw [show d' + 1 - 1 = d' from rfl]
 refine ⟨rfl, ?_, ?_, ?_⟩
 ·apply decide_eq_decide.2
  rw [hm]; rcases h2 with h | h <;> rw [h] <;> constructor <;> intro h3 <;> omega
 ·have e3 : (b || decide (H % 2 ^ d' ≠ 0)) = decide (¬ (bN b = 0 ∧ H % 2 ^ d' = 0)) := by
   by_cases c : H % 2 ^ d' = 0
   ·cases b <;> simp [c, bN]
   ·cases b <;> simp [c, bN]
  rw [e3]
  apply decide_eq_decide.2
  apply not_congr
  rw [zfk hx, hm]
  rcases h2 with h | h <;> rw [h] <;> constructor
  ·rintro (h3 | h3) <;> omega
  ·rintro ⟨h3, h4⟩; left; omega
  ·rintro (h3 | h3) <;> omega
  ·rintro ⟨h3, h4⟩; right; omega
 ·have e3 : (!decide (H / 2 ^ d' % 2 = 1) && !(b || decide (H % 2 ^ d' ≠ 0))) = decide (¬ (H / 2 ^ d' % 2 = 1) ∧ (bN b = 0 ∧ H % 2 ^ d' = 0)) := by
   by_cases c : H % 2 ^ d' = 0
   ·rcases h2 with h | h <;> cases b <;> simp [c, h, bN]
   ·rcases h2 with h | h <;> cases b <;> simp [c, h, bN]
  rw [e3]
  apply decide_eq_decide.2
  rw [hm]
  rcases h2 with h | h <;> rw [h] <;> constructor <;> intro h3 <;> omega
theorem zjd (m : Int) (s : Bool) {H : Nat} (hH : 2 ^ 63 ≤ H ∧ H < 2 ^ 64) {T E : Int} (b : Bool) (hd : 1 ≤ E - T + 64) (h1 : -1000000000 ≤ T) (h2 : T ≤ 1000000000) (h3 : -1000000000 ≤ E) (h4 : E ≤ 1000000000) :
  Ev (fun k => z3.f k (H : Int) T b m s E) ((UP m s H T b E : Int), XP H T b E) := by
 have ew : wrap64 (wrap64 (E - T) + 64) = E - T + 64 := by unfold wrap64; omega
 unfold z3.f
 rw [ew]
 clear ew
 obtain ⟨d, hdd⟩ := Int.eq_ofNat_of_zero_le (show 0 ≤ E - T + 64 by omega)
 have hdn : (E - T + 64).toNat = d := by omega
 unfold UP XP
 rw [hdn, hdd]
 rw [hdd] at hd
 clear hdn hdd
 have hd1 : 1 ≤ d := by omega
 have hbb : bN b ≤ 1 := by unfold bN; split <;> omega
 by_cases c : d > 64
 ·have hp : 2 ^ 66 ≤ 2 ^ (d + 1) := Nat.pow_le_pow_right (by omega) (by omega)
  have e1 : rnd m s (2 * H + bN b) (d + 1) = bN (upB m s false false true) := by
   unfold rnd
   rw [Nat.div_eq_of_lt (by omega), Nat.mod_eq_of_lt (a := 2 * H + bN b) (by omega), Nat.mod_eq_of_lt (a := 2 * (2 * H + bN b)) (by omega)]
   rw [decide_eq_false (by omega : ¬ (0 % 2 = 1)), decide_eq_false (by omega : ¬ (2 ^ (d + 1) ≤ 2 * (2 * H + bN b))), decide_eq_true (by omega : 2 * (2 * H + bN b) ≠ 0), Nat.zero_add]
   rfl
  have e2 : decide ((2 * H + bN b) % 2 ^ (d + 1) = 0) = false := decide_eq_false (by rw [Nat.mod_eq_of_lt (by omega)]; omega)
  rw [e1, e2]
  refine zd (by omega) ?_
  refine zk (zjh _ _ _ _ _) ?_; try dsimp only
  refine zk (zgM _) ?_; try dsimp only
  exact Ev.now _
 refine ze (by omega) ?_
 obtain ⟨a1, a2, a3, a4⟩ := zjZ (H := H) b hd1
 have e1 : rnd m s (2 * H + bN b) (d + 1) = H / 2 ^ d + bN (upB m s (decide (H / 2 ^ d % 2 = 1)) (decide (H / 2 ^ (d - 1) % 2 = 1)) (b || decide (H % 2 ^ (d - 1) ≠ 0))) := by
  unfold rnd
  rw [a1, a2, a3]; rfl
 rw [e1, a4]
 clear a1 a2 a3 a4 e1
 have hW : H / 2 ^ d < 9223372036854775808 := by
  rw [Nat.div_lt_iff_lt_mul (zh d)]
  have : 2 ^ 1 ≤ 2 ^ d := Nat.pow_le_pow_right (by omega) hd1
  have := Nat.mul_le_mul_left 9223372036854775808 this
  omega
 have last : Ev (fun k => z3.j1 k m s (H : Int) T b (d : Int) ((H / 2 ^ d : Nat) : Int) false b) (((H / 2 ^ d + bN (upB m s (decide (H / 2 ^ d % 2 = 1)) (decide (H / 2 ^ (d - 1) % 2 = 1)) (b || decide (H % 2 ^ (d - 1) ≠ 0))) : Nat) : Int), (!decide (H / 2 ^ (d - 1) % 2 = 1) && !(b || decide (H % 2 ^ (d - 1) ≠ 0)))) := by
  have ew : wrap64 ((d : Int) - 1) = ((d - 1 : Nat) : Int) := by unfold wrap64; omega
  have hp64 : 2 ^ (d - 1) ≤ 2 ^ 63 := Nat.pow_le_pow_right (by omega) (by omega)
  have hpp := zh (d - 1)
  have hq : H / 2 ^ (d - 1) ≤ H := Nat.div_le_self _ _
  refine zf ?_
  simp only [z3.j1]
  rw [ew]
  clear ew
  rw [zdf H (d - 1) (by show d - 1 ≤ 64; omega), zgH _ (by omega)]
  have e2 : decide (((H / 2 ^ (d - 1) % 2 : Nat) : Int) = 1) = decide (H / 2 ^ (d - 1) % 2 = 1) := decide_eq_decide.2 (by omega)
  have e3 : shl .u64 1 ((d - 1 : Nat) : Int) = ((2 ^ (d - 1) : Nat) : Int) := by
   have := zge (X := 1) (s := d - 1) (by omega) (by omega)
   rw [Nat.one_mul] at this
   exact this
  have e4 : IntKind.u64.wrap (((2 ^ (d - 1) : Nat) : Int) - 1) = ((2 ^ (d - 1) - 1 : Nat) : Int) := by
   rw [show ((2 ^ (d - 1) : Nat) : Int) - 1 = ((2 ^ (d - 1) - 1 : Nat) : Int) by omega]
   exact zap (by omega)
  have e5 : decide (¬ (((H % 2 ^ (d - 1) : Nat) : Int) = 0)) = decide (H % 2 ^ (d - 1) ≠ 0) := decide_eq_decide.2 (by omega)
  rw [e2, e3, e4, zfb H (d - 1) (by omega) (by omega), e5]
  refine zd (by omega) (zd (by omega) ?_)
  cases b
  ·refine ze (by simp) (zd (by omega) ?_)
   exact zje m s hW _ _
  ·refine zd rfl ?_
   exact zje m s hW _ _
 by_cases c2 : d < 64
 ·refine zd (by omega) (zd (by omega) ?_)
  rw [zdf H d (by show d ≤ 64; omega)]
  exact last
 ·have zJ : d = 64 := by omega
  have e0 : H / 2 ^ d = 0 := Nat.div_eq_of_lt (by rw [zJ]; exact hH.2)
  refine ze (by omega) ?_
  rw [e0] at last ⊢
  exact last
def zb1 (f m : Int) (s : Bool) (T : Int) (U : Int → Nat) (X : Int → Bool) : Int × Int :=
 if (bl (U (max (T - (pr f : Nat)) (lo f))) : Int) + max (T - (pr f : Nat)) (lo f) > wd f then ((zcE f m s : Int), 20)
 else ((((if U (max (T - (pr f : Nat)) (lo f)) = 0 then 0 else zav f (U (max (T - (pr f : Nat)) (lo f))) (max (T - (pr f : Nat)) (lo f))) + sgn f s : Nat) : Int),
  if X (max (T - (pr f : Nat)) (lo f)) = true then 0
  else if (bl (U (T - (pr f : Nat))) : Int) + (T - (pr f : Nat)) < lo f + (pr f : Nat) then 24 else 16)
theorem zeN (f m : Int) (s : Bool) (n : Nat) (e : Int) : zb1 f m s (e + (bl n : Nat)) (R m s n e) (exR n e) = zt f m s n e := rfl
theorem zf7 {f m : Int} {s : Bool} {T : Int} {U U' : Int → Nat} {X X' : Int → Bool} (h : ∀ E, T - (pr f : Nat) ≤ E → U E = U' E ∧ X E = X' E) : zb1 f m s T U X = zb1 f m s T U' X' := by
 unfold zb1
 rw [(h (max (T - (pr f : Nat)) (lo f)) (by omega)).1, (h (max (T - (pr f : Nat)) (lo f)) (by omega)).2, (h (T - (pr f : Nat)) (by omega)).1]
theorem zfA {f : Int} (h : isF f) : zdW.f f = some ((pr f : Int), lo f, wd f, true) := by rcases h with rfl | rfl <;> rfl
def fmE (f m : Int) : Int := if isF f then (if isM m then 0 else 5) else 4
theorem zme {f m : Int} (h : isF f) (hm : isM m) : Ev (fun k => zN.f k f m []) ((pr f : Int), lo f, wd f, 0) := by
 unfold zN.f
 unfold isM at hm
 refine zk (zfA h) ?_; try dsimp only
 refine ze (by simp) (ze (by omega) (ze (by omega) ?_))
 refine zf ?_
 simp only [zN.l0]
 exact ze (by simp) (Ev.now _)
theorem zmf {f m : Int} (h : isF f) (hm : isM m) {s : Bool} {l : List Int} {e : Int} (hd : My s l e) : Ev (fun k => zN.f k f m [(s, l, e)]) ((pr f : Int), lo f, wd f, 0) := by
 unfold zN.f
 unfold isM at hm
 refine zk (zfA h) ?_; try dsimp only
 refine ze (by simp) (ze (by omega) (ze (by omega) ?_))
 have e1 : wrap64 (0 + 1) = 1 := by rw [zah (by omega) (by omega)]; rfl
 have el : (([(s, l, e)] : List (Bool × List Int × Int)).length : Int) = 1 := rfl
 have r0 : rdT [.b, .is .u32, .i .i64] [(s, l, e)] 0 = (s, l, e) := rfl
 refine zf ?_
 simp only [zN.l0, el, e1, r0]
 clear e1
 refine zd (by omega) (zd (by omega) (zd (by omega) ?_))
 refine zk (zce hd) ?_; try dsimp only
 refine ze (by simp) (zf ?_)
 simp only [zN.l0]
 exact ze (by omega) (Ev.now _)
theorem zjy {f : Int} (h : isF f) (s b : Bool) : Ev (fun k => zaf.j1 k f s b) ((((if b = true then mo f * 2 ^ fb f - 1 else mo f * 2 ^ fb f) + sgn f s : Nat) : Int), 0) := by
 refine zf ?_
 simp only [zaf.j1]
 cases b
 ·refine ze (by simp) ?_
  refine Ev.bind (zjm h s) ?_; try dsimp only
  exact Ev.now _
 ·refine zd rfl ?_
  refine Ev.bind (znT h s) ?_; try dsimp only
  exact Ev.now _
theorem zgx {f m : Int} (h : isF f) (hm : isM m) (s : Bool) : Ev (fun k => zaf.f k f m s) ((zcE f m s : Int), 0) := by
 have j := fun b => zjy h s b
 unfold zaf.f zcE
 refine Ev.bind (zme h hm) ?_; try dsimp only
 refine ze (by simp) ?_
 by_cases c3 : m = 3
 ·refine zd c3 ?_
  have e : inw m s = true := by unfold inw; simp [c3]
  rw [e]; exact j true
 refine ze c3 ?_
 by_cases c4 : m = 4
 ·refine zd c4 ?_
  have e : inw m s = s := by unfold inw; simp [c4]
  rw [e]
  cases s
  ·exact ze (by simp) (ze (by omega) (j false))
  ·exact zd rfl (j true)
 refine ze c4 ?_
 by_cases c5 : m = 5
 ·refine zd c5 ?_
  have e : inw m s = !s := by unfold inw; simp [c5]
  rw [e]; exact j (!s)
 ·refine ze c5 ?_
  have e : inw m s = false := by unfold inw; simp [c3, c4, c5]
  rw [e]; exact j false
theorem znW {f : Int} (h : isF f) : Ev (fun k => zb5.f k f false [] 0) (0, 0) := by
 have hm : My false [] 0 := ⟨⟨zcv, fun _ => ⟨rfl, rfl⟩, fun h => absurd rfl h⟩, by simp, by omega, by omega⟩
 have hn := zfM Dg.nil (by simp)
 have e1 : zbe [] = true := zfR zcv (by simp)
 rw [e1, if_pos rfl] at hn
 have hl := zdK (x := 0) (by omega)
 have b0 : bl (Int.toNat 0) = 0 := za7
 rw [b0] at hl
 have hfb := zab h
 have w1 : wrap64 ((fb f : Int) + 1) = (fb f : Int) + 1 := by unfold wrap64; omega
 unfold zb5.f
 refine Ev.bind (zdp h) ?_; try dsimp only
 refine ze (fun h => h rfl) ?_
 refine zk (zce hm) ?_; try dsimp only
 refine ze (by simp) ?_
 refine Ev.bind (hn) ?_; try dsimp only
 refine Ev.bind (hl) ?_; try dsimp only
 rw [w1]
 clear w1
 refine ze (by simp) (ze (by omega) (ze (by simp) ?_))
 exact zd rfl (Ev.now _)
theorem zgA {m : Int} {s : Bool} {H : Nat} (hH : H < 2 ^ 64) {T E : Int} {b : Bool} {p : Nat} (hp : p ≤ 64) (h : T - (p : Nat) ≤ E) : UP m s H T b E ≤ 2 ^ p := by
 have hb : bN b ≤ 1 := by unfold bN; split <;> omega
 have h1 : (2 * H + bN b) / 2 ^ ((E - T + 64).toNat + 1) < 2 ^ p := by
  rw [Nat.div_lt_iff_lt_mul (zh _), ← Nat.pow_add]
  have : 2 ^ 65 ≤ 2 ^ (p + ((E - T + 64).toNat + 1)) := Nat.pow_le_pow_right (by omega) (by omega)
  omega
 unfold UP rnd
 split <;> omega
theorem zn0 {f : Int} (h : isF f) (s : Bool) {q : Nat} {E : Int} (hq : q ≤ 2 ^ pr f) (hE : lo f ≤ E) (hw : (bl q : Int) + E ≤ wd f) (h0 : q ≠ 0) : Ev (fun k => zb5.f k f (mk (sv s q) E).1 (mk (sv s q) E).2.1 (mk (sv s q) E).2.2) (((zav f q E + sgn f s : Nat) : Int), 0) := by
 have hpr := zM h
 have hfb := zab h
 have hl := zbq h
 have hwb := zcM h
 have h2 := (zl9 h0 hq).resolve_right (by omega)
 have h3 := zgi h0
 have hdy := zeh (sv s q) E
 rw [zeE s h0] at hdy ⊢
 have hne : D (q / 2 ^ lw q) ≠ [] := by
  intro hc
  have h1 : V (D (q / 2 ^ lw q)) = 0 := by rw [hc]; rfl
  rw [V_D] at h1
  rw [h1, za7] at h3
  have := zdL h0
  omega
 have hmy : My s (D (q / 2 ^ lw q)) (E + (lw q : Nat)) := ⟨hdy, zaK (by omega), by omega, by omega⟩
 have := znV h hmy hne (by rw [V_D]; exact h2) (by omega) (by rw [V_D]; omega)
 rw [V_D] at this
 exact this
theorem zmn {f m : Int} (h : isF f) (s : Bool) {H : Nat} (hH : 2 ^ 63 ≤ H ∧ H < 2 ^ 64) {T : Int} (b : Bool) (h1 : -100000000 ≤ T) (h2 : T ≤ 100000000) (x : Bool) (w : Int) :
  Ev (fun k => zaM.j1 k m s (H : Int) T b (pr f : Int) (lo f) (wd f) x w) (w, if x = true then 0 else if (bl (UP m s H T b (T - (pr f : Nat))) : Int) + (T - (pr f : Nat)) < lo f + (pr f : Nat) then 24 else 16) := by
 have hpr := zM h
 have hfb := zab h
 have hl := zbq h
 have hu := zjd m s hH (T := T) (E := T - (pr f : Nat)) b (by omega) (by omega) (by omega) (by omega) (by omega)
 have hle := zgA (m := m) (s := s) (H := H) (b := b) hH.2 (T := T) (E := T - (pr f : Nat)) (p := pr f) (by omega) (Int.le_refl _)
 have h2f := zgm h
 have hlen := zdK (x := (UP m s H T b (T - (pr f : Nat)) : Int)) ⟨by omega, by omega⟩
 rw [Int.toNat_natCast] at hlen
 have hb : bl (UP m s H T b (T - (pr f : Nat))) ≤ 64 := zI (by omega)
 refine zf ?_
 simp only [zaM.j1]
 cases x
 ·refine ze (by simp) ?_
  have w0 : wrap64 (T - ((pr f : Nat) : Int)) = T - ((pr f : Nat) : Int) := by unfold wrap64; omega
  rw [w0]
  clear w0
  refine Ev.bind (hu) ?_; try dsimp only
  refine Ev.bind (hlen) ?_; try dsimp only
  have w1 : wrap64 (wrap64 ((bl (UP m s H T b (T - (pr f : Nat))) : Int) + T) - ((pr f : Nat) : Int)) = (bl (UP m s H T b (T - (pr f : Nat))) : Int) + (T - (pr f : Nat)) := by unfold wrap64; omega
  have w2 : wrap64 (lo f + ((pr f : Nat) : Int)) = lo f + ((pr f : Nat) : Int) := by clear w1; unfold wrap64; omega
  rw [w1, w2]
  clear w1 w2
  rw [if_neg Bool.false_ne_true]
  by_cases c : (bl (UP m s H T b (T - (pr f : Nat))) : Int) + (T - (pr f : Nat)) < lo f + (pr f : Nat)
  ·exact zd c (zi (Ev.now _) (by rw [if_pos c]))
  ·exact ze c (zi (Ev.now _) (by rw [if_neg c]))
 ·exact zd rfl (Ev.now _)
theorem zif {f m : Int} (h : isF f) (hm : isM m) (s : Bool) {H : Nat} (hH : 2 ^ 63 ≤ H ∧ H < 2 ^ 64) {T : Int} (b : Bool) (h1 : -100000000 ≤ T) (h2 : T ≤ 100000000) :
  Ev (fun k => zaM.f k (H : Int) T b f (pr f : Int) (lo f) (wd f) m s) (zb1 f m s T (UP m s H T b) (XP H T b)) := by
 have hpr := zM h
 have hfb := zab h
 have hl := zbq h
 have hwb := zcM h
 have h2f := zgm h
 obtain ⟨E, hE⟩ : ∃ E, E = max (T - (pr f : Nat)) (lo f) := ⟨_, rfl⟩
 have hu := zjd m s hH (T := T) (E := E) b (by omega) (by omega) (by omega) (by omega) (by omega)
 have hle := zgA (m := m) (s := s) (H := H) (b := b) hH.2 (T := T) (E := E) (p := pr f) (by omega) (by omega)
 have hlen := zdK (x := (UP m s H T b E : Int)) ⟨by omega, by omega⟩
 rw [Int.toNat_natCast] at hlen
 have hb : bl (UP m s H T b E) ≤ 64 := zI (by omega)
 have ho := zdQ (n := (UP m s H T b E : Int)) (by omega) (by omega)
 rw [Int.toNat_natCast] at ho
 have hj := zmn (m := m) h s hH (T := T) b h1 h2 (XP H T b E)
 have hwos := zn0 h s (q := UP m s H T b E) (E := E) hle (by omega)
 have em : mx (wrap64 (T - ((pr f : Nat) : Int))) (lo f) = E := by rw [zeF, zdq (by omega) (by omega) (by omega) (by omega), hE]
 unfold zaM.f zb1
 rw [em, ← hE]
 clear em
 refine Ev.bind (hu) ?_; try dsimp only
 refine Ev.bind (hlen) ?_; try dsimp only
 have w1 : wrap64 ((bl (UP m s H T b E) : Int) + E) = (bl (UP m s H T b E) : Int) + E := zbP (by omega) (by omega) (by omega) (by omega)
 rw [w1]
 clear w1
 by_cases c : (bl (UP m s H T b E) : Int) + E > wd f
 ·rw [if_pos c]
  refine zd c ?_
  refine Ev.bind (zgx h hm s) ?_; try dsimp only
  exact Ev.now _
 rw [if_neg c]
 refine ze c ?_
 refine Ev.bind (ho) ?_; try dsimp only
 have m1 := zcd s (z6 (UP m s H T b E)) (zaK (by omega)) E
 rw [V_D, zch (by omega) (by omega)] at m1
 refine Ev.bind (m1) ?_; try dsimp only
 by_cases c0 : UP m s H T b E = 0
 ·have hz := znW h
  rw [if_pos c0]
  rw [c0, zeR, zhP]
  refine Ev.bind (hz) ?_; try dsimp only
  refine zd rfl ?_
  refine Ev.bind (zjn h s) ?_; try dsimp only
  rw [Nat.zero_add]
  exact hj _
 ·rw [if_neg c0]
  refine Ev.bind (hwos (by omega) c0) ?_; try dsimp only
  refine ze (by omega) ?_
  exact hj _
theorem zid {s : Bool} {l : List Int} {e : Int} (hd : My s l e) (h0 : V l ≠ 0) : Ev (fun k => zcl.f k s l e) ((zJ (V l) : Int), e + (bl (V l) : Nat), zaL (V l)) := by
 have hlen := hd.len
 have hb := zdw hd.dy.nm.dg
 have hlo := hd.lo
 have hhi := hd.hi
 have hH := zhw h0
 unfold zcl.f
 refine Ev.bind (zda hd.dy.nm hlen) ?_; try dsimp only
 have w1 : wrap64 (e + ((bl (V l) : Nat) : Int)) = e + ((bl (V l) : Nat) : Int) := zbP (by omega) (by omega) (by omega) (by omega)
 have w2 : wrap64 (64 - ((bl (V l) : Nat) : Int)) = 64 - ((bl (V l) : Nat) : Int) := by clear w1; unfold wrap64; omega
 rw [w1, w2]
 clear w1 w2
 have hs := zdR hd.dy.nm hlen (64 - ((bl (V l) : Nat) : Int))
 have es : zbL (V l) (64 - ((bl (V l) : Nat) : Int)) = (D (zJ (V l)), zaL (V l), 0) := by
  by_cases c : bl (V l) ≤ 64
  ·have e1 : 64 - ((bl (V l) : Nat) : Int) = ((64 - bl (V l) : Nat) : Int) := by omega
   have e2 : bl (V l) - 64 = 0 := by omega
   rw [e1, zgd (by omega)]
   unfold zJ zaL
   rw [e2, Nat.pow_zero, Nat.div_one, Nat.mod_one]; rfl
  ·have e1 : 64 - ((bl (V l) : Nat) : Int) = -((bl (V l) - 64 : Nat) : Int) := by omega
   have e2 : 64 - bl (V l) = 0 := by omega
   rw [e1, zgc (by omega) (by omega)]
   unfold zJ zaL
   rw [e2, Nat.pow_zero, Nat.mul_one]
 rw [es] at hs
 refine Ev.bind (hs) ?_; try dsimp only
 have hl2 : (D (zJ (V l))).length ≤ 2 := zbx (by omega)
 have hn := zfM (zaA (zJ (V l))) (by omega)
 rw [zfR (z6 _) (by rw [V_D]; omega), if_pos rfl, V_D] at hn
 refine Ev.bind (hn) ?_; try dsimp only
 exact Ev.now _
theorem zjD {f m : Int} (h : isF f) (hm : isM m) {s : Bool} {l : List Int} {e : Int} (hd : My s l e) (h0 : V l ≠ 0) : Ev (fun k => zcH.f k f m s l e) ((zt f m s (V l) e).1, (zt f m s (V l) e).2, 0) := by
 have hb := zdw hd.dy.nm.dg
 have hlen := hd.len
 have hlo := hd.lo
 have hhi := hd.hi
 have hpr := zM h
 have hfb := zab h
 have hp := zif h hm s (zhw h0) (T := e + (bl (V l) : Nat)) (zaL (V l)) (by omega) (by omega)
 have hg : zb1 f m s (e + (bl (V l) : Nat)) (UP m s (zJ (V l)) (e + (bl (V l) : Nat)) (zaL (V l))) (XP (zJ (V l)) (e + (bl (V l) : Nat)) (zaL (V l))) = zt f m s (V l) e := by
  rw [← zeN]
  refine zf7 ?_
  intro E hE
  exact zjI m s h0 (by omega)
 rw [hg] at hp
 unfold zcH.f
 refine Ev.bind (zmf h hm hd) ?_; try dsimp only
 refine ze (by simp) ?_
 refine Ev.bind (zft hd) ?_; try dsimp only
 refine ze (by rw [zeQ h0]; split <;> omega) ?_
 refine Ev.bind (zid hd h0) ?_; try dsimp only
 refine Ev.bind (hp) ?_; try dsimp only
 exact Ev.now _
theorem zf8 (f m : Int) (s : Bool) {n : Nat} (hn : n ≠ 0) (e : Int) (j : Nat) : zt f m s (n * 2 ^ j) e = zt f m s n (e + j) := by
 have hu : zl f (n * 2 ^ j) e = zl f n (e + j) := by unfold zl; rw [zaI hn]; congr 1; omega
 have hb : e + (bl (n * 2 ^ j) : Nat) - (pr f : Nat) = e + j + (bl n : Nat) - (pr f : Nat) := by rw [zaI hn]; omega
 unfold zt
 simp only [hu, hb, zgy, zhm]
theorem zmM (f m : Int) {z : Int} (hz : z ≠ 0) (e : Int) : zt f m (mk z e).1 (V (mk z e).2.1) (mk z e).2.2 = zt f m (decide (z < 0)) z.natAbs e := by
 have hza : z.natAbs ≠ 0 := by omega
 obtain ⟨q, hq⟩ := zbG hza
 have hd : z.natAbs / 2 ^ lw z.natAbs = 2 * q + 1 := by
  have : z.natAbs / 2 ^ lw z.natAbs = 2 ^ lw z.natAbs * (2 * q + 1) / 2 ^ lw z.natAbs := by rw [← hq]
  rw [this, Nat.mul_div_cancel_left _ (zh _)]
 unfold mk
 rw [if_neg hz]
 show zt f m (decide (z < 0)) (V (D (z.natAbs / 2 ^ lw z.natAbs))) (e + (lw z.natAbs : Nat)) = _
 rw [V_D, ← zf8 f m _ (by rw [hd]; omega), hd]
 congr 1
 rw [Nat.mul_comm]; exact hq.symm
theorem zfj {f : Int} (h : isF f) {w : Nat} (h1 : cls f w ≠ 1) (h2 : cls f w < 4) : zu f w ≠ 0 := by
 rw [zeq h] at h1 h2
 have hp := zh (fb f)
 unfold zu
 by_cases c : zy f w = 0
 ·rw [if_pos c] at h1 h2 ⊢
  intro h3
  rw [if_pos h3] at h1
  exact h1 rfl
 ·rw [if_neg c]; omega
theorem zgQ {f : Int} (h : isF f) (w : Nat) : 1 ≤ cls f w ∧ cls f w ≤ 5 := by
 rw [zeq h]; split
 ·split <;> omega
 ·split
  ·omega
  ·split <;> omega
theorem zgq {f : Int} (h : isF f) (w : Nat) : bl (zu f w) ≤ pr f := by
 have h1 := zd9 f w
 have h2 := zM h
 refine zI ?_
 rw [h2, Nat.pow_succ]
 unfold zu; split <;> omega
theorem zd7 {s : Bool} {n : Nat} (h : n ≠ 0) : decide (sv s n < 0) = s ∧ (sv s n).natAbs = n ∧ sv s n ≠ 0 := ⟨zd1 h, zaN s n, fun h2 => h (zcJ.1 h2)⟩
theorem zci {z : Int} (h : z ≠ 0) (e : Int) : ∃ j : Nat, z.natAbs = V (mk z e).2.1 * 2 ^ j ∧ (mk z e).2.2 = e + j ∧ (mk z e).1 = decide (z < 0) ∧ V (mk z e).2.1 ≠ 0 := by
 have hza : z.natAbs ≠ 0 := by omega
 obtain ⟨q, hq⟩ := zbG hza
 have hd : z.natAbs / 2 ^ lw z.natAbs = 2 * q + 1 := by
  have : z.natAbs / 2 ^ lw z.natAbs = 2 ^ lw z.natAbs * (2 * q + 1) / 2 ^ lw z.natAbs := by rw [← hq]
  rw [this, Nat.mul_div_cancel_left _ (zh _)]
 have hm : mk z e = (decide (z < 0), D (z.natAbs / 2 ^ lw z.natAbs), e + (lw z.natAbs : Nat)) := by unfold mk; rw [if_neg h]
 refine ⟨lw z.natAbs, ?_, by rw [hm], by rw [hm], ?_⟩
 ·rw [hm]
  show _ = V (D _) * _
  rw [V_D, hd, Nat.mul_comm]; exact hq
 ·rw [hm]
  show V (D _) ≠ 0
  rw [V_D, hd]; omega
theorem zin {A B : Nat} (hA : A ≠ 0) (hB : B ≠ 0) (n : Nat) (h : bl B ≤ bl A + n) : bl A + n - bl B ≤ bl (A * 2 ^ n / B) ∧ bl (A * 2 ^ n / B) ≤ bl A + n - bl B + 1 := by
 have h1 := zcw hA
 have h2 := zP A
 have h3 := zcw hB
 have h4 := zP B
 have h5 := za6 hA
 have h6 := za6 hB
 have lo : 2 ^ (bl A - 1 + n) ≤ A * 2 ^ n := by rw [Nat.pow_add]; exact Nat.mul_le_mul_right _ h1
 have hi : A * 2 ^ n < 2 ^ (bl A + n) := by rw [Nat.pow_add]; exact Nat.mul_lt_mul_of_pos_right h2 (zh n)
 constructor
 ·rcases Nat.eq_zero_or_pos (bl A + n - bl B) with c | c
  ·omega
  ·have h7 : 2 ^ (bl A + n - bl B - 1) ≤ A * 2 ^ n / B := by
    rw [Nat.le_div_iff_mul_le (by omega)]
    have h8 : 2 ^ (bl A + n - bl B - 1) * B ≤ 2 ^ (bl A + n - bl B - 1) * 2 ^ bl B := Nat.mul_le_mul_left _ (by omega)
    rw [← Nat.pow_add, show bl A + n - bl B - 1 + bl B = bl A - 1 + n by omega] at h8
    omega
   have h9 := zas h7
   have : bl (2 ^ (bl A + n - bl B - 1)) = bl A + n - bl B := by
    have := zaI (v := 1) (by omega) (bl A + n - bl B - 1)
    rw [Nat.one_mul] at this
    rw [this, show bl 1 = 1 by decide]; omega
   omega
 ·refine zI ?_
  rw [Nat.div_lt_iff_lt_mul (by omega)]
  have h8 : 2 ^ (bl A + n - bl B + 1) * 2 ^ (bl B - 1) ≤ 2 ^ (bl A + n - bl B + 1) * B := Nat.mul_le_mul_left _ h3
  rw [← Nat.pow_add, show bl A + n - bl B + 1 + (bl B - 1) = bl A + n by omega] at h8
  omega
theorem zfd (x y : Nat) : bl (x * y) ≤ bl x + bl y := zI (by rw [Nat.pow_add]; exact Nat.mul_lt_mul'' (zP x) (zP y))
def wv (f : Int) (w : Nat) : Bool × List Int × Int := mk (sv (zq f w) (zu f w)) (wex f w)
structure Wv (f : Int) (w : Nat) : Prop where
 dy : Dy (wv f w).1 (wv f w).2.1 (wv f w).2.2
 ne : V (wv f w).2.1 ≠ 0
 b : bl (V (wv f w).2.1) ≤ pr f
 lo : lo f ≤ (wv f w).2.2
 hi : (wv f w).2.2 + (bl (V (wv f w).2.1) : Nat) = wex f w + (bl (zu f w) : Nat)
 s : (wv f w).1 = zq f w
theorem zfy {f : Int} (h : isF f) {w : Nat} (h2 : cls f w < 4) : wex f w + (bl (zu f w) : Nat) ≤ wd f := by
 rw [zeq h] at h2
 have h3 := zgq h w
 have h4 := zfz h
 have h5 := zd9 f w
 have h6 := zM h
 have h7 := zcD h
 have hlo := zbq h
 have hwd := zcM h
 by_cases c : zy f w = 0
 ·unfold wex; rw [if_pos c]
  have := zab h
  omega
 ·rw [if_neg c] at h2
  have : zy f w < mo f := by
   rcases Nat.lt_or_ge (zy f w) (mo f) with c2 | c2
   ·exact c2
   ·rw [if_neg (by omega)] at h2; split at h2 <;> omega
  unfold wex; rw [if_neg c]
  omega
theorem zjp {f : Int} (h : isF f) {w : Nat} (h1 : cls f w ≠ 1) (h2 : cls f w < 4) : Wv f w := by
 have hn := zfj h h1 h2
 obtain ⟨a1, a2, a3⟩ := zd7 (s := zq f w) hn
 obtain ⟨j, j1, j2, j3, j4⟩ := zci a3 (wex f w)
 have hb := zgq h w
 have hl : lo f ≤ wex f w := by
  unfold wex
  split <;> omega
 rw [a2] at j1
 have hbl : bl (zu f w) = bl (V (wv f w).2.1) + j := by rw [j1]; exact zaI j4 j
 have e2 : (wv f w).2.2 = wex f w + j := j2
 refine ⟨zeh _ _, j4, by omega, by omega, by omega, ?_⟩
 show (mk _ _).1 = _
 rw [j3, a1]
theorem zn3 {f : Int} (h : isF f) {w : Nat} (hw : Wv f w) (h2 : cls f w < 4) : -5000 ≤ (wv f w).2.2 ∧ (wv f w).2.2 ≤ 5000 ∧ bl (V (wv f w).2.1) ≤ 64 := by
 have := hw.lo
 have := hw.hi
 have := hw.b
 have := zbq h
 have := zcM h
 have := zfy h h2
 have := zM h
 have := zab h
 refine ⟨by omega, by omega, by omega⟩
theorem zio {f : Int} (h : isF f) (w : Nat) : zb8.f f (w : Int) = some (decide (cls f w < 4)) := by
 have hb := zgQ h w
 unfold zb8.f
 rw [zf4 h w, Option.bind_some]
 by_cases c : cls f w = 4
 ·rw [if_neg (fun h => h c)]
  rw [decide_eq_false (by omega)]
 ·rw [if_pos c]
  congr 1
  exact decide_eq_decide.2 (by omega)
theorem znB (f : Int) {n : Nat} (h : n ≠ 0) (e : Int) : zo f (n / 2 ^ lw n) (e + (lw n : Nat)) = zo f n e := by
 have := zgi h
 unfold zo
 congr 1; omega
theorem zlM {n : Nat} (h : n ≠ 0) : n / 2 ^ lw n * 2 ^ lw n = n := by
 obtain ⟨q, hq⟩ := zbG h
 refine Nat.div_mul_cancel ⟨2 * q + 1, hq⟩
theorem zfu {f : Int} {n : Nat} (h : n ≠ 0) {e : Int} (hu : zo f n e ≤ e) : zav f n e = (zo f n e - lo f).toNat * 2 ^ fb f + n * 2 ^ (e - zo f n e).toNat := by
 unfold zav enc
 rw [znB f h]
 congr 1
 have e1 : (e + (lw n : Nat) - zo f n e).toNat = lw n + (e - zo f n e).toNat := by omega
 rw [e1, Nat.pow_add, ← Nat.mul_assoc, zlM h]
theorem znQ {f : Int} (h : isF f) {w : Nat} (c : zy f w ≠ 0) : bl (zu f w) = pr f := by
 have h1 := zd9 f w
 have h2 := zM h
 have h3 : zu f w = 2 ^ fb f + zR f w := by unfold zu; rw [if_neg c]
 have hp := zh (fb f)
 have h4 : 2 ^ (fb f + 1) = 2 ^ fb f * 2 := Nat.pow_succ ..
 have h5 : bl (zu f w) ≤ fb f + 1 := zI (by omega)
 have h6 : 2 ^ fb f ≤ zu f w := by omega
 have h7 := zas h6
 have h8 := zaI (v := 1) (by omega) (fb f)
 rw [Nat.one_mul, show bl 1 = 1 by decide] at h8
 omega
theorem zkU {f : Int} (h : isF f) {w : Nat} (c1 : cls f w ≠ 1) (c4 : cls f w < 4) : zav f (zu f w) (wex f w) = w % sg f := by
 have hn := zfj h c1 c4
 have h2 := zM h
 have hx := zgp h w
 have hu : zo f (zu f w) (wex f w) = wex f w := by
  unfold zo
  by_cases c : zy f w = 0
  ·have h3 : zu f w = zR f w := by unfold zu; rw [if_pos c]
   have h4 : bl (zu f w) ≤ fb f := zI (by rw [h3]; exact zd9 f w)
   have h5 : wex f w = lo f := by unfold wex; rw [if_pos c]; omega
   omega
  ·have h4 := znQ h c
   have h5 : wex f w = (zy f w : Int) - 1 + lo f := by unfold wex; rw [if_neg c]
   omega
 rw [zfu hn (by omega), hu, Int.sub_self, zjl f w]
 show _ + zu f w * 2 ^ 0 = _
 rw [Nat.pow_zero, Nat.mul_one]
 unfold zu wex
 by_cases c : zy f w = 0
 ·rw [if_pos c, if_pos c, c, Int.zero_add, Int.sub_self]
  simp
 ·rw [if_neg c, if_neg c, show ((zy f w : Int) - 1 + lo f - lo f).toNat = zy f w - 1 by omega]
  obtain ⟨q, hq⟩ : ∃ q, zy f w = q + 1 := ⟨zy f w - 1, by omega⟩
  rw [hq, Nat.add_mul, Nat.one_mul, Nat.add_sub_cancel]; omega
theorem znL {f : Int} (h : isF f) {w : Nat} (hw : w < 2 * sg f) : w % sg f + sgn f (zq f w) = w := by
 unfold sgn zq
 by_cases c : sg f ≤ w
 ·rw [if_pos (decide_eq_true c), Nat.mod_eq_sub_mod c, Nat.mod_eq_of_lt (by omega)]; omega
 ·rw [if_neg (by simpa using c), Nat.mod_eq_of_lt (by omega)]; omega
theorem zgg {f : Int} (h : isF f) {x : Nat} (hx : x < sg f) (s : Bool) : (x + sgn f s) % sg f = x := by
 unfold sgn
 cases s
 ·rw [if_neg (by simp), Nat.add_zero, Nat.mod_eq_of_lt hx]
 ·rw [if_pos rfl, Nat.add_mod_right, Nat.mod_eq_of_lt hx]
theorem znk {s : Bool} {n n' : Nat} {e e' : Int} (hn : n ≠ 0) (hn' : n' ≠ 0) (hv : mk (sv s n) e = mk (sv s n') e') : e + (bl n : Nat) = e' + (bl n' : Nat) := by
 obtain ⟨a1, a2, a3⟩ := zd7 (s := s) hn
 obtain ⟨b1, b2, b3⟩ := zd7 (s := s) hn'
 have h1 := zi5 (sv s n) e
 have h2 := zi5 (sv s n') e'
 have e1 : top (mz (sv s n) e) (me (sv s n) e) = top (mz (sv s n') e') (me (sv s n') e') := by unfold mz me; rw [hv]
 rw [h1, h2] at e1
 unfold top at e1
 rw [if_neg a3, if_neg b3, a2, b2] at e1
 exact e1
theorem zkR {f : Int} {s : Bool} {n n' : Nat} {e e' : Int} (hn : n ≠ 0) (hn' : n' ≠ 0) (hv : mk (sv s n) e = mk (sv s n') e') : zav f n e = zav f n' e' := by
 rw [zeE s hn, zeE s hn'] at hv
 simp only [Prod.mk.injEq] at hv
 unfold zav
 rw [zjr hv.2.1, hv.2.2]
theorem zmL {f m : Int} (h : isF f) (s : Bool) {n : Nat} {e : Int} (hn : n ≠ 0) (hb : bl (n / 2 ^ lw n) ≤ pr f) (hl : lo f ≤ e + (lw n : Nat)) (ht : e + (bl n : Nat) ≤ wd f) : zt f m s n e = (((zav f n e + sgn f s : Nat) : Int), 0) := by
 have h3 := zgi hn
 have hu : zl f n e ≤ e + (lw n : Nat) := by unfold zl; omega
 have hx : exR n e (zl f n e) = true := by
  unfold exR
  refine decide_eq_true ?_
  have := (zbG hn).mod (k := (zl f n e - e).toNat)
  exact this.2 (by omega)
 obtain ⟨a1, a2, a3⟩ := zd7 (s := s) hn
 have hT := zjG (m := m) (z := sv s n) (e := e) (E := zl f n e) (by rw [a2]; exact hx)
 have hTK : TK m (sv s n) e (zl f n e) = sv s (R m s n e (zl f n e)) := by unfold TK; rw [a1, a2]
 rw [hTK] at hT
 have hq0 : R m s n e (zl f n e) ≠ 0 := by
  intro h0
  rw [h0, zeR] at hT
  have h1 := zlY a3 e
  unfold mz at h1
  rw [← hT, zhP] at h1
  exact h1 rfl
 have htop := znk hq0 hn hT
 have henc := zkR (f := f) hq0 hn hT
 unfold zt
 simp only [hx]
 rw [if_neg (by omega), if_neg hq0, henc]
 rfl
theorem znZ {f : Int} (h : isF f) {w : Nat} (c1 : cls f w ≠ 1) (c4 : cls f w < 4) : bl (zu f w / 2 ^ lw (zu f w)) ≤ pr f ∧ lo f ≤ wex f w + (lw (zu f w) : Nat) ∧ wex f w + (bl (zu f w) : Nat) ≤ wd f := by
 have h1 := zgq h w
 have h2 := zfy h c4
 have h3 : bl (zu f w / 2 ^ lw (zu f w)) ≤ bl (zu f w) := zas (Nat.div_le_self _ _)
 have h4 : lo f ≤ wex f w := by unfold wex; split <;> omega
 exact ⟨by omega, by omega, h2⟩
theorem zmN {f m : Int} {s : Bool} {n : Nat} {e : Int} (h : isF f) (hn : n ≠ 0) (ht : e + (bl n : Nat) > wd f) : zt f m s n e = ((zcE f m s : Int), 20) := by
 have hp := zM h
 have hl := zbq h
 have hw : 128 ≤ wd f := by rcases h with rfl | rfl <;> decide
 have hu : zl f n e ≤ e + (bl n : Nat) - 1 := by unfold zl; omega
 have hm := (ze6 (m := m) (s := s) hn hu).1
 show (if (bl (R m s n e (zl f n e)) : Int) + zl f n e > wd f then _ else _) = _
 rw [if_pos (by omega)]
def zcn (m : Int) (s : Bool) : Nat := if upB m s false false true = true then 1 else 0
theorem zmK (m : Int) (s : Bool) {n k : Nat} (hn : n ≠ 0) (h : 2 * n < 2 ^ k) : rnd m s n k = zcn m s := by
 unfold rnd zcn
 rw [Nat.div_eq_of_lt (by omega), Nat.mod_eq_of_lt (by omega : n < 2 ^ k), Nat.mod_eq_of_lt h, Nat.zero_add]
 have e1 : decide (2 ^ k ≤ 2 * n) = false := decide_eq_false (by omega)
 have e2 : decide (2 * n ≠ 0) = true := decide_eq_true (by omega)
 rw [e1, e2]
 rfl
theorem zix {f m : Int} {s : Bool} {n : Nat} {e : Int} (h : isF f) (hn : n ≠ 0) (ht : e + (bl n : Nat) < lo f) :
  zt f m s n e = ((((if zcn m s = 0 then 0 else zav f (zcn m s) (lo f)) + sgn f s : Nat) : Int), 24) := by
 have hp := zM h
 have hl := zbq h
 have hw : 128 ≤ wd f := by rcases h with rfl | rfl <;> decide
 have hu : zl f n e = lo f := by unfold zl; omega
 obtain ⟨k, hk⟩ : ∃ k : Nat, (lo f - e).toNat = k := ⟨_, rfl⟩
 have hk1 : bl n + 1 ≤ k := by omega
 have h2 : 2 * n < 2 ^ k := by
  have h3 := zP n
  have h4 : 2 ^ (bl n + 1) ≤ 2 ^ k := Nat.pow_le_pow_right (by omega) hk1
  rw [Nat.pow_succ] at h4
  omega
 have hR : R m s n e (lo f) = zcn m s := by
  unfold R
  rw [show (e - lo f).toNat = 0 by omega, hk, Nat.pow_zero, Nat.mul_one]
  exact zmK m s hn h2
 have hx : exR n e (lo f) = false := by
  unfold exR
  rw [hk, Nat.mod_eq_of_lt (by omega)]
  exact decide_eq_false hn
 have hm := (ze6 (m := m) (s := s) hn (show e + (bl n : Nat) - (pr f : Nat) ≤ e + (bl n : Nat) - 1 by omega)).2
 have hb : bl (zcn m s) ≤ 1 := by unfold zcn; split <;> decide
 show (if (bl (R m s n e (zl f n e)) : Int) + zl f n e > wd f then _ else _) = _
 rw [hu, hR, hx, if_neg (show ¬ ((bl (zcn m s) : Int) + lo f > wd f) by omega), if_neg (show ¬ (false = true) by simp), if_pos (show (bl (R m s n e (e + (bl n : Nat) - (pr f : Nat))) : Int) + (e + (bl n : Nat) - (pr f : Nat)) < lo f + (pr f : Nat) by omega)]
def zC : List UInt8 → Bool
 | 45 :: _ => true
 | _ => false
def za8 : List UInt8 → List UInt8
 | 45 :: r => r
 | r => r
theorem zhy (l : List UInt8) (c : UInt8) : (Lib.indexByte l c = -1 ∧ c ∉ l) ∨ ∃ A B, l = A ++ c :: B ∧ c ∉ A ∧ Lib.indexByte l c = (A.length : Int) := by
 induction l with
 | nil => exact .inl ⟨rfl, by simp⟩
 | cons b l ih =>
  unfold Lib.indexByte
  by_cases h : b = c
  ·subst h
   exact .inr ⟨[], l, rfl, by simp, by simp⟩
  ·have hb : (b == c) = false := by simpa using h
   rw [hb]
   rcases ih with ⟨h1, h2⟩ | ⟨A, B, h1, h2, h3⟩
   ·exact .inl ⟨by simp [h1], by simp [h2, Ne.symm h]⟩
   ·refine .inr ⟨b :: A, B, by rw [h1]; rfl, by simp [h2, Ne.symm h], ?_⟩
    have : (Lib.indexByte l c == -1) = false := by rw [h3]; simp
    rw [this, h3]
    simp
theorem zkI (a b : List UInt8) (n : Nat) : zg (a ++ b) n = zg b (zg a n) := by unfold zg; rw [List.foldl_append]
theorem zhc {l : List UInt8} (h : l.all isD = true) (hl : l.length ≤ 6) : zg l 0 < 1000000 := by
 have h1 := zkJ l h 0
 have h2 : 10 ^ l.length ≤ 10 ^ 6 := Nat.pow_le_pow_right (by omega) hl
 omega
theorem zk1 {l : List UInt8} (h1 : ¬ l.take 1 = [45]) (h2 : ¬ l.take 1 = [43]) : zcf l = false ∧ zw l = l := by
 cases l with
 | nil => exact ⟨rfl, rfl⟩
 | cons a l =>
  have n1 : a ≠ 45 := by rintro rfl; exact h1 rfl
  have n2 : a ≠ 43 := by rintro rfl; exact h2 rfl
  constructor
  ·unfold zcf; split
   ·rename_i h; exact absurd (List.cons.inj h).1 n1
   ·rfl
  ·unfold zw; split
   ·rename_i h; exact absurd (List.cons.inj h).1 n1
   ·rename_i h; exact absurd (List.cons.inj h).1 n2
   ·rfl
theorem zbT {s : ByteArray} {A B : List UInt8} {b : UInt8} (h : tl s = A ++ b :: B) : bt s (A.length : Int) = (b.toNat : Int) := by
 rw [zgL, h, Int.toNat_natCast]
 simp [List.getD]
theorem zaX {s : ByteArray} {A B : List UInt8} (h : tl s = A ++ B) : s.size = A.length + B.length := by
 rw [zdg, h, List.length_append]
set_option maxRecDepth 100000
def zdE : Nat → Nat → List UInt8
 | 0, _ => []
 | k + 1, n => (if n < 10 then [] else zdE k (n / 10)) ++ [UInt8.ofNat (48 + n % 10)]
def dtx (n : Nat) : List UInt8 := zdE 6 n
def etx (e : Int) : List UInt8 := (if e < 0 then [45] else []) ++ dtx e.natAbs
def zc7 (o : Option ByteArray) (l : List UInt8) : Bool := match o with | some t => tl t == l | none => false
theorem zlk {g : Nat → Option ByteArray} {l : List UInt8} {n : Nat} (h : ∀ k, zc7 (g (k + n)) l = true) : ∃ t, Ev g t ∧ tl t = l := by
 have h0 := h 0
 unfold zc7 at h0
 split at h0
 ·rename_i t ht
  have e0 : tl t = l := by simpa using h0
  refine ⟨t, ⟨n, fun k hk => ?_⟩, e0⟩
  have h1 := h (k - n)
  rw [Nat.sub_add_cancel hk] at h1
  unfold zc7 at h1
  split at h1
  ·rename_i u hu
   have e1 : tl u = l := by simpa using h1
   rw [hu, za1.1 (e1.trans e0.symm)]
  ·cases h1
 ·cases h0
def zbX (a : Int) (k : Nat) : Bool := (List.range 275).all (fun i => zc7 (zb2.f (k + 40) (a + (i : Int))) (etx (a + (i : Int))))
theorem zlm (k : Nat) : zbX (-1100) k = true := by kernel_rfl
theorem zln (k : Nat) : zbX (-825) k = true := by kernel_rfl
theorem zlo (k : Nat) : zbX (-550) k = true := by kernel_rfl
theorem zlp (k : Nat) : zbX (-275) k = true := by kernel_rfl
theorem zlq (k : Nat) : zbX (0) k = true := by kernel_rfl
theorem zlr (k : Nat) : zbX (275) k = true := by kernel_rfl
theorem zls (k : Nat) : zbX (550) k = true := by kernel_rfl
theorem zlt (k : Nat) : zbX (825) k = true := by kernel_rfl
theorem zlu (k : Nat) {e : Int} (h1 : -1100 ≤ e) (h2 : e < 1100) : zc7 (zb2.f (k + 40) e) (etx e) = true := by
 have go : ∀ a, zbX a k = true → a ≤ e → e < a + 275 → zc7 (zb2.f (k + 40) e) (etx e) = true := by
  intro a h h3 h4
  have h := List.all_eq_true.1 h (e - a).toNat (List.mem_range.2 (by omega))
  have he : a + (((e - a).toNat : Nat) : Int) = e := by omega
  rw [he] at h
  exact h
 by_cases c0 : e < -825
 ·exact go _ (zlm k) (by omega) (by omega)
 by_cases c1 : e < -550
 ·exact go _ (zln k) (by omega) (by omega)
 by_cases c2 : e < -275
 ·exact go _ (zlo k) (by omega) (by omega)
 by_cases c3 : e < 0
 ·exact go _ (zlp k) (by omega) (by omega)
 by_cases c4 : e < 275
 ·exact go _ (zlq k) (by omega) (by omega)
 by_cases c5 : e < 550
 ·exact go _ (zlr k) (by omega) (by omega)
 by_cases c6 : e < 825
 ·exact go _ (zls k) (by omega) (by omega)
 exact go _ (zlt k) (by omega) (by omega)
theorem zjv {e : Int} (h1 : -1100 ≤ e) (h2 : e < 1100) : ∃ t, Ev (fun k => zb2.f k e) t ∧ tl t = etx e := by
 refine zlk (n := 40) fun k => ?_
 exact zlu k h1 h2
theorem zis (b : UInt8) : ∀ n, Lib.repeatL [b] n = List.replicate n b
 | 0 => rfl
 | n + 1 => by rw [Lib.repeatL, zis b n]; rfl
def sgT (s : Bool) : List UInt8 := if s = true then [45] else []
theorem ziC (s : Bool) : (sgT s).length ≤ 1 := by unfold sgT; split <;> simp
structure Pr (f : Int) (w : Nat) : Prop where
 my : My (wv f w).1 (wv f w).2.1 (wv f w).2.2
 ne : V (wv f w).2.1 ≠ 0
 b : bl (V (wv f w).2.1) ≤ 53
 lo : -1074 ≤ (wv f w).2.2
 hi : (wv f w).2.2 + (bl (V (wv f w).2.1) : Nat) ≤ 1024
 s : (wv f w).1 = zq f w
theorem zmv {f : Int} (h : isF f) {w : Nat} (c1 : cls f w ≠ 1) (c4 : cls f w < 4) : Pr f w := by
 have W := zjp h c1 c4
 have hb := zn3 h W c4
 have hpr : pr f ≤ 53 := by rcases h with rfl | rfl <;> decide
 have hWb := W.b
 have hft := zfy h c4
 have hwd : wd f ≤ 1024 := by rcases h with rfl | rfl <;> decide
 have hlo := zbq h
 have hWlo := W.lo
 have hWhi := W.hi
 refine ⟨⟨W.dy, ?_, by omega, by omega⟩, W.ne, by omega, by omega, by omega, W.s⟩
 have hl := W.dy.nm.len
 have h2 : V (wv f w).2.1 < 4294967296 ^ 2 := Nat.lt_of_lt_of_le (zP _) (Nat.le_trans (Nat.pow_le_pow_right (by omega) (by omega : bl (V (wv f w).2.1) ≤ 64)) (by decide))
 have h3 := zbx h2
 omega
theorem zhj {α : Type} {g : Nat → Option α} {r : α} {n : Nat} (h : ∀ k, g (k + n) = some r) : Ev g r := ⟨n, fun k hk => by have := h (k - n); rwa [Nat.sub_add_cancel hk] at this⟩
theorem zhi (e : Int) : (etx e).length ≤ 7 := by
 have : ∀ k n, (zdE k n).length ≤ k := by
  intro k
  induction k with
  | zero => intro n; simp [zdE]
  | succ k ih => intro n; unfold zdE; have := ih (n / 10); split <;> simp; omega
 unfold etx dtx
 have := this 6 e.natAbs
 split <;> simp <;> omega
theorem zmO {f m : Int} (h : isF f) {w : Nat} (hw : w < 2 * sg f) (c1 : cls f w ≠ 1) (c4 : cls f w < 4) : zt f m (wv f w).1 (V (wv f w).2.1) (wv f w).2.2 = ((w : Int), 0) := by
 have hn := zfj h c1 c4
 obtain ⟨a1, a2, a3⟩ := zd7 (s := zq f w) hn
 obtain ⟨b1, b2, b3⟩ := znZ h c1 c4
 have e := zmM f m a3 (wex f w)
 have hwv : mk (sv (zq f w) (zu f w)) (wex f w) = wv f w := rfl
 rw [hwv, a1, a2, zmL h (zq f w) hn b1 b2 b3, zkU h c1 c4, znL h hw] at e
 exact e
theorem zhb (l : List UInt8) (n : Nat) : zg l n = n * 10 ^ l.length + zg l 0 := by
 induction l generalizing n with
 | nil => simp [zg]
 | cons a l ih =>
  have h : ∀ m, zg (a :: l) m = zg l (10 * m + (a.toNat - 48)) := fun m => rfl
  rw [h, h, ih, ih (10 * 0 + _), List.length_cons, Nat.pow_succ]
  grind
open Go.RowKit Go.Proofs.YtnkpmjhlkmlmbaaGreatDoor.Eng
theorem zj7 (xs : List Int) (h : ∀ x ∈ xs, 0 ≤ x ∧ x < 256) : qcB (qfL xs) = xs := by
 show (xs.map fun n : Int => UInt8.ofNat n.toNat).map (fun b : UInt8 => (b.toNat : Int)) = xs
 rw [List.map_map]
 have e : xs.map ((fun b : UInt8 => (b.toNat : Int)) ∘ fun n : Int => UInt8.ofNat n.toNat) = xs.map id := by
  apply List.map_congr_left
  intro x hx
  have := h x hx
  simp
  omega
 rw [e, List.map_id]
def dcl (n : Nat) : List Int := if h : n = 0 then [] else (48 + (n % 10 : Nat) : Int) :: dcl (n / 10)
termination_by n
decreasing_by omega
theorem zbk : dcl 0 = [] := by unfold dcl; simp
theorem zcz {n : Nat} (h : n ≠ 0) : dcl n = (48 + (n % 10 : Nat) : Int) :: dcl (n / 10) := by
 conv => lhs; unfold dcl
 simp [h]
def pd : Nat → Nat → List Int
 | 0, _ => []
 | j + 1, n => (48 + (n % 10 : Nat) : Int) :: pd j (n / 10)
theorem zih : ∀ (j n : Nat), n < 10 ^ j → ∃ m, pd j n = dcl n ++ List.replicate m 48
  | 0, n, h => ⟨0, by have : n = 0 := by simpa using h
                      subst this; simp [pd, zbk]⟩
  | j + 1, n, h => by
    obtain ⟨m, hm⟩ := zih j (n / 10) (by rw [Nat.pow_succ] at h; omega)
    by_cases h0 : n = 0
    · subst h0
      refine ⟨m + 1, ?_⟩
      have h1 : dcl (0 / 10) = [] := zbk
      rw [h1] at hm
      rw [pd, hm, zbk]; simp [List.replicate_succ]
    · exact ⟨m, by rw [pd, hm, zcz h0]; simp⟩
theorem zig : ∀ (j n : Nat), n / 10 ^ j ≠ 0 → pd j (n % 10 ^ j) ++ dcl (n / 10 ^ j) = dcl n
 | 0, n, h => by simp [pd]
 | j + 1, n, h => by
  have e1 : n / 10 ^ (j + 1) = n / 10 / 10 ^ j := by rw [Nat.pow_succ, Nat.mul_comm, Nat.div_div_eq_div_mul]
  have e2 : n % 10 ^ (j + 1) % 10 = n % 10 := Nat.mod_mod_of_dvd _ ⟨10 ^ j, by rw [Nat.pow_succ, Nat.mul_comm]⟩
  have e3 : n % 10 ^ (j + 1) / 10 = n / 10 % 10 ^ j := by
   rw [Nat.pow_succ, Nat.mul_comm, Nat.mod_mul_right_div_self]
  have h0 : n ≠ 0 := by rintro rfl; simp at h
  rw [pd, e2, e3, e1, zcz h0, List.cons_append, zig j (n / 10) (by rw [← e1]; exact h)]
theorem zkk : ∀ (n : Nat), ∀ x ∈ dcl n, 48 ≤ x ∧ x ≤ 57 := by
 intro n
 induction n using Nat.strongRecOn with
 | _ n ih =>
  intro x hx
  by_cases h : n = 0
  ·subst h; rw [zbk] at hx; simp at hx
  ·rw [zcz h] at hx
   rcases List.mem_cons.1 hx with rfl | hx
   ·omega
   ·exact ih _ (by omega) x hx
theorem zkj : ∀ (n : Nat), n ≠ 0 → ∃ l d, dcl n = l ++ [d] ∧ 48 < d ∧ d ≤ 57 := by
 intro n
 induction n using Nat.strongRecOn with
 | _ n ih =>
  intro h
  rw [zcz h]
  by_cases h1 : n / 10 = 0
  ·exact ⟨[], 48 + (n % 10 : Nat), by rw [h1, zbk]; simp, by omega, by omega⟩
  ·obtain ⟨l, d, e, hd⟩ := ih (n / 10) (by omega) h1
   exact ⟨_ :: l, d, by rw [e]; rfl, hd⟩
theorem zgU : ∀ (j n : Nat), n < 10 ^ j → (dcl n).length ≤ j
  | 0, n, h => by have : n = 0 := by simpa using h
                  subst this; simp [zbk]
  | j + 1, n, h => by
    by_cases h0 : n = 0
    · subst h0; simp [zbk]
    · rw [zcz h0]
      have := zgU j (n / 10) (by rw [Nat.pow_succ] at h; omega)
      simp; omega
def txt (n : Nat) : List Int := if n = 0 then [48] else (dcl n).reverse
theorem zja (n : Nat) : ∀ x ∈ txt n, 48 ≤ x ∧ x ≤ 57 := by
 intro x hx
 unfold txt at hx
 split at hx
 ·simp at hx; omega
 ·exact zkk n x (by simpa using hx)
theorem zfU : ∀ (j n : Nat), (pd j n).length = j
 | 0, _ => rfl
 | j + 1, n => by simp [pd, zfU j]
theorem znc {n : Int} (h : 0 ≤ n ∧ n < 4294967296) : (Int.tdiv n 10) % 4294967296 = n / 10 := by
 rw [Int.tdiv_eq_ediv_of_nonneg h.1]; omega
theorem znh {n : Int} (h : 0 ≤ n) : Int.tmod n 10 = n % 10 := Int.tmod_eq_emod_of_nonneg h
theorem zgJ {n : Nat} (h : n ≠ 0) : bl (n / 1000000000) + 1 ≤ bl n := by
 rw [zj3 h]
 have : n / 1000000000 ≤ n / 2 := by omega
 have := zas this
 omega
def zbA (n : Nat) : List Int := if h : n = 0 then [] else pd 9 (n % 1000000000) ++ zbA (n / 1000000000)
termination_by n
decreasing_by omega
theorem zep : zbA 0 = [] := by unfold zbA; simp
theorem zfi {n : Nat} (h : n ≠ 0) : zbA n = pd 9 (n % 1000000000) ++ zbA (n / 1000000000) := by
 conv => lhs; unfold zbA
 simp [h]
theorem zkc : ∀ (n : Nat), ∃ m, zbA n = dcl n ++ List.replicate m 48 := by
 intro n
 induction n using Nat.strongRecOn with
 | _ n ih =>
  by_cases h : n = 0
  ·exact ⟨0, by subst h; rw [zep, zbk]; rfl⟩
  ·rw [zfi h]
   by_cases h1 : n / 1000000000 = 0
   ·rw [h1, zep, List.append_nil, Nat.mod_eq_of_lt (by omega)]
    exact zih 9 n (by omega)
   ·obtain ⟨m, hm⟩ := ih (n / 1000000000) (by omega)
    refine ⟨m, ?_⟩
    have := zig 9 n h1
    rw [hm, ← List.append_assoc]
    exact congrArg (· ++ List.replicate m 48) this
theorem ziX (q : List Int) {res : ByteArray × Int} : ∀ (j : Nat) (low : List Int) (r : Int), j ≤ 9 → 0 ≤ r ∧ r < 4294967296 → low.length + j < 1000000000000 → Ev (fun k => zv.l0 k q (low ++ pd j r.toNat)) res → Ev (fun k => zv.l1 k q low r ((9 - j : Nat) : Int)) res
 | 0, low, r, hj, hr, hl, H => by
  refine zf ?_
  simp only [zv.l1]
  refine ze (by omega) ?_
  simpa [pd] using H
 | j + 1, low, r, hj, hr, hl, H => by
  have e : wrap64 (((9 - (j + 1) : Nat) : Int) + 1) = ((9 - j : Nat) : Int) := by unfold wrap64; omega
  have e2 : (48 + Int.tmod r 10) % 4294967296 % 256 = 48 + ((r.toNat % 10 : Nat) : Int) := by rw [znh hr.1]; omega
  refine zf ?_
  simp only [zv.l1, e, e2, znc hr]
  clear e e2
  refine zd (by omega) (zd (by simp; omega) ?_)
  have hr10 : 0 ≤ r / 10 ∧ r / 10 < 4294967296 := by omega
  refine ziX q j _ _ (by omega) hr10 (by simp; omega) ?_
  have e3 : (r / 10).toNat = r.toNat / 10 := by omega
  rw [e3]
  simpa [pd] using H
theorem zne {res : ByteArray × Int} : ∀ (n : Nat) (low : List Int), low.length + 9 * bl n < 100000000000 → (D n).length < 1000000000 → Ev (fun k => zv.l2 k (low ++ zbA n)) res → Ev (fun k => zv.l0 k (D n) low) res := by
 intro n
 induction n using Nat.strongRecOn with
 | _ n ih =>
  intro low hl hd H
  refine zf ?_
  simp only [zv.l0]
  by_cases h : n = 0
  ·subst h
   rw [zep, List.append_nil] at H
   refine ze ?_ H
   rw [zK]; simp
  ·refine zd ?_ ?_
   ·rw [zcu h]; simp
   ·refine Ev.bind (zh2 (zaA n) hd (by omega)) ?_
    rw [V_D]
    have hb := zgJ h
    have hle : n / 1000000000 ≤ n := Nat.div_le_self _ _
    have hdl := zeg hle
    have hm9 : 0 ≤ ((n % (1000000000 : Int).toNat : Nat) : Int) ∧ ((n % (1000000000 : Int).toNat : Nat) : Int) < 4294967296 := by
     rw [show (1000000000 : Int).toNat = 1000000000 from rfl]; omega
    refine ziX _ 9 low _ (by omega) hm9 (by omega) ?_
    refine ih (n / 1000000000) (by omega) _ ?_ (by omega) ?_
    ·rw [List.length_append, zfU]; omega
    ·rw [zfi h, ← List.append_assoc] at H
     exact H
theorem znf : ∀ (m : Nat) (p s q : List Int), s.length = m → (p ++ s ++ q).length < 1000000000000 → Ev (fun k => zv.l3 k (p ++ s ++ q) p.length (((p.length + s.length : Nat) : Int) - 1)) (qfL (p ++ s.reverse ++ q), 0) := by
 intro m
 induction m using Nat.strongRecOn with
 | _ m ih =>
  intro p s q hs hl
  have hl2 : p.length + s.length + q.length < 1000000000000 := by simpa [Nat.add_assoc] using hl
  refine zf ?_
  simp only [zv.l3]
  match s, hs with
  | [], hs => exact ze (by simp; omega) (Ev.now _)
  | [x], hs => exact ze (by simp) (Ev.now _)
  | x :: y :: t, hs =>
   obtain ⟨u, z, hu⟩ : ∃ u z, y :: t = u ++ [z] := by
    rcases List.eq_nil_or_concat (y :: t) with h | ⟨u, z, h⟩
    ·simp at h
    ·exact ⟨u, z, by rw [h, List.concat_eq_append]⟩
   rw [hu] at hs hl2 ⊢
   have hul : u.length + 2 = m := by simpa using hs
   have hlen : (x :: (u ++ [z])).length = u.length + 2 := by simp
   rw [hlen] at hl2 ⊢
   have e0 : ((p.length + (u.length + 2) : Nat) : Int) - 1 = ((p.length + 1 + u.length : Nat) : Int) := by omega
   rw [e0]
   have hL : (p ++ x :: (u ++ [z]) ++ q).length = p.length + u.length + 2 + q.length := by simp; omega
   rw [hL]
   have r1 : rd (p ++ x :: (u ++ [z]) ++ q) ((p.length : Nat) : Int) = x := by
    rw [List.append_assoc, List.cons_append]; exact zW rfl
   have r2 : rd (p ++ x :: (u ++ [z]) ++ q) ((p.length + 1 + u.length : Nat) : Int) = z := by
    have : p ++ x :: (u ++ [z]) ++ q = (p ++ x :: u) ++ z :: q := by simp
    rw [this]; exact zW (by simp; omega)
   have s1 : (p ++ x :: (u ++ [z]) ++ q).set ((p.length : Nat) : Int).toNat z = p ++ z :: (u ++ [z]) ++ q := by
    rw [List.append_assoc, List.cons_append, zaW rfl]; simp
   have s2 : (p ++ z :: (u ++ [z]) ++ q).set ((p.length + 1 + u.length : Nat) : Int).toNat x = (p ++ [z]) ++ u ++ (x :: q) := by
    have : p ++ z :: (u ++ [z]) ++ q = (p ++ z :: u) ++ z :: q := by simp
    rw [this, zaW (by simp; omega)]; simp
   rw [r1, r2, s1, s2, zbw (n := p.length) (by omega), zb4 (by omega)]
   refine zd (by omega) (zd (by omega) (zd (by omega) (zd (by omega) (zd (by omega) (zd (by omega) (zd (by omega) (zd (by omega) (zd (by simp; omega) ?_))))))))
   have := ih u.length (by omega) (p ++ [z]) u (x :: q) rfl (by simp; omega)
   rw [List.length_append, List.length_singleton] at this
   have e1 : ((p.length + 1 + u.length : Nat) : Int) - 1 = ((p.length + 1 + u.length : Nat) : Int) - 1 := rfl
   refine zi this ?_
   simp
theorem ziY {l : List Int} {d : Int} (hd : 48 < d) : ∀ (m : Nat), (l ++ [d]).length + m < 1000000000000 → Ev (fun k => zv.l2 k (l ++ [d] ++ List.replicate m 48)) (qfL (l ++ [d]).reverse, 0)
 | 0, hl => by
  simp only [List.replicate_zero, List.append_nil]
  have e : wrap64 (((l ++ [d]).length : Int) - 1) = (((l ++ [d]).length : Nat) : Int) - 1 := zb4 (by omega)
  refine zf ?_
  simp only [zv.l2, e]
  clear e
  have hl1 : (l ++ [d]).length = l.length + 1 := by simp
  have hr : rd (l ++ [d]) (((l ++ [d]).length : Int) - 1) = d := zW (by omega)
  refine zd (by omega) (zd (by omega) (ze (by rw [hr]; omega) ?_))
  have := znf _ [] (l ++ [d]) [] rfl (by simp; omega)
  simpa using this
 | m + 1, hl => by
  rw [List.replicate_succ', ← List.append_assoc]
  have hX : ((l ++ [d]) ++ List.replicate m 48).length = (l ++ [d]).length + m := by rw [List.length_append, List.length_replicate]
  generalize hx : (l ++ [d]) ++ List.replicate m 48 = X at hX
  have hXl : (X ++ [48]).length = X.length + 1 := by simp
  have e : wrap64 (((X ++ [48]).length : Int) - 1) = (X.length : Int) := by rw [hXl]; exact zjk (by omega)
  refine zf ?_
  simp only [zv.l2, e]
  clear e
  refine zd (by omega) (zd (by omega) (zd (zW rfl) (zd (by omega) (zd (by omega) ?_))))
  have ht : (X ++ [(48 : Int)]).take ((X.length : Int)).toNat = X := by simp
  rw [ht, ← hx]
  exact ziY hd m (by omega)
theorem zhZ {a : List Int} (h : Nm a) (hl : a.length ≤ 4096) : Ev (fun k => zv.f k a) (qfL (txt (V a)), 0) := by
 unfold zv.f
 refine zk (zbY h.dg (by omega)) (ze (by rw [zbr.2 ⟨hl, h⟩]; simp) ?_)
 by_cases c : a.length = 0
 ·have : a = [] := List.eq_nil_of_length_eq_zero c
  subst this
  exact zd (by simp) (Ev.now _)
 ·refine ze (by omega) ?_
  have hne : a ≠ [] := fun e => c (by rw [e]; rfl)
  have h0 := zgC h hne
  have hb := zdw h.dg
  obtain ⟨l, d, e, hd⟩ := zkj (V a) h0
  obtain ⟨m, hm⟩ := zkc (V a)
  have hml : (zbA (V a)).length < 100000000000 := by
   have : ∀ n, (zbA n).length ≤ 9 * bl n := by
    intro n
    induction n using Nat.strongRecOn with
    | _ n ih =>
     by_cases h : n = 0
     ·subst h; rw [zep]; simp
     ·rw [zfi h, List.length_append, zfU]
      have := ih (n / 1000000000) (by omega)
      have := zgJ h
      omega
   have := this (V a)
   omega
  have key := zne (res := (qfL (txt (V a)), 0)) (V a) [] (by simp; omega) (by rw [h]; omega) ?_
  ·rwa [h] at key
  ·rw [List.nil_append, hm, e]
   have ht : txt (V a) = (l ++ [d]).reverse := by unfold txt; rw [if_neg h0, e]
   rw [ht]
   refine ziY hd.1 m ?_
   rw [hm, e, List.length_append, List.length_replicate] at hml
   omega
def pvA : Nat → List Int → Nat
 | a, [] => a
 | a, c :: l => pvA (10 * a + (c - 48).toNat) l
theorem zfZ : ∀ (l : List Int) (a : Nat), pvA a l = a * 10 ^ l.length + pvA 0 l
 | [], a => by simp [pvA]
 | c :: l, a => by
  rw [pvA, pvA, zfZ l (10 * a + (c - 48).toNat), zfZ l (10 * 0 + (c - 48).toNat), List.length_cons, Nat.pow_succ]
  grind
theorem zmw (l m : List Int) (a : Nat) : pvA a (l ++ m) = pvA (pvA a l) m := by
 induction l generalizing a with
 | nil => rfl
 | cons c l ih => simp [pvA, ih]
def pv (l : List Int) : Nat := pvA 0 l
theorem zdc (l m : List Int) : pv (l ++ m) = pv l * 10 ^ m.length + pv m := by
 unfold pv; rw [zmw, zfZ]
theorem zim (l : List Int) (c : Int) : pv (l ++ [c]) = 10 * pv l + (c - 48).toNat := by
 rw [zdc]; simp [pv, pvA]; omega
def zaT (l : List Int) : Prop := ∀ x ∈ l, 48 ≤ x ∧ x ≤ 57
instance (l : List Int) : Decidable (zaT l) := inferInstanceAs (Decidable (∀ x ∈ l, 48 ≤ x ∧ x ≤ 57))
theorem zil {l : List Int} (h : zaT l) : pv l < 10 ^ l.length := by
 induction l with
 | nil => simp [pv, pvA]
 | cons c l ih =>
  have h1 := h c (by simp)
  have h2 := ih (fun x hx => h x (by simp [hx]))
  have e : pv (c :: l) = (c - 48).toNat * 10 ^ l.length + pv l := by
   have := zdc [c] l
   simpa [pv, pvA] using this
  rw [e, List.length_cons, Nat.pow_succ]
  have h3 : (c - 48).toNat * 10 ^ l.length ≤ 9 * 10 ^ l.length := Nat.mul_le_mul_right _ (by omega)
  omega
theorem zmz (l : List Int) (n : Nat) : pv (l.take n) ≤ pv l := by
 have h := zdc (l.take n) (l.drop n)
 rw [List.take_append_drop] at h
 have : pv (l.take n) * 1 ≤ pv (l.take n) * 10 ^ (l.drop n).length := Nat.mul_le_mul_left _ (Nat.one_le_pow _ _ (by omega))
 omega
def isT (l : List Int) : Bool := decide (zaT l) && (decide (l.length = 1) || decide (1 < l.length) && decide (l.getD 0 0 ≠ 48))
theorem zjx {l : List Int} (h : Dg l) (k : l = [] ∨ 4294967296 ^ (l.length - 1) ≤ V l) : Nm l := by
 rw [zgw h]
 rcases k with k | k
 ·exact .inl k
 ·by_cases e : l = []
  ·exact .inl e
  ·right
   intro h0
   have hl : l.length ≠ 0 := fun e' => e (List.eq_nil_of_length_eq_zero e')
   have h1 := zek (l := l) (n := l.length - 1) (by omega)
   rw [Nat.sub_add_cancel (by omega), List.take_length, h0] at h1
   have h2 := zdu h (n := l.length - 1) (by omega)
   simp at h1
   omega
def zac : List Int → Nat → Nat → List Int
 | [], _, c => if c = 0 then [] else [((c : Nat) : Int)]
 | x :: l, t, c => (((x.toNat * t + c) % 4294967296 : Nat) : Int) :: zac l t ((x.toNat * t + c) / 4294967296)
theorem zhO {x t c : Nat} (hx : x < 4294967296) (hc : c < t) : (x * t + c) / 4294967296 < t := by
 apply (Nat.div_lt_iff_lt_mul (by omega)).2
 have h1 : x * t ≤ 4294967295 * t := Nat.mul_le_mul_right _ (by omega)
 omega
theorem zlP {l : List Int} (h : Dg l) {t c : Nat} (hc : c < t) (ht : t < 4294967296) : V (zac l t c) = V l * t + c ∧ Dg (zac l t c) := by
 induction l generalizing c with
 | nil =>
  unfold zac
  split
  ·subst c; exact ⟨by simp, Dg.nil⟩
  ·exact ⟨by simp, Dg.cons (by omega) (by omega) Dg.nil⟩
 | cons x l ih =>
  have hx := h.head
  have hb := zhO (x := x.toNat) (by omega) hc
  have := ih h.tail hb
  refine ⟨?_, Dg.cons (by omega) (by omega) this.2⟩
  rw [zac, zB, this.1, zB, Nat.add_mul, Nat.mul_add, Nat.mul_assoc]
  generalize x.toNat * t = p
  generalize V l * t = q
  rw [Int.toNat_natCast]
  omega
theorem zlO {n t c : Nat} (hc : c < t) (ht : t < 4294967296) : zac (D n) t c = D (n * t + c) := by
 have h := zlP (zaA n) hc ht
 rw [V_D] at h
 have hlen : ∀ (l : List Int) (c : Nat), zac l t c = [] ∨ (zac l t c).length = l.length ∨ ∃ m d, zac l t c = m ++ [d] ∧ d ≠ 0 := by
  intro l
  induction l with
  | nil =>
   intro c
   unfold zac
   split
   ·exact .inl rfl
   ·exact .inr (.inr ⟨[], _, rfl, by omega⟩)
  | cons x l ih =>
   intro c
   rw [zac]
   rcases ih ((x.toNat * t + c) / 4294967296) with h | h | ⟨m, d, h, hd⟩
   ·rw [h]
    cases l with
    | nil => exact .inr (.inl rfl)
    | cons y l => simp [zac] at h
   ·exact .inr (.inl (by simp [h]))
   ·exact .inr (.inr ⟨_ :: m, d, by rw [h]; rfl, hd⟩)
 have key : Nm (zac (D n) t c) := by
  rcases hlen (D n) c with e | e | ⟨m, d, e, hd⟩
  ·rw [e]; exact zcv
  ·by_cases hn : n = 0
   ·subst hn
    rw [zK] at e
    have e2 : zac (D 0) t c = [] := by rw [zK]; exact List.eq_nil_of_length_eq_zero e
    rw [e2]; exact zcv
   ·apply zjx h.2
    right
    rw [e, h.1]
    have := ze0 hn
    have h2 : n * 1 ≤ n * t := Nat.mul_le_mul_left _ (by omega)
    omega
  ·have hg := h.2
   rw [e] at hg ⊢
   have := hg d (by simp)
   exact zei hg.left (by omega) this.2
 rw [← key, h.1]
theorem uu {x t c : Int} (hx : 0 ≤ x ∧ x < 4294967296) (ht : 0 ≤ t ∧ t < 4294967296) (hc : 0 ≤ c ∧ c < 4294967296) : IntKind.u64.wrap (c + IntKind.u64.wrap (IntKind.u64.wrap x * t)) = x * t + c := by
 have hp := zfJ hx ht
 rw [u64 hx.1 (by omega), u64 hp.1 (by omega), u64 (by omega) (by omega)]; omega
theorem zl5 (x : Int) (t c : Nat) (hx : 0 ≤ x) : x * (t : Int) + (c : Int) = ((x.toNat * t + c : Nat) : Int) := by
 obtain ⟨X, rfl⟩ := Int.eq_ofNat_of_zero_le hx
 simp
theorem nd (a : Nat) : ((a : Nat) : Int) % 4294967296 = ((a % 4294967296 : Nat) : Int) ∧ ((a : Nat) : Int) / 4294967296 = ((a / 4294967296 : Nat) : Int) := by omega
section
variable (s : ByteArray)
theorem zic (at' t : Nat) (ht : t < 4294967296) {res : List Int × Int} (full : List Int) (hf : full.length < 1000000000) : ∀ (l done : List Int) (c : Nat), c < t → Dg l → done.length + l.length < 1000000000 → full = done ++ zac l t c →
  (Ev (fun k => if (full.length : Int) > 4096 then some ([], 3) else zm.l1 k s full (at' : Int)) res) →
  Ev (fun k => zm.l3 k s (done ++ l) at' t c ((done.length + l.length : Nat) : Int) done.length) res
 | [], done, c, hc, hg, hl, hfull, H => by
  have hj : Ev (fun k => zm.j10 k s full (at' : Int)) res := by
   refine zf ?_
   simp only [zm.j10]
   exact H
  refine zf ?_
  simp only [zm.l3]
  refine ze (by simp) ?_
  rw [List.append_nil]
  by_cases h0 : c = 0
  ·have e : full = done := by rw [hfull]; simp [zac, h0]
   rw [e] at hj
   exact ze (by omega) hj
  ·have e : full = done ++ [((c : Nat) : Int) % 4294967296] := by
    rw [hfull]; simp [zac, h0]; omega
   rw [e] at hj
   exact zd (by omega) (zd (by simp at hl ⊢; omega) hj)
 | x :: l, done, c, hc, hg, hl, hfull, H => by
  have hx := hg.head
  have hb := zhO (x := x.toNat) (by omega) hc
  have hu := uu hx (t := (t : Int)) (by omega) (c := (c : Int)) (by omega)
  rw [zl5 x t c hx.1] at hu
  have hn := nd (x.toNat * t + c)
  have hr : rd (done ++ x :: l) (done.length : Int) = x := zW rfl
  refine zf ?_
  simp only [zm.l3, hr, hu, hn.1, hn.2, zaW rfl, zbw (n := done.length) (by omega)]
  clear hu hn
  refine zd (by simp; omega) (zd (by omega) (zd (by simp; omega) (zd (by omega) (zd (by simp; omega) ?_))))
  have := zic at' t ht full hf l (done ++ [((((x.toNat * t + c) % 4294967296 : Nat)) : Int)]) _ hb hg.tail (by simp at hl ⊢; omega) (by rw [hfull, zac]; simp) H
  rw [List.length_append, List.length_singleton] at this
  have e : done.length + (x :: l).length = done.length + 1 + l.length := by simp; omega
  rw [e]; exact this
omit s in
theorem zdz (s : ByteArray) : (qcB s).length = s.size := by unfold qcB; rw [List.length_map, Array.length_toList]; rfl
theorem zfg (i : Nat) : bt s (i : Int) = (qcB s).getD i 0 := by
 rw [zgL, Int.toNat_natCast]
 have e : qcB s = (tl s).map fun b => (b.toNat : Int) := rfl
 rw [e, List.getD_eq_getElem?_getD, List.getD_eq_getElem?_getD, List.getElem?_map]
 cases (tl s)[i]? <;> rfl
theorem zib (hd : zaT (qcB s)) (n next : Nat) (hn : next ≤ s.size) (hs : s.size < 1000000000000) {res : List Int × Int} (hln : (D n).length < 100000000)
  (H : ∀ t c, t < 4294967296 → c < t → t = t → Ev (fun k => zm.l3 k s (D n) next t c ((D n).length : Int) 0) res → True) :
  ∀ (d i t c : Nat), i + d = next → t * 10 ^ d ≤ 1000000000 → c < t →
  Ev (fun k => zm.l3 k s (D n) next ((t * 10 ^ d : Nat) : Int) ((c * 10 ^ d + pv (((qcB s).drop i).take d) : Nat) : Int) ((D n).length : Int) 0) res →
  Ev (fun k => zm.l2 k s (D n) i next t c) res
 | 0, i, t, c, hi, ht, hc, h => by
  refine zf ?_
  simp only [zm.l2]
  refine ze (by omega) ?_
  rw [show next = i by omega] at h
  simpa [pv, pvA] using h
 | d + 1, i, t, c, hi, ht, hc, h => by
  have hlen : (qcB s).length = s.size := zdz s
  have hget : (qcB s).drop i = (qcB s).getD i 0 :: (qcB s).drop (i + 1) := by
   rw [List.drop_eq_getElem_cons (by omega)]; simp [show i < (qcB s).length by omega]
  have hdi := hd ((qcB s).getD i 0) (by
   have : i < (qcB s).length := by omega
   rw [List.getD_eq_getElem?_getD, List.getElem?_eq_getElem this]; exact List.getElem_mem this)
  generalize hx : (qcB s).getD i 0 = x at hget hdi
  have hp : 1 ≤ 10 ^ d := Nat.one_le_pow _ _ (by omega)
  have ht10 : t * 10 * 10 ^ d = t * 10 ^ (d + 1) := by rw [Nat.pow_succ, Nat.mul_assoc, Nat.mul_comm 10]
  have ht9 : t * 10 ≤ 1000000000 := by
   have : t * 10 * 1 ≤ t * 10 * 10 ^ d := Nat.mul_le_mul_left _ hp
   omega
  refine zf ?_
  simp only [zm.l2, zbw (n := i) (by omega), zfg, hx]
  refine zd (by omega) (zd (by omega) (zd (by omega) ?_))
  have e1 : IntKind.u64.wrap ((t : Int) * 10) = ((t * 10 : Nat) : Int) := by rw [u64 (by omega) (by omega)]; omega
  have e2 : IntKind.u64.wrap (IntKind.u64.wrap (10 * (c : Int)) + IntKind.u64.wrap ((x - 48) % 256)) = ((10 * c + (x - 48).toNat : Nat) : Int) := by
   rw [u64 (n := 10 * (c : Int)) (by omega) (by omega), u64 (n := (x - 48) % 256) (by omega) (by omega), u64 (by omega) (by omega)]; omega
  rw [e1, e2]
  clear e1 e2
  refine zib hd n next hn hs hln H d (i + 1) (t * 10) (10 * c + (x - 48).toNat) (by omega) (by omega) (by omega) ?_
  rw [hget, List.take_succ_cons] at h
  have e3 : c * 10 ^ (d + 1) + pv (x :: ((qcB s).drop (i + 1)).take d) = (10 * c + (x - 48).toNat) * 10 ^ d + pv (((qcB s).drop (i + 1)).take d) := by
   have hq := zdc [x] (((qcB s).drop (i + 1)).take d)
   have hl : (((qcB s).drop (i + 1)).take d).length = d := by rw [List.length_take, List.length_drop]; omega
   rw [hl] at hq
   have hq1 : pv [x] = (x - 48).toNat := by simp [pv, pvA]
   rw [hq1] at hq
   rw [List.singleton_append] at hq
   rw [hq, Nat.pow_succ, Nat.add_mul, Nat.mul_comm 10 c, Nat.mul_assoc, Nat.mul_comm (10 ^ d) 10, Nat.add_assoc]
  rw [e3, ← ht10] at h
  exact h
theorem zna (l : List Int) (i d : Nat) : l.take (i + d) = l.take i ++ (l.drop i).take d := by
 rw [List.take_add]
theorem zmk (hd : zaT (qcB s)) (hs : s.size < 100000000) : ∀ (r i : Nat), i + r = s.size → (D (pv ((qcB s).take i))).length ≤ 4096 → Ev (fun k => zm.l1 k s (D (pv ((qcB s).take i))) i) (zG (pv (qcB s))) := by
 intro r
 induction r using Nat.strongRecOn with
 | _ r ih =>
  intro i hi hl
  have hlen : (qcB s).length = s.size := zdz s
  refine zf ?_
  simp only [zm.l1]
  by_cases c : r = 0
  ·refine ze (by omega) (zi (Ev.now _) ?_)
   have e : (qcB s).take i = qcB s := List.take_of_length_le (by omega)
   rw [e] at hl ⊢
   unfold zG; rw [if_neg (by omega)]
  ·refine zd (by omega) ?_
   have chunk : ∀ d, 0 < d → d ≤ 9 → d ≤ r → Ev (fun k => zm.j7 k s (D (pv ((qcB s).take i))) i ((i + d : Nat) : Int)) (zG (pv (qcB s))) := by
    intro d h0 h9 hr
    refine zf ?_
    simp only [zm.j7]
    have hp9 : 1 * 10 ^ d ≤ 1000000000 := by
     have : 10 ^ d ≤ 10 ^ 9 := Nat.pow_le_pow_right (by omega) h9
     omega
    have hlc : (((qcB s).drop i).take d).length = d := by rw [List.length_take, List.length_drop]; omega
    have hpl : pv (((qcB s).drop i).take d) < 10 ^ d := by
     have := zil (l := ((qcB s).drop i).take d) (fun x hx => hd x (List.mem_of_mem_drop (List.mem_of_mem_take hx)))
     rwa [hlc] at this
    refine zib s hd _ (i + d) (by omega) (by omega) (by omega) (fun _ _ _ _ _ _ => trivial) d i 1 0 rfl hp9 (by omega) ?_
    rw [Nat.one_mul, Nat.zero_mul, Nat.zero_add]
    have e : pv ((qcB s).take (i + d)) = pv ((qcB s).take i) * 10 ^ d + pv (((qcB s).drop i).take d) := by
     rw [zna, zdc, hlc]
    have hD := zlO (n := pv ((qcB s).take i)) hpl (by omega)
    rw [← e] at hD
    have hDl : (D (pv ((qcB s).take (i + d)))).length < 1000000000 := by
     have h1 := zc8 (pv ((qcB s).take i))
     have h2 : pv ((qcB s).take (i + d)) < 4294967296 ^ ((D (pv ((qcB s).take i))).length + 1) := by
      rw [e, Nat.pow_succ]
      have h3 : (pv ((qcB s).take i) + 1) * 10 ^ d ≤ 4294967296 ^ (D (pv ((qcB s).take i))).length * 4294967296 := Nat.mul_le_mul h1 (by omega)
      rw [Nat.add_mul] at h3
      omega
     have := zdr h2
     omega
    have := zic s (i + d) (10 ^ d) (by omega) (res := zG (pv (qcB s))) (D (pv ((qcB s).take (i + d)))) hDl (D (pv ((qcB s).take i))) [] (pv (((qcB s).drop i).take d)) hpl (zaA _) (by simp; omega) (by rw [hD]; rfl) ?_
    ·simpa using this
    ·by_cases c2 : (D (pv ((qcB s).take (i + d)))).length > 4096
     ·refine zd (by omega) (zi (Ev.now _) ?_)
      have := zeg (zmz (qcB s) (i + d))
      unfold zG; rw [if_pos (by omega)]
     ·exact ze (by omega) (ih (r - d) (by omega) (i + d) (by omega) (by omega))
   have e9 : mn (s.size : Int) (wrap64 ((i : Int) + 9)) = ((i + min r 9 : Nat) : Int) := by
    have : wrap64 ((i : Int) + 9) = (i : Int) + 9 := by unfold wrap64; omega
    rw [this]; unfold mn; split <;> omega
   have j3 := chunk (min r 9) (by omega) (by omega) (by omega)
   rw [e9]
   clear e9
   have em : Int.tmod (s.size : Int) 9 = ((s.size % 9 : Nat) : Int) := zeT s.size 9
   by_cases c1 : i = 0
   ·refine zd (by omega) ?_
    rw [em]
    by_cases c2 : s.size % 9 = 0
    ·exact ze (by omega) j3
    ·refine zd (by omega) ?_
     have := chunk (s.size % 9) (by omega) (by omega) (by omega)
     have e : ((i + s.size % 9 : Nat) : Int) = ((s.size % 9 : Nat) : Int) := by omega
     rw [e] at this; exact this
   ·exact ze (by omega) j3
theorem zk9 {l : List Int} {i : Nat} (h : i < l.length) : l.getD i 0 ∈ l := by
 rw [List.getD_eq_getElem?_getD, List.getElem?_eq_getElem h]; exact List.getElem_mem h
theorem zia (hs : s.size < 100000000) : ∀ (r i : Nat), i + r = s.size → (∀ j, j < i → 48 ≤ (qcB s).getD j 0 ∧ (qcB s).getD j 0 ≤ 57) → Ev (fun k => zm.l0 k s s.size i) (if zaT (qcB s) then zG (pv (qcB s)) else ([], 12))
 | 0, i, hi, hj => by
  have hlen : (qcB s).length = s.size := zdz s
  have hd : zaT (qcB s) := by
   intro x hx
   obtain ⟨j, hj', rfl⟩ := List.getElem_of_mem hx
   have := hj j (by omega)
   simpa [hj'] using this
  refine zf ?_
  simp only [zm.l0]
  refine ze (by omega) ?_
  rw [if_pos hd]
  have := zmk s hd hs s.size 0 (by omega) (by simp [pv, pvA, zK])
  simpa [pv, pvA, zK] using this
 | r + 1, i, hi, hj => by
  have hlen : (qcB s).length = s.size := zdz s
  have hm := zk9 (l := qcB s) (i := i) (by omega)
  refine zf ?_
  simp only [zm.l0, zfg, zbw (n := i) (by omega)]
  refine zd (by omega) (zd (by omega) (zd (by omega) ?_))
  by_cases c1 : (qcB s).getD i 0 < 48
  ·refine zd c1 (zi (Ev.now _) ?_)
   rw [if_neg]; intro hd; have := hd _ hm; omega
  ·refine ze c1 (zd (by omega) (zd (by omega) ?_))
   by_cases c2 : (qcB s).getD i 0 > 57
   ·refine zd c2 (zi (Ev.now _) ?_)
    rw [if_neg]; intro hd; have := hd _ hm; omega
   ·refine ze c2 (zia hs r (i + 1) (by omega) ?_)
    intro j hj'
    by_cases e : j = i
    ·subst e; omega
    ·exact hj j (by omega)
def zb0 (l : List Int) : List Int × Int := if isT l then zG (pv l) else ([], 12)
theorem zhY (hs : s.size < 100000000) : Ev (fun k => zm.f k s) (zb0 (qcB s)) := by
 have hlen : (qcB s).length = s.size := zdz s
 have yes : (isT (qcB s) = decide (zaT (qcB s))) → Ev (fun k => zm.l0 k s (s.size : Int) 0) (zb0 (qcB s)) := by
  intro h
  have := zia s hs s.size 0 (by omega) (fun j hj => by omega)
  refine zi this ?_
  unfold zb0; rw [h]
  simp only [decide_eq_true_eq]
 unfold zm.f
 by_cases c0 : s.size = 0
 ·have hn : s = (⟨#[]⟩ : ByteArray) := zi1.1 (List.eq_nil_of_length_eq_zero (by rw [zi0]; exact c0))
  refine zd hn ?_
  have : isT (qcB s) = false := by unfold isT; simp [hlen, c0]
  unfold zb0; rw [this]; exact Ev.now _
 ·refine ze (fun h => c0 (by rw [h]; rfl)) ?_
  by_cases c1 : s.size > 1
  ·refine zd (by omega) (zd (by omega) ?_)
   have e : bt s 0 = (qcB s).getD 0 0 := zfg s 0
   rw [e]
   by_cases c2 : (qcB s).getD 0 0 = 48
   ·refine zd c2 ?_
    have : isT (qcB s) = false := by unfold isT; rw [hlen, c2]; simp; omega
    unfold zb0; rw [this]; exact Ev.now _
   ·refine ze c2 (yes ?_)
    unfold isT; rw [hlen, decide_eq_true c1, decide_eq_true c2]; simp
  ·refine ze (by omega) (yes ?_)
   unfold isT; rw [hlen]; simp [show s.size = 1 by omega]
end
section
variable (s : ByteArray)
end
theorem zmy {c : Int} {l : List Int} : pv (c :: l) = (c - 48).toNat * 10 ^ l.length + pv l := by
 have := zdc [c] l
 simpa [pv, pvA] using this
theorem zf0 {l : List Int} (hd : zaT l) (h0 : l.getD 0 0 ≠ 48) (hl : l ≠ []) : 10 ^ (l.length - 1) ≤ pv l := by
 cases l with
 | nil => exact absurd rfl hl
 | cons c l =>
  have hc := hd c (by simp)
  have h1 : c ≠ 48 := by simpa using h0
  rw [zmy]
  have : 1 * 10 ^ l.length ≤ (c - 48).toNat * 10 ^ l.length := Nat.mul_le_mul_right _ (by omega)
  simp; omega
theorem zmx : ∀ (n : Nat), pv (dcl n).reverse = n := by
 intro n
 induction n using Nat.strongRecOn with
 | _ n ih =>
  by_cases h : n = 0
  ·subst h; rw [zbk]; rfl
  ·rw [zcz h, List.reverse_cons, zim, ih _ (by omega)]; omega
theorem zmA (n : Nat) : pv (txt n) = n := by
 unfold txt
 split
 ·subst n; rfl
 ·exact zmx n
theorem zgW {n : Nat} {c : Int} (hc : 48 ≤ c ∧ c ≤ 57) (h : n ≠ 0 ∨ c ≠ 48) : dcl (10 * n + (c - 48).toNat) = c :: dcl n := by
 rw [zcz (by omega)]
 congr 1
 ·omega
 ·congr 1; omega
theorem zgV : ∀ (m : Nat) (l : List Int), l.length = m → zaT l → l.getD 0 0 ≠ 48 → dcl (pv l) = l.reverse
 | 0, l, hm, _, _ => by
  have : l = [] := List.eq_nil_of_length_eq_zero hm
  subst this; simp [pv, pvA, zbk]
 | m + 1, l, hm, hd, h0 => by
  rcases List.eq_nil_or_concat l with rfl | ⟨a, c, rfl⟩
  ·simp at hm
  rw [List.concat_eq_append] at hm hd h0 ⊢
  have hc := hd c (by simp)
  have hda : zaT a := fun x hx => hd x (by simp [hx])
  rw [zim, List.reverse_append, List.reverse_singleton, List.singleton_append]
  by_cases ha : a = []
  ·subst ha
   have : c ≠ 48 := by simpa using h0
   rw [zgW hc (.inr this)]; simp [pv, pvA, zbk]
  ·have h1 : a.getD 0 0 ≠ 48 := by
    cases a with
    | nil => exact absurd rfl ha
    | cons x a => simpa using h0
   have h2 := zf0 hda h1 ha
   have : 1 ≤ 10 ^ (a.length - 1) := Nat.one_le_pow _ _ (by omega)
   rw [zgW hc (.inl (by omega)), zgV m a (by simpa using hm) hda h1]
theorem znq {l : List Int} (h : isT l = true) : txt (pv l) = l := by
 unfold isT at h
 simp only [Bool.and_eq_true, Bool.or_eq_true, decide_eq_true_eq] at h
 obtain ⟨hd, h⟩ := h
 by_cases h0 : l.getD 0 0 = 48
 ·have h1 : l.length = 1 := by
   rcases h with h | h
   ·exact h
   ·exact absurd h0 h.2
  match l, h1 with
  | [c], _ =>
   have : c = 48 := by simpa using h0
   subst this; rfl
 ·have hl : l ≠ [] := by rintro rfl; simp at h
  have h2 := zf0 hd h0 hl
  have h3 : 1 ≤ 10 ^ (l.length - 1) := Nat.one_le_pow _ _ (by omega)
  unfold txt
  rw [if_neg (by omega), zgV _ l rfl hd h0, List.reverse_reverse]
theorem zj8 (n : Nat) : qcB (qfL (txt n)) = txt n := zj7 _ (fun x hx => by have := zja n x hx; omega)
theorem znp {n k : Nat} (h : n < 10 ^ k) (hk : 1 ≤ k) : (txt n).length ≤ k := by
 unfold txt
 split
 ·simpa using hk
 ·have := zgU k n h; simpa using this
theorem zhT (A Bl : List Int) (i : Nat) (x : Int) (hx : 0 ≤ x ∧ x < 4294967296) (hB : Dg Bl) (hl : A.length < 1000000000) (hlb : Bl.length < 1000000000) (hi : i < A.length) (res : List Int) : ∀ (b done r pb : List Int) (c : Int), Bl = pb ++ b → done.length = i + pb.length → b.length < r.length → Dg r → 0 ≤ c ∧ c < 4294967296 →
  Ev (fun k => zF.l0 k Bl (done ++ zX x b r c) A A.length ((i + 1 : Nat) : Int)) res →
  Ev (fun k => zF.l1 k Bl (done ++ r) i x c A A.length i Bl Bl.length pb.length) res
 | [], done, r, pb, c, he, hd, hr, hg, hc, H => by
  obtain ⟨y, r, rfl⟩ : ∃ y r', r = y :: r' := by
   cases r with
   | nil => simp at hr
   | cons y r' => exact ⟨y, r', rfl⟩
  have hlen : Bl.length = pb.length := by rw [he]; simp
  refine zf ?_
  have e : wrap64 ((i : Int) + (Bl.length : Int)) = ((i + Bl.length : Nat) : Int) := by unfold wrap64; omega
  simp only [zF.l1, e, zbw (n := i) (by omega)]
  clear e
  refine ze (by omega) (zd (by omega) (zd (by simp; omega) ?_))
  have hs : (done ++ y :: r).set (((i + Bl.length : Nat) : Int)).toNat (c % 4294967296) = done ++ zX x [] (y :: r) c := by
   rw [zaW (by omega)]; simp [zX]; omega
  rw [hs]; exact H
 | y :: b, done, r, pb, c, he, hd, hr, hg, hc, H => by
  obtain ⟨o, r, rfl⟩ : ∃ y r', r = y :: r' := by
   cases r with
   | nil => simp at hr
   | cons y r' => exact ⟨y, r', rfl⟩
  have hlen : Bl.length = pb.length + 1 + b.length := by rw [he]; simp; omega
  have hy : 0 ≤ y ∧ y < 4294967296 := by rw [he] at hB; exact hB.right.head
  have ho := hg.head
  have hp := zfJ hx hy
  refine zf ?_
  have e : wrap64 ((i : Int) + (pb.length : Int)) = ((done.length : Nat) : Int) := by unfold wrap64; omega
  simp only [zF.l1, e, zbw (n := pb.length) (by omega)]
  clear e
  refine zd (by omega) (zd (by omega) (zd (by omega) (zd (by omega) (zd (by simp; omega) (zd (by omega) (zd (by simp; omega) ?_))))))
  have h1 : rd Bl (pb.length : Int) = y := by rw [he]; exact zW rfl
  have h2 : rd (done ++ o :: r) (done.length : Int) = o := zW rfl
  rw [h1, h2, zaW rfl, u64 hx.1 (by omega), u64 hy.1 (by omega), u64 ho.1 (by omega), u64 (n := x * y) hp.1 (by omega), u64 (n := x * y + o) (by omega) (by omega), u64 (n := x * y + o + c) (by omega) (by omega)]
  have := zhT A Bl i x hx hB hl hlb hi res b (done ++ [(x * y + o + c) % 4294967296]) r (pb ++ [y]) ((x * y + o + c) / 4294967296) (by rw [he]; simp) (by simp [hd]; omega) (by simpa using hr) hg.tail (by omega) (by simpa [zX] using H)
  simpa using this
theorem zhS (A Bl : List Int) (hA : Dg A) (hB : Dg Bl) (hl : A.length < 1000000000) (hlb : Bl.length < 1000000000) : ∀ (a done r pa : List Int), A = pa ++ a → done.length = pa.length → Dg done → Dg r → r.length = Bl.length + a.length → r.drop Bl.length = List.replicate a.length 0 →
  Ev (fun k => zF.l0 k Bl (done ++ r) A A.length done.length) (D (V (done ++ zbH a Bl r)))
 | [], done, r, pa, he, hd, hg, hr, hrl, hz => by
  have hlen : A.length = done.length := by rw [he, hd]; simp
  refine zf ?_
  simp only [zF.l0]
  refine ze (by omega) ?_
  refine Ev.bind (zbZ (hg.app hr) (by simp; simp at hrl; omega)) ?_
  exact Ev.now _
 | x :: a, done, r, pa, he, hd, hg, hr, hrl, hz => by
  have hlen : A.length = done.length + 1 + a.length := by rw [he, hd]; simp; omega
  have hx : 0 ≤ x ∧ x < 4294967296 := by rw [he] at hA; exact hA.right.head
  have hrr := zf9 hx Bl r 0 a.length hB hr (by omega) (by simpa using hz)
  refine zf ?_
  simp only [zF.l0]
  refine zd (by omega) (zd (by omega) (zd (by omega) ?_))
  have h1 : rd A (done.length : Int) = x := by rw [he]; exact zW (by omega)
  rw [h1]
  refine zhT A Bl done.length x hx hB hl hlb (by omega) _ Bl done r [] 0 rfl rfl (by simp at hrl; omega) hr (by omega) ?_
  obtain ⟨r0, r', e⟩ : ∃ r0 r', zX x Bl r 0 = r0 :: r' := by
   cases h : zX x Bl r 0 with
   | nil =>
    have hl := hrr.2.2.2
    rw [h] at hl
    simp at hrl hl; omega
   | cons r0 r' => exact ⟨r0, r', rfl⟩
  rw [e] at hrr
  have := zhS A Bl hA hB hl hlb a (done ++ [r0]) r' (pa ++ [x]) (by rw [he]; simp) (by simp [hd]) (hg.app (Dg.cons hrr.2.1.head.1 hrr.2.1.head.2 Dg.nil)) hrr.2.1.tail (by have := hrr.2.2.2; simp at this hrl; omega) (by simpa using hrr.2.2.1)
  rw [List.length_append, List.length_singleton, List.append_assoc] at this
  have e2 : done ++ zbH (x :: a) Bl r = done ++ [r0] ++ zbH a Bl r' := by simp [zbH, e]
  rw [e, e2]; simpa using this
theorem zfO {a b : List Int} (ha : Dg a) (hb : Dg b) (la : a.length < 1000000000) (lb : b.length < 1000000000) : Ev (fun k => zF.f k a b) (D (V a * V b)) := by
 unfold zF.f
 have e : wrap64 ((a.length : Int) + (b.length : Int)) = ((a.length + b.length : Nat) : Int) := by unfold wrap64; omega
 simp only [e]
 clear e
 refine zd (by omega) (zd (by omega) ?_)
 have := zhS a b ha hb la lb a [] (List.replicate (a.length + b.length) 0) [] rfl rfl Dg.nil (Dg.zeros _) (by simp; omega) (by simp)
 refine zi this ?_
 have h2 := zhR a b (List.replicate (a.length + b.length) 0) ha hb (Dg.zeros _) (by simp)
 simp [h2.1, zel]
theorem zhX {a b : List Int} (ha : Nm a) (hb : Nm b) (la : a.length ≤ 4096) (lb : b.length ≤ 4096) : Ev (fun k => zcj.f k a b) (zG (V a * V b)) := by
 have h1 : may a = true := zbr.2 ⟨la, ha⟩
 have h2 : may b = true := zbr.2 ⟨lb, hb⟩
 have tail : Ev (fun k => (zF.f k a b).bind fun t => (zaE.f t).bind fun bt => some (bt.1, bt.2)) (zG (V a * V b)) := by
  refine Ev.bind (zfO ha.dg hb.dg (by omega) (by omega)) ?_
  exact zk (zl1 _) (Ev.now _)
 unfold zcj.f
 refine Ev.bind (zgE ha.dg hb.dg (by omega) (by omega)) ?_
 refine ze (by simp [h1, h2]) ?_
 by_cases c1 : a.length > 0
 ·refine zd (by omega) ?_
  by_cases c2 : b.length > 0
  ·refine zd (by omega) ?_
   have e : wrap64 (wrap64 ((a.length : Int) + (b.length : Int)) - 1) = ((a.length + b.length - 1 : Nat) : Int) := by unfold wrap64; omega
   rw [e]
   clear e
   by_cases c3 : a.length + b.length - 1 > 4096
   ·refine zd (by omega) (zi (Ev.now _) ?_)
    have p1 := ze1 ha (fun e => by subst e; simp at c1)
    have p2 := ze1 hb (fun e => by subst e; simp at c2)
    have p3 := Nat.mul_le_mul p1 p2
    rw [← Nat.pow_add] at p3
    have p4 : (D (V a * V b)).length > 4096 := by
     apply Nat.lt_of_not_le
     intro k
     have p5 := zc8 (V a * V b)
     have p6 := Nat.pow_lt_pow_iff_right (a := 4294967296) (by omega) |>.1 (Nat.lt_of_le_of_lt p3 p5)
     omega
    unfold zG; rw [if_pos p4]
   ·exact ze (by omega) tail
  ·exact ze (by omega) tail
 ·exact ze (by omega) tail
theorem zdy {n : Nat} (h : (D n).length ≤ 4096) : zG n = (D n, 0) := by
 unfold zG; rw [if_neg (by omega)]
theorem ze2 : D 1 = [1] := by
 have h2 : Nm [1] := by have := zei Dg.nil (d := 1) (by omega) (by omega); simpa using this
 exact h2
theorem zh4 (n : Nat) (h : n < 9223372036854775808) : (BitVec.ofInt 64 (n : Int)).toNat = n := by
 rw [BitVec.ofInt_natCast, BitVec.toNat_ofNat]; exact Nat.mod_eq_of_lt (by omega)
theorem zjT (n : Nat) (h : n < 9223372036854775808) : Go.bits .and .i64 (n : Int) 1 = ((n % 2 : Nat) : Int) := by
 show IntKind.i64.wrap ((BitVec.ofInt 64 (n : Int) &&& BitVec.ofInt 64 ((1 : Nat) : Int)).toNat : Int) = _
 rw [BitVec.toNat_and, zh4 n h, zh4 1 (by omega), Nat.and_one_is_mod, IntKind.wrap_i64]
 omega
theorem zmX (n i : Nat) (h : i ≤ 64) : shr .i64 (n : Int) (i : Int) = ((n / 2 ^ i : Nat) : Int) := by
 unfold shr
 have e : min (i : Int).toNat IntKind.i64.bits = i := by rw [Int.toNat_natCast]; exact Nat.min_eq_left h
 rw [e]; simp
theorem zmd {b n : Nat} (h : 1 ≤ b) : 1 ≤ b ^ n := Nat.one_le_pow _ _ h
theorem zij {b m n : Nat} (h : 1 ≤ b) (k : m ≤ n) : b ^ m ≤ b ^ n := Nat.pow_le_pow_right h k
theorem zld (n i : Nat) : n / 2 ^ i = 2 * (n / 2 ^ (i + 1)) + n / 2 ^ i % 2 := by
 have : n / 2 ^ (i + 1) = n / 2 ^ i / 2 := by rw [Nat.pow_succ, Nat.div_div_eq_div_mul]
 rw [this]; omega
theorem zm2 {m : Nat} (h : m ≠ 0) : 2 * (D m).length - 1 ≤ (D (m * m)).length := by
 have h1 := ze0 h
 have h2 := Nat.mul_le_mul h1 h1
 rw [← Nat.pow_add] at h2
 apply Nat.le_of_not_lt
 intro k
 have h3 := zc8 (m * m)
 have h4 : (4294967296 : Nat) ^ (D (m * m)).length ≤ 4294967296 ^ ((D m).length - 1 + ((D m).length - 1)) := Nat.pow_le_pow_right (by omega) (by omega)
 omega
theorem znM {L : Nat} (h : L ≤ 4096) : wrap64 (wrap64 (2 * (L : Int)) - 1) = 2 * (L : Int) - 1 := by unfold wrap64; omega
theorem zm3 {p : Nat} (h : (D p).length ≤ 4096) : (D (p * p)).length ≤ 8192 := by
 have h1 := zc8 p
 have h2 := Nat.mul_lt_mul'' h1 h1
 rw [← Nat.pow_add] at h2
 have := zdr h2
 omega
theorem zjY {x : Int} (h : 0 ≤ x ∧ x < 18446744073709551616) : Ev (fun k => zcR.f k x) ((bl x.toNat : Nat) : Int) := by
 unfold zcR.f
 exact Ev.bind (zdK h) (Ev.now _)
theorem zmu {b n i p q T t : Nat} (hbl : Dg [((b : Nat) : Int)]) (hi : i < 64) (hs : Go.bits .and .i64 (shr .i64 (n : Int) (i : Int)) 1 = ((t % 2 : Nat) : Int)) (hp : p ≠ 0) (hl : (D p).length ≤ 4096) (hpT : p * p ≤ T) (hqT : q ≤ T)
  (h1 : t % 2 = 1 → p * p * b = q) (h0 : t % 2 ≠ 1 → p * p = q) (ih : (D q).length ≤ 4096 → Ev (fun k => zA.l0 k (b : Int) (n : Int) (D q) ((i : Int) - 1)) (zG T)) :
  Ev (fun k => zA.l0 k (b : Int) (n : Int) (D p) (i : Int)) (zG T) := by
 have hsl := zm2 hp
 have hss := zm3 hl
 refine zf ?_
 simp only [zA.l0, znM hl, hs]
 clear hs
 refine zd (by omega) ?_
 by_cases c1 : 2 * (D p).length > 4097
 ·refine zd (by omega) (zi (Ev.now _) ?_)
  exact (zff (m := p * p) (by omega) hpT).symm
 ·refine ze (by omega) (Ev.bind (zfO (zaA _) (zaA _) (by omega) (by omega)) ?_)
  rw [V_D]
  refine zd (by omega) ?_
  have next : Ev (fun k => zA.j4 k (b : Int) (n : Int) (D q) (i : Int)) (zG T) := by
   refine zf ?_
   simp only [zA.j4, zb4 (n := i) (by omega)]
   by_cases c2 : (D q).length > 4096
   ·refine zd (by omega) (zi (Ev.now _) ?_)
    exact (zff c2 hqT).symm
   ·exact ze (by omega) (ih (by omega))
  by_cases c3 : t % 2 = 1
  ·refine zd (by omega) (Ev.bind (zfO (zaA _) hbl (by omega) (by simp)) ?_)
   have hv : V (D (p * p)) * V [((b : Nat) : Int)] = q := by
    rw [V_D, ← h1 c3]
    simp only [zB, za4, Int.toNat_natCast, Nat.mul_zero, Nat.add_zero]
   rw [hv]; exact next
  ·refine ze (by omega) ?_
   rw [h0 c3]; exact next
theorem zik {b : Nat} (hb : 1 ≤ b ∧ b < 4294967296) (hbl : Dg [((b : Nat) : Int)]) {n : Nat} (hn : n < 9223372036854775808) : ∀ (i : Nat), i ≤ 64 → (D (b ^ (n / 2 ^ i))).length ≤ 4096 → Ev (fun k => zA.l0 k (b : Int) (n : Int) (D (b ^ (n / 2 ^ i))) ((i : Int) - 1)) (zG (b ^ n))
 | 0, hi, hl => by
  refine zf ?_
  simp only [zA.l0]
  refine ze (by decide) (zi (Ev.now _) ?_)
  rw [Nat.pow_zero, Nat.div_one] at hl ⊢
  exact (zdy hl).symm
 | i + 1, hi, hl => by
  have e0 : ((i + 1 : Nat) : Int) - 1 = (i : Int) := by rw [Int.natCast_add]; exact Int.add_sub_cancel _ _
  have hh := zld n i
  have hle : n / 2 ^ i ≤ n := Nat.div_le_self _ _
  have hm : b ^ (n / 2 ^ (i + 1)) ≠ 0 := Nat.ne_of_gt (zmd hb.1)
  have hsq : b ^ (n / 2 ^ (i + 1)) * b ^ (n / 2 ^ (i + 1)) = b ^ (2 * (n / 2 ^ (i + 1))) := by rw [← Nat.pow_add, Nat.two_mul]
  have hle2 : 2 * (n / 2 ^ (i + 1)) ≤ n / 2 ^ i := by rw [hh]; exact Nat.le_add_right _ _
  have hbit : Go.bits .and .i64 (shr .i64 (n : Int) (i : Int)) 1 = ((n / 2 ^ i % 2 : Nat) : Int) := by
   rw [zmX n i (Nat.le_of_lt hi), zjT _ (Nat.lt_of_le_of_lt hle hn)]
  rw [e0]
  refine zmu (q := b ^ (n / 2 ^ i)) hbl hi hbit hm hl ?_ (zij hb.1 hle) ?_ ?_ (fun h => zik hb hbl hn i (Nat.le_of_lt hi) h)
  ·rw [hsq]; exact zij hb.1 (Nat.le_trans hle2 hle)
  ·intro c; rw [hsq, ← Nat.pow_succ]; congr 1; rw [c] at hh; exact hh.symm
  ·intro c
   have c' : n / 2 ^ i % 2 = 0 := (Nat.mod_two_eq_zero_or_one _).resolve_right c
   rw [hsq]; congr 1; rw [c'] at hh; exact hh.symm
theorem zfN {b n : Nat} (hb : b < 4294967296) (hn : n < 9223372036854775808) : Ev (fun k => zA.f k (b : Int) (n : Int)) (zG (b ^ n)) := by
 have h1 : Nm [1] := by rw [← ze2]; exact z6 1
 have one : ∀ z, z = true → b ^ n = 1 → Ev (fun k => zA.j0 k (b : Int) (n : Int) z) (zG (b ^ n)) := by
  rintro z rfl e
  refine zf ?_
  simp only [zA.j0]
  refine zd trivial (Ev.bind (zdQ (by omega) (by omega)) (zi (Ev.now _) ?_))
  rw [e]
  exact (zdy (n := 1) (by rw [ze2]; simp)).symm
 unfold zA.f
 refine ze (by omega) ?_
 by_cases c0 : n = 0
 ·refine zd (by omega) (one true rfl (by subst c0; simp))
 ·refine ze (by omega) ?_
  by_cases c1 : b = 1
  ·refine one _ (by subst c1; rfl) (by subst c1; simp)
  ·have e : decide ((b : Int) = 1) = false := decide_eq_false (by omega)
   rw [e]
   refine zf ?_
   simp only [zA.j0]
   refine ze (by simp) ?_
   by_cases c2 : b = 0
   ·refine zd (by omega) (zi (Ev.now _) ?_)
    subst c2
    rw [Nat.zero_pow (by omega), zdy (by rw [zK]; simp), zK]
   ·refine ze (by omega) ?_
    by_cases c3 : n > 131072
    ·refine zd (by omega) (zi (Ev.now _) ?_)
     have p1 : 2 ^ n ≤ b ^ n := Nat.pow_le_pow_left (by omega) n
     exact (znn (by omega) p1).symm
    ·refine ze (by omega) (Ev.bind (zdQ (by omega) (by omega)) ?_)
     rw [u64 (by omega) (by omega)]
     refine Ev.bind (zjY (by omega)) ?_
     have hbl : bl n ≤ 63 := zI (by omega)
     rw [Int.toNat_natCast, zb4 (by omega)]
     have := zik (b := b) (by omega) (Dg.cons (by omega) (by omega) Dg.nil) hn (bl n) (by omega)
     rw [Nat.div_eq_of_lt (zP n), Nat.pow_zero] at this
     exact this (by rw [ze2]; simp)
end Go.Proofs.YtnkpmjhlkmlmbaaGreatDoor.Eng.K
