import Derived.Test.YtnkpmjhlkmlmbaaGreatDoorQDeciOrderF1
import Derived.Lib.Strings
import Derived.Laws.RangeString
import Derived.Laws.BitsAllLaws
import Derived.Lib.Bytes
set_option linter.unusedVariables false
set_option linter.unusedSimpArgs false
namespace Go.Proofs.YtnkpmjhlkmlmbaaGreatDoor.Eng
def Ev {α : Type} (g : Nat → Option α) (r : α) : Prop := ∃ n, ∀ k, n ≤ k → g k = some r
theorem Ev.now {α : Type} (r : α) : Ev (fun _ => some r) r := ⟨0, fun _ _ => rfl⟩
theorem Ev.bind {α β : Type} {g : Nat → Option α} {f : Nat → α → Option β} {a : α} {r : β} (h : Ev g a) (k : Ev (fun n => f n a) r) : Ev (fun n => (g n).bind (f n)) r := by
 obtain ⟨n, hn⟩ := h
 obtain ⟨m, hm⟩ := k
 exact ⟨n + m, fun i hi => by show (g i).bind (f i) = some r; rw [hn i (by omega), Option.bind_some]; exact hm i (by omega)⟩
theorem Ev.step {α : Type} {g f : Nat → Option α} {r : α} (h : ∀ k, g (k + 1) = f k) (k : Ev f r) : Ev g r := by
 obtain ⟨n, hn⟩ := k
 refine ⟨n + 1, fun i hi => ?_⟩
 obtain ⟨i, rfl⟩ : ∃ j, i = j + 1 := ⟨i - 1, by omega⟩
 rw [h]; exact hn i (by omega)
end Go.Proofs.YtnkpmjhlkmlmbaaGreatDoor.Eng
namespace Go.Proofs.YtnkpmjhlkmlmbaaGreatDoor.Eng.K
open Go.RowKit
theorem w64 {n : Int} (h0 : -9223372036854775808 ≤ n) (h1 : n < 9223372036854775808) : wrap64 n = n := by unfold wrap64; omega
theorem zap {n : Int} (h0 : 0 ≤ n) (h1 : n < 9223372036854775808) : wrap64 n = n := by unfold wrap64; omega
theorem u64 {n : Int} (h0 : 0 ≤ n) (h1 : n < 18446744073709551616) : IntKind.u64.wrap n = n := by
 simp [IntKind.wrap, IntKind.bits, IntKind.signed]; omega
theorem zek (n : Int) : IntKind.u64.wrap n = n % 18446744073709551616 := by
 simp [IntKind.wrap, IntKind.bits, IntKind.signed]
theorem rdn (xs : List Int) (n : Nat) : rd xs (n : Int) = xs.getD n 0 := by simp [rd]
theorem zU {xs ys : List Int} {y : Int} {i : Int} (h : i = (xs.length : Int)) : rd (xs ++ y :: ys) i = y := by
 subst h; simp [rd]
theorem zbq {xs ys : List Int} {y z : Int} {i : Int} (h : i = (xs.length : Int)) : (xs ++ y :: ys).set i.toNat z = (xs ++ [z]) ++ ys := by
 subst h; simp
theorem zg {α : Type} {g : Nat → Option α} {r s : α} (h : Ev g r) (e : r = s) : Ev g s := e ▸ h
theorem zkI {α : Type} {x : Option α} {r : α} (h : x = some r) : Ev (fun _ => x) r := by subst h; exact Ev.now r
theorem zd {α : Type} {c : Prop} {_ : Decidable c} {g f : Nat → Option α} {r : α} (h : c) (k : Ev g r) : Ev (fun n => if c then g n else f n) r := by
 simpa [h] using k
theorem ze {α : Type} {c : Prop} {_ : Decidable c} {g f : Nat → Option α} {r : α} (h : ¬ c) (k : Ev f r) : Ev (fun n => if c then g n else f n) r := by
 simpa [h] using k
theorem ep {α : Type} {c : Prop} {_ : Decidable c} {g f : Nat → Option α} {r : α} (k : Ev g r) (h : c := by (first | omega | assumption | (simp; done) | (simp; omega))) : Ev (fun n => if c then g n else f n) r := zd h k
theorem en {α : Type} {c : Prop} {_ : Decidable c} {g f : Nat → Option α} {r : α} (k : Ev f r) (h : ¬ c := by (first | omega | assumption | (simp; done) | (simp; omega))) : Ev (fun n => if c then g n else f n) r := ze h k
theorem zl {α β : Type} {x : Option α} {f : Nat → α → Option β} {a : α} {r : β} (h : x = some a) (k : Ev (fun n => f n a) r) : Ev (fun n => x.bind (f n)) r := by
 subst h; exact k
theorem zf {α : Type} {g : Nat → Option α} {r : α} (k : Ev (fun n => g (n + 1)) r) : Ev g r := Ev.step (fun _ => rfl) k
theorem Ev.unique {α : Type} {g : Nat → Option α} {r s : α} (h : Ev g r) (k : Ev g s) : r = s := by
 obtain ⟨a, ha⟩ := h; obtain ⟨b, hb⟩ := k
 have h1 := ha (max a b) (Nat.le_max_left _ _); have h2 := hb (max a b) (Nat.le_max_right _ _)
 rw [h1] at h2; exact Option.some.inj h2
def Dg (l : List Int) : Prop := ∀ x ∈ l, 0 ≤ x ∧ x < 4294967296
def V : List Int → Nat
 | [] => 0
 | d :: l => d.toNat + 4294967296 * V l
def D (n : Nat) : List Int := if h : n = 0 then [] else ((n % 4294967296 : Nat) : Int) :: D (n / 4294967296)
termination_by n
decreasing_by omega
theorem Dg.nil : Dg [] := fun _ h => by simp at h
theorem Dg.cons {d : Int} {l : List Int} (h0 : 0 ≤ d) (h1 : d < 4294967296) (h : Dg l) : Dg (d :: l) := fun x hx => by
 rcases List.mem_cons.1 hx with rfl | hx
 ·exact ⟨h0, h1⟩
 ·exact h x hx
theorem Dg.head {d : Int} {l : List Int} (h : Dg (d :: l)) : 0 ≤ d ∧ d < 4294967296 := h d (by simp)
theorem Dg.tail {d : Int} {l : List Int} (h : Dg (d :: l)) : Dg l := fun x hx => h x (by simp [hx])
theorem Dg.app {a b : List Int} (h : Dg a) (k : Dg b) : Dg (a ++ b) := fun x hx => by
 rcases List.mem_append.1 hx with hx | hx
 ·exact h x hx
 ·exact k x hx
theorem Dg.left {a b : List Int} (h : Dg (a ++ b)) : Dg a := fun x hx => h x (by simp [hx])
theorem Dg.right {a b : List Int} (h : Dg (a ++ b)) : Dg b := fun x hx => h x (by simp [hx])
theorem Dg.take {a : List Int} (h : Dg a) (n : Nat) : Dg (a.take n) := fun x hx => h x (List.mem_of_mem_take hx)
theorem Dg.drop {a : List Int} (h : Dg a) (n : Nat) : Dg (a.drop n) := fun x hx => h x (List.mem_of_mem_drop hx)
theorem Dg.zeros (n : Nat) : Dg (List.replicate n 0) := fun x hx => by
 obtain ⟨_, rfl⟩ := List.mem_replicate.1 hx; omega
theorem Dg.getD {a : List Int} (h : Dg a) (n : Nat) : 0 ≤ a.getD n 0 ∧ a.getD n 0 < 4294967296 := by
 rw [List.getD_eq_getElem?_getD]
 cases e : a[n]? with
 | none => simp
 | some x => simpa using h x (List.mem_of_getElem? e)
theorem Dg.rd {a : List Int} (h : Dg a) (i : Int) : 0 ≤ rd a i ∧ rd a i < 4294967296 := h.getD i.toNat
theorem Dg.set {a : List Int} (h : Dg a) (n : Nat) {x : Int} (h0 : 0 ≤ x) (h1 : x < 4294967296) : Dg (a.set n x) := fun y hy => by
 rcases List.mem_or_eq_of_mem_set hy with hy | rfl
 ·exact h y hy
 ·exact ⟨h0, h1⟩
@[simp] theorem zaa : V [] = 0 := rfl
@[simp] theorem zt (d : Int) (l : List Int) : V (d :: l) = d.toNat + 4294967296 * V l := rfl
theorem zaj (a b : List Int) : V (a ++ b) = V a + 4294967296 ^ a.length * V b := by
 induction a with
 | nil => simp
 | cons d a ih => simp [ih, Nat.pow_succ]; grind
theorem zex (n : Nat) : V (List.replicate n 0) = 0 := by
 induction n with
 | zero => rfl
 | succ n ih => simp [List.replicate_succ, ih]
theorem zaf {l : List Int} (h : Dg l) : V l < 4294967296 ^ l.length := by
 induction l with
 | nil => simp
 | cons d l ih =>
  have := ih h.tail; have := h.head
  simp only [zt, List.length_cons, Nat.pow_succ]
  omega
theorem zC : D 0 = [] := by unfold D; simp
theorem zc9 {n : Nat} (h : n ≠ 0) : D n = ((n % 4294967296 : Nat) : Int) :: D (n / 4294967296) := by
 conv => lhs; unfold D
 simp [h]
theorem V_D (n : Nat) : V (D n) = n := by
 induction n using Nat.strongRecOn with
 | _ n ih =>
  by_cases h : n = 0
  ·subst h; simp [zC]
  ·rw [zc9 h, zt, ih _ (by omega)]; omega
theorem zW (n : Nat) : Dg (D n) := by
 induction n using Nat.strongRecOn with
 | _ n ih =>
  by_cases h : n = 0
  ·subst h; rw [zC]; exact Dg.nil
  ·rw [zc9 h]; exact Dg.cons (by omega) (by omega) (ih _ (by omega))
theorem zfh {d : Int} {n : Nat} (h0 : 0 ≤ d) (h1 : d < 4294967296) (h : d ≠ 0 ∨ n ≠ 0) : D (d.toNat + 4294967296 * n) = d :: D n := by
 rw [zc9 (by omega)]
 congr 1
 ·omega
 ·congr 1; omega
theorem zjw {a b : Nat} (h : D a = D b) : a = b := by rw [← V_D a, h, V_D]
def Nm (l : List Int) : Prop := D (V l) = l
instance (l : List Int) : Decidable (Nm l) := inferInstanceAs (Decidable (D (V l) = l))
theorem Nm.dg {l : List Int} (h : Nm l) : Dg l := h ▸ zW _
theorem zG (n : Nat) : Nm (D n) := by unfold Nm; rw [V_D]
theorem zcL : Nm [] := by unfold Nm; exact zC
theorem Nm.inj {a b : List Int} (h : Nm a) (k : Nm b) (e : V a = V b) : a = b := by rw [← h, e, k]
theorem zcN {l : List Int} (h : Nm l) : V l = 0 ↔ l = [] := by
 constructor
 ·intro e; rw [← h, e, zC]
 ·rintro rfl; rfl
theorem zdI {l : List Int} {d : Int} (h : Dg l) (h0 : 0 < d) (h1 : d < 4294967296) : Nm (l ++ [d]) := by
 unfold Nm
 induction l with
 | nil =>
  have := zfh (d := d) (n := 0) (by omega) h1 (by omega)
  simpa [zC] using this
 | cons x l ih =>
  have hx := h.head
  rw [List.cons_append, zt, zfh hx.1 hx.2, ih h.tail]
  right; rw [zaj]
  have : 0 < 4294967296 ^ l.length := Nat.pow_pos (by omega)
  have : 0 < 4294967296 ^ l.length * V [d] := Nat.mul_pos this (by simp; omega)
  omega
theorem zfp (l : List Int) : V (l ++ [0]) = V l := by rw [zaj]; simp
theorem zjx {l : List Int} (h : Dg l) : (D (V l)).length ≤ l.length := by
 induction l with
 | nil => simp [zC]
 | cons x l ih =>
  have hx := h.head
  by_cases e : x ≠ 0 ∨ V l ≠ 0
  ·rw [zt, zfh hx.1 hx.2 e]; simpa using ih h.tail
  ·have h1 : x = 0 := by omega
   have h2 : V l = 0 := by omega
   simp [h1, h2, zC]
theorem zfn {l : List Int} {d : Int} (h : Nm (l ++ [d])) : d ≠ 0 := by
 intro e; subst e
 have h2 := zjx h.dg.left
 have h3 : D (V (l ++ [0])) = l ++ [0] := h
 rw [zfp] at h3
 rw [h3] at h2
 simp at h2
 omega
theorem zfm {l : List Int} (h : Dg l) : Nm l ↔ l = [] ∨ l.getD (l.length - 1) 0 ≠ 0 := by
 rcases List.eq_nil_or_concat l with rfl | ⟨a, d, rfl⟩
 ·simp [zcL]
 ·rw [List.concat_eq_append] at h ⊢
  have : (a ++ [d]).getD ((a ++ [d]).length - 1) 0 = d := by simp
  rw [this]
  constructor
  ·intro k; exact .inr (zfn k)
  ·rintro (k | k)
   ·simp at k
   ·have := h d (by simp)
    exact zdI h.left (by omega) this.2
theorem zch {n k : Nat} (h : n < 4294967296 ^ k) : (D n).length ≤ k := by
  induction k generalizing n with
  | zero => have : n = 0 := by simpa using h
            subst this; simp [zC]
  | succ k ih =>
    by_cases e : n = 0
    · subst e; simp [zC]
    · rw [zc9 e, List.length_cons]
      have := ih (n := n / 4294967296) (by rw [Nat.pow_succ] at h; omega)
      omega
theorem zbN (n : Nat) : n < 4294967296 ^ (D n).length := by
 have := zaf (zW n); rwa [V_D] at this
theorem zfi {n : Nat} (h : n ≠ 0) : 4294967296 ^ ((D n).length - 1) ≤ n := by
 apply Nat.le_of_not_lt
 intro k
 have := zch k
 have : (D n).length ≠ 0 := by rw [zc9 h]; simp
 omega
theorem zc8 {a b : Nat} (h : a ≤ b) : (D a).length ≤ (D b).length :=
 zch (Nat.lt_of_le_of_lt h (zbN b))
theorem zlc {a b : Nat} (h : (D a).length < (D b).length) : a < b := by
 apply Nat.lt_of_not_le
 intro k
 have := zc8 k
 omega
theorem Nm.len {l : List Int} (h : Nm l) : (D (V l)).length = l.length := by rw [h]
theorem Nm.lt_of_len {a b : List Int} (h : Nm a) (k : Nm b) (e : a.length < b.length) : V a < V b := by
 apply zlc; rw [h, k]; exact e
open Go.RowKit Go.Proofs Go.Proofs.YtnkpmjhlkmlmbaaGreatDoor.Eng
def tl (s : ByteArray) : List UInt8 := s.data.toList
theorem zc4 (s : ByteArray) : (tl s).length = s.size := by simp [tl]
theorem zcG {a b : ByteArray} : tl a = tl b ↔ a = b := ⟨fun h => by
 cases a; cases b
 congr
 exact Array.toList_inj.1 h, fun h => by rw [h]⟩
theorem zi5 (a b : ByteArray) : tl (a ++ b) = tl a ++ tl b := by simp [tl]
theorem zmW (s : ByteArray) (i j : Nat) : tl (s.extract i j) = ((tl s).take j).drop i := by
 simp only [tl, ByteArray.data_extract, Array.toList_extract, List.extract_eq_take_drop]
 rw [List.take_drop, List.drop_take, List.drop_take]
 congr 1
 omega
theorem ze8 {s : ByteArray} : tl s = [] ↔ s = ⟨#[]⟩ := by
 rw [← zcG]
 simp [tl]
theorem zc5 (s : ByteArray) : s.size = (tl s).length := (zc4 s).symm
theorem zgU (s : ByteArray) (i : Int) : bt s i = (((tl s).getD i.toNat 0).toNat : Int) := by
 unfold bt tl
 split
 ·rename_i h
  have : i.toNat < s.data.toList.length := by simpa using h
  simp [List.getD, List.getElem?_eq_getElem this]
  rfl
 ·rename_i h
  have : ¬ i.toNat < s.data.toList.length := by simpa using h
  simp [List.getD, List.getElem?_eq_none (by omega : s.data.toList.length ≤ i.toNat)]
def hx (b : UInt8) : Option Nat := if 48 ≤ b.toNat ∧ b.toNat ≤ 57 then some (b.toNat - 48) else if 97 ≤ b.toNat ∧ b.toNat ≤ 102 then some (b.toNat - 87) else none
def isD (b : UInt8) : Bool := decide (48 ≤ b.toNat ∧ b.toNat ≤ 57)
def zk (l : List UInt8) (a : Nat) : Nat := l.foldl (fun a b => 10 * a + (b.toNat - 48)) a
def zb7 : List UInt8 → Bool
 | 45 :: _ => true
 | _ => false
def zr : List UInt8 → List UInt8
 | 45 :: r => r
 | 43 :: r => r
 | r => r
def zaI (E : List UInt8) : Bool := decide (zr E ≠ []) && decide ((zr E).length ≤ 6) && (zr E).all isD
def zdo (E : List UInt8) : Int := if zb7 E = true then -(zk (zr E) 0 : Int) else zk (zr E) 0
theorem zcH {α : Type} (p : α → Bool) (l : List α) : (l.takeWhile p).all p = true := by
 induction l with
 | nil => rfl
 | cons a l ih => by_cases h : p a = true <;> simp [h]
theorem zbU {α : Type} (p : α → Bool) (l : List α) : l.takeWhile p ++ l.dropWhile p = l := List.takeWhile_append_dropWhile
theorem zkA {α : Type} (p : α → Bool) (l : List α) {c : α} {r : List α} (h : l.dropWhile p = c :: r) : p c = false := by
 induction l with
 | nil => simp at h
 | cons a l ih =>
  by_cases ha : p a = true
  ·simp [ha] at h; exact ih h
  ·simp [ha] at h; rw [← h.1]; simpa using ha
theorem zkz (l : List UInt8) (hl : l.all isD = true) (n : Nat) : zk l n < (n + 1) * 10 ^ l.length := by
 induction l generalizing n with
 | nil => simp [zk]
 | cons a l ih =>
  simp only [List.all_cons, Bool.and_eq_true] at hl
  have h : zk (a :: l) n = zk l (10 * n + (a.toNat - 48)) := rfl
  have h1 := hl.1
  simp only [isD, decide_eq_true_eq] at h1
  have := ih hl.2 (10 * n + (a.toNat - 48))
  rw [h, List.length_cons, Nat.pow_succ]
  have h2 : (10 * n + (a.toNat - 48) + 1) * 10 ^ l.length ≤ ((n + 1) * 10) * 10 ^ l.length := Nat.mul_le_mul_right _ (by omega)
  have h3 : (n + 1) * (10 ^ l.length * 10) = ((n + 1) * 10) * 10 ^ l.length := by rw [Nat.mul_assoc, Nat.mul_comm 10]
  omega
def zhs (d : Nat) : UInt8 := UInt8.ofNat (if d < 10 then 48 + d else 87 + d)
theorem zK {n : Nat} (h : n < 4611686018427387904) : wrap64 ((n : Int) + 1) = ((n + 1 : Nat) : Int) := by unfold wrap64; omega
theorem zjn {n : Nat} (h : n < 4611686018427387904) : wrap64 (((n + 1 : Nat) : Int) - 1) = (n : Int) := by unfold wrap64; omega
theorem zjb : ∀ (n : Nat) (l : List Int), l.length = n → Dg l → n < 4611686018427387904 → Ev (fun k => zp.f k l) (D (V l))
 | 0, l, hn, hd, hb => by
  have : l = [] := List.eq_nil_of_length_eq_zero hn
  subst this
  refine zf (zkI ?_)
  simp [zp.f, zp.l0, zC]
 | n + 1, l, hn, hd, hb => by
  rcases List.eq_nil_or_concat l with rfl | ⟨a, d, rfl⟩
  ·simp at hn
  rw [List.concat_eq_append] at hn hd ⊢
  have hl : (a ++ [d]).length = n + 1 := hn
  have ha : a.length = n := by simpa using hn
  refine zf ?_
  show Ev (fun k => zp.l0 (k + 1) (a ++ [d])) _
  simp only [zp.l0, hl, zjn (n := n) (by omega)]
  refine zd (by omega) (zd (by omega) (zd (by omega) ?_))
  rw [zU (by omega)]
  by_cases h0 : d = 0
  ·subst h0
   refine zd rfl (zd (by omega) ?_)
   rw [zfp]
   have : (a ++ [(0 : Int)]).take (n : Int).toNat = a := by simp [← ha]
   rw [this]
   exact zd (by omega) (zjb n a ha hd.left (by omega))
  ·refine ze h0 ?_
   have := hd d (by simp)
   rw [zdI hd.left (by omega) this.2]
   exact Ev.now _
theorem zb9 {l : List Int} (hd : Dg l) (hb : l.length < 4611686018427387904) : Ev (fun k => zp.f k l) (D (V l)) := zjb _ l rfl hd hb
theorem ziK (l : List Int) (hd : Dg l) (hb : l.length < 4611686018427387904) : ∀ (n : Nat) (a b : List Int), a.length = n → l = a ++ b → V b = 0 → Ev (fun k => zA.l0 k l n) (D (V l))
 | 0, a, b, hn, he, h0 => by
  have : a = [] := List.eq_nil_of_length_eq_zero hn
  subst this
  refine zf ?_
  simp only [zA.l0]
  refine ze (by omega) (zd (by omega) (zd (by omega) ?_))
  rw [he]; simp [h0, zC]; exact Ev.now _
 | n + 1, a, b, hn, he, h0 => by
  rcases List.eq_nil_or_concat a with rfl | ⟨a, d, rfl⟩
  ·simp at hn
  rw [List.concat_eq_append] at hn he
  have ha : a.length = n := by simpa using hn
  have hl : l.length = n + 1 + b.length := by rw [he]; simp [ha]; omega
  refine zf ?_
  simp only [zA.l0, zjn (n := n) (by omega)]
  refine zd (by omega) (zd (by omega) (zd (by omega) ?_))
  have hr : rd l n = d := by rw [he, List.append_assoc]; exact zU (by omega)
  rw [hr]
  by_cases hz : d = 0
  ·refine zd hz ?_
   exact ziK l hd hb n a (d :: b) ha (by rw [he]; simp) (by simp [h0, hz])
  ·refine ze hz (zd (by omega) (zd (by omega) ?_))
   have hd2 := hd
   rw [he] at hd2
   have h1 := hd2.left d (by simp)
   have h2 : V l = V (a ++ [d]) := by rw [he, zaj (a ++ [d]) b, h0]; simp
   have h3 : l.take ((n + 1 : Nat) : Int).toNat = a ++ [d] := by
    rw [he, Int.toNat_natCast]; exact List.take_left' (by simp [ha])
   rw [h3, h2, zdI hd2.left.left (by omega) h1.2]
   exact Ev.now _
theorem zdv {l : List Int} (hd : Dg l) (hb : l.length < 4611686018427387904) : Ev (fun k => zA.f k l) (D (V l)) :=
 ziK l hd hb l.length l [] rfl (by simp) rfl
theorem zgK (n : Int) (h0 : 0 ≤ n) (h1 : n < 18446744073709551616) : V [n % 4294967296, (n / 4294967296) % 4294967296] = n.toNat := by
 simp; omega
theorem zgz (n : Int) : Dg [n % 4294967296, (n / 4294967296) % 4294967296] := Dg.cons (by omega) (by omega) (Dg.cons (by omega) (by omega) Dg.nil)
theorem zfU {n : Int} (h0 : 0 ≤ n) (h1 : n < 18446744073709551616) : Ev (fun k => zbd.f k n) (D n.toNat) := by
 unfold zbd.f
 refine Ev.bind (zb9 (zgz n) (by simp)) ?_
 rw [zgK n h0 h1]; exact Ev.now _
theorem ziu {n : Int} (h0 : 0 ≤ n) (h1 : n < 18446744073709551616) : Ev (fun k => zb2.f k n) (D n.toNat) := by
 unfold zb2.f
 refine Ev.bind (zdv (zgz n) (by simp)) ?_
 rw [zgK n h0 h1]; exact Ev.now _
def may (l : List Int) : Bool := decide (l.length ≤ 4096) && decide (Nm l)
theorem zbP {l : List Int} : may l = true ↔ l.length ≤ 4096 ∧ Nm l := by simp [may]
theorem zcw {l : List Int} (h : Dg l) (hb : l.length < 4611686018427387904) : zac.f l = some (may l) := by
 unfold zac.f may
 by_cases h1 : l.length ≤ 4096
 ·rw [if_pos (by omega)]
  by_cases h2 : l.length = 0
  ·have : l = [] := List.eq_nil_of_length_eq_zero h2
   subst this; simp [zcL]
  ·rw [if_neg (by omega)]
   have e : wrap64 ((l.length : Int) - 1) = ((l.length - 1 : Nat) : Int) := by unfold wrap64; omega
   rw [e, if_pos (by omega), if_pos (by omega), rdn]
   have h3 : l ≠ [] := fun e => h2 (by rw [e]; rfl)
   have h4 := zfm h
   by_cases h5 : l.getD (l.length - 1) 0 = 0
   ·have : ¬ Nm l := fun k => by rcases h4.1 k with k | k <;> contradiction
    rw [h5]; simp [this]
   ·have : Nm l := h4.2 (.inr h5)
    simp only [h5, not_false_eq_true, decide_true]; simp [h1, this]
 ·rw [if_neg (by omega)]; simp [h1]
theorem zgP {a b : List Int} (ha : Dg a) (hb : Dg b) (la : a.length < 4611686018427387904) (lb : b.length < 4611686018427387904) : Ev (fun k => z6.f k [a, b]) (may a && may b) := by
 unfold z6.f
 refine zf ?_
 simp only [z6.l0]
 refine zd (by simp) (zd (by omega) (zd (by simp) ?_))
 have e0 : rdT [.is .u32] [a, b] 0 = a := rfl
 have e1 : rdT [.is .u32] [a, b] 1 = b := rfl
 rw [e0]
 refine zl (zcw ha la) ?_
 cases may a with
 | false => exact zd (by simp) (Ev.now _)
 | true =>
  refine ze (by simp) ?_
  have w1 : wrap64 (0 + 1) = 1 := by unfold wrap64; omega
  have w2 : wrap64 (1 + 1) = 2 := by unfold wrap64; omega
  rw [w1]
  refine zf ?_
  simp only [z6.l0]
  refine zd (by simp) (zd (by omega) (zd (by simp) ?_))
  rw [e1]
  refine zl (zcw hb lb) ?_
  cases may b with
  | false => exact zd (by simp) (Ev.now _)
  | true =>
   refine ze (by simp) ?_
   rw [w2]
   refine zf ?_
   simp only [z6.l0]
   exact ze (by simp) (Ev.now _)
def zz (n : Nat) : List Int × Int := if (D n).length > 4096 then ([], 3) else (D n, 0)
theorem zls (n : Nat) : zaV.f (D n) = some (zz n) := by
 unfold zaV.f zz
 by_cases h : (D n).length > 4096
 ·rw [if_pos (by omega), if_pos h]
 ·rw [if_neg (by omega), if_neg h]
theorem zjR {x y c : Int} (hx : 0 ≤ x ∧ x < 4294967296) (hy : 0 ≤ y ∧ y < 4294967296) (hc : 0 ≤ c ∧ c < 4294967296) : zci.f x y c = some ((x + y + c) % 4294967296, (x + y + c) / 4294967296) := by
 unfold zci.f
 rw [u64 hx.1 (by omega), u64 hy.1 (by omega), u64 hc.1 (by omega), u64 (n := x + y) (by omega) (by omega), u64 (by omega) (by omega)]
 have : (x + y + c) / 4294967296 % 4294967296 = (x + y + c) / 4294967296 := by omega
 rw [this]
theorem Dg.headD {b : List Int} (h : Dg b) : 0 ≤ b.headD 0 ∧ b.headD 0 < 4294967296 := by
 cases b with
 | nil => simp
 | cons y b => exact h.head
theorem Dg.tl {b : List Int} (h : Dg b) : Dg b.tail := by
 cases b with
 | nil => exact h
 | cons y b => exact h.tail
theorem zdJ (b : List Int) : V b = (b.headD 0).toNat + 4294967296 * V b.tail := by
 cases b <;> simp
theorem zfD (b : List Int) (n : Nat) : (b.drop n).headD 0 = b.getD n 0 := by
 rw [List.headD_eq_head?_getD, List.head?_drop, List.getD_eq_getElem?_getD]
def zaD (m n : Nat) : Int := if m < n then -1 else if n < m then 1 else 0
theorem zdL {l : List Int} {n : Nat} (h : n < l.length) : V (l.take (n + 1)) = V (l.take n) + 4294967296 ^ n * (l.getD n 0).toNat := by
 rw [List.take_succ_eq_append_getElem h, zaj]
 simp [Nat.min_eq_left (Nat.le_of_lt h), h]
theorem zi7 {p q P d e : Nat} (hp : p < P) (h : d < e) : p + P * d < q + P * e := by
 have : P * (d + 1) ≤ P * e := Nat.mul_le_mul_left _ h
 rw [Nat.mul_add] at this
 omega
theorem zdK {l : List Int} (h : Dg l) {n : Nat} (hn : n ≤ l.length) : V (l.take n) < 4294967296 ^ n := by
 have := zaf (h.take n); rwa [List.length_take, Nat.min_eq_left hn] at this
theorem zg8 {x y : List Int} (hx : Dg x) (hy : Dg y) {n : Nat} (h1 : n < x.length) (h2 : n < y.length) :
  zaD (V (x.take (n + 1))) (V (y.take (n + 1))) = if x.getD n 0 = y.getD n 0 then zaD (V (x.take n)) (V (y.take n)) else if x.getD n 0 < y.getD n 0 then -1 else 1 := by
 rw [zdL h1, zdL h2]
 have a := hx.getD n
 have b := hy.getD n
 have p := zdK hx (Nat.le_of_lt h1)
 have q := zdK hy (Nat.le_of_lt h2)
 by_cases e : x.getD n 0 = y.getD n 0
 ·rw [if_pos e, e]; unfold zaD; simp
 ·rw [if_neg e]
  by_cases c : x.getD n 0 < y.getD n 0
  ·rw [if_pos c]
   have := zi7 (q := V (y.take n)) p (show (x.getD n 0).toNat < (y.getD n 0).toNat by omega)
   unfold zaD; rw [if_pos this]
  ·rw [if_neg c]
   have := zi7 (q := V (x.take n)) q (show (y.getD n 0).toNat < (x.getD n 0).toNat by omega)
   unfold zaD; rw [if_neg (by omega), if_pos this]
theorem zcf {n : Nat} (h : n < 4611686018427387904) : wrap64 ((n : Int) - 1) = (n : Int) - 1 := by unfold wrap64; omega
theorem zg6 {x y : List Int} (hx : Dg x) (hy : Dg y) (hb : x.length < 4611686018427387904) : ∀ (n : Nat), n ≤ x.length → n ≤ y.length → Ev (fun k => zaA.l0 k x y ((n : Int) - 1)) (zaD (V (x.take n)) (V (y.take n)))
 | 0, _, _ => by
  refine zf ?_
  simp only [zaA.l0]
  (repeat (first | with_reducible refine ep ?_ | with_reducible refine en ?_)); exact Ev.now _
 | n + 1, h1, h2 => by
  refine zf ?_
  simp only [zaA.l0]
  have e : ((n + 1 : Nat) : Int) - 1 = (n : Int) := by omega
  rw [e, zcf (n := n) (by omega)]
  (repeat (first | with_reducible refine ep ?_ | with_reducible refine en ?_))
  rw [zg8 hx hy (by omega) (by omega), rdn, rdn]
  by_cases c : x.getD n 0 = y.getD n 0
  ·(repeat (first | with_reducible refine ep ?_ | with_reducible refine en ?_))
   rw [if_pos c]
   exact zg6 hx hy hb n (by omega) (by omega)
  ·(repeat (first | with_reducible refine ep ?_ | with_reducible refine en ?_))
   rw [if_neg c]
   by_cases c2 : x.getD n 0 < y.getD n 0
   ·(repeat (first | with_reducible refine ep ?_ | with_reducible refine en ?_))
    rw [if_pos c2]; exact Ev.now _
   ·(repeat (first | with_reducible refine ep ?_ | with_reducible refine en ?_))
    rw [if_neg c2]; exact Ev.now _
theorem zlt {x y : List Int} (hx : Nm x) (hy : Nm y) (hb : x.length < 4611686018427387904) : Ev (fun k => zaA.f k x y) (zaD (V x) (V y)) := by
 unfold zaA.f
 by_cases c : x.length < y.length
 ·(repeat (first | with_reducible refine ep ?_ | with_reducible refine en ?_))
  unfold zaD; rw [if_pos (hx.lt_of_len hy c)]; exact Ev.now _
 ·(repeat (first | with_reducible refine ep ?_ | with_reducible refine en ?_))
  by_cases c2 : y.length < x.length
  ·(repeat (first | with_reducible refine ep ?_ | with_reducible refine en ?_))
   have := hy.lt_of_len hx c2
   unfold zaD; rw [if_neg (by omega), if_pos this]; exact Ev.now _
  ·(repeat (first | with_reducible refine ep ?_ | with_reducible refine en ?_))
   have e : x.length = y.length := by omega
   rw [zcf (by omega)]
   have := zg6 hx.dg hy.dg hb x.length (by omega) (by omega)
   rwa [List.take_length, e, List.take_length, ← e] at this
theorem zio {x y : List Int} (hx : Dg x) (hy : Dg y) (hb : x.length < 4611686018427387904) : ∀ (n : Nat), n ≤ x.length → n ≤ y.length → Ev (fun k => zbb.l0 k x y ((n : Int) - 1)) (zaD (V (x.take n)) (V (y.take n)))
 | 0, _, _ => by
  refine zf ?_
  simp only [zbb.l0]
  (repeat (first | with_reducible refine ep ?_ | with_reducible refine en ?_)); exact Ev.now _
 | n + 1, h1, h2 => by
  refine zf ?_
  simp only [zbb.l0]
  have e : ((n + 1 : Nat) : Int) - 1 = (n : Int) := by omega
  rw [e, zcf (n := n) (by omega)]
  (repeat (first | with_reducible refine ep ?_ | with_reducible refine en ?_))
  rw [zg8 hx hy (by omega) (by omega), rdn, rdn]
  by_cases c2 : x.getD n 0 < y.getD n 0
  ·(repeat (first | with_reducible refine ep ?_ | with_reducible refine en ?_))
   rw [if_neg (by omega), if_pos c2]; exact Ev.now _
  ·(repeat (first | with_reducible refine ep ?_ | with_reducible refine en ?_))
   by_cases c : x.getD n 0 > y.getD n 0
   ·(repeat (first | with_reducible refine ep ?_ | with_reducible refine en ?_))
    rw [if_neg (by omega), if_neg c2]; exact Ev.now _
   ·(repeat (first | with_reducible refine ep ?_ | with_reducible refine en ?_))
    rw [if_pos (by omega)]
    exact zio hx hy hb n (by omega) (by omega)
theorem zmc {x y : List Int} (hx : Nm x) (hy : Nm y) (hb : x.length < 4611686018427387904) : Ev (fun k => zbb.f k x y) (zaD (V x) (V y)) := by
 unfold zbb.f
 by_cases e : x.length = y.length
 ·(repeat (first | with_reducible refine ep ?_ | with_reducible refine en ?_))
  rw [zcf (by omega)]
  have := zio hx.dg hy.dg hb x.length (by omega) (by omega)
  rwa [List.take_length, e, List.take_length, ← e] at this
 ·(repeat (first | with_reducible refine ep ?_ | with_reducible refine en ?_))
  by_cases c : x.length < y.length
  ·(repeat (first | with_reducible refine ep ?_ | with_reducible refine en ?_))
   unfold zaD; rw [if_pos (hx.lt_of_len hy c)]; exact Ev.now _
  ·(repeat (first | with_reducible refine ep ?_ | with_reducible refine en ?_))
   have := hy.lt_of_len hx (by omega)
   unfold zaD; rw [if_neg (by omega), if_pos this]; exact Ev.now _
theorem zR (n : Nat) : n >>> 31 = n / 2147483648 := by rw [Nat.shiftRight_eq_div_pow]
theorem zfs {n : Nat} (h : n < 4294967296) : n / 2147483648 = 0 ∨ n / 2147483648 = 1 := by omega
theorem zj8 {x y d : Nat} (hx : x < 4294967296) (hy : y < 4294967296) (hd : d < 4294967296) :
  ((((4294967295 ^^^ x) &&& y) ||| ((4294967295 ^^^ (x ^^^ y)) &&& d)) / 2147483648 : Nat) =
   if x / 2147483648 = 0 then (if y / 2147483648 = 0 then d / 2147483648 else 1) else (if y / 2147483648 = 0 then 0 else d / 2147483648) := by
 rw [← zR, ← zR, ← zR, ← zR, Nat.shiftRight_or_distrib, Nat.shiftRight_and_distrib, Nat.shiftRight_and_distrib, Nat.shiftRight_xor_distrib, Nat.shiftRight_xor_distrib, Nat.shiftRight_xor_distrib]
 simp only [zR]
 have e : 4294967295 / 2147483648 = 1 := by decide
 rw [e]
 rcases zfs hx with h1 | h1 <;> rcases zfs hy with h2 | h2 <;> rcases zfs hd with h3 | h3 <;> rw [h1, h2, h3] <;> decide
theorem ziV {x y c : Int} (hx : 0 ≤ x ∧ x < 4294967296) (hy : 0 ≤ y ∧ y < 4294967296) (hc : 0 ≤ c ∧ c ≤ 1) : zb0.f x y c = some ((x - y - c) % 4294967296, if x < y + c then 1 else 0) := by
 unfold zb0.f
 have hd : ((x - y) % 4294967296 - c) % 4294967296 = (x - y - c) % 4294967296 := by omega
 rw [hd]
 obtain ⟨X, rfl⟩ := Int.eq_ofNat_of_zero_le hx.1
 obtain ⟨Y, rfl⟩ := Int.eq_ofNat_of_zero_le hy.1
 obtain ⟨Z, hZ⟩ := Int.eq_ofNat_of_zero_le (show 0 ≤ ((X : Int) - Y - c) % 4294967296 by omega)
 have hZl : Z < 4294967296 := by omega
 have h1 : 4294967295 ^^^ X < 4294967296 := Nat.xor_lt_two_pow (n := 32) (by omega) (by omega)
 have h2 : X ^^^ Y < 4294967296 := Nat.xor_lt_two_pow (n := 32) (by omega) (by omega)
 have h3 : 4294967295 ^^^ (X ^^^ Y) < 4294967296 := Nat.xor_lt_two_pow (n := 32) (by omega) (by omega)
 have h4 : (4294967295 ^^^ X) &&& Y < 4294967296 := Nat.and_lt_two_pow (n := 32) _ (by omega)
 have h5 : (4294967295 ^^^ (X ^^^ Y)) &&& Z < 4294967296 := Nat.and_lt_two_pow (n := 32) _ (by omega)
 have e : (4294967295 : Int) = ((4294967295 : Nat) : Int) := rfl
 rw [hZ, e, u32_xor_nat _ _ (by omega) (by omega), u32_and_nat _ _ h1 (by omega), u32_xor_nat _ _ (by omega) (by omega), u32_xor_nat _ _ (by omega) h2, u32_and_nat _ _ h3 hZl, u32_or_nat _ _ h4 h5]
 have b := zj8 (x := X) (y := Y) (d := Z) (by omega) (by omega) hZl
 have : (((((4294967295 ^^^ X) &&& Y ||| (4294967295 ^^^ (X ^^^ Y)) &&& Z : Nat) : Int)) / 2147483648) = (((((4294967295 ^^^ X) &&& Y ||| (4294967295 ^^^ (X ^^^ Y)) &&& Z) / 2147483648 : Nat)) : Int) := by omega
 rw [this, b]
 congr 2
 by_cases c1 : X / 2147483648 = 0 <;> by_cases c2 : Y / 2147483648 = 0 <;> simp only [c1, c2, if_true, if_false] <;> by_cases c3 : (X : Int) < Y + c <;> simp only [c3, if_true, if_false] <;> omega
def zcd : List Int → List Int → Int → List Int
 | [], _, _ => []
 | x :: a, b, c => ((x - b.headD 0 - c) % 4294967296) :: zcd a b.tail (if x < b.headD 0 + c then 1 else 0)
theorem zmO {a b : List Int} {c : Int} (ha : Dg a) (hb : Dg b) (hc : 0 ≤ c ∧ c ≤ 1) (hl : b.length ≤ a.length) (h : V b + c.toNat ≤ V a) : V (zcd a b c) = V a - V b - c.toNat ∧ Dg (zcd a b c) := by
 induction a generalizing b c with
 | nil =>
  have : b = [] := List.eq_nil_of_length_eq_zero (by simpa using hl)
  subst this
  exact ⟨by simp [zcd], Dg.nil⟩
 | cons x a ih =>
  have hx := ha.head
  have hy := hb.headD
  rw [zdJ b, zt] at h
  have := ih (b := b.tail) (c := if x < b.headD 0 + c then 1 else 0) ha.tail hb.tl (by split <;> omega) (by simp at hl ⊢; omega) (by split <;> omega)
  refine ⟨?_, Dg.cons (by omega) (by omega) this.2⟩
  rw [zcd, zt, this.1, zdJ b, zt]
  split <;> omega
theorem zin (A Bl : List Int) (hA : Dg A) (hB : Dg Bl) (hl : A.length < 1000000000) (hl2 : Bl.length < 1000000000) : ∀ (d : Nat) (done : List Int) (c : Int), done.length + d = max A.length Bl.length → 0 ≤ c ∧ c ≤ 1 → Dg done →
  V done + 4294967296 ^ done.length * (V (A.drop done.length) + V (Bl.drop done.length) + c.toNat) = V A + V Bl →
  Ev (fun k => zD.l0 k A Bl done c done.length) (D (V A + V Bl))
 | 0, done, c, hd, hc, hg, hv => by
  refine zf ?_
  simp only [zD.l0]
  (repeat (first | with_reducible refine ep ?_ | with_reducible refine en ?_))
  have e : c % 4294967296 = c := by omega
  rw [e]
  refine Ev.bind (zdv (hg.app (Dg.cons hc.1 (by omega) Dg.nil)) (by simp; omega)) ?_
  refine zg (Ev.now _) ?_
  rw [List.drop_eq_nil_of_le (by omega), List.drop_eq_nil_of_le (by omega)] at hv
  rw [zaj, ← hv]; simp
 | d + 1, done, c, hd, hc, hg, hv => by
  have ha := hA.rd (done.length : Int)
  have hb := hB.rd (done.length : Int)
  have hx := zdJ (A.drop done.length)
  have hy := zdJ (Bl.drop done.length)
  rw [zfD, List.tail_drop] at hx hy
  have key : ∀ (s : Int), s = A.getD done.length 0 + Bl.getD done.length 0 + c → Ev (fun k => zD.l0 k A Bl (done ++ [s % 4294967296]) (s / 4294967296) ((done.length + 1 : Nat) : Int)) (D (V A + V Bl)) := by
   intro s hs
   have ha' := hA.getD done.length
   have hb' := hB.getD done.length
   have := zin A Bl hA hB hl hl2 d (done ++ [s % 4294967296]) (s / 4294967296) (by simp; omega) (by omega) (hg.app (Dg.cons (by omega) (by omega) Dg.nil)) (by
    rw [zaj, List.length_append, List.length_singleton, Nat.pow_succ, Nat.mul_assoc, Nat.add_assoc, ← Nat.mul_add, ← hv]
    congr 2
    simp only [zt, zaa]
    omega)
   rwa [List.length_append, List.length_singleton] at this
  have hr : ∀ l : List Int, rd l (done.length : Int) = l.getD done.length 0 := fun l => rdn l _
  refine zf ?_
  simp only [zD.l0]
  by_cases c1 : done.length < A.length
  ·(repeat (first | with_reducible refine ep ?_ | with_reducible refine en ?_))
   refine zf ?_
   simp only [zD.j2]
   by_cases c2 : done.length < Bl.length
   ·(repeat (first | with_reducible refine ep ?_ | with_reducible refine en ?_))
    refine zf ?_
    simp only [zD.j3, zK (n := done.length) (by omega)]
    (repeat (first | with_reducible refine ep ?_ | with_reducible refine en ?_))
    rw [u64 ha.1 (by omega), u64 hb.1 (by omega), u64 (n := c + rd A (done.length : Int)) (by omega) (by omega), u64 (by omega) (by omega)]
    exact key _ (by rw [hr, hr]; omega)
   ·(repeat (first | with_reducible refine ep ?_ | with_reducible refine en ?_))
    refine zf ?_
    simp only [zD.j3, zK (n := done.length) (by omega)]
    (repeat (first | with_reducible refine ep ?_ | with_reducible refine en ?_))
    rw [u64 ha.1 (by omega), u64 (by omega) (by omega)]
    refine key _ ?_
    have : Bl.getD done.length 0 = 0 := by rw [List.getD_eq_getElem?_getD, List.getElem?_eq_none (by omega)]; rfl
    rw [hr, this]; omega
  ·(repeat (first | with_reducible refine ep ?_ | with_reducible refine en ?_))
   have c2 : done.length < Bl.length := by omega
   refine zf ?_
   simp only [zD.j2]
   (repeat (first | with_reducible refine ep ?_ | with_reducible refine en ?_))
   refine zf ?_
   simp only [zD.j3, zK (n := done.length) (by omega)]
   (repeat (first | with_reducible refine ep ?_ | with_reducible refine en ?_))
   rw [u64 hb.1 (by omega), u64 (by omega) (by omega)]
   refine key _ ?_
   have : A.getD done.length 0 = 0 := by rw [List.getD_eq_getElem?_getD, List.getElem?_eq_none (by omega)]; rfl
   rw [hr, this]; omega
theorem zl9 {a b : List Int} (ha : Dg a) (hb : Dg b) (la : a.length < 1000000000) (lb : b.length < 1000000000) : Ev (fun k => zD.f k a b) (D (V a + V b)) := by
 unfold zD.f
 have := zin a b ha hb la lb (max a.length b.length) [] 0 (by simp) (by omega) Dg.nil (by simp)
 simpa using this
theorem ziJ (A Bl : List Int) (hA : Dg A) (hB : Dg Bl) (hl : A.length < 1000000000) : ∀ (d : Nat) (done : List Int) (c : Int), done.length + d = A.length → 0 ≤ c ∧ c ≤ 1 → Dg done →
  Ev (fun k => zE.l0 k A Bl done c done.length) (D (V (done ++ zcd (A.drop done.length) (Bl.drop done.length) c)))
 | 0, done, c, hd, hc, hg => by
  refine zf ?_
  simp only [zE.l0]
  (repeat (first | with_reducible refine ep ?_ | with_reducible refine en ?_))
  rw [List.drop_eq_nil_of_le (show A.length ≤ done.length by omega)]
  simp only [zcd, List.append_nil]
  refine Ev.bind (zdv hg (by omega)) ?_
  exact Ev.now _
 | d + 1, done, c, hd, hc, hg => by
  have ha := hA.rd (done.length : Int)
  have hb := hB.rd (done.length : Int)
  have hc1 : done.length < A.length := by omega
  have hx : A.drop done.length = A.getD done.length 0 :: A.drop (done.length + 1) := by
   rw [List.drop_eq_getElem_cons hc1]; simp [hc1]
  have key : ∀ (s z : Int), z = Bl.getD done.length 0 → s % 4294967296 = (A.getD done.length 0 - z - c) % 4294967296 → ∀ c', c' = (if A.getD done.length 0 < z + c then 1 else 0) → Ev (fun k => zE.l0 k A Bl (done ++ [s % 4294967296]) c' ((done.length + 1 : Nat) : Int)) (D (V (done ++ zcd (A.drop done.length) (Bl.drop done.length) c))) := by
   rintro s z rfl hs c' rfl
   have := ziJ A Bl hA hB hl d (done ++ [s % 4294967296]) (if A.getD done.length 0 < Bl.getD done.length 0 + c then 1 else 0) (by simp; omega) (by split <;> omega) (hg.app (Dg.cons (by omega) (by omega) Dg.nil))
   rw [List.length_append, List.length_singleton] at this
   refine zg this ?_
   rw [hx, zcd, zfD, List.tail_drop, hs]; simp
  have hr : ∀ l : List Int, rd l (done.length : Int) = l.getD done.length 0 := fun l => rdn l _
  refine zf ?_
  simp only [zE.l0, zK (n := done.length) (by omega)]
  (repeat (first | with_reducible refine ep ?_ | with_reducible refine en ?_))
  rw [hr] at ha hb
  by_cases c2 : done.length < Bl.length
  ·(repeat (first | with_reducible refine ep ?_ | with_reducible refine en ?_))
   refine zf ?_
   simp only [zE.j1]
   (repeat (first | with_reducible refine ep ?_ | with_reducible refine en ?_))
   rw [hr, hr, u64 ha.1 (by omega), u64 hb.1 (by omega), u64 (n := c + Bl.getD done.length 0) (by omega) (by omega)]
   by_cases c3 : A.getD done.length 0 < c + Bl.getD done.length 0
   ·(repeat (first | with_reducible refine ep ?_ | with_reducible refine en ?_))
    rw [u64 (n := A.getD done.length 0 + 4294967296) (by omega) (by omega)]
    refine zf ?_
    simp only [zE.j2, zK (n := done.length) (by omega)]
    (repeat (first | with_reducible refine ep ?_ | with_reducible refine en ?_))
    rw [u64 (by omega) (by omega)]
    exact key _ (Bl.getD done.length 0) rfl (by omega) 1 (by rw [if_pos (by omega)])
   ·(repeat (first | with_reducible refine ep ?_ | with_reducible refine en ?_))
    refine zf ?_
    simp only [zE.j2, zK (n := done.length) (by omega)]
    (repeat (first | with_reducible refine ep ?_ | with_reducible refine en ?_))
    rw [u64 (by omega) (by omega)]
    exact key _ (Bl.getD done.length 0) rfl (by omega) 0 (by rw [if_neg (by omega)])
  ·(repeat (first | with_reducible refine ep ?_ | with_reducible refine en ?_))
   have hz : Bl.getD done.length 0 = 0 := by rw [List.getD_eq_getElem?_getD, List.getElem?_eq_none (by omega)]; rfl
   refine zf ?_
   simp only [zE.j1]
   (repeat (first | with_reducible refine ep ?_ | with_reducible refine en ?_))
   rw [hr, u64 ha.1 (by omega)]
   by_cases c3 : A.getD done.length 0 < c
   ·(repeat (first | with_reducible refine ep ?_ | with_reducible refine en ?_))
    rw [u64 (n := A.getD done.length 0 + 4294967296) (by omega) (by omega)]
    refine zf ?_
    simp only [zE.j2, zK (n := done.length) (by omega)]
    (repeat (first | with_reducible refine ep ?_ | with_reducible refine en ?_))
    rw [u64 (by omega) (by omega)]
    exact key _ (Bl.getD done.length 0) rfl (by omega) 1 (by rw [if_pos (by omega)])
   ·(repeat (first | with_reducible refine ep ?_ | with_reducible refine en ?_))
    refine zf ?_
    simp only [zE.j2, zK (n := done.length) (by omega)]
    (repeat (first | with_reducible refine ep ?_ | with_reducible refine en ?_))
    rw [u64 (by omega) (by omega)]
    exact key _ (Bl.getD done.length 0) rfl (by omega) 0 (by rw [if_neg (by omega)])
theorem ziv {a b : List Int} (ha : Nm a) (hb : Nm b) (la : a.length < 1000000000) (h : V b ≤ V a) : Ev (fun k => zE.f k a b) (D (V a - V b)) := by
 unfold zE.f
 have hl : b.length ≤ a.length := by rw [← ha.len, ← hb.len]; exact zc8 h
 have := ziJ a b ha.dg hb.dg la a.length [] 0 (by simp) (by omega) Dg.nil
 refine zg this ?_
 have h2 := zmO ha.dg hb.dg (c := 0) (by omega) hl (by simpa using h)
 simp [h2.1]
theorem zd3 {x y : Int} (hx : 0 ≤ x ∧ x < 4294967296) (hy : 0 ≤ y ∧ y < 4294967296) : 0 ≤ x * y ∧ x * y ≤ 18446744065119617025 := by
 constructor
 ·exact Int.mul_nonneg hx.1 hy.1
 ·have h1 : x * y ≤ 4294967295 * y := Int.mul_le_mul_of_nonneg_right (by omega) hy.1
  have h2 : 4294967295 * y ≤ 4294967295 * 4294967295 := Int.mul_le_mul_of_nonneg_left (by omega) (by omega)
  omega
def z8 : Int → List Int → List Int → Int → List Int
 | _, [], o, c => c :: o.tail
 | x, y :: b, o, c => ((x * y + o.headD 0 + c) % 4294967296) :: z8 x b o.tail ((x * y + o.headD 0 + c) / 4294967296)
theorem zgq {x y : Int} (hx : 0 ≤ x) (hy : 0 ≤ y) : (x * y).toNat = x.toNat * y.toNat := Int.toNat_mul hx hy
theorem zgf {x : Int} (hx : 0 ≤ x ∧ x < 4294967296) : ∀ (b o : List Int) (c : Int) (m : Nat), Dg b → Dg o → 0 ≤ c ∧ c < 4294967296 → o.drop b.length = List.replicate (m + 1) 0 →
  V (z8 x b o c) = V o + x.toNat * V b + c.toNat ∧ Dg (z8 x b o c) ∧ (z8 x b o c).tail.drop b.length = List.replicate m 0 ∧ (z8 x b o c).length = o.length
 | [], o, c, m, hb, ho, hc, hz => by
  have hz' : o = 0 :: List.replicate m 0 := by simpa [List.replicate_succ] using hz
  subst hz'
  refine ⟨?_, ?_, ?_, ?_⟩
  ·simp [z8, zex]
  ·exact Dg.cons hc.1 hc.2 (Dg.zeros m)
  ·simp [z8]
  ·simp [z8]
 | y :: b, o, c, m, hb, ho, hc, hz => by
  obtain ⟨o0, o, rfl⟩ : ∃ o0 o', o = o0 :: o' := by
   cases o with
   | nil => simp at hz
   | cons o0 o' => exact ⟨o0, o', rfl⟩
  have hy := hb.head
  have h0 := ho.head
  have hp := zd3 hx hy
  have hz2 : o.drop b.length = List.replicate (m + 1) 0 := by simpa using hz
  have := zgf hx b o ((x * y + o0 + c) / 4294967296) m hb.tail ho.tail (by omega) hz2
  simp only [z8, List.headD_cons, List.tail_cons]
  refine ⟨?_, Dg.cons (by omega) (by omega) this.2.1, ?_, by simp [this.2.2.2]⟩
  ·have e1 : x.toNat * (y.toNat + 4294967296 * V b) = (x * y).toNat + 4294967296 * (x.toNat * V b) := by
    rw [Nat.mul_add, Nat.mul_left_comm, zgq hx.1 hy.1]
   rw [zt, this.1, zt, zt, e1]
   omega
  ·obtain ⟨r0, r, hr⟩ : ∃ r0 r', z8 x b o ((x * y + o0 + c) / 4294967296) = r0 :: r' := by
    cases h : z8 x b o ((x * y + o0 + c) / 4294967296) with
    | nil =>
     have hl := this.2.2.2
     rw [h] at hl
     have : o = [] := List.eq_nil_of_length_eq_zero (by simpa using hl.symm)
     subst this; simp at hz2
    | cons r0 r' => exact ⟨r0, r', rfl⟩
   have h3 := this.2.2.1
   rw [hr] at h3 ⊢
   simpa using h3
def zbQ : List Int → List Int → List Int → List Int
 | [], _, o => o
 | x :: a, b, o => (z8 x b o 0).headD 0 :: zbQ a b (z8 x b o 0).tail
theorem zhL : ∀ (a b o : List Int), Dg a → Dg b → Dg o → o.drop b.length = List.replicate a.length 0 → V (zbQ a b o) = V o + V a * V b ∧ Dg (zbQ a b o) ∧ (zbQ a b o).length = o.length
 | [], b, o, ha, hb, ho, hz => by simp [zbQ, ho]
 | x :: a, b, o, ha, hb, ho, hz => by
  have hr := zgf ha.head b o 0 a.length hb ho (by omega) (by simpa using hz)
  obtain ⟨r0, r, he⟩ : ∃ r0 r', z8 x b o 0 = r0 :: r' := by
   cases h : z8 x b o 0 with
   | nil =>
    have hl := hr.2.2.2
    rw [h] at hl
    have : o = [] := List.eq_nil_of_length_eq_zero (by simpa using hl.symm)
    subst this; simp at hz
   | cons r0 r' => exact ⟨r0, r', rfl⟩
  rw [he] at hr
  have := zhL a b r ha.tail hb hr.2.1.tail (by simpa using hr.2.2.1)
  simp only [zbQ, he, List.headD_cons, List.tail_cons]
  refine ⟨?_, Dg.cons hr.2.1.head.1 hr.2.1.head.2 this.2.1, ?_⟩
  ·have h1 := hr.1
   rw [zt] at h1
   rw [zt, this.1, zt, Nat.add_mul, Nat.mul_add, Nat.mul_assoc]
   simp at h1
   omega
  ·have := hr.2.2.2
   simp at this ⊢; omega
theorem zfj {l : List Int} (h : Nm l) (h0 : l ≠ []) : 4294967296 ^ (l.length - 1) ≤ V l := by
 have h1 : V l ≠ 0 := fun e => h0 ((zcN h).1 e)
 have := zfi h1
 rwa [h.len] at this
def conv : List Int → List Int → Nat → Nat
 | [], _, _ => 0
 | x :: _, b, 0 => x.toNat * (b.getD 0 0).toNat
 | x :: a, b, k + 1 => x.toNat * (b.getD (k + 1) 0).toNat + conv a b k
def zbi (a b : List Int) : Nat → Nat
 | 0 => 0
 | n + 1 => zbi a b n + 4294967296 ^ n * conv a b n
theorem zgJ (l : List Int) (n : Nat) : V (l.take (n + 1)) = V (l.take n) + 4294967296 ^ n * (l.getD n 0).toNat := by
 by_cases h : n < l.length
 ·exact zdL h
 ·have e : l.getD n 0 = 0 := by rw [List.getD_eq_getElem?_getD, List.getElem?_eq_none (by omega)]; rfl
  rw [List.take_of_length_le (by omega), List.take_of_length_le (by omega), e]; simp
theorem zkh (b : List Int) (n : Nat) : zbi [] b n = 0 := by
 induction n with
 | zero => rfl
 | succ n ih => simp [zbi, ih, conv]
theorem zkg (x : Int) (a b : List Int) (n : Nat) : zbi (x :: a) b (n + 1) = x.toNat * V (b.take (n + 1)) + 4294967296 * zbi a b n := by
 induction n with
 | zero =>
  have := zgJ b 0
  simp at this
  simp [zbi, conv, this]
 | succ n ih =>
  have e := zgJ b (n + 1)
  rw [zbi, ih, conv, e, zbi, Nat.pow_succ]
  grind
theorem zkf (a b : List Int) (n : Nat) (h : a.length + b.length ≤ n) : zbi a b n = V a * V b := by
 induction a generalizing n with
 | nil => simp [zkh]
 | cons x a ih =>
  cases n with
  | zero => simp at h
  | succ n =>
   rw [zkg, ih n (by simp at h; omega), List.take_of_length_le (by simp at h; omega), zt, Nat.add_mul, Nat.mul_assoc]
theorem zkj {a b : List Int} (ha : Dg a) (hb : Dg b) (k : Nat) : conv a b k ≤ a.length * 18446744065119617025 := by
 induction a generalizing k with
 | nil => simp [conv]
 | cons x a ih =>
  have hx := ha.head
  have key : ∀ j, x.toNat * (b.getD j 0).toNat ≤ 18446744065119617025 := by
   intro j
   have hy := hb.getD j
   have hp := zd3 hx hy
   rw [← zgq hx.1 hy.1]; omega
  cases k with
  | zero => rw [conv]; have := key 0; simp only [List.length_cons]; omega
  | succ k => rw [conv]; have := key (k + 1); have := ih ha.tail k; simp only [List.length_cons]; omega
theorem zki {a b : List Int} {k : Nat} (h : b.length ≤ k) (hk : 0 < k) : conv a b k = conv (a.drop 1) b (k - 1) := by
 cases a with
 | nil => simp [conv]
 | cons x a =>
  obtain ⟨k, rfl⟩ : ∃ m, k = m + 1 := ⟨k - 1, by omega⟩
  have e : b.getD (k + 1) 0 = 0 := by rw [List.getD_eq_getElem?_getD, List.getElem?_eq_none (by omega)]; rfl
  rw [conv, e]; simp
theorem zhd (a b : List Int) (k : Nat) : ∀ n, n + b.length ≤ k + 1 → n ≤ k → conv a b k = conv (a.drop n) b (k - n)
 | 0, _, _ => by simp
 | n + 1, h, hk => by
  rw [zhd a b k n (by omega) (by omega), zki (by omega) (by omega), List.drop_drop]
  rw [Nat.sub_sub]
theorem zlI {x y : Int} (h0 : 0 ≤ x ∧ x < 4294967296) (h1 : 0 ≤ y) : Go.bits .or .u64 x (IntKind.u64.wrap (y * 4294967296)) = x + (y % 4294967296) * 4294967296 := by
 rw [zek]
 obtain ⟨X, rfl⟩ := Int.eq_ofNat_of_zero_le h0.1
 obtain ⟨Y, rfl⟩ := Int.eq_ofNat_of_zero_le h1
 have e : (Y : Int) * 4294967296 % 18446744073709551616 = ((2 ^ 32 * (Y % 4294967296) : Nat) : Int) := by omega
 rw [e, u64_or_nat _ _ (by omega) (by omega), Nat.or_comm, ← Nat.two_pow_add_eq_or_of_lt (by omega)]
 omega
theorem zgc (A Bl : List Int) (hA : Dg A) (hB : Dg Bl) (hl : A.length < 1000000000) (hlb : Bl.length < 1000000000) (out : List Int) (k : Nat) (hk : k < A.length + Bl.length) (hout : out.length < 1000000000) (T : Nat) (hT : T < 79228162514264337593543950336000) (res : List Int)
  (H : Ev (fun q => zv.l0 q A Bl (out ++ [((T % 4294967296 : Nat) : Int)]) (((T / 4294967296) % 18446744073709551616 : Nat) : Int) (((T / 4294967296) / 18446744073709551616 : Nat) : Int) ((k + 1 : Nat) : Int)) res) :
  ∀ (d i : Nat) (low high : Int), i + d = k + 1 → 0 ≤ low ∧ low < 18446744073709551616 → 0 ≤ high → k < i + Bl.length → low.toNat + 18446744073709551616 * high.toNat + (if i ≤ k then conv (A.drop i) Bl (k - i) else 0) = T →
  Ev (fun q => zv.l1 q A Bl out low high k i) res
 | d, i, low, high, hd, hlow, hhigh, hi, he => by
  have fin : low.toNat + 18446744073709551616 * high.toNat = T → Ev (fun q => if out.length + ([low % 4294967296] : List Int).length < 35184372088832 then zv.l0 q A Bl (out ++ [low % 4294967296]) (Go.bits .or .u64 (low / 4294967296) (IntKind.u64.wrap (high * 4294967296))) (high / 4294967296) ((k + 1 : Nat) : Int) else none) res := by
   intro e
   (repeat (first | with_reducible refine ep ?_ | with_reducible refine en ?_))
   rw [zlI (by omega) hhigh]
   have e1 : low % 4294967296 = ((T % 4294967296 : Nat) : Int) := by omega
   have e2 : low / 4294967296 + high % 4294967296 * 4294967296 = (((T / 4294967296) % 18446744073709551616 : Nat) : Int) := by omega
   have e3 : high / 4294967296 = (((T / 4294967296) / 18446744073709551616 : Nat) : Int) := by omega
   rw [e1, e2, e3]; exact H
  refine zf ?_
  have e : wrap64 ((k : Int) - (i : Int)) = (k : Int) - (i : Int) := by unfold wrap64; omega
  simp only [zv.l1, e, zK (n := i) (by omega), zK (n := k) (by omega)]
  clear e
  by_cases c1 : i ≤ k
  ·rw [if_pos c1] at he
   by_cases c2 : i < A.length
   ·have hx : A.drop i = A.getD i 0 :: A.drop (i + 1) := by rw [List.drop_eq_getElem_cons c2]; simp [c2]
    have ha := hA.getD i
    have hb := hB.getD (k - i)
    have hp := zd3 ha hb
    have hpN := zgq ha.1 hb.1
    have e : (k : Int) - (i : Int) = ((k - i : Nat) : Int) := by omega
    (repeat (first | with_reducible refine ep ?_ | with_reducible refine en ?_))
    rw [e]
    rw [rdn, rdn, u64 ha.1 (by omega), u64 hb.1 (by omega), u64 hp.1 (by omega)]
    generalize hP : A.getD i 0 * Bl.getD (k - i) 0 = P at *
    have hc : conv (A.drop i) Bl (k - i) = P.toNat + (if i + 1 ≤ k then conv (A.drop (i + 1)) Bl (k - (i + 1)) else 0) := by
     rw [hx, hpN]
     by_cases c3 : i + 1 ≤ k
     ·rw [if_pos c3, show k - i = (k - (i + 1)) + 1 by omega, conv]
     ·rw [if_neg c3, show k - i = 0 by omega, conv]; simp
    rw [hc] at he
    obtain ⟨d, rfl⟩ : ∃ m, d = m + 1 := ⟨d - 1, by omega⟩
    by_cases c4 : low + P < 18446744073709551616
    ·rw [u64 (n := low + P) (by omega) (by omega)]
     (repeat (first | with_reducible refine ep ?_ | with_reducible refine en ?_))
     exact zgc A Bl hA hB hl hlb out k hk hout T hT res H d (i + 1) (low + P) high (by omega) (by omega) hhigh (by omega) (by omega)
    ·have e5 : IntKind.u64.wrap (low + P) = low + P - 18446744073709551616 := by rw [zek]; omega
     rw [e5]
     (repeat (first | with_reducible refine ep ?_ | with_reducible refine en ?_))
     rw [u64 (n := high + 1) (by omega) (by omega)]
     exact zgc A Bl hA hB hl hlb out k hk hout T hT res H d (i + 1) (low + P - 18446744073709551616) (high + 1) (by omega) (by omega) (by omega) (by omega) (by omega)
   ·refine zd (by omega) (ze (by omega) (fin ?_))
    rw [List.drop_eq_nil_of_le (by omega), conv] at he
    omega
  ·rw [if_neg c1] at he
   exact ze (by omega) (fin (by omega))
theorem ziz (A Bl : List Int) (hA : Dg A) (hB : Dg Bl) (hl : A.length < 100000000) (hlb : Bl.length < 100000000) (hb0 : 0 < Bl.length) : ∀ (d : Nat) (out : List Int) (T : Nat), out.length + d = A.length + Bl.length → Dg out → T < 79228162514264337593543950336 → V out + 4294967296 ^ out.length * T = zbi A Bl out.length →
  Ev (fun q => zv.l0 q A Bl out ((T % 18446744073709551616 : Nat) : Int) ((T / 18446744073709551616 : Nat) : Int) out.length) (D (V A * V Bl))
 | 0, out, T, hd, hg, hT, hv => by
  refine zf ?_
  have e : wrap64 ((A.length : Int) + (Bl.length : Int)) = ((A.length + Bl.length : Nat) : Int) := by unfold wrap64; omega
  simp only [zv.l0, e]
  clear e
  refine ze (by omega) (Ev.bind (zdv hg (by omega)) (zg (Ev.now _) ?_))
  rw [zkf A Bl _ (by omega)] at hv
  have h1 := zaf hA
  have h2 := zaf hB
  have h3 : V A * V Bl < 4294967296 ^ out.length := by
   rw [show out.length = A.length + Bl.length by omega, Nat.pow_add]
   exact Nat.mul_lt_mul'' h1 h2
  have h4 : T = 0 := by
   rcases Nat.eq_zero_or_pos T with h | h
   ·exact h
   ·have := Nat.mul_le_mul_left (4294967296 ^ out.length) h
    omega
  subst h4
  rw [← hv]; simp
 | d + 1, out, T, hd, hg, hT, hv => by
  refine zf ?_
  have e : wrap64 ((A.length : Int) + (Bl.length : Int)) = ((A.length + Bl.length : Nat) : Int) := by unfold wrap64; omega
  simp only [zv.l0, e]
  clear e
  have hcl := zkj hA hB out.length
  have hcl2 : A.length * 18446744065119617025 ≤ 100000000 * 18446744065119617025 := Nat.mul_le_mul_right _ (by omega)
  have next : Ev (fun q => zv.l0 q A Bl (out ++ [(((T + conv A Bl out.length) % 4294967296 : Nat) : Int)]) ((((T + conv A Bl out.length) / 4294967296) % 18446744073709551616 : Nat) : Int) ((((T + conv A Bl out.length) / 4294967296) / 18446744073709551616 : Nat) : Int) ((out.length + 1 : Nat) : Int)) (D (V A * V Bl)) := by
   have := ziz A Bl hA hB hl hlb hb0 d (out ++ [(((T + conv A Bl out.length) % 4294967296 : Nat) : Int)]) ((T + conv A Bl out.length) / 4294967296) (by simp; omega) (hg.app (Dg.cons (by omega) (by omega) Dg.nil)) (by omega) (by
    rw [zaj, List.length_append, List.length_singleton, zbi, ← hv, Nat.pow_succ, Nat.mul_assoc, Nat.add_assoc, ← Nat.mul_add, Nat.add_assoc, ← Nat.mul_add]
    congr 2
    simp only [zt, zaa]
    omega)
   rwa [List.length_append, List.length_singleton] at this
  (repeat (first | with_reducible refine ep ?_ | with_reducible refine en ?_))
  have j2 : ∀ (i : Nat), i ≤ out.length → out.length < i + Bl.length → conv A Bl out.length = conv (A.drop i) Bl (out.length - i) → Ev (fun q => zv.j3 q A Bl out ((T % 18446744073709551616 : Nat) : Int) ((T / 18446744073709551616 : Nat) : Int) out.length i) (D (V A * V Bl)) := by
   intro i h1 h2 h3
   refine zf ?_
   simp only [zv.j3]
   exact zgc A Bl hA hB (by omega) (by omega) out out.length (by omega) (by omega) (T + conv A Bl out.length) (by omega) _ next (out.length + 1 - i) i _ _ (by omega) (by omega) (by omega) h2 (by rw [if_pos h1, ← h3]; omega)
  by_cases c1 : out.length ≥ Bl.length
  ·(repeat (first | with_reducible refine ep ?_ | with_reducible refine en ?_))
   have c2 := hb0
   ·have e : wrap64 (wrap64 ((out.length : Int) - (Bl.length : Int)) + 1) = ((out.length + 1 - Bl.length : Nat) : Int) := by unfold wrap64; omega
    rw [e]
    clear e
    exact j2 _ (by omega) (by omega) (zhd A Bl out.length _ (by omega) (by omega))
  ·(repeat (first | with_reducible refine ep ?_ | with_reducible refine en ?_)); exact j2 0 (by omega) (by omega) (by simp)
theorem zga {a b : List Int} (ha : Dg a) (hb : Dg b) (la : a.length < 100000000) (lb : b.length < 100000000) : Ev (fun k => zv.f k a b) (D (V a * V b)) := by
 unfold zv.f
 by_cases c1 : a.length = 0
 ·(repeat (first | with_reducible refine ep ?_ | with_reducible refine en ?_))
  have : a = [] := List.eq_nil_of_length_eq_zero c1
  subst this
  refine zg (Ev.now _) ?_
  simp [zC]
 ·(repeat (first | with_reducible refine ep ?_ | with_reducible refine en ?_))
  by_cases c2 : b.length = 0
  ·(repeat (first | with_reducible refine ep ?_ | with_reducible refine en ?_))
   have : b = [] := List.eq_nil_of_length_eq_zero c2
   subst this
   refine zg (Ev.now _) ?_
   simp [zC]
  ·(repeat (first | with_reducible refine ep ?_ | with_reducible refine en ?_))
   have := ziz a b ha hb la lb (by omega) (a.length + b.length) [] 0 (by simp) Dg.nil (by omega) (by simp [zbi])
   simpa using this
theorem zjM {l : List Int} (h : Dg l) {n : Nat} (hn : l.length ≤ n) : V l < 4294967296 ^ n := Nat.lt_of_lt_of_le (zaf h) (Nat.pow_le_pow_right (by omega) hn)
theorem zlK {x y : Int} (h0 : 0 ≤ x ∧ x < 4294967296) (h1 : 0 ≤ y ∧ y < 4294967296) : Go.bits .or .u64 x (y * 4294967296) = x + y * 4294967296 := by
 obtain ⟨X, rfl⟩ := Int.eq_ofNat_of_zero_le h0.1
 obtain ⟨Y, rfl⟩ := Int.eq_ofNat_of_zero_le h1.1
 have e : (Y : Int) * 4294967296 = ((2 ^ 32 * Y : Nat) : Int) := by omega
 rw [e, u64_or_nat _ _ (by omega) (by omega), Nat.or_comm, ← Nat.two_pow_add_eq_or_of_lt (by omega)]
 omega
theorem ziO {d : Int} (h : 0 ≤ d ∧ d < 4294967296) : shl .u64 d 0 = d := by
 unfold shl; simp; exact u64 h.1 (by omega)
theorem zmE {d : Int} (h : 0 ≤ d ∧ d < 4294967296) : shl .u64 d 32 = d * 4294967296 := by
 unfold shl
 have e : min (32 : Int).toNat IntKind.u64.bits = 32 := by decide
 rw [e, show (2 : Int) ^ 32 = 4294967296 from rfl, u64 (by omega) (by omega)]
def zbo (l : List Int) : Bool := may l && decide (l.length ≤ 2)
theorem zfT {l : List Int} (h : Dg l) (hb : l.length < 4611686018427387904) : Ev (fun k => zan.f k l) (if zbo l then ((V l : Nat) : Int) else 0, zbo l) := by
 unfold zan.f
 refine zl (zcw h hb) ?_
 have no : zbo l = false → Ev (fun _ : Nat => some ((0 : Int), false)) (if zbo l then ((V l : Nat) : Int) else 0, zbo l) := by
  intro e
  rw [e]
  exact Ev.now _
 by_cases c1 : may l = true
 ·rw [c1]
  (repeat (first | with_reducible refine ep ?_ | with_reducible refine en ?_))
  by_cases c2 : l.length > 2
  ·(repeat (first | with_reducible refine ep ?_ | with_reducible refine en ?_))
   exact no (by unfold zbo; rw [decide_eq_false (by omega)]; simp)
  ·(repeat (first | with_reducible refine ep ?_ | with_reducible refine en ?_))
   have e : zbo l = true := by unfold zbo; rw [c1, decide_eq_true (by omega)]; rfl
   rw [e]
   have w0 : wrap64 (32 * 0) = 0 := by unfold wrap64; omega
   have w1 : wrap64 (0 + 1) = 1 := by unfold wrap64; omega
   have w2 : wrap64 (32 * 1) = 32 := by unfold wrap64; omega
   have w3 : wrap64 (1 + 1) = 2 := by unfold wrap64; omega
   match l, h with
   | [], h =>
    refine zf ?_
    simp only [zan.l0]
    (repeat (first | with_reducible refine ep ?_ | with_reducible refine en ?_)); exact Ev.now _
   | [x], h =>
    have hx := h.head
    refine zf ?_
    simp only [zan.l0, w0, w1]
    (repeat (first | with_reducible refine ep ?_ | with_reducible refine en ?_))
    have r0 : rd [x] 0 = x := rfl
    rw [r0, u64 hx.1 (by omega), ziO hx, u64_or _ _ (by omega) (by omega) (by omega) (by omega)]
    refine zf ?_
    simp only [zan.l0]
    (repeat (first | with_reducible refine ep ?_ | with_reducible refine en ?_))
    refine zg (Ev.now _) ?_
    simp
   | [x, y], h =>
    have hx := h.head
    have hy := h.tail.head
    refine zf ?_
    simp only [zan.l0, w0, w1]
    (repeat (first | with_reducible refine ep ?_ | with_reducible refine en ?_))
    have r0 : rd [x, y] 0 = x := rfl
    have r1 : rd [x, y] 1 = y := rfl
    rw [r0, u64 hx.1 (by omega), ziO hx, u64_or _ _ (by omega) (by omega) (by omega) (by omega)]
    have z : (((0 : Int).toNat ||| x.toNat : Nat) : Int) = x := by simp; omega
    rw [z]
    refine zf ?_
    simp only [zan.l0, w2, w3]
    (repeat (first | with_reducible refine ep ?_ | with_reducible refine en ?_))
    rw [r1, u64 (n := y) hy.1 (by omega), zmE hy, zlK hx hy]
    refine zf ?_
    simp only [zan.l0]
    (repeat (first | with_reducible refine ep ?_ | with_reducible refine en ?_))
    refine zg (Ev.now _) ?_
    simp; omega
   | x :: y :: z :: l, h => simp at c2
 ·have c1 : may l = false := by simpa using c1
  rw [c1]
  (repeat (first | with_reducible refine ep ?_ | with_reducible refine en ?_)); exact no (by unfold zbo; simp [c1])
theorem zfv {m n : Nat} (h : (D m).length > 4096) (k : m ≤ n) : zz n = ([], 3) := by
 have := zc8 k
 unfold zz; rw [if_pos (by omega)]
theorem zk7 {m e : Nat} (he : 4096 = e) (h : 4294967296 ^ e ≤ m) : (D m).length > 4096 := by
 apply Nat.lt_of_not_le
 rw [he]
 intro k
 exact absurd (Nat.lt_of_lt_of_le (zbN m) (Nat.le_trans (Nat.pow_le_pow_right (by decide) k) h)) (Nat.lt_irrefl _)
theorem zm0 {m e k : Nat} (he : 32 * k ≤ e) (h : 2 ^ e ≤ m) : 4294967296 ^ k ≤ m := by
 have e1 : (4294967296 : Nat) ^ k = 2 ^ (32 * k) := by rw [Nat.pow_mul]
 rw [e1]
 exact Nat.le_trans (Nat.pow_le_pow_right (by decide) he) h
theorem zjd {m e : Nat} (he : 131072 ≤ e) (h : 2 ^ e ≤ m) : zz m = ([], 3) :=
 have key : ∀ k, 4096 = k → zz m = ([], 3) := fun k hk => zfv (zk7 hk (zm0 (by omega) h)) (Nat.le_refl _)
 key 4096 rfl
def bl (n : Nat) : Nat := if n = 0 then 0 else n.log2 + 1
theorem za0 : bl 0 = 0 := rfl
theorem zcO {n : Nat} (h : n ≠ 0) : 2 ^ (bl n - 1) ≤ n := by
 unfold bl; rw [if_neg h]; exact Nat.log2_self_le h
theorem zZ (n : Nat) : n < 2 ^ bl n := by
 unfold bl
 split
 ·subst n; simp
 ·exact Nat.lt_log2_self
theorem zbu {n : Nat} (h : n ≠ 0) : 0 < bl n := by unfold bl; rw [if_neg h]; omega
theorem zI {n k : Nat} (h : n < 2 ^ k) : bl n ≤ k := by
 by_cases e : n = 0
 ·subst e; simp [za0]
 ·have h1 := zcO e
  have h2 := zbu e
  have : bl n - 1 < k := (Nat.pow_lt_pow_iff_right (a := 2) (by omega)).1 (Nat.lt_of_le_of_lt h1 h)
  omega
theorem zj7 {n k : Nat} (h1 : 2 ^ k ≤ n) (h2 : n < 2 ^ (k + 1)) : bl n = k + 1 := by
 have := zI h2
 have h3 : 2 ^ k < 2 ^ bl n := Nat.lt_of_le_of_lt h1 (zZ n)
 have := (Nat.pow_lt_pow_iff_right (a := 2) (by omega)).1 h3
 omega
theorem zb1 {n k : Nat} (h : 2 ^ k ≤ n) : bl n = k + bl (n / 2 ^ k) := by
 have hp : 0 < 2 ^ k := Nat.pow_pos (by omega)
 have h0 : n / 2 ^ k ≠ 0 := by
  have := (Nat.le_div_iff_mul_le hp (x := 1) (y := n)).2 (by omega)
  omega
 have h1 := zcO h0
 have h2 := zZ (n / 2 ^ k)
 have h3 := zbu h0
 have e : k + bl (n / 2 ^ k) = (k + (bl (n / 2 ^ k) - 1)) + 1 := by omega
 rw [e]
 apply zj7
 ·rw [Nat.pow_add]
  have := (Nat.le_div_iff_mul_le hp).1 h1
  rw [Nat.mul_comm]; exact this
 ·have := (Nat.div_lt_iff_lt_mul hp).1 h2
  rw [show k + (bl (n / 2 ^ k) - 1) + 1 = bl (n / 2 ^ k) + k by omega, Nat.pow_add]
  exact this
theorem zj5 {n : Nat} (h : n ≠ 0) : bl n = bl (n / 2) + 1 := by
 by_cases h1 : n = 1
 ·subst h1; rfl
 ·have := zb1 (n := n) (k := 1) (by omega)
  simp at this; omega
theorem zar {a b : Nat} (h : a ≤ b) : bl a ≤ bl b := zI (Nat.lt_of_le_of_lt h (zZ b))
def zi1 : ByteArray := ⟨#[0, 1, 2, 2, 3, 3, 3, 3, 4, 4, 4, 4, 4, 4, 4, 4, 5, 5, 5, 5, 5, 5, 5, 5, 5, 5, 5, 5, 5, 5, 5, 5, 6, 6, 6, 6, 6, 6, 6, 6, 6, 6, 6, 6, 6, 6, 6, 6, 6, 6, 6, 6, 6, 6, 6, 6, 6, 6, 6, 6, 6, 6, 6, 6, 7, 7, 7, 7, 7, 7, 7, 7, 7, 7, 7, 7, 7, 7, 7, 7, 7, 7, 7, 7, 7, 7, 7, 7, 7, 7, 7, 7, 7, 7, 7, 7, 7, 7, 7, 7, 7, 7, 7, 7, 7, 7, 7, 7, 7, 7, 7, 7, 7, 7, 7, 7, 7, 7, 7, 7, 7, 7, 7, 7, 7, 7, 7, 7, 8, 8, 8, 8, 8, 8, 8, 8, 8, 8, 8, 8, 8, 8, 8, 8, 8, 8, 8, 8, 8, 8, 8, 8, 8, 8, 8, 8, 8, 8, 8, 8, 8, 8, 8, 8, 8, 8, 8, 8, 8, 8, 8, 8, 8, 8, 8, 8, 8, 8, 8, 8, 8, 8, 8, 8, 8, 8, 8, 8, 8, 8, 8, 8, 8, 8, 8, 8, 8, 8, 8, 8, 8, 8, 8, 8, 8, 8, 8, 8, 8, 8, 8, 8, 8, 8, 8, 8, 8, 8, 8, 8, 8, 8, 8, 8, 8, 8, 8, 8, 8, 8, 8, 8, 8, 8, 8, 8, 8, 8, 8, 8, 8, 8, 8, 8, 8, 8, 8, 8, 8, 8, 8, 8, 8, 8, 8, 8]⟩
theorem zmR : (List.range 256).all (fun i => bt zi1 (i : Int) == (bl i : Int)) = true := by decide +kernel
theorem bt8 {t : ByteArray} {n : Nat} (h : n < 256) (ht : t = zi1) : bt t (n : Int) = (bl n : Int) := by
 subst ht
 have := List.all_eq_true.1 zmR n (List.mem_range.2 h)
 exact eq_of_beq this
theorem zgT {n : Nat} (h : n < 256) : bl n ≤ 8 := zI h
theorem zhC : zej.size = 256 := by decide +kernel
theorem zhy {n : Nat} (h : n < 256) {m : Int} (hm : 0 ≤ m ∧ m ≤ 64) : Ev (fun k => zab.j1 k (n : Int) m) (m + (bl n : Nat)) := by
 refine zf ?_
 simp only [zab.j1]
 have e : (n : Int) % 256 = n := by omega
 have l := zgT h
 rw [e, zhC]
 (repeat (first | with_reducible refine ep ?_ | with_reducible refine en ?_))
 rw [bt8 h (by rfl), zap (n := ((bl n : Nat) : Int)) (by omega) (by omega), zap (by omega) (by omega)]
 exact Ev.now _
theorem zhx {n : Nat} (h : n < 65536) {m : Int} (hm : 0 ≤ m ∧ m ≤ 32) : Ev (fun k => zab.j0 k (n : Int) m) (m + (bl n : Nat)) := by
 refine zf ?_
 simp only [zab.j0]
 by_cases c : n ≥ 256
 ·(repeat (first | with_reducible refine ep ?_ | with_reducible refine en ?_))
  have e2 : bl n = 8 + bl (n / 256) := zb1 (k := 8) c
  have := zhy (n := n / 256) (by omega) (m := m + 8) (by omega)
  rw [zap (by omega) (by omega), show (n : Int) / 256 = ((n / 256 : Nat) : Int) by omega]
  exact zg this (by rw [e2]; omega)
 ·(repeat (first | with_reducible refine ep ?_ | with_reducible refine en ?_))
  exact zhy (by omega) (by omega)
theorem zhw {x : Int} (h : 0 ≤ x ∧ x < 4294967296) : Ev (fun k => zab.f k x) ((bl x.toNat : Nat) : Int) := by
 obtain ⟨n, rfl⟩ := Int.eq_ofNat_of_zero_le h.1
 unfold zab.f
 rw [Int.toNat_natCast]
 by_cases c : n ≥ 65536
 ·(repeat (first | with_reducible refine ep ?_ | with_reducible refine en ?_))
  have e1 : bl n = 16 + bl (n / 65536) := zb1 (k := 16) c
  rw [show (n : Int) / 65536 = ((n / 65536 : Nat) : Int) by omega]
  exact zg (zhx (by omega) (by omega)) (by rw [e1]; omega)
 ·(repeat (first | with_reducible refine ep ?_ | with_reducible refine en ?_))
  exact zg (zhx (by omega) (by omega)) (by omega)
theorem zhB {n : Nat} (h : n < 256) {m : Int} (hm : 0 ≤ m ∧ m ≤ 128) : Ev (fun k => zy.j2 k (n : Int) m) (m + (bl n : Nat)) := by
 refine zf ?_
 simp only [zy.j2]
 have e : (n : Int) % 256 = n := by omega
 have l := zgT h
 rw [e, zhC]
 (repeat (first | with_reducible refine ep ?_ | with_reducible refine en ?_))
 rw [bt8 h (by rfl), zap (n := ((bl n : Nat) : Int)) (by omega) (by omega), zap (by omega) (by omega)]
 exact Ev.now _
theorem zhA {n : Nat} (h : n < 65536) {m : Int} (hm : 0 ≤ m ∧ m ≤ 100) : Ev (fun k => zy.j1 k (n : Int) m) (m + (bl n : Nat)) := by
 refine zf ?_
 simp only [zy.j1]
 by_cases c : n ≥ 256
 ·(repeat (first | with_reducible refine ep ?_ | with_reducible refine en ?_))
  have e2 : bl n = 8 + bl (n / 256) := zb1 (k := 8) c
  have := zhB (n := n / 256) (by omega) (m := m + 8) (by omega)
  rw [zap (by omega) (by omega), show (n : Int) / 256 = ((n / 256 : Nat) : Int) by omega]
  exact zg this (by rw [e2]; omega)
 ·(repeat (first | with_reducible refine ep ?_ | with_reducible refine en ?_))
  exact zhB (by omega) (by omega)
theorem zhz {n : Nat} (h : n < 4294967296) {m : Int} (hm : 0 ≤ m ∧ m ≤ 64) : Ev (fun k => zy.j0 k n m) (m + (bl n : Nat)) := by
 refine zf ?_
 simp only [zy.j0]
 by_cases c : n ≥ 65536
 ·(repeat (first | with_reducible refine ep ?_ | with_reducible refine en ?_))
  have e2 : bl n = 16 + bl (n / 65536) := zb1 (k := 16) c
  have := zhA (n := n / 65536) (by omega) (m := m + 16) (by omega)
  rw [zap (by omega) (by omega), show (n : Int) / 65536 = ((n / 65536 : Nat) : Int) by omega]
  exact zg this (by rw [e2]; omega)
 ·(repeat (first | with_reducible refine ep ?_ | with_reducible refine en ?_))
  exact zhA (by omega) (by omega)
theorem zdY {x : Int} (h : 0 ≤ x ∧ x < 18446744073709551616) : Ev (fun k => zy.f k x) ((bl x.toNat : Nat) : Int) := by
 obtain ⟨n, rfl⟩ := Int.eq_ofNat_of_zero_le h.1
 rw [Int.toNat_natCast]
 unfold zy.f
 by_cases c : n ≥ 4294967296
 ·(repeat (first | with_reducible refine ep ?_ | with_reducible refine en ?_))
  have e : bl n = 32 + bl (n / 4294967296) := zb1 (k := 32) c
  have := zhz (n := n / 4294967296) (by omega) (m := 32) (by omega)
  refine zg this ?_
  omega
 ·(repeat (first | with_reducible refine ep ?_ | with_reducible refine en ?_))
  have := zhz (n := n) (by omega) (m := 0) (by omega)
  exact zg this (by omega)
theorem zmk : ∀ (n : Nat) (m : Int), 0 ≤ m ∧ m + (bl n : Nat) < 4611686018427387904 → n < 4294967296 → Ev (fun k => za2.l0 k m n) (m + (bl n : Nat)) := by
 intro n
 induction n using Nat.strongRecOn with
 | _ n ih =>
  intro m hm hn
  refine zf ?_
  simp only [za2.l0]
  by_cases c : n = 0
  ·subst c
   (repeat (first | with_reducible refine ep ?_ | with_reducible refine en ?_))
   exact zg (Ev.now _) (by simp [za0])
  ·(repeat (first | with_reducible refine ep ?_ | with_reducible refine en ?_))
   have e : (n : Int) / 2 = ((n / 2 : Nat) : Int) := by omega
   have hb := zj5 c
   rw [e, zap (by omega) (by omega)]
   refine zg (ih (n / 2) (by omega) (m + 1) (by omega) (by omega)) ?_
   omega
theorem zgS {l : List Int} (h : Nm l) (h0 : l ≠ []) : bl (V l) = 32 * (l.length - 1) + bl (l.getD (l.length - 1) 0).toNat := by
 rcases List.eq_nil_or_concat l with rfl | ⟨a, d, rfl⟩
 ·exact absurd rfl h0
 rw [List.concat_eq_append] at h ⊢
 have hd := h.dg d (by simp)
 have hn := zfn h
 have e : (a ++ [d]).getD ((a ++ [d]).length - 1) 0 = d := by simp
 rw [e]
 have hl : (a ++ [d]).length - 1 = a.length := by simp
 rw [hl, zaj]
 simp only [zt, zaa, Nat.mul_zero, Nat.add_zero]
 have hv := zaf h.dg.left
 have hp : (4294967296 : Nat) ^ a.length = 2 ^ (32 * a.length) := by rw [Nat.pow_mul]
 rw [hp] at hv ⊢
 have hpos : 0 < 2 ^ (32 * a.length) := Nat.pow_pos (by omega)
 have hd1 : 2 ^ (32 * a.length) * 1 ≤ 2 ^ (32 * a.length) * d.toNat := Nat.mul_le_mul_left _ (by omega)
 rw [zb1 (n := V a + 2 ^ (32 * a.length) * d.toNat) (k := 32 * a.length) (by omega)]
 rw [Nat.add_mul_div_left _ _ hpos, Nat.div_eq_of_lt hv, Nat.zero_add]
theorem zf9 {l : List Int} (h : Nm l) (hb : l.length < 1000000000) : Ev (fun k => za2.f k l) ((bl (V l) : Nat) : Int) := by
 unfold za2.f
 by_cases c : l.length = 0
 ·have : l = [] := List.eq_nil_of_length_eq_zero c
  subst this
  (repeat (first | with_reducible refine ep ?_ | with_reducible refine en ?_)); exact Ev.now _
 ·(repeat (first | with_reducible refine ep ?_ | with_reducible refine en ?_))
  have e : wrap64 ((l.length : Int) - 1) = ((l.length - 1 : Nat) : Int) := by unfold wrap64; omega
  rw [e]
  clear e
  (repeat (first | with_reducible refine ep ?_ | with_reducible refine en ?_))
  have hd := h.dg.getD (l.length - 1)
  rw [rdn, zap (by omega) (by omega)]
  generalize hx : l.getD (l.length - 1) 0 = x at hd
  obtain ⟨n, rfl⟩ := Int.eq_ofNat_of_zero_le hd.1
  have hbn : bl n ≤ 32 := zI (by omega)
  refine zg (zmk n _ (by omega) (by omega)) ?_
  have hne : l ≠ [] := fun e => c (by rw [e]; rfl)
  have hm := zfm h.dg |>.1 h
  rw [zgS h hne, hx]
  simp
theorem zhU {x y : Int} (h0 : 0 ≤ x ∧ x < 4294967296) (h1 : 0 ≤ y ∧ y < 4294967296) : Go.bits .or .u64 (x * 4294967296) y = x * 4294967296 + y := by
 obtain ⟨X, rfl⟩ := Int.eq_ofNat_of_zero_le h0.1
 obtain ⟨Y, rfl⟩ := Int.eq_ofNat_of_zero_le h1.1
 have e : (X : Int) * 4294967296 = ((2 ^ 32 * X : Nat) : Int) := by omega
 rw [e, u64_or_nat _ _ (by omega) (by omega), ← Nat.two_pow_add_eq_or_of_lt (by omega)]
 omega
theorem zi6 {r x d : Int} (hr : 0 ≤ r ∧ r < d) (hx : 0 ≤ x ∧ x < 4294967296) (hd : d < 4294967296) : 0 ≤ (r * 4294967296 + x) / d ∧ (r * 4294967296 + x) / d < 4294967296 := by
 constructor
 ·exact Int.ediv_nonneg (by omega) (by omega)
 ·apply Int.ediv_lt_of_lt_mul (by omega)
  have : r * 4294967296 + 4294967296 ≤ d * 4294967296 := by omega
  rw [Int.mul_comm]; omega
theorem zkq {r x d : Int} (hr : 0 ≤ r ∧ r < d) (hx : 0 ≤ x ∧ x < 4294967296) (hd : d < 4294967296) : zda.f r x d = some ((r * 4294967296 + x) / d, (r * 4294967296 + x) % d) := by
 have hn : 0 ≤ r * 4294967296 + x := by omega
 have hd0 : d ≠ 0 := by omega
 have hr0 : ¬ d ≤ r := by omega
 have ur := u64 (n := r) (by omega) (by omega)
 have ur2 := u64 (n := r * 4294967296) (by omega) (by omega)
 have ux := u64 (n := x) (by omega) (by omega)
 have ud := u64 (n := d) (by omega) (by omega)
 have ho := zhU (x := r) (by omega) hx
 have h1 := zi6 hr hx hd
 have h2 : 0 ≤ (r * 4294967296 + x) % d := Int.emod_nonneg _ hd0
 have h3 : (r * 4294967296 + x) % d < d := Int.emod_lt_of_pos _ (by omega)
 unfold zda.f
 rw [if_pos hd0, if_neg hr0, ud, if_neg hd0, if_neg hd0, ur, ur2, ux, ho, Int.tdiv_eq_ediv_of_nonneg hn, Int.tmod_eq_emod_of_nonneg hn]
 clear ur ur2 ux ud ho
 generalize (r * 4294967296 + x) / d = q at *
 generalize (r * 4294967296 + x) % d = m at *
 rw [u64 h1.1 (by omega), Int.emod_eq_of_lt h1.1 h1.2, Int.emod_eq_of_lt h2 (by omega)]
theorem zjv (n : Nat) (l : List Int) : List.replicate (n + 1) (0 : Int) ++ l = List.replicate n 0 ++ 0 :: l := by
 rw [List.replicate_succ', List.append_assoc]; rfl
theorem zmH (t P X R E w : Nat) (hE : 0 < E) :
  (t + P * X + P * 4294967296 * R) / E + P * 4294967296 * w = (t + P * ((R * 4294967296 + X) % E)) / E + P * ((R * 4294967296 + X) / E + 4294967296 * w) ∧
  (t + P * X + P * 4294967296 * R) % E = (t + P * ((R * 4294967296 + X) % E)) % E := by
 have h := Nat.div_add_mod (R * 4294967296 + X) E
 have e4 : P * (R * 4294967296 + X) = P * 4294967296 * R + P * X := by rw [Nat.mul_add, Nat.mul_comm R, Nat.mul_assoc]
 generalize (R * 4294967296 + X) / E = q at *
 generalize (R * 4294967296 + X) % E = m at *
 have e3 : P * (E * q + m) = E * (P * q) + P * m := by rw [Nat.mul_add, Nat.mul_left_comm]
 rw [h, e4] at e3
 have key : t + P * X + P * 4294967296 * R = t + P * m + E * (P * q) := by
  rw [Nat.add_assoc, Nat.add_comm (P * X), e3, Nat.add_assoc, Nat.add_comm (P * m)]
 rw [key, Nat.add_mul_div_left _ _ hE, Nat.add_mul_mod_self_left, Nat.mul_add, Nat.mul_assoc P, Nat.add_assoc]
 exact ⟨rfl, rfl⟩
theorem zmI {a : List Int} (ha : Dg a) {i : Nat} (hi : i < a.length) {r d : Int} (hr : 0 ≤ r ∧ r < d) (w : Nat) :
  (V (a.take (i + 1)) + 4294967296 ^ (i + 1) * r.toNat) / d.toNat + 4294967296 ^ (i + 1) * w =
   (V (a.take i) + 4294967296 ^ i * ((r * 4294967296 + a.getD i 0) % d).toNat) / d.toNat + 4294967296 ^ i * (((r * 4294967296 + a.getD i 0) / d).toNat + 4294967296 * w) ∧
  (V (a.take (i + 1)) + 4294967296 ^ (i + 1) * r.toNat) % d.toNat = (V (a.take i) + 4294967296 ^ i * ((r * 4294967296 + a.getD i 0) % d).toNat) % d.toNat := by
 have hx := ha.getD i
 rw [zdL hi]
 obtain ⟨R, rfl⟩ := Int.eq_ofNat_of_zero_le hr.1
 obtain ⟨E, rfl⟩ := Int.eq_ofNat_of_zero_le (show 0 ≤ d by omega)
 obtain ⟨X, hX⟩ := Int.eq_ofNat_of_zero_le hx.1
 rw [hX]
 have hE : 0 < E := by omega
 clear hx hX hr ha hi
 have e1 : ((R : Int) * 4294967296 + X) % E = (((R * 4294967296 + X) % E : Nat) : Int) := by
  rw [Int.natCast_emod, Int.natCast_add, Int.natCast_mul, Int.cast_ofNat_Int]
 have e2 : ((R : Int) * 4294967296 + X) / E = (((R * 4294967296 + X) / E : Nat) : Int) := by
  rw [Int.natCast_ediv, Int.natCast_add, Int.natCast_mul, Int.cast_ofNat_Int]
 rw [e1, e2]
 rw [Int.toNat_natCast, Int.toNat_natCast, Int.toNat_natCast, Int.toNat_natCast, Int.toNat_natCast, Nat.pow_succ]
 exact zmH _ _ _ _ _ _ hE
theorem ziQ {a : List Int} (ha : Dg a) (hl : a.length < 1000000000) {d : Int} (hd : 0 < d ∧ d < 4294967296) : ∀ (i : Nat) (r : Int) (done : List Int), i + done.length = a.length → 0 ≤ r ∧ r < d → Dg done →
  Ev (fun k => zaW.l0 k a d (List.replicate i 0 ++ done) r ((i : Int) - 1)) (D ((V (a.take i) + 4294967296 ^ i * r.toNat) / d.toNat + 4294967296 ^ i * V done), (((V (a.take i) + 4294967296 ^ i * r.toNat) % d.toNat : Nat) : Int))
 | 0, r, done, hi, hr, hg => by
  refine zf ?_
  simp only [zaW.l0]
  (repeat (first | with_reducible refine ep ?_ | with_reducible refine en ?_))
  refine Ev.bind (zb9 (l := List.replicate 0 0 ++ done) (by simpa using hg) (by simp; omega)) (zg (Ev.now _) ?_)
  have h1 : r.toNat / d.toNat = 0 := Nat.div_eq_of_lt (by omega)
  have h2 : r.toNat % d.toNat = r.toNat := Nat.mod_eq_of_lt (by omega)
  simp [h1, h2]; omega
 | i + 1, r, done, hi, hr, hg => by
  have e0 : ((i + 1 : Nat) : Int) - 1 = (i : Int) := by omega
  have hx := ha.getD i
  have ht := zi6 hr hx hd.2
  have st := zmI ha (i := i) (by omega) hr (V done)
  have hm0 : 0 ≤ (r * 4294967296 + a.getD i 0) % d := Int.emod_nonneg _ (by omega)
  have hm1 : (r * 4294967296 + a.getD i 0) % d < d := Int.emod_lt_of_pos _ (by omega)
  have ih := ziQ ha hl hd i ((r * 4294967296 + a.getD i 0) % d) (((r * 4294967296 + a.getD i 0) / d) :: done) (by simp; omega) ⟨hm0, hm1⟩ (Dg.cons ht.1 ht.2 hg)
  rw [e0]
  refine zf ?_
  simp only [zaW.l0, zcf (n := i) (by omega)]
  (repeat (first | with_reducible refine ep ?_ | with_reducible refine en ?_))
  rw [rdn]
  refine zl (zkq hr hx hd.2) ?_
  refine zd (by omega) (zd (by simp; omega) ?_)
  have hs : (List.replicate (i + 1) (0 : Int) ++ done).set ((i : Int)).toNat ((r * 4294967296 + a.getD i 0) / d) = List.replicate i 0 ++ ((r * 4294967296 + a.getD i 0) / d) :: done := by
   rw [zjv, zbq (by simp)]; simp
  rw [hs]
  refine zg ih ?_
  rw [zt, st.1, st.2]
theorem zlv {a : List Int} (ha : Dg a) (hl : a.length < 1000000000) {d : Int} (hd : 0 < d ∧ d < 4294967296) : Ev (fun k => zaW.f k a d) (D (V a / d.toNat), ((V a % d.toNat : Nat) : Int)) := by
 unfold zaW.f
 (repeat (first | with_reducible refine ep ?_ | with_reducible refine en ?_))
 have := ziQ ha hl hd a.length 0 [] (by simp) (by omega) Dg.nil
 rw [zcf (by omega)]
 simpa using this
theorem pw {s : Nat} (h : s ≤ 32) : 2 ^ s * 2 ^ (32 - s) = 4294967296 := by
 rw [← Nat.pow_add]; have : s + (32 - s) = 32 := by omega
 rw [this]
theorem zh (s : Nat) : 0 < 2 ^ s := Nat.pow_pos (by omega)
theorem zc3 {X P Q c : Nat} (hP : 0 < P) (hc : c < P) : (X * P + c) / (P * Q) = X / Q ∧ (X * P + c) % (P * Q) = P * (X % Q) + c := by
 have h1 : (X * P + c) / P = X := by rw [Nat.mul_comm, Nat.mul_add_div hP, Nat.div_eq_of_lt hc, Nat.add_zero]
 have h2 : (X * P + c) % P = c := by rw [Nat.mul_comm, Nat.mul_add_mod, Nat.mod_eq_of_lt hc]
 exact ⟨by rw [← Nat.div_div_eq_div_mul, h1], by rw [Nat.mod_mul, h1, h2, Nat.add_comm]⟩
theorem ze2 (s : Nat) : ((2 : Int) ^ s) = ((2 ^ s : Nat) : Int) := by simp
theorem zmD (X s : Nat) (hs : s < 32) : shl .u32 (X : Int) (s : Int) = ((X * 2 ^ s % 4294967296 : Nat) : Int) := by
 unfold shl
 rw [Int.toNat_natCast, Nat.min_eq_left (by simp [IntKind.bits]; omega), ze2, ← Int.natCast_mul]
 simp [IntKind.wrap, IntKind.bits, IntKind.signed]
theorem zgl (X s : Nat) (hs : s ≤ 32) (hX : X < 4294967296) : shl .u64 (X : Int) (s : Int) = ((X * 2 ^ s : Nat) : Int) := by
 unfold shl
 rw [Int.toNat_natCast, Nat.min_eq_left (by simp [IntKind.bits]; omega), ze2, ← Int.natCast_mul]
 have h1 : 2 ^ s ≤ 2 ^ 32 := Nat.pow_le_pow_right (by omega) hs
 have h2 : X * 2 ^ s ≤ 4294967295 * 2 ^ 32 := Nat.mul_le_mul (by omega) h1
 exact u64 (by omega) (by omega)
theorem zcC {k : IntKind} (X s : Nat) (hs : s ≤ k.bits) : shr k (X : Int) (s : Int) = ((X / 2 ^ s : Nat) : Int) := by
 unfold shr
 rw [Int.toNat_natCast, Nat.min_eq_left hs, ze2, ← Int.natCast_ediv]
theorem zdG (X : Nat) (hX : X < 4294967296) : IntKind.u64.wrap (X : Int) = (X : Int) := u64 (by omega) (by omega)
theorem zgw {s : Nat} (hs : s ≤ 32) : wrap64 (32 - (s : Int)) = ((32 - s : Nat) : Int) := by unfold wrap64; omega
theorem zdS {X s : Nat} (hs : s ≤ 32) (hX : X < 4294967296) : X / 2 ^ s < 2 ^ (32 - s) := by
 rw [Nat.div_lt_iff_lt_mul (zh _), Nat.mul_comm, pw hs]; exact hX
theorem znd (X s c : Nat) (hs : s < 32) (hX : X < 4294967296) (hc : c < 2 ^ s) : Go.bits .or .u32 (shl .u32 (X : Int) (s : Int)) (c : Int) = (((X * 2 ^ s + c) % 4294967296 : Nat) : Int) := by
 have h1 := (zc3 (X := X) (Q := 2 ^ (32 - s)) (zh s) hc).2
 have h0 := (zc3 (X := X) (Q := 2 ^ (32 - s)) (c := 0) (zh s) (zh s)).2
 have hle : 2 ^ s ≤ 2 ^ 31 := Nat.pow_le_pow_right (by omega) (by omega)
 rw [pw (by omega)] at h1 h0
 rw [zmD _ _ hs, u32_or_nat _ _ (by omega) (by omega), h1]
 rw [Nat.add_zero, Nat.add_zero] at h0
 rw [h0, ← Nat.two_pow_add_eq_or_of_lt hc]
theorem znc (X s c : Nat) (hs : s < 32) (hX : X < 4294967296) (hc : c < 2 ^ s) : (shr .u64 (IntKind.u64.wrap (X : Int)) (wrap64 (32 - (s : Int)))) % 4294967296 = (((X * 2 ^ s + c) / 4294967296 : Nat) : Int) := by
 have h1 := (zc3 (X := X) (Q := 2 ^ (32 - s)) (zh s) hc).1
 rw [pw (by omega)] at h1
 rw [zdG _ hX, zgw (by omega), zcC _ _ (by simp [IntKind.bits]; omega), h1]
 have := zdS (s := 32 - s) (by omega) hX
 have h3 : X / 2 ^ (32 - s) ≤ X := Nat.div_le_self _ _
 omega
theorem zgv (X s c : Nat) (hs : s < 32) (hX : X < 4294967296) (hc : c < 2 ^ s) : (X * 2 ^ s + c) / 4294967296 < 2 ^ s := by
 have h1 := (zc3 (X := X) (Q := 2 ^ (32 - s)) (zh s) hc).1
 rw [pw (by omega)] at h1
 rw [h1]
 have := zdS (s := 32 - s) (by omega) hX
 have e : 32 - (32 - s) = s := by omega
 rwa [e] at this
theorem zmz (X s c : Nat) (hs : s < 32) (hX : X < 4294967296) (hc : c < 2 ^ s) : Go.bits .or .u64 (c : Int) (shl .u64 (IntKind.u64.wrap (X : Int)) (s : Int)) = ((X * 2 ^ s + c : Nat) : Int) := by
 have hle : 2 ^ s ≤ 2 ^ 31 := Nat.pow_le_pow_right (by omega) (by omega)
 have h2 : X * 2 ^ s ≤ 4294967295 * 2 ^ 31 := Nat.mul_le_mul (by omega) hle
 rw [zdG _ hX, zgl _ _ (by omega) hX, u64_or_nat _ _ (by omega) (by omega), Nat.or_comm, Nat.mul_comm X, ← Nat.two_pow_add_eq_or_of_lt hc]
def zbW (P : Nat) : List Int → Nat → List Int
 | [], c => [(c : Int)]
 | d :: l, c => (((d.toNat * P + c) % 4294967296 : Nat) : Int) :: zbW P l ((d.toNat * P + c) / 4294967296)
theorem zji {s : Nat} (hs : s < 32) : ∀ (l : List Int) (c : Nat), Dg l → c < 2 ^ s → V (zbW (2 ^ s) l c) = V l * 2 ^ s + c ∧ Dg (zbW (2 ^ s) l c)
 | [], c, _, hc => by
  have hle : 2 ^ s ≤ 2 ^ 31 := Nat.pow_le_pow_right (by omega) (by omega)
  simp only [zbW, zt, zaa]
  exact ⟨by omega, Dg.cons (by omega) (by omega) Dg.nil⟩
 | d :: l, c, hg, hc => by
  have hd := hg.head
  have hX : d.toNat < 4294967296 := by omega
  have ih := zji hs l _ hg.tail (zgv d.toNat s c hs hX hc)
  simp only [zbW, zt, ih.1]
  refine ⟨?_, Dg.cons (by omega) (by omega) ih.2⟩
  generalize hm : d.toNat * 2 ^ s + c = m
  rw [Nat.add_mul, Nat.mul_assoc]
  generalize V l * 2 ^ s = z
  omega
theorem nn {i : Nat} : 0 ≤ (i : Int) := Int.natCast_nonneg i
theorem zjl (A : List Int) (hA : Dg A) (hl : A.length < 1000000000) {s : Nat} (hs : s < 32) : ∀ (a done pa : List Int) (c : Nat), A = pa ++ a → c < 2 ^ s → Dg done → done.length + a.length < 2000000000 →
  Ev (fun k => zaM.l0 k done s c A A.length pa.length) (D (V (done ++ zbW (2 ^ s) a c)))
 | [], done, pa, c, he, hc, hg, hb => by
  have hlen : A.length = pa.length := by rw [he]; simp
  have hle : 2 ^ s ≤ 2 ^ 31 := Nat.pow_le_pow_right (by omega) (by omega)
  refine zf ?_
  simp only [zaM.l0]
  (repeat (first | with_reducible refine ep ?_ | with_reducible refine en ?_))
  exact Ev.bind (zb9 (hg.app (Dg.cons (by omega) (by omega) Dg.nil)) (by simp at hb ⊢; omega)) (Ev.now _)
 | d :: a, done, pa, c, he, hc, hg, hb => by
  have hlen : A.length = pa.length + 1 + a.length := by rw [he]; simp; omega
  have hd : 0 ≤ d ∧ d < 4294967296 := by rw [he] at hA; exact hA.right.head
  obtain ⟨X, rfl⟩ := Int.eq_ofNat_of_zero_le hd.1
  have hX : X < 4294967296 := by omega
  have h1 : rd A (pa.length : Int) = (X : Int) := by rw [he]; exact zU rfl
  refine zf ?_
  simp only [zaM.l0, h1, zK (n := pa.length) (by omega), znd X s c hs hX hc, znc X s c hs hX hc]
  have w32 : wrap64 (32 - (s : Int)) = 32 - (s : Int) := by unfold wrap64; omega
  (repeat (first | with_reducible refine ep ?_ | with_reducible refine en ?_))
  have := zjl A hA hl hs a (done ++ [(((X * 2 ^ s + c) % 4294967296 : Nat) : Int)]) (pa ++ [(X : Int)]) ((X * 2 ^ s + c) / 4294967296) (by rw [he]; simp) (zgv X s c hs hX hc) (hg.app (Dg.cons (by omega) (by omega) Dg.nil)) (by simp at hb ⊢; omega)
  rw [List.length_append, List.length_singleton] at this
  refine zg this ?_
  simp [zbW]
theorem ziL (A : List Int) (hA : Dg A) (hl : A.length < 1000000000) {s : Nat} (hs : s < 32) : ∀ (a done pa : List Int) (c : Nat), A = pa ++ a → c < 2 ^ s → Dg done → done.length + a.length < 2000000000 →
  Ev (fun k => za3.l0 k A done s c pa.length) (D (V (done ++ zbW (2 ^ s) a c)))
 | [], done, pa, c, he, hc, hg, hb => by
  have hlen : A.length = pa.length := by rw [he]; simp
  have hle : 2 ^ s ≤ 2 ^ 31 := Nat.pow_le_pow_right (by omega) (by omega)
  refine zf ?_
  have e : (c : Int) % 4294967296 = (c : Int) := by omega
  simp only [za3.l0, e]
  (repeat (first | with_reducible refine ep ?_ | with_reducible refine en ?_))
  exact Ev.bind (zdv (hg.app (Dg.cons (by omega) (by omega) Dg.nil)) (by simp at hb ⊢; omega)) (Ev.now _)
 | d :: a, done, pa, c, he, hc, hg, hb => by
  have hlen : A.length = pa.length + 1 + a.length := by rw [he]; simp; omega
  have hd : 0 ≤ d ∧ d < 4294967296 := by rw [he] at hA; exact hA.right.head
  obtain ⟨X, rfl⟩ := Int.eq_ofNat_of_zero_le hd.1
  have hX : X < 4294967296 := by omega
  have h1 : rd A (pa.length : Int) = (X : Int) := by rw [he]; exact zU rfl
  have e1 : ((X * 2 ^ s + c : Nat) : Int) % 4294967296 = (((X * 2 ^ s + c) % 4294967296 : Nat) : Int) := by omega
  have e2 : ((X * 2 ^ s + c : Nat) : Int) / 4294967296 = (((X * 2 ^ s + c) / 4294967296 : Nat) : Int) := by omega
  refine zf ?_
  simp only [za3.l0, h1, zK (n := pa.length) (by omega), zmz X s c hs hX hc, e1, e2]
  (repeat (first | with_reducible refine ep ?_ | with_reducible refine en ?_))
  have := ziL A hA hl hs a (done ++ [(((X * 2 ^ s + c) % 4294967296 : Nat) : Int)]) (pa ++ [(X : Int)]) ((X * 2 ^ s + c) / 4294967296) (by rw [he]; simp) (zgv X s c hs hX hc) (hg.app (Dg.cons (by omega) (by omega) Dg.nil)) (by simp at hb ⊢; omega)
  rw [List.length_append, List.length_singleton] at this
  refine zg this ?_
  simp [zbW]
theorem t32 {n : Nat} (h : n < 4611686018427387904) : wrap64 (Int.tdiv (n : Int) 32) = ((n / 32 : Nat) : Int) := by
 rw [Int.tdiv_eq_ediv_of_nonneg (by omega)]; unfold wrap64; omega
theorem m32 (n : Nat) : Int.tmod (n : Int) 32 = ((n % 32 : Nat) : Int) := by
 rw [Int.tmod_eq_emod_of_nonneg (by omega)]; omega
theorem zd8 (n : Nat) : 2 ^ n = 4294967296 ^ (n / 32) * 2 ^ (n % 32) := by
 have h : (4294967296 : Nat) = 2 ^ 32 := by decide
 rw [h, ← Nat.pow_mul, ← Nat.pow_add]; congr 1; omega
theorem zjj {a : List Int} (ha : Dg a) (n : Nat) : V (List.replicate (n / 32) 0 ++ zbW (2 ^ (n % 32)) a 0) = V a * 2 ^ n := by
 have h := (zji (s := n % 32) (by omega) a 0 ha (zh _)).1
 rw [zaj, zex, List.length_replicate, h, Nat.zero_add, Nat.add_zero, zd8 n, Nat.mul_left_comm]
theorem zfW {a : List Int} (ha : Dg a) (la : a.length < 1000000000) (n : Nat) (hn : n < 1000000000) : Ev (fun k => zaM.f k a n) (D (V a * 2 ^ n)) := by
 unfold zaM.f
 have e1 : wrap64 (wrap64 (((n / 32 : Nat) : Int) + (a.length : Int)) + 1) = ((n / 32 + a.length + 1 : Nat) : Int) := by unfold wrap64; omega
 simp only [t32 (n := n) (by omega), m32, e1]
 clear e1
 by_cases h0 : a = []
 ·subst h0
  (repeat (first | with_reducible refine ep ?_ | with_reducible refine en ?_))
  exact zg (Ev.now _) (by simp [zC])
 ·have : 0 < a.length := List.length_pos_iff.2 h0
  (repeat (first | with_reducible refine ep ?_ | with_reducible refine en ?_))
  have h := zjl a ha la (s := n % 32) (by omega) a (List.replicate (n / 32) 0) [] 0 rfl (zh _) (Dg.zeros _) (by simp; omega)
  rw [zjj ha] at h
  simp only [Int.toNat_natCast]
  simpa using h
theorem zix {a : List Int} (ha : Dg a) (la : a.length < 1000000000) (n : Nat) (hn : n < 1000000000) : Ev (fun k => za3.f k a n) (D (V a * 2 ^ n)) := by
 unfold za3.f
 simp only [t32 (n := n) (by omega), m32]
 by_cases h0 : a = []
 ·subst h0
  (repeat (first | with_reducible refine ep ?_ | with_reducible refine en ?_))
  exact zg (Ev.now _) (by simp [zC])
 ·have : 0 < a.length := List.length_pos_iff.2 h0
  (repeat (first | with_reducible refine ep ?_ | with_reducible refine en ?_))
  have h := ziL a ha la (s := n % 32) (by omega) a (List.replicate (n / 32) 0) [] 0 rfl (zh _) (Dg.zeros _) (by simp; omega)
  rw [zjj ha] at h
  simp only [Int.toNat_natCast]
  simpa using h
theorem pw' {s : Nat} (h : s ≤ 32) : 2 ^ (32 - s) * 2 ^ s = 4294967296 := by rw [Nat.mul_comm]; exact pw h
theorem zcM {l : List Int} (h : Dg l) (q : Nat) : V (l.drop q) = V l / 4294967296 ^ q := by
 by_cases hq : q ≤ l.length
 ·have e : V l = V (l.take q) + 4294967296 ^ q * V (l.drop q) := by
   conv => lhs; rw [← List.take_append_drop q l, zaj, List.length_take, Nat.min_eq_left hq]
  have hlt : V (l.take q) < 4294967296 ^ q := by
   have := zaf (h.take q); rwa [List.length_take, Nat.min_eq_left hq] at this
  rw [e, Nat.add_mul_div_left _ _ (Nat.pow_pos (by omega)), Nat.div_eq_of_lt hlt, Nat.zero_add]
 ·rw [List.drop_eq_nil_of_le (by omega), zaa, Nat.div_eq_of_lt]
  exact Nat.lt_of_lt_of_le (zaf h) (Nat.pow_le_pow_right (by omega) (by omega))
theorem zdZ {m : Nat} (h : m < 4294967296) : (m : Int) < 4294967296 := by omega
theorem zkw (Y s : Nat) (hs : s < 32) (hY : Y < 4294967296) : (shl .u64 (IntKind.u64.wrap (Y : Int)) (wrap64 (32 - (s : Int)))) % 4294967296 = ((2 ^ (32 - s) * (Y % 2 ^ s) : Nat) : Int) := by
 rw [zdG _ hY, zgw (by omega), zgl _ _ (by omega) hY]
 have h := (zc3 (X := Y) (P := 2 ^ (32 - s)) (Q := 2 ^ s) (c := 0) (zh _) (zh _)).2
 rw [pw' (by omega), Nat.add_zero, Nat.add_zero] at h
 rw [← h]; omega
theorem zeL (X Y s : Nat) (hs : s < 32) (hX : X < 4294967296) : X / 2 ^ s + 2 ^ (32 - s) * (Y % 2 ^ s) < 4294967296 := by
 have h1 := zdS (s := s) (by omega) hX
 have h2 : Y % 2 ^ s + 1 ≤ 2 ^ s := Nat.mod_lt _ (zh _)
 have h3 := Nat.mul_le_mul_left (2 ^ (32 - s)) h2
 rw [pw' (by omega), Nat.mul_add] at h3
 omega
theorem zkv (X Y s : Nat) (hs : s < 32) (hX : X < 4294967296) (hY : Y < 4294967296) : Go.bits .or .u32 ((X / 2 ^ s : Nat) : Int) ((shl .u64 (IntKind.u64.wrap (Y : Int)) (wrap64 (32 - (s : Int)))) % 4294967296) = ((X / 2 ^ s + 2 ^ (32 - s) * (Y % 2 ^ s) : Nat) : Int) := by
 have hl := zeL X Y s hs hX
 rw [zkw Y s hs hY, u32_or_nat _ _ (Nat.lt_of_le_of_lt (Nat.le_add_right _ _) hl) (Nat.lt_of_le_of_lt (Nat.le_add_left _ _) hl), Nat.or_comm, ← Nat.two_pow_add_eq_or_of_lt (zdS (by omega) hX), Nat.add_comm]
theorem zl7 (X Y s : Nat) (hs : s < 32) (hX : X < 4294967296) (hY : Y < 4294967296) : (Go.bits .or .u64 (shr .u64 (IntKind.u64.wrap (X : Int)) (s : Int)) (shl .u64 (IntKind.u64.wrap (Y : Int)) (wrap64 (32 - (s : Int))))) % 4294967296 = ((X / 2 ^ s + 2 ^ (32 - s) * (Y % 2 ^ s) : Nat) : Int) := by
 have hl := zdS (s := s) (by omega) hX
 have hle : 2 ^ (32 - s) ≤ 2 ^ 32 := Nat.pow_le_pow_right (by omega) (by omega)
 have h2 : Y * 2 ^ (32 - s) ≤ 4294967295 * 2 ^ 32 := Nat.mul_le_mul (by omega) hle
 have hX2 : X / 2 ^ s ≤ X := Nat.div_le_self _ _
 rw [zdG _ hX, zdG _ hY, zgw (by omega), zgl _ _ (by omega) hY, zcC _ _ (by simp [IntKind.bits]; omega), u64_or_nat _ _ (by omega) (by omega), Nat.or_comm, Nat.mul_comm Y, ← Nat.two_pow_add_eq_or_of_lt hl, Nat.mul_comm _ Y]
 have h := (zc3 (X := Y) (P := 2 ^ (32 - s)) (Q := 2 ^ s) (c := X / 2 ^ s) (zh _) hl).2
 rw [pw' (by omega)] at h
 rw [Nat.add_comm (X / 2 ^ s), ← h]; omega
def zaE (s : Nat) : List Int → List Int
 | [] => []
 | d :: l => ((d.toNat / 2 ^ s + 2 ^ (32 - s) * ((l.headD 0).toNat % 2 ^ s) : Nat) : Int) :: zaE s l
theorem zjN {l : List Int} {s : Nat} (hs : s ≤ 32) : V l % 2 ^ s = (l.headD 0).toNat % 2 ^ s := by
 cases l with
 | nil => simp
 | cons d l =>
  have h := pw (s := s) hs
  simp only [zt, List.headD_cons]
  rw [← h, Nat.mul_assoc, Nat.add_mul_mod_self_left]
theorem zhk {s : Nat} (hs : s < 32) : ∀ (l : List Int), Dg l → V (zaE s l) = V l / 2 ^ s ∧ Dg (zaE s l)
 | [], _ => by simp [zaE, Dg.nil]
 | d :: l, hg => by
  have hd := hg.head
  have ih := zhk hs l hg.tail
  have hl := zeL d.toNat (l.headD 0).toNat s hs (by omega)
  simp only [zaE, zt, ih.1]
  refine ⟨?_, Dg.cons nn (zdZ hl) ih.2⟩
  rw [← zjN (l := l) (by omega), Int.toNat_natCast]
  have h := pw (s := s) (by omega)
  have h' := pw' (s := s) (by omega)
  have e1 : (d.toNat + 4294967296 * V l) / 2 ^ s = d.toNat / 2 ^ s + 2 ^ (32 - s) * V l := by
   rw [← h, Nat.mul_assoc, Nat.add_mul_div_left _ _ (zh _)]
  have e2 : 2 ^ (32 - s) * V l = 2 ^ (32 - s) * (V l % 2 ^ s) + 4294967296 * (V l / 2 ^ s) := by
   rw [← h', Nat.mul_assoc, ← Nat.mul_add, Nat.mod_add_div]
  rw [e1, e2, Nat.add_assoc]
theorem zhl {a : List Int} (ha : Dg a) (n : Nat) : V (zaE (n % 32) (a.drop (n / 32))) = V a / 2 ^ n := by
 rw [(zhk (by omega) _ (ha.drop _)).1, zcM ha, Nat.div_div_eq_div_mul, ← zd8]
theorem zhm (A : List Int) (hA : Dg A) (hl : A.length < 1000000000) {s : Nat} (hs : s < 32) : ∀ (a done pa : List Int), A = pa ++ a → done.length = pa.length → Dg done →
  Ev (fun k => zaL.l0 k A s (done ++ List.replicate a.length 0) A A.length pa.length) (D (V (done ++ zaE s a)))
 | [], done, pa, he, hd, hg => by
  have hlen : A.length = pa.length := by rw [he]; simp
  refine zf ?_
  simp only [zaL.l0]
  (repeat (first | with_reducible refine ep ?_ | with_reducible refine en ?_))
  simp only [List.length_nil, List.replicate_zero, zaE]
  exact Ev.bind (zb9 (l := done ++ []) (by simpa using hg) (by simp; omega)) (Ev.now _)
 | d :: a, done, pa, he, hd, hg => by
  have hlen : A.length = pa.length + 1 + a.length := by rw [he]; simp; omega
  have hdd : 0 ≤ d ∧ d < 4294967296 := by rw [he] at hA; exact hA.right.head
  obtain ⟨X, rfl⟩ := Int.eq_ofNat_of_zero_le hdd.1
  have hX : X < 4294967296 := by omega
  have h1 : rd A (pa.length : Int) = (X : Int) := by rw [he]; exact zU rfl
  have hg2 : Dg (a) := by rw [he] at hA; exact hA.right.tail
  have hy := hg2.headD
  have ih := zhm A hA hl hs a (done ++ [((X / 2 ^ s + 2 ^ (32 - s) * ((a.headD 0).toNat % 2 ^ s) : Nat) : Int)]) (pa ++ [(X : Int)]) (by rw [he]; simp) (by simp [hd])
   (hg.app (Dg.cons nn (zdZ (zeL X (a.headD 0).toNat s hs hX)) Dg.nil))
  rw [@List.length_append _ pa, List.length_singleton] at ih
  refine zf ?_
  have hset : (done ++ List.replicate ((X : Int) :: a).length 0).set ((pa.length : Int)).toNat ((X / 2 ^ s : Nat) : Int) = (done ++ [((X / 2 ^ s : Nat) : Int)]) ++ List.replicate a.length 0 := by
   rw [List.length_cons, List.replicate_succ, zbq (by omega)]
  simp only [zaL.l0, h1, zK (n := pa.length) (by omega), zcC (k := .u32) X s (by simp [IntKind.bits]; omega), hset, Option.bind_some]
  have w32 : wrap64 (32 - (s : Int)) = 32 - (s : Int) := by unfold wrap64; omega
  (repeat (first | with_reducible refine ep ?_ | with_reducible refine en ?_))
  by_cases hn : a = []
  ·subst hn
   simp only [List.length_nil, Nat.add_zero] at hlen
   (repeat (first | with_reducible refine ep ?_ | with_reducible refine en ?_))
   refine zg (by simpa [zaE] using ih) ?_
   simp [zaE]
  ·obtain ⟨y, a', rfl⟩ := List.exists_cons_of_ne_nil hn
   obtain ⟨Y, rfl⟩ := Int.eq_ofNat_of_zero_le hy.1
   simp only [List.headD_cons] at hy ih
   have hlen' := hlen
   simp only [List.length_cons] at hlen'
   have h2 : rd A ((pa.length + 1 : Nat) : Int) = (Y : Int) := by rw [he, show pa ++ (X : Int) :: (Y : Int) :: a' = (pa ++ [(X : Int)]) ++ (Y : Int) :: a' by simp]; exact zU (by simp)
   have h3 : rd (done ++ [((X / 2 ^ s : Nat) : Int)] ++ List.replicate ((Y : Int) :: a').length 0) (pa.length : Int) = ((X / 2 ^ s : Nat) : Int) := by rw [List.append_assoc, List.singleton_append]; exact zU (by omega)
   have hset2 : (done ++ [((X / 2 ^ s : Nat) : Int)] ++ List.replicate ((Y : Int) :: a').length 0).set ((pa.length : Int)).toNat ((X / 2 ^ s + 2 ^ (32 - s) * (Y % 2 ^ s) : Nat) : Int) = done ++ [((X / 2 ^ s + 2 ^ (32 - s) * (Y % 2 ^ s) : Nat) : Int)] ++ List.replicate ((Y : Int) :: a').length 0 := by
    rw [List.append_assoc, List.singleton_append, zbq (by omega)]
   simp only [h2, h3, zkv X Y s hs hX (by omega), hset2]
   (repeat (first | with_reducible refine ep ?_ | with_reducible refine en ?_))
   rw [Int.toNat_natCast] at ih
   refine zg ih ?_
   simp [zaE]
theorem zhQ {a : List Int} (ha : Dg a) (la : a.length < 1000000000) (n : Nat) (hn : n < 100000000000) : Ev (fun k => zaL.f k a n) (D (V a / 2 ^ n)) := by
 unfold zaL.f
 simp only [t32 (n := n) (by omega), m32]
 by_cases h : n / 32 ≥ a.length
 ·(repeat (first | with_reducible refine ep ?_ | with_reducible refine en ?_))
  have : V a / 2 ^ n = 0 := by
   rw [zd8, ← Nat.div_div_eq_div_mul, ← zcM ha, List.drop_eq_nil_of_le h]; simp
  rw [this, zC]; exact Ev.now _
 ·(repeat (first | with_reducible refine ep ?_ | with_reducible refine en ?_))
  have h := zhm (a.drop (n / 32)) (ha.drop _) (by simp; omega) (s := n % 32) (by omega) (a.drop (n / 32)) [] [] rfl rfl Dg.nil
  simp only [List.nil_append, zhl ha] at h
  simp only [Int.toNat_natCast]
  simpa using h
theorem zma {l : List Int} (h : Dg l) (hl : l.length < 1000000000) (i : Nat) (hi : i < 4611686018427387904) : zdf.f l i = some ((V l / 2 ^ i % 2 : Nat) : Int) := by
 unfold zdf.f
 simp only [t32 hi, m32]
 rw [if_neg (by omega)]
 by_cases hq : i / 32 ≥ l.length
 ·rw [if_pos (by omega)]
  have : V l / 2 ^ i = 0 := by
   rw [zd8, ← Nat.div_div_eq_div_mul, ← zcM h, List.drop_eq_nil_of_le hq]; simp
  rw [this]; rfl
 ·rw [if_neg (by omega), if_pos nn, if_pos (by omega), if_pos nn]
  rw [rdn]
  have hx := h.getD (i / 32)
  obtain ⟨X, hX⟩ := Int.eq_ofNat_of_zero_le hx.1
  have hX2 : X < 4294967296 := by omega
  rw [hX, zcC _ _ (by simp [IntKind.bits]; omega)]
  have hle : X / 2 ^ (i % 32) ≤ X := Nat.div_le_self _ _
  have e := u32_and_nat (X / 2 ^ (i % 32)) 1 (by omega) (by omega)
  rw [Nat.and_one_is_mod] at e
  rw [show (1 : Int) = ((1 : Nat) : Int) from rfl, e]
  congr 2
  rw [zd8 i, ← Nat.div_div_eq_div_mul, ← zcM h]
  have hd : l.drop (i / 32) = (X : Int) :: l.drop (i / 32 + 1) := by
   rw [List.drop_eq_getElem_cons (by omega)]
   congr 1
   rw [← hX, List.getD_eq_getElem?_getD, List.getElem?_eq_getElem (by omega)]; rfl
  rw [hd, zt, Int.toNat_natCast, ← pw (s := i % 32) (by omega), Nat.mul_assoc, Nat.add_mul_div_left _ _ (zh _)]
  have e3 : 2 ^ (32 - i % 32) = 2 * 2 ^ (31 - i % 32) := by
   rw [show 32 - i % 32 = (31 - i % 32) + 1 by omega, Nat.pow_succ, Nat.mul_comm]
  rw [e3, Nat.mul_assoc, Nat.add_mul_mod_self_left]
theorem zcj {l : List Int} (h : Dg l) : bl (V l) ≤ 32 * l.length := by
 apply zI
 have := zaf h
 rwa [show (4294967296 : Nat) = 2 ^ 32 from rfl, ← Nat.pow_mul] at this
theorem zbt {n k : Nat} (h : n < 4294967296 ^ k) : (D n).length ≤ k := by
 rcases Nat.lt_or_ge k (D n).length with h1 | h1
 ·have h2 := zfj (zG n) (by intro e; rw [e] at h1; simp at h1)
  rw [V_D] at h2
  have h3 : 4294967296 ^ k ≤ 4294967296 ^ ((D n).length - 1) := Nat.pow_le_pow_right (by omega) (by omega)
  omega
 ·exact h1
theorem zip (A : List Int) (hA : Dg A) (hl : A.length < 1000000000) (b : Bool) {s : Nat} (hs : s < 32) : ∀ (a done pa : List Int), A = pa ++ a → done.length + a.length < 1000000000 → Dg done →
  Ev (fun k => za1.l0 k A b done s pa.length) (D (V (done ++ zaE s a)), b)
 | [], done, pa, he, hd, hg => by
  have hlen : A.length = pa.length := by rw [he]; simp
  refine zf ?_
  simp only [za1.l0]
  (repeat (first | with_reducible refine ep ?_ | with_reducible refine en ?_))
  simp only [zaE, List.append_nil]
  exact Ev.bind (zdv hg (by simp at hd; omega)) (Ev.now _)
 | d :: a, done, pa, he, hd, hg => by
  have hlen : A.length = pa.length + 1 + a.length := by rw [he]; simp; omega
  have hdd : 0 ≤ d ∧ d < 4294967296 := by rw [he] at hA; exact hA.right.head
  obtain ⟨X, rfl⟩ := Int.eq_ofNat_of_zero_le hdd.1
  have hX : X < 4294967296 := by omega
  have h1 : rd A (pa.length : Int) = (X : Int) := by rw [he]; exact zU rfl
  have hg2 : Dg (a) := by rw [he] at hA; exact hA.right.tail
  have hy := hg2.headD
  have ih := zip A hA hl b hs a (done ++ [((X / 2 ^ s + 2 ^ (32 - s) * ((a.headD 0).toNat % 2 ^ s) : Nat) : Int)]) (pa ++ [(X : Int)]) (by rw [he]; simp) (by simp at hd ⊢; omega)
   (hg.app (Dg.cons nn (zdZ (zeL X (a.headD 0).toNat s hs hX)) Dg.nil))
  rw [@List.length_append _ pa, List.length_singleton] at ih
  have hXs : X / 2 ^ s ≤ X := Nat.div_le_self _ _
  have e0 : ((X / 2 ^ s : Nat) : Int) % 4294967296 = ((X / 2 ^ s : Nat) : Int) := by
   generalize X / 2 ^ s = z at *; omega
  refine zf ?_
  simp only [za1.l0, h1, zK (n := pa.length) (by omega)]
  (repeat (first | with_reducible refine ep ?_ | with_reducible refine en ?_))
  by_cases hn : a = []
  ·subst hn
   simp only [List.length_nil, Nat.add_zero] at hlen
   (repeat (first | with_reducible refine ep ?_ | with_reducible refine en ?_))
   rw [zdG _ hX, zcC _ _ (by simp [IntKind.bits]; omega), e0]
   refine zg (by simpa [zaE] using ih) ?_
   simp [zaE]
  ·obtain ⟨y, a', rfl⟩ := List.exists_cons_of_ne_nil hn
   obtain ⟨Y, rfl⟩ := Int.eq_ofNat_of_zero_le hy.1
   simp only [List.headD_cons] at hy ih
   have hlen' := hlen
   have w32 : wrap64 (32 - (s : Int)) = 32 - (s : Int) := by unfold wrap64; omega
   have hd' := hd
   simp only [List.length_cons] at hd'
   simp only [List.length_cons] at hlen'
   have h2 : rd A ((pa.length + 1 : Nat) : Int) = (Y : Int) := by rw [he, show pa ++ (X : Int) :: (Y : Int) :: a' = (pa ++ [(X : Int)]) ++ (Y : Int) :: a' by simp]; exact zU (by simp)
   simp only [h2, zl7 X Y s hs hX (by omega)]
   (repeat (first | with_reducible refine ep ?_ | with_reducible refine en ?_))
   rw [Int.toNat_natCast] at ih
   refine zg ih ?_
   simp [zaE]
theorem zjO {l : List Int} (h : Nm l) (h0 : l ≠ []) : V l ≠ 0 := fun e => h0 ((zcN h).1 e)
theorem zfy {m n : Nat} : (zaD m n ≥ 0) ↔ n ≤ m := by
 unfold zaD; split
 ·constructor <;> intro h <;> omega
 ·split <;> constructor <;> intro h <;> omega
theorem zkR {U3 V2 P ul vl Q : Nat} (hP : 0 < P) (hul : ul < P) (hQ : Q * (V2 * P + vl) ≤ U3 * P + ul) : Q * V2 ≤ U3 := by
 have h1 : Q * V2 * P ≤ Q * (V2 * P + vl) := by rw [Nat.mul_add, Nat.mul_assoc]; omega
 have h2 : Q * V2 * P < (U3 + 1) * P := by rw [Nat.add_mul, Nat.one_mul]; omega
 have := Nat.lt_of_mul_lt_mul_right h2
 omega
theorem zkQ {U3 V2 P ul vl g B : Nat} (hP : 0 < P) (hg : g * V2 ≤ U3) (hB : g < B) (hvl : vl < P) (hv : B * P ≤ V2 * P + vl) : g * (V2 * P + vl) < (U3 * P + ul) + (V2 * P + vl) := by
 have h1 : g * V2 * P ≤ U3 * P := Nat.mul_le_mul_right _ hg
 have h2 : g * vl ≤ g * P := Nat.mul_le_mul_left _ (by omega)
 have h3 : g * P < B * P := Nat.mul_lt_mul_of_pos_right hB hP
 rw [Nat.mul_add, ← Nat.mul_assoc]
 omega
theorem zfK {g left v1 v2 top u2 B : Nat} (h : left + g * v1 = top) : g * (v1 * B + v2) ≤ top * B + u2 ↔ g * v2 ≤ left * B + u2 := by
 rw [← h, Nat.mul_add, Nat.add_mul, ← Nat.mul_assoc]; omega
theorem zkP {g left v1 v2 top u2 B : Nat} (h : left + g * v1 = top) (ht : top < v1 * B + B) (hl : B ≤ left) (hv : v2 < B) : g < B ∧ g * (v1 * B + v2) ≤ top * B + u2 := by
 have hg : g < B := by
  rcases Nat.lt_or_ge g B with h1 | h1
  ·exact h1
  ·have := Nat.mul_le_mul_right v1 h1
   rw [Nat.mul_comm B] at this
   omega
 refine ⟨hg, (zfK h).2 ?_⟩
 have h1 : g * v2 ≤ B * B := Nat.mul_le_mul (by omega) (by omega)
 have h2 : B * B ≤ left * B := Nat.mul_le_mul_right _ hl
 omega
theorem zaC {n : Nat} (h : n < 18446744073709551616) : IntKind.u64.wrap (n : Int) = (n : Int) := u64 (by omega) (by omega)
theorem zfR {a b : Nat} (ha : a < 4294967296) (hb : b < 4294967296) : a * b ≤ 18446744065119617025 := by
 have := Nat.mul_le_mul (show a ≤ 4294967295 by omega) (show b ≤ 4294967295 by omega)
 omega
theorem zhV (a b : Nat) (ha : a < 4294967296) (hb : b < 4294967296) : Go.bits .or .u64 (IntKind.u64.wrap ((a : Int) * 4294967296)) (b : Int) = ((a * 4294967296 + b : Nat) : Int) := by
 have e : (a : Int) * 4294967296 = ((a * 4294967296 : Nat) : Int) := by omega
 rw [e, zaC (by omega), ← e, zhU (by omega) (by omega)]; omega
theorem ziS {u v : List Int} {n v1 v2 u2 top Q : Nat} (hn : 2 ≤ n) (hnb : n < 1000000000) (hv : v.length = n) (hu : u.length = n + 1)
  (h1 : rd v ((n - 1 : Nat) : Int) = (v1 : Int)) (h2 : rd v ((n - 2 : Nat) : Int) = (v2 : Int)) (h3 : rd u ((n - 2 : Nat) : Int) = (u2 : Int))
  (b1 : v1 < 4294967296) (b2 : v2 < 4294967296) (b3 : u2 < 4294967296) (ht : top < v1 * 4294967296 + 4294967296)
  (hQ : Q * (v1 * 4294967296 + v2) ≤ top * 4294967296 + u2) (hQB : Q < 4294967296) {res : Int × List Int}
  (H : ∀ G : Nat, G < 4294967296 → Q ≤ G → G * (v1 * 4294967296 + v2) ≤ top * 4294967296 + u2 → Ev (fun k => zw.l1 k u v n G 0 0 v (v.length : Int) 0) res) :
  ∀ (g left : Nat), Q ≤ g → left + g * v1 = top → left < 4294967296 → g < 18446744073709551616 → Ev (fun k => zw.l0 k u v n g left) res
 | g, left, hg, hl, hlb, hgb => by
  have e1 : wrap64 ((n : Int) - 1) = ((n - 1 : Nat) : Int) := by unfold wrap64; omega
  have e2 : wrap64 ((n : Int) - 2) = ((n - 2 : Nat) : Int) := by unfold wrap64; omega
  have tru : Q < g → Ev (fun k => if 0 ≤ ((n - 1 : Nat) : Int) then (if ((n - 1 : Nat) : Int) < (v.length : Int) then (if (IntKind.u64.wrap ((left : Int) + (v1 : Int))) ≥ 4294967296 then (zw.l1 k u v n (IntKind.u64.wrap ((g : Int) - 1)) 0 0 v (v.length : Int) 0) else (zw.l0 k u v n (IntKind.u64.wrap ((g : Int) - 1)) (IntKind.u64.wrap ((left : Int) + (v1 : Int))))) else none) else none) res := by
   intro hlt
   obtain ⟨g', rfl⟩ : ∃ g', g = g' + 1 := ⟨g - 1, by omega⟩
   have e3 : IntKind.u64.wrap (((g' + 1 : Nat) : Int) - 1) = (g' : Int) := by
    rw [show ((g' + 1 : Nat) : Int) - 1 = (g' : Int) by omega]; exact zaC (by omega)
   have e4 : IntKind.u64.wrap ((left : Int) + (v1 : Int)) = ((left + v1 : Nat) : Int) := by
    rw [← Int.natCast_add]; exact zaC (by omega)
   have hl2 : (left + v1) + g' * v1 = top := by rw [← hl, Nat.add_mul, Nat.one_mul]; omega
   simp only [e3, e4]
   refine zd nn (zd (by omega) ?_)
   by_cases hb : 4294967296 ≤ left + v1
   ·obtain ⟨k1, k2⟩ := zkP (u2 := u2) hl2 ht hb b2
    (repeat (first | with_reducible refine ep ?_ | with_reducible refine en ?_)); exact H g' k1 (by omega) k2
   ·(repeat (first | with_reducible refine ep ?_ | with_reducible refine en ?_)); exact ziS hn hnb hv hu h1 h2 h3 b1 b2 b3 ht hQ hQB H g' (left + v1) (by omega) hl2 (by omega) (by omega)
  refine zf ?_
  simp only [zw.l0, e1, h1, zaC (n := v1) (by omega)]
  by_cases hB : 4294967296 ≤ g
  ·exact zd (by omega) (tru (by omega))
  ·have hm := zfR (a := g) (b := v2) (by omega) b2
   have e5 : IntKind.u64.wrap ((g : Int) * (v2 : Int)) = ((g * v2 : Nat) : Int) := by
    rw [← Int.natCast_mul]; exact zaC (by omega)
   refine ze (by omega) ?_
   simp only [e2, h2, h3, zaC (n := v2) (by omega), zaC (n := u2) (by omega), e5, zhV left u2 hlb b3]
   refine zd nn (zd (by omega) (zd nn (zd (by omega) ?_)))
   by_cases hc : g * v2 ≤ left * 4294967296 + u2
   ·exact ze (by have := Int.ofNat_le.2 hc; omega) (H g (by omega) hg ((zfK hl).2 hc))
   ·refine zd (by have := Int.ofNat_lt.2 (Nat.lt_of_not_le hc); omega) (tru ?_)
    rcases Nat.lt_or_ge Q g with h | h
    ·exact h
    ·have : g = Q := by omega
     subst this
     exact absurd ((zfK hl).1 hQ) hc
termination_by g => g
theorem zcY (n : Nat) : (4294967296 : Nat) ^ (n + 1) = 4294967296 ^ n * 4294967296 := Nat.pow_succ ..
def bw (x y : Nat) : Nat := if x < y then 1 else 0
def zam (g : Nat) : List Int → List Int → Nat → Nat → List Int × Nat
 | d :: v, x :: u, c, b =>
  let r := zam g v u ((c + g * d.toNat) / 4294967296) (bw x.toNat ((c + g * d.toNat) % 4294967296 + b))
  ((x - (((c + g * d.toNat) % 4294967296 : Nat) : Int) - (b : Int)) % 4294967296 :: r.1, r.2)
 | [], x :: u, c, b => ((x - (c : Int) - (b : Int)) % 4294967296 :: u, bw x.toNat (c + b))
 | _, [], c, b => ([], b)
theorem zhi {x t b : Nat} (hx : x < 4294967296) (ht : t < 4294967296) (hb : b ≤ 1) : (((x : Int) - (t : Int) - (b : Int)) % 4294967296).toNat + t + b = x + bw x (t + b) * 4294967296 := by
 unfold bw; split <;> omega
theorem zgX {g d c : Nat} (hg : g < 4294967296) (hd : d < 4294967296) (hc : c < 4294967296) : (c + g * d) / 4294967296 < 4294967296 := by
 have := zfR hg hd; omega
theorem zfx (x y : Nat) : bw x y ≤ 1 := by unfold bw; split <;> omega
theorem zfQ {g : Nat} (hg : g < 4294967296) : ∀ (v u : List Int) (c b : Nat), Dg v → Dg u → u.length = v.length + 1 → c < 4294967296 → b ≤ 1 →
  V (zam g v u c b).1 + g * V v + c + b = V u + (zam g v u c b).2 * 4294967296 ^ (v.length + 1) ∧ Dg (zam g v u c b).1 ∧ (zam g v u c b).1.length = u.length ∧ (zam g v u c b).2 ≤ 1
 | [], x :: u, c, b, hv, hu, hl, hc, hb => by
  have hx := hu.head
  have : u = [] := List.eq_nil_of_length_eq_zero (by simpa using hl)
  subst this
  obtain ⟨X, rfl⟩ := Int.eq_ofNat_of_zero_le hx.1
  have h := zhi (x := X) (t := c) (b := b) (by omega) hc hb
  simp only [zam, zt, zaa, List.length_nil, Int.toNat_natCast, Nat.zero_add, Nat.pow_one]
  refine ⟨by omega, Dg.cons (by omega) (by omega) Dg.nil, rfl, zfx _ _⟩
 | d :: v, x :: u, c, b, hv, hu, hl, hc, hb => by
  have hx := hu.head; have hd := hv.head
  obtain ⟨X, rfl⟩ := Int.eq_ofNat_of_zero_le hx.1
  obtain ⟨Y, rfl⟩ := Int.eq_ofNat_of_zero_le hd.1
  have hcl := zgX (d := Y) hg (by omega) hc
  have h := zhi (x := X) (t := (c + g * Y) % 4294967296) (b := b) (by omega) (by omega) hb
  have ih := zfQ hg v u _ _ hv.tail hu.tail (by simpa using hl) hcl (zfx X ((c + g * Y) % 4294967296 + b))
  have hdm := Nat.div_add_mod (c + g * Y) 4294967296
  simp only [zam, zt, List.length_cons, Int.toNat_natCast]
  generalize zam g v u ((c + g * Y) / 4294967296) (bw X ((c + g * Y) % 4294967296 + b)) = r at *
  refine ⟨?_, Dg.cons (by omega) (by omega) ih.2.1, by rw [ih.2.2.1], ih.2.2.2⟩
  have e1 := ih.1
  rw [zcY (v.length + 1), Nat.mul_add g, Nat.mul_left_comm g]
  generalize 4294967296 ^ (v.length + 1) = p at *
  rw [← Nat.mul_assoc r.2]
  generalize r.2 * p = rp at *
  generalize g * V v = gv at *
  generalize g * Y = gy at *
  generalize bw X ((c + gy) % 4294967296 + b) = o at *
  omega
def zbg : List Int → List Int → Nat → List Int
 | d :: v, x :: u, c => (x + d + (c : Int)) % 4294967296 :: zbg v u ((x.toNat + d.toNat + c) / 4294967296)
 | [], x :: u, c => (x + (c : Int)) % 4294967296 :: u
 | _, [], c => []
theorem zgL : ∀ (v u : List Int) (c : Nat), Dg v → Dg u → u.length = v.length + 1 → c ≤ 1 →
  (∃ o : Nat, V (zbg v u c) + o * 4294967296 ^ (v.length + 1) = V u + V v + c) ∧ Dg (zbg v u c) ∧ (zbg v u c).length = u.length
 | [], x :: u, c, hv, hu, hl, hc => by
  have hx := hu.head
  have : u = [] := List.eq_nil_of_length_eq_zero (by simpa using hl)
  subst this
  obtain ⟨X, rfl⟩ := Int.eq_ofNat_of_zero_le hx.1
  simp only [zbg, zt, zaa, List.length_nil, Int.toNat_natCast, Nat.zero_add, Nat.pow_one]
  refine ⟨⟨(X + c) / 4294967296, by omega⟩, Dg.cons (by omega) (by omega) Dg.nil, rfl⟩
 | d :: v, x :: u, c, hv, hu, hl, hc => by
  have hx := hu.head; have hd := hv.head
  obtain ⟨X, rfl⟩ := Int.eq_ofNat_of_zero_le hx.1
  obtain ⟨Y, rfl⟩ := Int.eq_ofNat_of_zero_le hd.1
  have ih := zgL v u ((X + Y + c) / 4294967296) hv.tail hu.tail (by simpa using hl) (by omega)
  simp only [zbg, zt, List.length_cons, Int.toNat_natCast]
  generalize zbg v u ((X + Y + c) / 4294967296) = r at *
  obtain ⟨⟨o, e1⟩, e2, e3⟩ := ih
  refine ⟨⟨o, ?_⟩, Dg.cons (by omega) (by omega) e2, by rw [e3]⟩
  rw [zcY (v.length + 1)]
  generalize 4294967296 ^ (v.length + 1) = p at *
  rw [← Nat.mul_assoc o]
  generalize o * p = rp at *
  omega
theorem ziU (Vl : List Int) (hV : Dg Vl) (hl : Vl.length < 1000000000) (G : Nat) (hG0 : 0 < G) (hG : G < 4294967297) : ∀ (v pv done u : List Int) (c : Nat), Vl = pv ++ v → done.length = pv.length → u.length = v.length + 1 → Dg u → c ≤ 1 →
  Ev (fun k => zw.l2 k (done ++ u) Vl.length G c Vl Vl.length pv.length) (((G - 1 : Nat) : Int), done ++ zbg v u c)
 | [], pv, done, u, c, he, hd, hlu, hu, hc => by
  have hlen : Vl.length = pv.length := by rw [he]; simp
  obtain ⟨x, rfl⟩ := List.length_eq_one_iff.1 (show u.length = 1 by simpa using hlu)
  have hx := hu.head
  refine zf ?_
  simp only [zw.l2]
  (repeat (first | with_reducible refine ep ?_ | with_reducible refine en ?_))
  refine zg (Ev.now _) ?_
  have e3 : IntKind.u64.wrap ((G : Int) - 1) = ((G - 1 : Nat) : Int) := by
   rw [show (G : Int) - 1 = ((G - 1 : Nat) : Int) by omega]; exact zaC (by omega)
  rw [e3, zU (xs := done) (ys := []) (y := x) (by omega), zbq (by omega)]
  simp [zbg]; omega
 | d :: v, pv, done, u, c, he, hd, hlu, hu, hc => by
  have hlen : Vl.length = pv.length + 1 + v.length := by rw [he]; simp; omega
  obtain ⟨x, u, rfl⟩ := List.exists_cons_of_ne_nil (show u ≠ [] by intro e; rw [e] at hlu; simp at hlu)
  have hx := hu.head
  have hdd : 0 ≤ d ∧ d < 4294967296 := by rw [he] at hV; exact hV.right.head
  refine zf ?_
  simp only [zw.l2, zK (n := pv.length) (by omega)]
  have h1 : rd Vl (pv.length : Int) = d := by rw [he]; exact zU rfl
  have h2 : rd (done ++ x :: u) (pv.length : Int) = x := zU (by omega)
  rw [h1, h2]
  (repeat (first | with_reducible refine ep ?_ | with_reducible refine en ?_))
  refine zl (zjR hx hdd (by omega)) ?_
  rw [zbq (by omega)]
  have := ziU Vl hV hl G hG0 hG v (pv ++ [d]) (done ++ [(x + d + (c : Int)) % 4294967296]) u ((x.toNat + d.toNat + c) / 4294967296) (by rw [he]; simp) (by simp [hd]) (by simpa using hlu) hu.tail (by omega)
  rw [List.length_append, List.length_singleton] at this
  have e4 : (x + d + (c : Int)) / 4294967296 = (((x.toNat + d.toNat + c) / 4294967296 : Nat) : Int) := by omega
  simp only [e4]
  (repeat (first | with_reducible refine ep ?_ | with_reducible refine en ?_))
  refine zg this ?_
  simp [zbg]
theorem zgI : ∀ (a b : List Int), Dg a → Dg b → a.length = b.length → V a = V b → a = b
 | [], [], _, _, _, _ => rfl
 | [], y :: b, _, _, h, _ => by simp at h
 | x :: a, [], _, _, h, _ => by simp at h
 | x :: a, y :: b, ha, hb, h, e => by
  have h1 := ha.head; have h2 := hb.head
  simp only [zt] at e
  have h3 : x = y := by omega
  subst h3
  rw [zgI a b ha.tail hb.tail (by simpa using h) (by omega)]
def Dk (k n : Nat) : List Int := D n ++ List.replicate (k - (D n).length) 0
theorem zfl (k n : Nat) : V (Dk k n) = n := by unfold Dk; rw [zaj, zex, V_D]; simp
theorem zgA (k n : Nat) : Dg (Dk k n) := (zW n).app (Dg.zeros _)
theorem zgC {k n : Nat} (h : n < 4294967296 ^ k) : (Dk k n).length = k := by
 have := zbt h
 unfold Dk; simp; omega
theorem zgB {k n : Nat} {l : List Int} (h : Dg l) (hl : l.length = k) (hv : V l = n) : l = Dk k n := by
 have hk : n < 4294967296 ^ k := by rw [← hv, ← hl]; exact zaf h
 exact zgI _ _ h (zgA k n) (by rw [hl, zgC hk]) (by rw [hv, zfl])
theorem zgW {X Y : Nat} : (if (X : Int) < (Y : Int) then (1 : Int) else 0) = ((bw X Y : Nat) : Int) := by
 unfold bw; split <;> split <;> omega
theorem ziT (Vl : List Int) (hV : Dg Vl) (hl : Vl.length < 1000000000) (G : Nat) (hG : G < 4294967296) : ∀ (v pv done u : List Int) (c b : Nat), Vl = pv ++ v → done.length = pv.length → Dg done → u.length = v.length + 1 → Dg u → c < 4294967296 → b ≤ 1 → ((zam G v u c b).2 ≠ 0 → 0 < G) →
  Ev (fun k => zw.l1 k (done ++ u) Vl Vl.length G b c Vl Vl.length pv.length) (if (zam G v u c b).2 = 0 then ((G : Int), done ++ (zam G v u c b).1) else (((G - 1 : Nat) : Int), zbg Vl (done ++ (zam G v u c b).1) 0))
 | [], pv, done, u, c, b, he, hd, hdg, hlu, hu, hc, hb, hG0 => by
  have hlen : Vl.length = pv.length := by rw [he]; simp
  have hms := zfQ hG [] u c b Dg.nil hu hlu hc hb
  obtain ⟨x, rfl⟩ := List.length_eq_one_iff.1 (show u.length = 1 by simpa using hlu)
  have hx := hu.head
  obtain ⟨X, rfl⟩ := Int.eq_ofNat_of_zero_le hx.1
  have e0 : (c : Int) % 4294967296 = (c : Int) := by omega
  have e1 : (X : Int) - (c : Int) - (b : Int) = (X : Int) - (c : Int) - (b : Int) := rfl
  have e2 : (G : Int) % 4294967296 = (G : Int) := by omega
  refine zf ?_
  simp only [zw.l1, e0]
  (repeat (first | with_reducible refine ep ?_ | with_reducible refine en ?_))
  rw [zU (xs := done) (ys := []) (y := (X : Int)) (by omega)]
  refine zl (ziV hx (by omega) (by omega)) ?_
  rw [zbq (by omega), ← Int.natCast_add, zgW]
  simp only [Option.bind_some, e2]
  have hm : zam G [] [(X : Int)] c b = ([((X : Int) - (c : Int) - (b : Int)) % 4294967296], bw X (c + b)) := by simp [zam]
  rw [hm] at hms hG0 ⊢
  have hap : done ++ [((X : Int) - (c : Int) - (b : Int)) % 4294967296] ++ [] = done ++ [((X : Int) - (c : Int) - (b : Int)) % 4294967296] := List.append_nil _
  rw [hap]
  by_cases h0 : bw X (c + b) = 0
  ·simp only [h0]
   (repeat (first | with_reducible refine ep ?_ | with_reducible refine en ?_))
   exact zg (Ev.now _) (by simp)
  ·simp only [if_neg h0]
   (repeat (first | with_reducible refine ep ?_ | with_reducible refine en ?_))
   have := ziU Vl hV hl G (hG0 h0) (by omega) Vl [] [] (done ++ [((X : Int) - (c : Int) - (b : Int)) % 4294967296]) 0 rfl rfl (by simp; omega) (hdg.app hms.2.1) (by omega)
   simpa using this
 | d :: v, pv, done, u, c, b, he, hd, hdg, hlu, hu, hc, hb, hG0 => by
  have hlen : Vl.length = pv.length + 1 + v.length := by rw [he]; simp; omega
  obtain ⟨x, u, rfl⟩ := List.exists_cons_of_ne_nil (show u ≠ [] by intro e; rw [e] at hlu; simp at hlu)
  have hx := hu.head
  have hdd : 0 ≤ d ∧ d < 4294967296 := by rw [he] at hV; exact hV.right.head
  obtain ⟨X, rfl⟩ := Int.eq_ofNat_of_zero_le hx.1
  obtain ⟨Y, rfl⟩ := Int.eq_ofNat_of_zero_le hdd.1
  have hcl := zgX (d := Y) hG (by omega) hc
  have hm64 := zfR (a := G) (b := Y) hG (by omega)
  have h1 : rd Vl (pv.length : Int) = (Y : Int) := by rw [he]; exact zU rfl
  have h2 : rd (done ++ (X : Int) :: u) (pv.length : Int) = (X : Int) := zU (by omega)
  have e5 : IntKind.u64.wrap ((c : Int) + (IntKind.u64.wrap ((G : Int) * (IntKind.u64.wrap (Y : Int))))) = ((c + G * Y : Nat) : Int) := by
   rw [zaC (n := Y) (by omega), ← Int.natCast_mul, zaC (by omega), ← Int.natCast_add]
   exact zaC (by omega)
  have e6 : ((c + G * Y : Nat) : Int) % 4294967296 = (((c + G * Y) % 4294967296 : Nat) : Int) := by generalize c + G * Y = t; omega
  have e7 : ((c + G * Y : Nat) : Int) / 4294967296 = (((c + G * Y) / 4294967296 : Nat) : Int) := by generalize c + G * Y = t; omega
  refine zf ?_
  simp only [zw.l1, h1, h2, e5, e6, e7, zK (n := pv.length) (by omega)]
  (repeat (first | with_reducible refine ep ?_ | with_reducible refine en ?_))
  refine zl (ziV hx (by omega) (by omega)) ?_
  rw [zbq (by omega), ← Int.natCast_add, zgW]
  have hbd : 0 ≤ ((X : Int) - (((c + G * Y) % 4294967296 : Nat) : Int) - (b : Int)) % 4294967296 ∧ ((X : Int) - (((c + G * Y) % 4294967296 : Nat) : Int) - (b : Int)) % 4294967296 < 4294967296 := by omega
  have := ziT Vl hV hl G hG v (pv ++ [(Y : Int)]) (done ++ [((X : Int) - (((c + G * Y) % 4294967296 : Nat) : Int) - (b : Int)) % 4294967296]) u ((c + G * Y) / 4294967296) (bw X ((c + G * Y) % 4294967296 + b)) (by rw [he]; simp) (by simp [hd]) (hdg.app (Dg.cons hbd.1 hbd.2 Dg.nil)) (by simpa using hlu) hu.tail hcl (zfx _ _) (by simpa [zam] using hG0)
  rw [List.length_append, List.length_singleton] at this
  (repeat (first | with_reducible refine ep ?_ | with_reducible refine en ?_))
  refine zg this ?_
  simp only [zam, Int.toNat_natCast, List.append_assoc, List.singleton_append]
  rfl
theorem zmY (T U2 P w : Nat) : T * (P * 4294967296) ≤ (T * 4294967296 + U2) * P + w := by
 rw [Nat.mul_comm P, ← Nat.mul_assoc, Nat.add_mul, Nat.add_assoc]; exact Nat.le_add_right _ _
theorem dm1 (Q a b c : Nat) : Q * a * c ≤ Q * (a * c + b) := by rw [Nat.mul_add, ← Nat.mul_assoc]; exact Nat.le_add_right _ _
theorem zmU (a b : Nat) : Int.tdiv (a : Int) (b : Int) = ((a / b : Nat) : Int) := rfl
theorem ze9 (a b : Nat) : Int.tmod (a : Int) (b : Int) = ((a % b : Nat) : Int) := rfl
theorem zgm {v : List Int} {n : Nat} (h : v.length = n + 2) : ∃ vl v2 v1, v = vl ++ [v2, v1] ∧ vl.length = n := by
 rcases List.eq_nil_or_concat v with rfl | ⟨a, d, rfl⟩
 ·simp at h
 rcases List.eq_nil_or_concat a with rfl | ⟨b, e, rfl⟩
 ·simp at h
 exact ⟨b, e, d, by simp, by simp at h; omega⟩
theorem zmJ {u : List Int} {n : Nat} (h : u.length = n + 3) : ∃ ul u2 u1 u0, u = ul ++ [u2, u1, u0] ∧ ul.length = n := by
 rcases List.eq_nil_or_concat u with rfl | ⟨a, d, rfl⟩
 ·simp at h
 obtain ⟨ul, u2, u1, rfl, h2⟩ := zgm (v := a) (n := n) (by simp at h; omega)
 exact ⟨ul, u2, u1, d, by simp, h2⟩
theorem zd9 {l : List Int} {n : Nat} {pre post : List Int} {y : Int} (h : l = pre ++ y :: post) (hn : pre.length = n) : rd l (n : Int) = y := by
 rw [h]; exact zU (by omega)
theorem zlw {u v : List Int} {m : Nat} (hv : Dg v) (hu : Dg u) (lv : v.length = m + 2) (lu : u.length = m + 3) (hm : m < 100000000) (htop : 4294967296 ^ (m + 1) ≤ V v) (hlt : V u < V v * 4294967296) :
  Ev (fun k => zw.f k u v) (((V u / V v : Nat) : Int), Dk (m + 3) (V u % V v)) := by
 obtain ⟨vl, v2, v1, rfl, lvl⟩ := zgm lv
 obtain ⟨ul, u2, u1, u0, rfl, lul⟩ := zmJ lu
 have d2 := hv v2 (by simp); have d1 := hv v1 (by simp)
 have c2 := hu u2 (by simp); have c1 := hu u1 (by simp); have c0 := hu u0 (by simp)
 obtain ⟨V1, rfl⟩ := Int.eq_ofNat_of_zero_le d1.1
 obtain ⟨V2, rfl⟩ := Int.eq_ofNat_of_zero_le d2.1
 obtain ⟨U2, rfl⟩ := Int.eq_ofNat_of_zero_le c2.1
 obtain ⟨U1, rfl⟩ := Int.eq_ofNat_of_zero_le c1.1
 obtain ⟨U0, rfl⟩ := Int.eq_ofNat_of_zero_le c0.1
 have hP : 0 < 4294967296 ^ m := Nat.pow_pos (by omega)
 have hvl := zaf hv.left; rw [lvl] at hvl
 have hul := zaf hu.left; rw [lul] at hul
 have eV : V (vl ++ [(V2 : Int), (V1 : Int)]) = (V1 * 4294967296 + V2) * 4294967296 ^ m + V vl := by
  rw [zaj, lvl]; simp only [zt, zaa, Int.toNat_natCast]
  rw [Nat.mul_comm (4294967296 ^ m), Nat.add_comm, show V2 + 4294967296 * (V1 + 4294967296 * 0) = V1 * 4294967296 + V2 by omega]
 have eU : V (ul ++ [(U2 : Int), (U1 : Int), (U0 : Int)]) = ((U0 * 4294967296 + U1) * 4294967296 + U2) * 4294967296 ^ m + V ul := by
  rw [zaj, lul]; simp only [zt, zaa, Int.toNat_natCast]
  rw [Nat.mul_comm (4294967296 ^ m), Nat.add_comm, show U2 + 4294967296 * (U1 + 4294967296 * (U0 + 4294967296 * 0)) = (U0 * 4294967296 + U1) * 4294967296 + U2 by omega]
 have hpm := zcY m
 have hvv := zaf hv; rw [lv] at hvv
 have hvpos : 0 < V (vl ++ [(V2 : Int), (V1 : Int)]) := Nat.lt_of_lt_of_le (by rw [hpm]; omega) htop
 have hms0 := fun G (hG : G < 4294967296) => zfQ (g := G) hG (vl ++ [(V2 : Int), (V1 : Int)]) (ul ++ [(U2 : Int), (U1 : Int), (U0 : Int)]) 0 0 hv hu (by rw [lv, lu]) (by omega) (by omega)
 have hab0 := fun r (hr : Dg r) (hl : r.length = m + 3) => zgL (vl ++ [(V2 : Int), (V1 : Int)]) r 0 hv hr (by rw [lv, hl]) (by omega)
 have hl1 := fun G (hG : G < 4294967296) => ziT (vl ++ [(V2 : Int), (V1 : Int)]) hv (by omega) G hG (vl ++ [(V2 : Int), (V1 : Int)]) [] [] (ul ++ [(U2 : Int), (U1 : Int), (U0 : Int)]) 0 0 rfl rfl Dg.nil (by rw [lv, lu]) hu (by omega) (by omega)
 have r1 : rd (vl ++ [(V2 : Int), (V1 : Int)]) ((m + 1 : Nat) : Int) = (V1 : Int) := zd9 (pre := vl ++ [(V2 : Int)]) (post := []) (by simp) (by simp [lvl])
 have r2 : rd (vl ++ [(V2 : Int), (V1 : Int)]) ((m : Nat) : Int) = (V2 : Int) := zd9 (pre := vl) (post := [(V1 : Int)]) rfl lvl
 have s2 : rd (ul ++ [(U2 : Int), (U1 : Int), (U0 : Int)]) ((m : Nat) : Int) = (U2 : Int) := zd9 (pre := ul) (post := [(U1 : Int), (U0 : Int)]) rfl lul
 have s1 : rd (ul ++ [(U2 : Int), (U1 : Int), (U0 : Int)]) ((m + 1 : Nat) : Int) = (U1 : Int) := zd9 (pre := ul ++ [(U2 : Int)]) (post := [(U0 : Int)]) (by simp) (by simp [lul])
 have s0 : rd (ul ++ [(U2 : Int), (U1 : Int), (U0 : Int)]) ((m + 2 : Nat) : Int) = (U0 : Int) := zd9 (pre := ul ++ [(U2 : Int), (U1 : Int)]) (post := []) (by simp) (by simp [lul])
 generalize hvE : vl ++ [(V2 : Int), (V1 : Int)] = v at *
 generalize huE : ul ++ [(U2 : Int), (U1 : Int), (U0 : Int)] = u at *
 have hv1 : 0 < V1 := by
  rcases Nat.eq_zero_or_pos V1 with h | h
  ·exfalso
   subst h
   have h3 : (0 * 4294967296 + V2) * 4294967296 ^ m + V vl < 4294967296 * 4294967296 ^ m := by
    have h4 : (V2 + 1) * 4294967296 ^ m ≤ 4294967296 * 4294967296 ^ m := Nat.mul_le_mul_right _ (by omega)
    rw [Nat.add_mul] at h4
    rw [Nat.zero_mul, Nat.zero_add]; omega
   rw [← eV, Nat.mul_comm, ← hpm] at h3
   omega
  ·exact h
 have hQB : V u / V v < 4294967296 := by rw [Nat.div_lt_iff_lt_mul hvpos, Nat.mul_comm]; exact hlt
 have hQ0 : V u / V v * V v ≤ V u := Nat.div_mul_le_self _ _
 have hR : V u % V v < V v := Nat.mod_lt _ hvpos
 have hdm : V v * (V u / V v) + V u % V v = V u := Nat.div_add_mod _ _
 have hdl0 : ∀ g, g * V v ≤ V u → g ≤ V u / V v := fun g h => (Nat.le_div_iff_mul_le hvpos).2 h
 generalize V u / V v = Qq at *
 generalize V u % V v = Rr at *
 have hQ2 : Qq * (V1 * 4294967296 + V2) ≤ (U0 * 4294967296 + U1) * 4294967296 + U2 := by
  refine zkR (vl := V vl) hP hul ?_
  rw [← eV, ← eU]; exact hQ0
 have htl : U0 * 4294967296 + U1 < V1 * 4294967296 + 4294967296 := by
  have h1 : (U0 * 4294967296 + U1) * (4294967296 ^ m * 4294967296) < (V1 * 4294967296 + 4294967296) * (4294967296 ^ m * 4294967296) := by
   have h2 : (U0 * 4294967296 + U1) * (4294967296 ^ m * 4294967296) ≤ V u := by
    rw [eU]; exact zmY _ _ _ _
   have h3 : V v * 4294967296 ≤ (V1 * 4294967296 + 4294967296) * (4294967296 ^ m * 4294967296) := by
    rw [← Nat.mul_assoc]
    refine Nat.mul_le_mul_right _ ?_
    rw [eV]
    have h4 : (V1 * 4294967296 + V2 + 1) * 4294967296 ^ m ≤ (V1 * 4294967296 + 4294967296) * 4294967296 ^ m := Nat.mul_le_mul_right _ (by omega)
    rw [Nat.add_mul _ 1, Nat.one_mul] at h4
    omega
   omega
  exact Nat.lt_of_mul_lt_mul_right h1
 have H : ∀ G : Nat, G < 4294967296 → Qq ≤ G → G * (V1 * 4294967296 + V2) ≤ (U0 * 4294967296 + U1) * 4294967296 + U2 → Ev (fun k => zw.l1 k u v ((m + 2 : Nat) : Int) G 0 0 v (v.length : Int) 0) (((Qq : Nat) : Int), Dk (m + 3) (Rr)) := by
  intro G hG hge hg2
  have hlow : G * V v < V u + V v := by
   have := zkQ (ul := V ul) (B := 4294967296) hP hg2 hG hvl (by rw [← eV, Nat.mul_comm, ← hpm]; exact htop)
   rwa [← eV, ← eU] at this
  have hGQ : G = Qq ∨ G = Qq + 1 := by
   have h1 : (G - 1) * V v ≤ V u := by
    rcases Nat.eq_zero_or_pos G with h | h
    ·subst h; simp
    ·obtain ⟨g, rfl⟩ : ∃ g, G = g + 1 := ⟨G - 1, by omega⟩
     rw [Nat.add_mul, Nat.one_mul] at hlow
     simp; omega
   have := hdl0 _ h1
   omega
  obtain ⟨m1, m2, m3, m4⟩ := hms0 G hG
  have hl := hl1 G hG
  rw [lv] at m1
  rw [lu] at m3
  have m5 := zaf m2; rw [m3] at m5
  have ab := hab0 _ m2 m3
  rw [lv] at ab
  generalize zam G v u 0 0 = r at *
  obtain ⟨⟨o, ab1⟩, ab2, ab3⟩ := ab
  have ab4 := zaf ab2; rw [ab3, m3] at ab4
  rw [show m + 2 + 1 = m + 3 from rfl] at m1 ab1
  have hvM : V v < 4294967296 ^ (m + 3) := by
   rw [zcY (m + 2)]; omega
  generalize hM : 4294967296 ^ (m + 3) = M at *
  have hgv : ∀ q, q * V v = V v * q := fun q => Nat.mul_comm _ _
  have key : (if r.2 = 0 then ((G : Int), [] ++ r.1) else (((G - 1 : Nat) : Int), zbg v ([] ++ r.1) 0)) = (((Qq : Nat) : Int), Dk (m + 3) (Rr)) ∧ (r.2 ≠ 0 → 0 < G) := by
   have hmul : G = Qq + 1 → G * V v = V v * (Qq) + V v := fun h => by rw [h, Nat.mul_comm, Nat.mul_add, Nat.mul_one]
   have hmul0 : G = Qq → G * V v = V v * (Qq) := fun h => by rw [Nat.mul_comm, h]
   by_cases h0 : r.2 = 0
   ·rw [h0, Nat.zero_mul] at m1
    have hG2 : G = Qq := by
     rcases hGQ with h | h
     ·exact h
     ·have := hmul h; omega
    refine ⟨?_, fun h => absurd h0 h⟩
    rw [if_pos h0, List.nil_append, zgB m2 m3 (n := Rr) (by have := hmul0 hG2; omega), ← hG2]
   ·have hr1 : r.2 = 1 := by omega
    rw [hr1, Nat.one_mul] at m1
    have hG2 : G = Qq + 1 := by
     rcases hGQ with h | h
     ·exfalso; have := hmul0 h; omega
     ·exact h
    have hmm := hmul hG2
    refine ⟨?_, fun _ => by omega⟩
    have ho : o = 1 := by
     rcases Nat.lt_or_ge o 1 with h | h
     ·have : o = 0 := by omega
      subst this; omega
     ·rcases Nat.lt_or_ge 1 o with h2 | h2
      ·have := Nat.mul_le_mul_right M h2; omega
      ·omega
    subst ho
    rw [if_neg h0, List.nil_append, zgB ab2 (by rw [ab3, m3]) (n := Rr) (by omega)]
    congr 2; omega
  have hl2 := hl key.2
  rw [key.1] at hl2
  rw [lv] at hl2 ⊢
  simpa using hl2
 unfold zw.f
 have e1 : wrap64 (((m + 2 : Nat) : Int) - 1) = ((m + 1 : Nat) : Int) := by unfold wrap64; omega
 simp only [lv, lu, e1, r1, s1, s0]
 clear e1
 rw [zaC (n := U0) (by omega), zaC (n := U1) (by omega), zaC (n := V1) (by omega), zhV U0 U1 (by omega) (by omega)]
 (repeat (first | with_reducible refine ep ?_ | with_reducible refine en ?_))
 have hdl : (U0 * 4294967296 + U1) / V1 ≤ U0 * 4294967296 + U1 := Nat.div_le_self _ _
 rw [zmU, ze9, zaC (n := (U0 * 4294967296 + U1) / V1) (by omega)]
 have hml : (U0 * 4294967296 + U1) % V1 < V1 := Nat.mod_lt _ hv1
 have hdm2 := Nat.mod_add_div (U0 * 4294967296 + U1) V1
 refine ziS (n := m + 2) (top := U0 * 4294967296 + U1) (Q := Qq) (by omega) (by omega) lv lu r1 r2 s2 (by omega) (by omega) (by omega) htl hQ2 hQB H _ _ ?_ ?_ (by omega) (by omega)
 ·rw [Nat.le_div_iff_mul_le hv1]
  have h1 : Qq * V1 * 4294967296 ≤ Qq * (V1 * 4294967296 + V2) := dm1 _ _ _ _
  have h2 := Nat.le_trans h1 hQ2
  generalize Qq * V1 = z at *
  omega
 ·rw [Nat.mul_comm _ V1]; exact hdm2
theorem zfq {l : List Int} (h : Dg l) {n : Nat} (hn : n ≤ l.length) : V (l.take n) = V l % 4294967296 ^ n := by
 have e : V l = V (l.take n) + 4294967296 ^ n * V (l.drop n) := by
  conv => lhs; rw [← List.take_append_drop n l, zaj, List.length_take, Nat.min_eq_left hn]
 rw [e, Nat.add_mul_mod_self_left, Nat.mod_eq_of_lt (zdK h hn)]
theorem zle {x : Int} (h : 0 ≤ x ∧ x < 4294967296) : Ev (fun k => zdb.f k x) ((32 - bl x.toNat : Nat) : Int) := by
 have hb : bl x.toNat ≤ 32 := zI (by omega)
 unfold zdb.f
 refine Ev.bind (zhw h) (zg (Ev.now _) ?_)
 unfold wrap64; omega
theorem zhD {a v : List Int} (s : Int) (ha : a.length < 10000000) {res : List Int × List Int} : ∀ (d : Nat) (u : List Int), u.length + d = a.length + 1 → v.length ≤ a.length →
  Ev (fun k => z7.l1 k s v (u ++ List.replicate d 0) v.length (List.replicate (a.length + 1 - v.length) 0) (((a.length + 1 - v.length : Nat) : Int) - 1)) res →
  Ev (fun k => z7.l0 k a s v u) res
 | 0, u, hu, hv, H => by
  refine zf ?_
  have e1 : wrap64 ((u.length : Int) - (v.length : Int)) = ((a.length + 1 - v.length : Nat) : Int) := by unfold wrap64; omega
  have e2 : wrap64 ((((List.replicate (a.length + 1 - v.length) (0 : Int)).length : Nat) : Int) - 1) = ((a.length + 1 - v.length : Nat) : Int) - 1 := by rw [List.length_replicate]; unfold wrap64; omega
  simp only [z7.l0, e1, Int.toNat_natCast, Option.bind_some, e2]
  (repeat (first | with_reducible refine ep ?_ | with_reducible refine en ?_))
  simpa using H
 | d + 1, u, hu, hv, H => by
  refine zf ?_
  simp only [z7.l0]
  (repeat (first | with_reducible refine ep ?_ | with_reducible refine en ?_))
  refine zhD s ha d (u ++ [0]) (by simp; omega) hv ?_
  have e : u ++ [0] ++ List.replicate d 0 = u ++ List.replicate (d + 1) 0 := by rw [List.append_assoc, List.replicate_succ]; rfl
  rw [e]; exact H
theorem zhj (w p : Nat) : w = p * (w / p) + w % p := (Nat.div_add_mod w p).symm
theorem zk6 {B W Y T t R p Vu X L : Nat} (hW : W = T * (Y * (p * B)) + Vu) (hVu : Vu = p * X + L) (hX : X = Y * t + R) : W = (t + B * T) * (Y * p) + (L + p * R) := by
 rw [hW, hVu, hX, Nat.mul_add, Nat.add_mul]
 have e1 : T * (Y * (p * B)) = B * T * (Y * p) := by ac_rfl
 have e2 : p * (Y * t) = t * (Y * p) := by ac_rfl
 rw [e1, e2]; omega
def Pw (n M : Nat) : Prop := M = 4294967296 ^ n
theorem Pw.up {n M x : Nat} (hM : Pw n M) (h : x < M * 4294967296) : x < 4294967296 ^ (n + 1) := by rw [zcY, ← hM]; exact h
theorem Pw.at {n M x : Nat} (hM : Pw n M) (h : x < M) : x < 4294967296 ^ n := by rw [← hM]; exact h
def Top (v : List Int) (m : Nat) : Prop := 4294967296 ^ (m + 1) ≤ V v
theorem Top.pos {v : List Int} {m : Nat} (h : Top v m) : 0 < V v := Nat.lt_of_lt_of_le (Nat.pow_pos (by omega)) h
theorem zk5 {R Y p L : Nat} (hR : R < Y) (hL : L < p) : L + p * R < Y * p := by
 have := Nat.mul_le_mul_left p (Nat.succ_le_of_lt hR)
 rw [Nat.mul_succ, Nat.mul_comm p Y] at this
 omega
theorem w3 {i m : Nat} (h1 : i < 100000000) (h2 : m < 100000000) : wrap64 (wrap64 ((i : Int) + ((m + 2 : Nat) : Int)) + 1) = ((i + (m + 3) : Nat) : Int) := by unfold wrap64; omega
def Inv (W T Y p Vu : Nat) : Prop := W = T * (Y * p) + Vu ∧ Vu < Y * p
theorem Inv.next {B W T Y p Vu X t R L : Nat} (h : Inv W T Y (p * B) Vu) (h1 : Vu = p * X + L) (h2 : X = Y * t + R) (h3 : R < Y) (h4 : L < p) : Inv W (t + B * T) Y p (L + p * R) :=
 ⟨zk6 h.1 h1 h2, zk5 h3 h4⟩
theorem Inv.quo {W T Y p B Vu : Nat} (h : Inv W T Y (p * B) Vu) (hp : 0 < p) : Vu / p < Y * B := by
 rw [Nat.div_lt_iff_lt_mul hp, Nat.mul_assoc, Nat.mul_comm B p]; exact h.2
theorem Inv.succ {W T Y i Vu : Nat} (h : Inv W T Y (4294967296 ^ (i + 1)) Vu) : Inv W T Y (4294967296 ^ i * 4294967296) Vu := by rw [← zcY]; exact h
theorem Inv.end {W T Y Vu : Nat} (h : Inv W T Y (4294967296 ^ 0) Vu) (hp : 0 < Y) : W / Y = T ∧ W % Y = Vu ∧ Vu < Y := by
 obtain ⟨h1, h2⟩ := h
 rw [Nat.pow_zero, Nat.mul_one] at h1 h2
 exact ⟨by rw [h1, Nat.mul_comm, Nat.mul_add_div hp, Nat.div_eq_of_lt h2, Nat.add_zero], by rw [h1, Nat.mul_comm, Nat.mul_add_mod, Nat.mod_eq_of_lt h2], h2⟩
theorem zlS {u : List Int} {i m N : Nat} (hu : Dg u) (lu : u.length = N) (hi : i + (m + 3) ≤ N) (hX : V u / 4294967296 ^ i < 4294967296 ^ (m + 3)) : V ((u.take (i + (m + 3))).drop i) = V u / 4294967296 ^ i ∧ V (u.drop (i + (m + 3))) = 0 := by
 have e : i + (m + 3) - i = m + 3 := Nat.add_sub_cancel_left ..
 constructor
 ·rw [List.drop_take, e, zfq (hu.drop i) (by rw [List.length_drop, lu]; clear hX; omega), zcM hu, Nat.mod_eq_of_lt hX]
 ·rw [zcM hu, Nat.pow_add, ← Nat.div_div_eq_div_mul, Nat.div_eq_of_lt hX]
theorem zni {u w : List Int} {i j R : Nat} (hi : i ≤ u.length) (hw : V w = R) (h0 : V (u.drop j) = 0) : V (u.take i ++ w ++ u.drop j) = V (u.take i) + 4294967296 ^ i * R := by
 rw [zaj, h0, zaj, List.length_take, Nat.min_eq_left hi, hw, Nat.mul_zero, Nat.add_zero]
theorem zmT {u : List Int} (hu : Dg u) {i : Nat} (hi : i ≤ u.length) : V u = 4294967296 ^ i * (V u / 4294967296 ^ i) + V (u.take i) := by rw [zfq hu hi]; exact zhj _ _
theorem zhE {v : List Int} {m N s W : Nat} (hv : Dg v) (lv : v.length = m + 2) (hm : m < 10000000) (hN : N < 10000000) (hs : s < 1000000000) (htop : Top v m) {M : Nat} (hM : Pw (m + 2) M) (hvl : V v < M) : ∀ (i T : Nat) (u done : List Int), i + (m + 2) ≤ N → u.length = N → Dg u → Dg done → i + done.length + (m + 2) = N → V done = T → Inv W T (V v) (4294967296 ^ i) (V u) →
  Ev (fun k => z7.l1 k s v u ((m + 2 : Nat) : Int) (List.replicate i 0 ++ done) ((i : Int) - 1)) (D (W / V v), D (W % V v / 2 ^ s))
 | 0, T, u, done, hi, lu, hu, hdn, hdl, hT, hI => by
  obtain ⟨h1, h2, hlt⟩ := hI.end htop.pos
  have l1 : (D (V u)).length ≤ m + 2 := zbt (hM.at (Nat.lt_trans hlt hvl))
  have l2 : (D (V u / 2 ^ s)).length ≤ m + 2 := zbt (hM.at (Nat.lt_of_le_of_lt (Nat.div_le_self (V u) (2 ^ s)) (Nat.lt_trans hlt hvl)))
  have et : V (u.take (m + 2)) = V u := by rw [zfq hu (by omega), Nat.mod_eq_of_lt (hM.at (Nat.lt_trans hlt hvl))]
  rw [h1, h2]
  clear h1 h2 hlt hI
  refine zf ?_
  simp only [z7.l1]
  (repeat (first | with_reducible refine ep ?_ | with_reducible refine en ?_))
  refine Ev.bind (zb9 (l := List.replicate 0 0 ++ done) (by simpa using hdn) (by simp; omega)) ?_
  (repeat (first | with_reducible refine ep ?_ | with_reducible refine en ?_))
  refine Ev.bind (zb9 (hu.take _) (by simp; omega)) ?_
  rw [Int.toNat_natCast, et]
  refine Ev.bind (zhQ (zW _) (by omega) s (by omega)) ?_
  rw [V_D]
  refine Ev.bind (zb9 (zW _) (by omega)) (zg (Ev.now _) ?_)
  rw [V_D]; simp [hT]
 | i + 1, T, u, done, hi, lu, hu, hdn, hdl, hT, hI => by
  have hp : 0 < 4294967296 ^ i := Nat.pow_pos (Nat.zero_lt_succ _)
  have hI2 := hI.succ
  have hX := hI2.quo hp
  have hXM : V u / 4294967296 ^ i < M * 4294967296 := Nat.lt_trans hX (Nat.mul_lt_mul_of_pos_right hvl (Nat.zero_lt_succ _))
  obtain ⟨hpc, hdd⟩ := zlS (i := i) (m := m) hu lu (by omega) (hM.up hXM)
  have hlen : ((u.take (i + (m + 3))).drop i).length = m + 3 := by rw [List.length_drop, List.length_take]; omega
  have hst := zlw (u := (u.take (i + (m + 3))).drop i) hv ((hu.take _).drop _) lv hlen (by omega) htop (by rw [hpc]; exact hX)
  rw [hpc] at hst
  have hsp := zmT hu (i := i) (by omega)
  have hLt : V (u.take i) < 4294967296 ^ i := zdK hu (by omega)
  clear hI hp hpc
  generalize V u / 4294967296 ^ i = X at *
  have hR : X % V v < V v := Nat.mod_lt _ htop.pos
  have htB : X / V v < 4294967296 := by rw [Nat.div_lt_iff_lt_mul htop.pos, Nat.mul_comm]; exact hX
  have hdk : (Dk (m + 3) (X % V v)).length = m + 3 := zgC (hM.up (Nat.lt_of_le_of_lt (Nat.mod_le _ _) hXM))
  have hI3 := hI2.next hsp (zhj X (V v)) hR hLt
  rw [← zni (u := u) (w := Dk (m + 3) (X % V v)) (by omega) (zfl _ _) hdd] at hI3
  clear hI2 hsp hLt hdd hX hXM hR
  have ih := zhE hv lv hm hN hs htop hM hvl i (X / V v + 4294967296 * T) (u.take i ++ Dk (m + 3) (X % V v) ++ u.drop (i + (m + 3))) (((X / V v : Nat) : Int) :: done) (by omega) (by simp [hdk]; omega) (((hu.take _).app (zgA _ _)).app (hu.drop _)) (Dg.cons nn (zdZ htB) hdn) (by simp; omega) (by rw [zt, hT, Int.toNat_natCast]) hI3
  clear hI3 htB
  have e0 : ((i + 1 : Nat) : Int) - 1 = (i : Int) := by omega
  have e2 : wrap64 ((i : Int) - 1) = (i : Int) - 1 := zcf (by omega)
  have hs2 : (List.replicate (i + 1) (0 : Int) ++ done).set ((i : Int)).toNat ((X / V v : Nat) : Int) = List.replicate i 0 ++ ((X / V v : Nat) : Int) :: done := by
   rw [zjv, zbq (by simp)]; simp
  rw [e0]
  refine zf ?_
  simp only [z7.l1, w3 (i := i) (m := m) (by omega) (by omega), e2]
  clear e2 e0
  (repeat (first | with_reducible refine ep ?_ | with_reducible refine en ?_))
  simp only [Int.toNat_natCast]
  refine Ev.bind hst ?_
  (repeat (first | with_reducible refine ep ?_ | with_reducible refine en ?_))
  rw [Int.toNat_natCast] at hs2
  rw [hs2]
  exact ih
theorem zne {b : List Int} {m d : Nat} (hb : Nm b) (lb : b.length = m + 2) (hd : (b.getD (m + 1) 0).toNat = d) : 0 < d ∧ d < 4294967296 ∧ 4294967296 ^ (m + 1) * d ≤ V b ∧ V b < 4294967296 ^ (m + 1) * (d + 1) := by
 obtain ⟨bl0, x2, x1, rfl, hl⟩ := zgm lb
 have e : bl0 ++ [x2, x1] = (bl0 ++ [x2]) ++ [x1] := by simp
 rw [e] at hb hd ⊢
 have hlen : (bl0 ++ [x2]).length = m + 1 := by simp [hl]
 have h1 := zfn hb
 have h2 := hb.dg x1 (by simp)
 have hv := zaf hb.dg.left
 rw [hlen] at hv
 have hx : ((bl0 ++ [x2]) ++ [x1]).getD (m + 1) 0 = x1 := by rw [← hlen]; simp
 rw [hx] at hd
 rw [zaj, hlen]
 simp only [zt, zaa, Nat.mul_zero, Nat.add_zero, hd]
 rw [Nat.mul_add, Nat.mul_one]
 generalize 4294967296 ^ (m + 1) = p at *
 refine ⟨by omega, by omega, by omega, by omega⟩
theorem zlA {Va Vb p d s B pi Ba : Nat} (hs : (d + 1) * 2 ^ s ≤ B) (h1 : p * d ≤ Vb) (h2 : Vb < p * (d + 1)) (hd : 0 < d) (hp : 0 < p) (ha : Va < Ba) (hB : Ba = p * pi) (hpi : 0 < pi) : Vb * 2 ^ s < p * B ∧ p ≤ Vb * 2 ^ s ∧ Va * 2 ^ s < Ba * B ∧ Va * 2 ^ s < Vb * 2 ^ s * pi := by
 have hz : 0 < 2 ^ s := zh s
 have e1 : p ≤ Vb := Nat.le_trans (by have := Nat.mul_le_mul_left p hd; omega) h1
 have hsB : 2 ^ s ≤ B := Nat.le_trans (by have := Nat.mul_le_mul_right (2 ^ s) (show 1 ≤ d + 1 by omega); omega) hs
 generalize 2 ^ s = z at *
 refine ⟨?_, ?_, ?_, ?_⟩
 ·refine Nat.lt_of_lt_of_le (Nat.mul_lt_mul_of_pos_right h2 hz) ?_
  rw [Nat.mul_assoc]; exact Nat.mul_le_mul_left _ hs
 ·exact Nat.le_trans e1 (Nat.le_mul_of_pos_right _ hz)
 ·exact Nat.lt_of_lt_of_le (Nat.mul_lt_mul_of_pos_right ha hz) (Nat.mul_le_mul_left _ hsB)
 ·refine Nat.lt_of_lt_of_le (Nat.mul_lt_mul_of_pos_right ha hz) ?_
  rw [hB, Nat.mul_right_comm]
  exact Nat.mul_le_mul_right _ (Nat.mul_le_mul_right _ e1)
theorem zlu {a b : List Int} (ha : Nm a) (hb : Nm b) (la : a.length ≤ 4096) (lb : b.length ≤ a.length) (h2 : 2 ≤ b.length) : Ev (fun k => z7.f k a b) (D (V a / V b), D (V a % V b)) := by
 obtain ⟨m, lm⟩ : ∃ m, b.length = m + 2 := ⟨b.length - 2, by omega⟩
 obtain ⟨hd0, hdB, hlo, hhi⟩ := zne hb lm rfl
 have hrd : rd b ((m + 1 : Nat) : Int) = b.getD (m + 1) 0 := rdn _ _
 have zhs := hb.dg.getD (m + 1)
 have hlz := zle zhs
 generalize (b.getD (m + 1) 0).toNat = d at *
 have hbl : bl d ≤ 32 := zI (by omega)
 have hblp : 0 < bl d := zbu (by omega)
 obtain ⟨s, hs⟩ : ∃ s, s = 32 - bl d := ⟨_, rfl⟩
 have hs32 : (d + 1) * 2 ^ s ≤ 4294967296 := by
  have h1 := Nat.mul_le_mul_right (2 ^ s) (Nat.succ_le_of_lt (zZ d))
  rw [hs, pw hbl] at h1
  rw [hs]; exact h1
 have hi : m + 1 + (a.length - (m + 1)) = a.length := by omega
 have hnn := zlA (Va := V a) (Vb := V b) (s := s) (B := 4294967296) (pi := 4294967296 ^ (a.length - (m + 1))) (Ba := 4294967296 ^ a.length) hs32 hlo hhi hd0 (Nat.pow_pos (Nat.zero_lt_succ _)) (zaf ha.dg) (by rw [← Nat.pow_add, hi]) (Nat.pow_pos (Nat.zero_lt_succ _))
 obtain ⟨n1, n2, n3, n4⟩ := hnn
 rw [← zcY] at n1 n3
 have hup1 := zfW hb.dg (by omega) s (by omega)
 have hup2 := zfW ha.dg (by omega) s (by omega)
 have lY : (D (V b * 2 ^ s)).length = m + 2 := by
  have h3 := zbt n1
  rcases Nat.lt_or_ge (D (V b * 2 ^ s)).length (m + 2) with h4 | h4
  ·exfalso
   have h5 := zjM (zW (V b * 2 ^ s)) (n := m + 1) (by omega)
   rw [V_D] at h5
   exact Nat.not_lt.2 n2 h5
  ·omega
 have lW : (D (V a * 2 ^ s)).length ≤ a.length + 1 := zbt n3
 have hT : Top (D (V b * 2 ^ s)) m := by unfold Top; rw [V_D]; exact n2
 have e1 : V a * 2 ^ s / (V b * 2 ^ s) = V a / V b := Nat.mul_div_mul_right _ _ (zh s)
 have e2 : V a * 2 ^ s % (V b * 2 ^ s) / 2 ^ s = V a % V b := by rw [Nat.mul_mod_mul_right, Nat.mul_div_cancel _ (zh s)]
 have hu : V (D (V a * 2 ^ s) ++ List.replicate (a.length + 1 - (D (V a * 2 ^ s)).length) 0) = V a * 2 ^ s := zfl (a.length + 1) (V a * 2 ^ s)
 have main := zhE (v := D (V b * 2 ^ s)) (m := m) (N := a.length + 1) (s := s) (W := V a * 2 ^ s) (zW _) lY (by omega) (by omega) (by omega) hT (M := 4294967296 ^ (m + 2)) rfl (by rw [V_D]; exact n1) (a.length - (m + 1)) 0 (D (V a * 2 ^ s) ++ List.replicate (a.length + 1 - (D (V a * 2 ^ s)).length) 0) [] (by omega) (by rw [List.length_append, List.length_replicate]; omega) ((zW _).app (Dg.zeros _)) Dg.nil (by rw [List.length_nil]; omega) rfl ⟨by rw [hu]; omega, by rw [hu, V_D]; exact n4⟩
 rw [V_D, e1, e2, List.append_nil] at main
 clear n1 n2 n3 n4 hlo hhi hT e1 e2 hu hs32
 unfold z7.f
 have e3 : wrap64 ((b.length : Int) - 1) = ((m + 1 : Nat) : Int) := by unfold wrap64; omega
 simp only [e3, hrd]
 clear e3
 (repeat (first | with_reducible refine ep ?_ | with_reducible refine en ?_))
 refine Ev.bind hlz ?_
 rw [← hs]
 refine Ev.bind hup1 (Ev.bind hup2 ?_)
 refine zhD (s : Int) (by omega) (a.length + 1 - (D (V a * 2 ^ s)).length) _ (by omega) (by omega) ?_
 have e4 : a.length + 1 - (m + 2) = a.length - (m + 1) := by omega
 rw [lY, e4]
 exact main
def zf3 (m n : Nat) : List Int × List Int × Int := if n = 0 then ([], [], 11) else (D (m / n), D (m % n), 0)
theorem zg5 {m n : Nat} : (zaD m n < 0) ↔ m < n := by
 have := zfy (m := m) (n := n)
 constructor <;> intro h <;> omega
theorem zjz {a b : List Int} (ha : Nm a) (hb : Nm b) (h : V b ≤ V a) : b.length ≤ a.length := by
 have h1 := zbt (Nat.lt_of_le_of_lt h (zaf ha.dg))
 rwa [hb] at h1
theorem zlr {a b : List Int} (ha : Nm a) (hb : Nm b) (la : a.length ≤ 4096) (lb : b.length ≤ 4096) : Ev (fun k => zcy.f k a b) (zf3 (V a) (V b)) := by
 have hall := zgP ha.dg hb.dg (by omega) (by omega)
 rw [zbP.2 ⟨la, ha⟩, zbP.2 ⟨lb, hb⟩] at hall
 unfold zcy.f zf3
 refine Ev.bind hall ?_
 (repeat (first | with_reducible refine ep ?_ | with_reducible refine en ?_))
 by_cases h0 : b = []
 ·subst h0
  (repeat (first | with_reducible refine ep ?_ | with_reducible refine en ?_))
  exact zg (Ev.now _) (by simp)
 have hb0 := zjO hb h0
 have hlp : 0 < b.length := List.length_pos_iff.2 h0
 rw [if_neg hb0]
 (repeat (first | with_reducible refine ep ?_ | with_reducible refine en ?_))
 refine Ev.bind (zlt ha hb (by omega)) ?_
 (repeat (first | with_reducible refine ep ?_ | with_reducible refine en ?_))
 by_cases hc : V a < V b
 ·refine zd (zg5.2 hc) ?_
  (repeat (first | with_reducible refine ep ?_ | with_reducible refine en ?_))
  refine zg (Ev.now _) ?_
  rw [Nat.div_eq_of_lt hc, Nat.mod_eq_of_lt hc, zC, ha]
 refine ze (fun h => hc (zg5.1 h)) ?_
 by_cases h1 : b.length = 1
 ·obtain ⟨d, rfl⟩ := List.length_eq_one_iff.1 h1
  have hd := hb.dg.head
  have hdne : d ≠ 0 := by simp at hb0; omega
  have h4 : rd [d] 0 = d := by simp [rd]
  have h5 : V [d] = d.toNat := by simp
  rw [h4, h5]
  (repeat (first | with_reducible refine ep ?_ | with_reducible refine en ?_))
  refine Ev.bind (zlv ha.dg (by omega) (d := d) (by omega)) ?_
  (repeat (first | with_reducible refine ep ?_ | with_reducible refine en ?_))
  have hm : V a % d.toNat < d.toNat := Nat.mod_lt _ (by omega)
  refine Ev.bind (zb9 (Dg.cons nn (zdZ (by omega)) Dg.nil) (by simp)) ?_
  (repeat (first | with_reducible refine ep ?_ | with_reducible refine en ?_))
  refine zg (Ev.now _) ?_
  simp only [zt, zaa, Int.toNat_natCast, Nat.mul_zero, Nat.add_zero]
 ·(repeat (first | with_reducible refine ep ?_ | with_reducible refine en ?_))
  refine Ev.bind (zlu ha hb la (zjz ha hb (by omega)) (by omega)) ?_
  (repeat (first | with_reducible refine ep ?_ | with_reducible refine en ?_))
  refine Ev.now _
theorem zeX (a b : Int) : mx a b = max a b := by unfold mx; split <;> omega
theorem zdt {l : List Int} (h : Nm l) (hb : l.length ≤ 4096) : Ev (fun k => zay.f k l) ((bl (V l) : Nat) : Int) := by
 unfold zay.f
 refine zl (zcw h.dg (by omega)) ?_
 rw [zbP.2 ⟨hb, h⟩]
 (repeat (first | with_reducible refine ep ?_ | with_reducible refine en ?_))
 by_cases c : l.length = 0
 ·have : l = [] := List.eq_nil_of_length_eq_zero c
  subst this
  (repeat (first | with_reducible refine ep ?_ | with_reducible refine en ?_))
  exact zg (Ev.now _) rfl
 ·have e : wrap64 ((l.length : Int) - 1) = ((l.length - 1 : Nat) : Int) := by unfold wrap64; omega
  rw [e]
  clear e
  have hd := h.dg.getD (l.length - 1)
  have hne : l ≠ [] := fun e => c (by rw [e]; rfl)
  rw [rdn]
  (repeat (first | with_reducible refine ep ?_ | with_reducible refine en ?_))
  refine Ev.bind (zhw hd) (zg (Ev.now _) ?_)
  rw [zgS h hne]
  generalize l.getD (l.length - 1) 0 = x at hd
  have hbn : bl x.toNat ≤ 32 := zI (by omega)
  unfold wrap64
  omega
def zaq (n b : Nat) : Prop := ∃ m, n = 2 ^ b * (2 * m + 1)
theorem zaq.ne {n b : Nat} (h : zaq n b) : n ≠ 0 := by
 obtain ⟨m, h⟩ := h
 have := Nat.mul_pos (zh b) (show 0 < 2 * m + 1 by omega)
 omega
theorem zaq.le {n b : Nat} (h : zaq n b) : 2 ^ b ≤ n := by
 obtain ⟨m, h⟩ := h
 rw [h]; exact Nat.le_mul_of_pos_right _ (by omega)
theorem zaq.mod {n b k : Nat} (h : zaq n b) : n % 2 ^ k = 0 ↔ k ≤ b := by
 obtain ⟨m, h⟩ := h
 constructor
 ·intro hk
  rcases Nat.lt_or_ge b k with h1 | h1
  ·exfalso
   obtain ⟨d, rfl⟩ := Nat.exists_eq_add_of_lt h1
   have hd : 2 ^ (b + d + 1) ∣ 2 ^ b * (2 * m + 1) := by rw [← h]; exact Nat.dvd_of_mod_eq_zero hk
   rw [Nat.add_assoc, Nat.pow_add] at hd
   have h2 := Nat.dvd_of_mul_dvd_mul_left (zh b) hd
   rw [Nat.pow_succ] at h2
   have h3 : 2 ∣ 2 * m + 1 := Nat.dvd_trans (Nat.dvd_mul_left 2 _) h2
   omega
  ·exact h1
 ·intro hk
  obtain ⟨d, rfl⟩ := Nat.exists_eq_add_of_le hk
  rw [h, Nat.pow_add, Nat.mul_assoc]
  exact Nat.mul_mod_right _ _
theorem zaq.unique {n b c : Nat} (h : zaq n b) (k : zaq n c) : b = c := by
 have h1 := (h.mod (k := b)).2 (Nat.le_refl _)
 have h2 := (k.mod (k := c)).2 (Nat.le_refl _)
 have h3 := k.mod.1 h1
 have h4 := h.mod.1 h2
 omega
theorem zkV {n b : Nat} (h : n % 2 ^ b = 0) (k : n / 2 ^ b % 2 = 1) : zaq n b :=
 ⟨n / 2 ^ b / 2, by
  have h1 := Nat.div_add_mod n (2 ^ b)
  rw [h, Nat.add_zero] at h1
  have h2 : 2 * (n / 2 ^ b / 2) + 1 = n / 2 ^ b := by omega
  rw [h2, h1]⟩
theorem zhv {n b k : Nat} (h : zaq n b) : zaq (n * 2 ^ k) (b + k) := by
 obtain ⟨m, h⟩ := h
 exact ⟨m, by rw [h, Nat.pow_add, Nat.mul_assoc, Nat.mul_comm (2 * m + 1), ← Nat.mul_assoc]⟩
theorem zkW {x : Nat} (h : x ≠ 0) (hx : x < 4294967296) : zaq x (Lib.ctz 32 x) ∧ Lib.ctz 32 x < 32 := by
 obtain ⟨m, h1, h2⟩ := Lib.ctzFrom_spec 32 x (by omega) hx
 unfold Lib.ctz
 rw [if_neg h]
 exact ⟨⟨m, h1⟩, h2⟩
theorem zkU {x r b : Nat} (h : zaq x b) (hb : b < 32) : zaq (x + 4294967296 * r) b := by
 obtain ⟨m, h⟩ := h
 obtain ⟨d, hd⟩ : ∃ d, 32 = b + (d + 1) := ⟨31 - b, by omega⟩
 have e : 4294967296 = 2 ^ b * (2 ^ d * 2) := by
  rw [← Nat.pow_succ, ← Nat.pow_add, Nat.succ_eq_add_one, ← hd]
 have e2 : 2 ^ b * (2 ^ d * 2) * r = 2 ^ b * (2 * (2 ^ d * r)) := by
  rw [Nat.mul_assoc, Nat.mul_comm (2 ^ d) 2, Nat.mul_assoc]
 refine ⟨m + 2 ^ d * r, ?_⟩
 rw [h, e, e2, ← Nat.mul_add]
 congr 1
 omega
def lw (n : Nat) : Nat := if n = 0 then 0 else Lib.ctzFrom n n
theorem zbO {n : Nat} (h : n ≠ 0) : zaq n (lw n) := by
 obtain ⟨m, h1, _⟩ := Lib.ctzFrom_spec n n (by omega) Nat.lt_two_pow_self
 unfold lw
 rw [if_neg h]
 exact ⟨m, h1⟩
theorem zd0 {n b : Nat} (h : zaq n b) : lw n = b := (zbO h.ne).unique h
theorem zm4 {x : Int} (h : 0 ≤ x ∧ x < 4294967296) : zaY.f x = some ((Lib.ctz 32 x.toNat : Nat) : Int) := by
 unfold zaY.f
 rw [if_pos h]
theorem znf {i b : Nat} (hi : i < 1000000) (hb : b < 32) : wrap64 (wrap64 (32 * (i : Int)) + (b : Int)) = ((b + 32 * i : Nat) : Int) := by unfold wrap64; omega
theorem zhR (A : List Int) (hA : Dg A) (hl : A.length < 1000000) : ∀ (a pa : List Int), A = pa ++ a → V pa = 0 → Ev (fun k => zaU.l0 k A A.length pa.length) ((lw (V A) : Nat) : Int)
 | [], pa, he, hv => by
  have hlen : A.length = pa.length := by rw [he]; simp
  refine zf ?_
  simp only [zaU.l0]
  (repeat (first | with_reducible refine ep ?_ | with_reducible refine en ?_))
  refine zg (Ev.now _) ?_
  have : V A = 0 := by rw [he, List.append_nil, hv]
  rw [this]; rfl
 | d :: a, pa, he, hv => by
  have hlen : A.length = pa.length + 1 + a.length := by rw [he]; simp; omega
  have hdd : 0 ≤ d ∧ d < 4294967296 := by rw [he] at hA; exact hA.right.head
  have h1 : rd A (pa.length : Int) = d := by rw [he]; exact zU rfl
  refine zf ?_
  simp only [zaU.l0, h1, zK (n := pa.length) (by omega)]
  (repeat (first | with_reducible refine ep ?_ | with_reducible refine en ?_))
  by_cases h0 : d = 0
  ·refine ze (fun h => h h0) ?_
   have := zhR A hA hl a (pa ++ [0]) (by rw [he, h0]; simp) (by rw [zfp, hv])
   rwa [@List.length_append _ pa, List.length_singleton] at this
  ·refine zd h0 ?_
   refine zl (zm4 hdd) ?_
   (repeat (first | with_reducible refine ep ?_ | with_reducible refine en ?_))
   refine zg (Ev.now _) ?_
   have hz := zkW (x := d.toNat) (by omega) (by omega)
   have e : V A = (d.toNat + 4294967296 * V a) * 2 ^ (32 * pa.length) := by
    rw [he, zaj, hv, zt, Nat.zero_add, Nat.mul_comm, Nat.pow_mul]
   rw [e, zd0 (zhv (zkU hz.1 hz.2)), znf (by omega) hz.2]
theorem zhO {a : List Int} (ha : Nm a) (la : a.length ≤ 4096) : Ev (fun k => zaU.f k a) ((lw (V a) : Nat) : Int) := by
 unfold zaU.f
 refine zl (zcw ha.dg (by omega)) ?_
 rw [zbP.2 ⟨la, ha⟩]
 (repeat (first | with_reducible refine ep ?_ | with_reducible refine en ?_))
 exact zhR a ha.dg (by omega) a [] rfl rfl
theorem zgH {l : List Int} (h : Dg l) (q : Nat) : V l / 4294967296 ^ q % 4294967296 = (l.getD q 0).toNat := by
 have h1 := zdJ (l.drop q)
 rw [zfD, zcM h] at h1
 have h2 := h.getD q
 rw [h1, Nat.add_mul_mod_self_left, Nat.mod_eq_of_lt (by omega)]
theorem zln {n i : Nat} (h : n % 2 ^ i = 0) (k : n / 2 ^ i % 2 = 0) : n % 2 ^ (i + 1) = 0 := by
 rw [Nat.pow_succ, Nat.mod_mul, h, k, Nat.mul_zero]
theorem zlm {n q : Nat} (h : n % 2 ^ (32 * q) = 0) (k : n / 4294967296 ^ q % 4294967296 = 0) : n % 2 ^ (32 * q + 32) = 0 := by
 have e : 2 ^ (32 * q + 32) = 2 ^ (32 * q) * 4294967296 := by rw [Nat.pow_add]
 have e2 : 4294967296 ^ q = 2 ^ (32 * q) := by rw [Nat.pow_mul]
 rw [e, Nat.mod_mul, h, ← e2, k, Nat.mul_zero]
theorem zml {l : List Int} (h : Dg l) {i : Nat} (hi : i = 32 * l.length) (hm : V l % 2 ^ i = 0) : V l = 0 := by
 have hv := zaf h
 have e2 : 4294967296 ^ l.length = 2 ^ (32 * l.length) := by rw [Nat.pow_mul]
 rw [e2, ← hi] at hv
 rwa [Nat.mod_eq_of_lt hv] at hm
theorem zkx {i m : Nat} (h : i < 32 * m) : ((i / 32 : Nat) : Int) < (m : Int) := by omega
theorem ziR {i : Nat} (h : i < 100000000000) : wrap64 ((i : Int) + 1) = ((i + 1 : Nat) : Int) ∧ wrap64 ((i : Int) + 32) = ((i + 32 : Nat) : Int) := by unfold wrap64; omega
theorem zmm {l : List Int} (h : Dg l) (hl : l.length < 1000000000) (n : Nat) : ∀ (i : Nat), 32 * l.length - i ≤ n → i ≤ 32 * l.length → V l % 2 ^ i = 0 → (i % 32 = 0 ∨ l.getD (i / 32) 0 ≠ 0) → Ev (fun k => zaQ.l0 k l i) ((lw (V l) : Nat) : Int) := by
 induction n using Nat.strongRecOn with
 | _ n ih =>
  intro i hn hi hm hd
  have e32 : wrap64 (32 * (l.length : Int)) = ((32 * l.length : Nat) : Int) := by unfold wrap64; omega
  refine zf ?_
  simp only [zaQ.l0, e32]
  by_cases hlt : i < 32 * l.length
  ·have hb := zma h hl i (by clear hm hd; omega)
   refine zd (by clear hm hd; omega) ?_
   refine zl hb ?_
   have hi9 : i < 100000000000 := by clear hm hd; omega
   have hn1 : 32 * l.length - (i + 1) < n := by clear hm hd; omega
   have hn32 : 32 * l.length - (i + 32) < n := by clear hm hd; omega
   have hi1 : i + 1 ≤ 32 * l.length := hlt
   have hi32 : i % 32 = 0 → i + 32 ≤ 32 * l.length := by clear hm hd; omega
   have hne : i ≠ 32 * l.length := by clear hm hd; omega
   have et : wrap64 (Int.tdiv (i : Int) 32) = ((i / 32 : Nat) : Int) := t32 (by clear hm hd; omega)
   have hdv := zkx hlt
   simp only [et, rdn]
   rw [(ziR hi9).1, (ziR hi9).2]
   clear et e32
   rcases Nat.mod_two_eq_zero_or_one (V l / 2 ^ i) with hz | hz
   ·rw [hz]
    refine zd rfl (zd nn (zd hdv ?_))
    by_cases h0 : l.getD (i / 32) 0 = 0
    ·have hi0 : i % 32 = 0 := hd.resolve_right (fun h => h h0)
     have hi33 := hi32 hi0
     obtain ⟨q, hq0⟩ : ∃ q, i = 32 * q := ⟨i / 32, by clear hm hd hz; omega⟩
     subst hq0
     have hq : 32 * q / 32 = q := by clear hm hd hz; omega
     rw [hq] at h0
     rw [hq]
     refine zd h0 ?_
     refine ih _ hn32 (32 * q + 32) (Nat.le_refl _) hi33 (zlm hm ?_) (.inl ?_)
     ·rw [zgH h, h0]; rfl
     ·clear hm hd hz; omega
    ·refine ze h0 ?_
     refine ih _ hn1 (i + 1) (Nat.le_refl _) hi1 (zln hm hz) ?_
     clear hm hd hz
     rcases Nat.eq_zero_or_pos ((i + 1) % 32) with h1 | h1
     ·exact .inl h1
     ·have : (i + 1) / 32 = i / 32 := by omega
      rw [this]; exact .inr h0
   ·rw [hz]
    refine ze (by decide) ?_
    refine ze (fun e => hne (Int.ofNat.inj e)) ?_
    refine zg (Ev.now _) ?_
    rw [zd0 (zkV hm hz)]
  ·have hi2 : i = 32 * l.length := by clear hm hd; omega
   refine ze (by clear hm hd; omega) ?_
   refine zd (by rw [hi2]) ?_
   refine zg (Ev.now _) ?_
   rw [zml h hi2 hm]; rfl
theorem zit {l : List Int} (h : Dg l) (hl : l.length < 1000000000) : Ev (fun k => zaQ.f k l) ((lw (V l) : Nat) : Int) := by
 unfold zaQ.f
 exact zmm h hl _ 0 (Nat.le_refl _) (by omega) (by rw [Nat.pow_zero, Nat.mod_one]) (.inl rfl)
theorem zhG {n k : Nat} (h : n ≠ 0) : k > lw n ↔ n % 2 ^ k ≠ 0 := by
 have := (zbO h).mod (k := k)
 constructor
 ·intro h1 h2; have := this.1 h2; omega
 ·intro h1; rcases Nat.lt_or_ge (lw n) k with h2 | h2
  ·exact h2
  ·exact absurd (this.2 h2) h1
theorem zmd {a : List Int} (ha : Nm a) (la : a.length < 100000000) (n : Nat) (hn : n < 1000000000) : Ev (fun k => za1.f k a n) (D (V a / 2 ^ n), decide (V a % 2 ^ n ≠ 0)) := by
 unfold za1.f
 have hlt := zZ (V a)
 by_cases h : n ≥ bl (V a)
 ·have hp : V a < 2 ^ n := Nat.lt_of_lt_of_le hlt (Nat.pow_le_pow_right (by omega) h)
  refine Ev.bind (zf9 ha (by omega)) ?_
  (repeat (first | with_reducible refine ep ?_ | with_reducible refine en ?_))
  refine zg (Ev.now _) ?_
  rw [Nat.div_eq_of_lt hp, zC, Nat.mod_eq_of_lt hp]
  congr 1
  refine decide_eq_decide.2 ?_
  have := zcN ha
  have hl : a.length = 0 ↔ a = [] := List.length_eq_zero_iff
  constructor
  ·intro h1 h2; have := hl.2 (this.1 h2); omega
  ·intro h1
   rcases Nat.eq_zero_or_pos a.length with h3 | h3
   ·exact absurd (this.2 (hl.1 h3)) h1
   ·omega
 ·have h0 : V a ≠ 0 := by
   intro h0; rw [h0, za0] at h; omega
  refine Ev.bind (zf9 ha (by omega)) ?_
  (repeat (first | with_reducible refine ep ?_ | with_reducible refine en ?_))
  refine Ev.bind (zit ha.dg (by omega)) ?_
  (repeat (first | with_reducible refine ep ?_ | with_reducible refine en ?_))
  have hd : decide ((n : Int) > ((lw (V a) : Nat) : Int)) = decide (V a % 2 ^ n ≠ 0) := decide_eq_decide.2 (by rw [← zhG h0]; omega)
  rw [hd]
  simp only [t32 (n := n) (by omega), m32]
  have hbl := zcj ha.dg
  have hq : n / 32 ≤ a.length := by omega
  have h1 := zip a ha.dg (by omega) (decide (V a % 2 ^ n ≠ 0)) (s := n % 32) (by omega) (a.drop (n / 32)) [] (a.take (n / 32)) (by simp) (by simp; omega) Dg.nil
  rw [List.length_take, Nat.min_eq_left hq, List.nil_append, zhl ha.dg] at h1
  exact h1
def zcB (v : Nat) (n : Int) : List Int × Bool × Int :=
 if v = 0 then ([], false, 0) else if n < -131072 then ([], true, 0) else if n < 0 then (D (v / 2 ^ (-n).toNat), decide (v % 2 ^ (-n).toNat ≠ 0), 0) else if n > 131072 - (bl v : Int) then ([], false, 3) else (D (v * 2 ^ n.toNat), false, 0)
theorem ze0 {a : List Int} (ha : Nm a) (la : a.length ≤ 4096) (n : Int) : Ev (fun k => zaz.f k a n) (zcB (V a) n) := by
 unfold zaz.f zcB
 refine zl (zcw ha.dg (by omega)) ?_
 rw [zbP.2 ⟨la, ha⟩]
 (repeat (first | with_reducible refine ep ?_ | with_reducible refine en ?_))
 by_cases c : a = []
 ·subst c
  (repeat (first | with_reducible refine ep ?_ | with_reducible refine en ?_))
  exact zg (Ev.now _) (by simp)
 have h0 : V a ≠ 0 := fun h => c ((zcN ha).1 h)
 have hl : a.length ≠ 0 := fun h => c (List.eq_nil_of_length_eq_zero h)
 have hbl := zcj ha.dg
 rw [if_neg h0]
 (repeat (first | with_reducible refine ep ?_ | with_reducible refine en ?_))
 by_cases h1 : n < -131072
 ·rw [if_pos h1]; exact zd h1 (Ev.now _)
 rw [if_neg h1]
 refine ze h1 ?_
 by_cases h2 : n < 0
 ·rw [if_pos h2]
  have e : wrap64 (-n) = (((-n).toNat : Nat) : Int) := by unfold wrap64; omega
  rw [e]
  clear e
  have hm : (-n).toNat ≤ 131072 := by omega
  generalize (-n).toNat = m at *
  refine zd h2 ?_
  refine Ev.bind (zhQ ha.dg (by omega) m (by omega)) ?_
  (repeat (first | with_reducible refine ep ?_ | with_reducible refine en ?_))
  refine Ev.bind (zhO ha la) ?_
  (repeat (first | with_reducible refine ep ?_ | with_reducible refine en ?_))
  refine zg (Ev.now _) ?_
  congr 2
  exact decide_eq_decide.2 (by rw [← zhG h0]; omega)
 ·rw [if_neg h2]
  have e : wrap64 (131072 - ((bl (V a) : Nat) : Int)) = 131072 - ((bl (V a) : Nat) : Int) := by unfold wrap64; omega
  refine ze h2 ?_
  refine Ev.bind (zdt ha la) ?_
  (repeat (first | with_reducible refine ep ?_ | with_reducible refine en ?_))
  rw [e]
  clear e
  by_cases h3 : n > 131072 - ((bl (V a) : Nat) : Int)
  ·rw [if_pos h3]; exact zd h3 (Ev.now _)
  ·rw [if_neg h3]
   obtain ⟨m, rfl⟩ := Int.eq_ofNat_of_zero_le (show 0 ≤ n by omega)
   refine ze h3 ?_
   refine Ev.bind (zfW ha.dg (by omega) m (by omega)) ?_
   (repeat (first | with_reducible refine ep ?_ | with_reducible refine en ?_))
   refine zg (Ev.now _) ?_
   rw [Int.toNat_natCast]
theorem zaT {x k : Nat} (h : bl x ≤ 32 * k) : (D x).length ≤ k := by
 refine zbt ?_
 have e : 4294967296 ^ k = 2 ^ (32 * k) := by rw [Nat.pow_mul]
 rw [e]
 exact Nat.lt_of_lt_of_le (zZ x) (Nat.pow_le_pow_right (by omega) h)
theorem zfu (v m : Nat) : bl (v * 2 ^ m) ≤ bl v + m := by
 refine zI ?_
 rw [Nat.pow_add]
 exact Nat.mul_lt_mul_of_pos_right (zZ v) (zh m)
theorem zaZ {v : Nat} (h : v ≠ 0) (m : Nat) : bl (v * 2 ^ m) = bl v + m := by
 rw [zb1 (n := v * 2 ^ m) (k := m) (Nat.le_mul_of_pos_left _ (by omega)), Nat.mul_div_cancel _ (zh m), Nat.add_comm]
theorem zbG (v m : Nat) : bl (v / 2 ^ m) = bl v - m := by
 rcases Nat.lt_or_ge v (2 ^ m) with h | h
 ·rw [Nat.div_eq_of_lt h, za0]
  have := zI h
  omega
 ·rw [zb1 h]; omega
theorem zgk {v m : Nat} (h : bl v + m ≤ 131072) : zcB v (m : Int) = (D (v * 2 ^ m), false, 0) := by
 unfold zcB
 by_cases hv : v = 0
 ·rw [if_pos hv, hv, Nat.zero_mul, zC]
 ·rw [if_neg hv, if_neg (by omega), if_neg (by omega), if_neg (by omega), Int.toNat_natCast]
theorem zgj {v m : Nat} (h : bl v ≤ 131072) (hm : m ≤ 131072) : zcB v (-(m : Int)) = (D (v / 2 ^ m), decide (v % 2 ^ m ≠ 0), 0) := by
 by_cases hv : v = 0
 ·unfold zcB
  rw [if_pos hv, hv, Nat.zero_div, Nat.zero_mod, zC]; rfl
 rcases Nat.eq_zero_or_pos m with h0 | h0
 ·subst h0
  have e := zgk (v := v) (m := 0) (by omega)
  rw [Nat.pow_zero, Nat.mul_one] at e
  rw [Nat.pow_zero, Nat.div_one, Nat.mod_one]
  exact e
 ·unfold zcB
  have e : (-(-(m : Int))).toNat = m := by omega
  rw [if_neg hv, if_neg (by omega), if_pos (by omega), e]
theorem zkZ {a b L M : Nat} (ha : (D a).length ≤ L) (hb : (D b).length ≤ M) : (D (a * b)).length ≤ L + M := by
 refine zbt ?_
 rw [Nat.pow_add]
 exact Nat.mul_lt_mul'' (Nat.lt_of_lt_of_le (zbN a) (Nat.pow_le_pow_right (by omega) ha)) (Nat.lt_of_lt_of_le (zbN b) (Nat.pow_le_pow_right (by omega) hb))
theorem zmP {q x Q X N : Nat} (hq : q < 4294967296 ^ Q) (hx : x < 4294967296 ^ X) (h1 : Q < N) (h2 : X < N) : q + x < 4294967296 ^ N := by
 obtain ⟨m, rfl⟩ := Nat.exists_eq_add_of_lt (show 0 < N by omega)
 have a : 4294967296 ^ Q ≤ 4294967296 ^ m := Nat.pow_le_pow_right (by omega) (by omega)
 have b : 4294967296 ^ X ≤ 4294967296 ^ m := Nat.pow_le_pow_right (by omega) (by omega)
 rw [Nat.zero_add, Nat.pow_succ]
 generalize 4294967296 ^ m = p at *
 omega
def sv (s : Bool) (n : Nat) : Int := if s = true then -(n : Int) else n
theorem zah (s : Bool) (n : Nat) : (sv s n).natAbs = n := by unfold sv; split <;> simp
theorem zce {s : Bool} {n : Nat} : sv s n = 0 ↔ n = 0 := by unfold sv; split <;> omega
theorem zdx {s : Bool} {n : Nat} (h : n ≠ 0) : decide (sv s n < 0) = s := by
 unfold sv
 cases s
 ·exact decide_eq_false (by simp)
 ·exact decide_eq_true (by simp; omega)
theorem zbB (s : Bool) : sv s 0 = 0 := by unfold sv; split <;> rfl
def mk (z e : Int) : Bool × List Int × Int := if z = 0 then (false, [], 0) else (decide (z < 0), D (z.natAbs / 2 ^ lw z.natAbs), e + (lw z.natAbs : Nat))
theorem zhK (e : Int) : mk 0 e = (false, [], 0) := rfl
theorem zhH {n : Nat} (h : n ≠ 0) (k : Nat) : lw (n * 2 ^ k) = lw n + k := zd0 (zhv (zbO h))
theorem zdr (z e : Int) (k : Nat) : mk (z * 2 ^ k) e = mk z (e + k) := by
 unfold mk
 by_cases h : z = 0
 ·subst h; simp
 ·have hp : (0 : Int) < 2 ^ k := Int.pow_pos (by omega)
  have h1 : z * 2 ^ k ≠ 0 := Int.mul_ne_zero h (by omega)
  have hn : z.natAbs ≠ 0 := by omega
  have h2 : (z * 2 ^ k).natAbs = z.natAbs * 2 ^ k := by rw [Int.natAbs_mul, Int.natAbs_pow]; rfl
  have h3 : decide (z * 2 ^ k < 0) = decide (z < 0) := decide_eq_decide.2 (by
   constructor
   ·intro h4
    rcases (show z < 0 ∨ 0 ≤ z by omega) with h5 | h5
    ·exact h5
    ·have := Int.mul_nonneg h5 (Int.le_of_lt hp); omega
   ·intro h4; exact Int.mul_neg_of_neg_of_pos h4 hp)
  rw [if_neg h, if_neg h1, h2, h3, zhH hn]
  have h4 : z.natAbs * 2 ^ k / 2 ^ (lw z.natAbs + k) = z.natAbs / 2 ^ lw z.natAbs := by
   rw [Nat.pow_add]; exact Nat.mul_div_mul_right _ _ (zh k)
  rw [h4]
  congr 2
  omega
structure Dy (s : Bool) (l : List Int) (e : Int) : Prop where
 nm : Nm l
 none : l = [] → s = false ∧ e = 0
 odd : l ≠ [] → V l % 2 = 1
theorem zfN {n : Nat} (h : n % 2 = 1) : lw n = 0 := zd0 ⟨n / 2, by rw [Nat.pow_zero, Nat.one_mul]; omega⟩
theorem zhJ {s : Bool} {l : List Int} {e : Int} (h : Dy s l e) : mk (sv s (V l)) e = (s, l, e) := by
 unfold mk
 by_cases c : l = []
 ·obtain ⟨h1, h2⟩ := h.none c
  subst c; subst h1; subst h2
  rfl
 ·have h1 := h.odd c
  have h0 : V l ≠ 0 := by omega
  rw [if_neg (fun h => h0 (zce.1 h)), zah, zdx h0, zfN h1, Nat.pow_zero, Nat.div_one, h.nm]
  simp
theorem zbY (z e : Int) : Dy (mk z e).1 (mk z e).2.1 (mk z e).2.2 := by
 unfold mk
 by_cases h : z = 0
 ·rw [if_pos h]; exact ⟨zcL, fun _ => ⟨rfl, rfl⟩, fun h => absurd rfl h⟩
 ·rw [if_neg h]
  obtain ⟨m, hm⟩ := zbO (n := z.natAbs) (by omega)
  have h1 : z.natAbs / 2 ^ lw z.natAbs = 2 * m + 1 := by
   have : z.natAbs / 2 ^ lw z.natAbs = 2 ^ lw z.natAbs * (2 * m + 1) / 2 ^ lw z.natAbs := by rw [← hm]
   rw [this, Nat.mul_div_cancel_left _ (zh _)]
  have h2 : D (z.natAbs / 2 ^ lw z.natAbs) ≠ [] := by rw [h1, zc9 (by omega)]; simp
  exact ⟨zG _, fun h => absurd h h2, fun _ => by show V (D _) % 2 = 1; rw [V_D, h1]; omega⟩
theorem zcU (s : Bool) {n : Nat} (h : n ≠ 0) (e : Int) : mk (sv s n) e = (s, D (n / 2 ^ lw n), e + (lw n : Nat)) := by
 unfold mk
 rw [if_neg (fun h2 => h (zce.1 h2)), zah, zdx h]
theorem zdp {n : Nat} (h : n ≠ 0) : lw n < bl n := by
 have h1 := (zbO h).le
 rcases Nat.lt_or_ge (lw n) (bl n) with h2 | h2
 ·exact h2
 ·have h3 := zZ n
  have h4 : 2 ^ bl n ≤ 2 ^ lw n := Nat.pow_le_pow_right (by omega) h2
  omega
theorem zbR {l : List Int} : (l.length : Int) = 0 ↔ l = [] := by
 constructor
 ·intro h; exact List.eq_nil_of_length_eq_zero (by omega)
 ·intro h; rw [h]; rfl
theorem zgx {e : Int} {b : Nat} (h1 : -1000000000000000 ≤ e) (h2 : e ≤ 1000000000000000) (hb : b < 100000000000) : wrap64 (e + (b : Int)) = e + (b : Int) := by unfold wrap64; omega
theorem zcZ (s : Bool) {l : List Int} (hl : Nm l) (ll : l.length < 10000000) {e : Int} (h1 : -1000000000000000 ≤ e) (h2 : e ≤ 1000000000000000) : Ev (fun k => zat.f k s l e) (mk (sv s (V l)) e) := by
 unfold zat.f
 by_cases c : l = []
 ·subst c
  (repeat (first | with_reducible refine ep ?_ | with_reducible refine en ?_))
  exact zg (Ev.now _) (by rw [zaa, zbB]; rfl)
 ·have h0 : V l ≠ 0 := fun h => c ((zcN hl).1 h)
  have hb := zcj hl.dg
  have hw := zdp h0
  refine ze (fun h => c (zbR.1 h)) ?_
  refine Ev.bind (zit hl.dg (by omega)) ?_
  (repeat (first | with_reducible refine ep ?_ | with_reducible refine en ?_))
  refine Ev.bind (zmd hl (by omega) (lw (V l)) (by omega)) ?_
  (repeat (first | with_reducible refine ep ?_ | with_reducible refine en ?_))
  refine zg (Ev.now _) ?_
  rw [zcU s h0, zgx h1 h2 (by omega)]
def zd1 (s : Bool) (n : Nat) (e : Int) : Bool × List Int × Int × Int :=
 if n = 0 then (false, [], 0, 0) else if e > 16777216 - (lw n : Nat) then (false, [], 0, 20) else if e < -16777216 - (lw n : Nat) then (false, [], 0, 20) else ((mk (sv s n) e).1, (mk (sv s n) e).2.1, (mk (sv s n) e).2.2, 0)
theorem zdn (s : Bool) {l : List Int} (hl : Nm l) (ll : l.length ≤ 4096) (e : Int) : Ev (fun k => zaF.f k s l e) (zd1 s (V l) e) := by
 unfold zaF.f zd1
 refine zl (zcw hl.dg (by omega)) ?_
 rw [zbP.2 ⟨ll, hl⟩]
 (repeat (first | with_reducible refine ep ?_ | with_reducible refine en ?_))
 by_cases c : l = []
 ·subst c
  (repeat (first | with_reducible refine ep ?_ | with_reducible refine en ?_))
  exact zg (Ev.now _) (by rw [zaa, if_pos rfl])
 ·have h0 : V l ≠ 0 := fun h => c ((zcN hl).1 h)
  have hb := zcj hl.dg
  have hw := zdp h0
  rw [if_neg h0]
  refine ze (fun h => c (zbR.1 h)) ?_
  refine Ev.bind (zhO hl ll) ?_
  (repeat (first | with_reducible refine ep ?_ | with_reducible refine en ?_))
  have e1 : wrap64 (16777216 - ((lw (V l) : Nat) : Int)) = 16777216 - ((lw (V l) : Nat) : Int) := by unfold wrap64; omega
  have e2 : wrap64 (-16777216 - ((lw (V l) : Nat) : Int)) = -16777216 - ((lw (V l) : Nat) : Int) := by unfold wrap64; omega
  have e3 : wrap64 (-((lw (V l) : Nat) : Int)) = -((lw (V l) : Nat) : Int) := by unfold wrap64; omega
  rw [e1, e2, e3]
  clear e1 e2 e3
  by_cases h1 : e > 16777216 - ((lw (V l) : Nat) : Int)
  ·rw [if_pos h1]; exact zd h1 (Ev.now _)
  rw [if_neg h1]
  refine ze h1 ?_
  by_cases h2 : e < -16777216 - ((lw (V l) : Nat) : Int)
  ·rw [if_pos h2]; exact zd h2 (Ev.now _)
  rw [if_neg h2]
  have hs := ze0 hl ll (-((lw (V l) : Nat) : Int))
  rw [zgj (by omega) (by omega)] at hs
  refine ze h2 ?_
  refine Ev.bind hs ?_
  (repeat (first | with_reducible refine ep ?_ | with_reducible refine en ?_))
  refine zg (Ev.now _) ?_
  rw [zcU s h0, zgx (by omega) (by omega) (by omega)]
def al (z e m : Int) : Int := z * 2 ^ (e - m).toNat
theorem zfP {z e m : Int} (h : m ≤ e) : mk (al z e m) m = mk z e := by
 unfold al
 rw [zdr]
 congr 1
 omega
theorem zdM (e m : Int) : al 0 e m = 0 := by unfold al; rw [Int.zero_mul]
theorem zey {z e m n : Int} (h1 : m ≤ e) (h2 : n ≤ m) : al (al z e m) m n = al z e n := by
 unfold al
 rw [Int.mul_assoc, ← Int.pow_add]
 congr 2
 omega
theorem zjV (x y e m : Int) : al (x + y) e m = al x e m + al y e m := by unfold al; rw [Int.add_mul]
theorem zfr (s : Bool) (n : Nat) (e m : Int) : al (sv s n) e m = sv s (n * 2 ^ (e - m).toNat) := by
 unfold al sv
 split
 ·rw [Int.neg_mul, Int.natCast_mul, Int.natCast_pow]; rfl
 ·rw [Int.natCast_mul, Int.natCast_pow]; rfl
theorem zmQ (s : Bool) (x y : Nat) : sv s x + sv s y = sv s (x + y) := by unfold sv; split <;> omega
theorem ziY {s t : Bool} (h : s ≠ t) {x y : Nat} (hl : y ≤ x) : sv s x + sv t y = sv s (x - y) := by
 unfold sv
 cases s <;> cases t <;> simp at h ⊢ <;> omega
theorem ziX (s : Bool) (n : Nat) : sv (!s) n = -sv s n := by unfold sv; cases s <;> simp
def zbZ (za ea zb eb : Int) : Bool × List Int × Int := mk (al za ea (min ea eb) + al zb eb (min ea eb)) (min ea eb)
theorem zgN {za ea zb eb m : Int} (h1 : m ≤ ea) (h2 : m ≤ eb) : mk (al za ea m + al zb eb m) m = zbZ za ea zb eb := by
 unfold zbZ
 have h3 : m ≤ min ea eb := by omega
 rw [← zey (z := za) (e := ea) (m := min ea eb) (n := m) (by omega) h3, ← zey (z := zb) (e := eb) (m := min ea eb) (n := m) (by omega) h3, ← zjV]
 exact zfP h3
theorem zjS (ea zb eb : Int) : zbZ 0 ea zb eb = mk zb eb := by
 unfold zbZ; rw [zdM, Int.zero_add]; exact zfP (by omega)
theorem zjT (za ea eb : Int) : zbZ za ea 0 eb = mk za ea := by
 unfold zbZ; rw [zdM, Int.add_zero]; exact zfP (by omega)
theorem zjm {l : List Int} (h : Dg l) {n : Nat} : (D (V l * 2 ^ n)).length ≤ l.length + n / 32 + 1 := by
 refine zaT (Nat.le_trans (zfu _ _) ?_)
 have := zcj h
 omega
theorem zju {e m : Int} (h1 : -1000000000000000 ≤ e) (h2 : e ≤ 1000000000000000) (h3 : -1000000000000000 ≤ m) (h4 : m ≤ e) : wrap64 (e - m) = ((e - m).toNat : Int) := by unfold wrap64; omega
theorem zim {sa sb : Bool} {la lb : List Int} {ea eb m : Int} (na : Nm la) (nb : Nm lb) (ha : la.length ≤ 1000000) (hb : lb.length ≤ 1000000) (h1 : m ≤ ea) (h2 : m ≤ eb) (h3 : (ea - m).toNat ≤ 100000000) (h4 : (eb - m).toNat ≤ 100000000) (hm : -100000000000000 ≤ m) (hM : m ≤ 100000000000000) :
  Ev (fun k => zbk.j2 k sa la ea sb lb eb false [] 0 m) (mk (al (sv sa (V la)) ea m + al (sv sb (V lb)) eb m) m) := by
 refine zf ?_
 simp only [zbk.j2]
 rw [zju (e := ea) (by omega) (by omega) (by omega) h1, zju (e := eb) (by omega) (by omega) (by omega) h2]
 rw [zfr, zfr]
 generalize (ea - m).toNat = p at *
 generalize (eb - m).toNat = q at *
 have l1 := zjm na.dg (n := p)
 have l2 := zjm nb.dg (n := q)
 refine Ev.bind (zix na.dg (by omega) p (by omega)) ?_
 (repeat (first | with_reducible refine ep ?_ | with_reducible refine en ?_))
 refine Ev.bind (zix nb.dg (by omega) q (by omega)) ?_
 (repeat (first | with_reducible refine ep ?_ | with_reducible refine en ?_))
 generalize V la * 2 ^ p = x at *
 generalize V lb * 2 ^ q = y at *
 by_cases hs : sa = sb
 ·subst hs
  have hadd := zl9 (zW x) (zW y) (by omega) (by omega)
  rw [V_D, V_D] at hadd
  have l3 : (D (x + y)).length ≤ la.length + lb.length + p / 32 + q / 32 + 3 := by
   refine zbt ?_
   have h5 := zbN x
   have h6 := zbN y
   refine zmP (N := la.length + lb.length + p / 32 + q / 32 + 3) h5 h6 (by omega) (by omega)
  have hf := zcZ sa (zG (x + y)) (by omega) (e := m) (by omega) (by omega)
  rw [V_D] at hf
  (repeat (first | with_reducible refine ep ?_ | with_reducible refine en ?_))
  refine Ev.bind hadd ?_
  (repeat (first | with_reducible refine ep ?_ | with_reducible refine en ?_))
  refine Ev.bind hf ?_
  (repeat (first | with_reducible refine ep ?_ | with_reducible refine en ?_))
  refine zg (Ev.now _) ?_
  rw [zmQ]
 ·refine ze (by simpa using hs) ?_
  refine Ev.bind (zmc (zG x) (zG y) (by omega)) ?_
  (repeat (first | with_reducible refine ep ?_ | with_reducible refine en ?_))
  rw [V_D, V_D]
  by_cases hc : y ≤ x
  ·have hsub := ziv (zG x) (zG y) (by omega) (by rw [V_D, V_D]; exact hc)
   rw [V_D, V_D] at hsub
   have l3 : (D (x - y)).length ≤ (D x).length := zc8 (Nat.sub_le _ _)
   have hf := zcZ sa (zG (x - y)) (by omega) (e := m) (by omega) (by omega)
   rw [V_D] at hf
   refine zd (zfy.2 hc) ?_
   refine Ev.bind hsub ?_
   (repeat (first | with_reducible refine ep ?_ | with_reducible refine en ?_))
   refine Ev.bind hf ?_
   (repeat (first | with_reducible refine ep ?_ | with_reducible refine en ?_))
   refine zg (Ev.now _) ?_
   rw [ziY hs hc]
  ·have hsub := ziv (zG y) (zG x) (by omega) (by rw [V_D, V_D]; omega)
   rw [V_D, V_D] at hsub
   have l3 : (D (y - x)).length ≤ (D y).length := zc8 (Nat.sub_le _ _)
   have hf := zcZ sb (zG (y - x)) (by omega) (e := m) (by omega) (by omega)
   rw [V_D] at hf
   refine ze (fun h => hc (zfy.1 h)) ?_
   refine Ev.bind hsub ?_
   (repeat (first | with_reducible refine ep ?_ | with_reducible refine en ?_))
   refine Ev.bind hf ?_
   (repeat (first | with_reducible refine ep ?_ | with_reducible refine en ?_))
   refine zg (Ev.now _) ?_
   rw [Int.add_comm, ziY (fun h => hs h.symm) (by omega)]
structure zeu (la : List Int) (ea : Int) (lb : List Int) (eb : Int) : Prop where
 a : la.length ≤ 1000000
 b : lb.length ≤ 1000000
 d : (ea - eb).natAbs ≤ 100000000
 e : -10000000000000 ≤ ea ∧ ea ≤ 10000000000000
theorem zl8 {sa sb : Bool} {la lb : List Int} {ea eb : Int} (ha : Dy sa la ea) (hb : Dy sb lb eb) (h : zeu la ea lb eb) : Ev (fun k => zbk.f k sa la ea sb lb eb) (zbZ (sv sa (V la)) ea (sv sb (V lb)) eb) := by
 obtain ⟨h1, h2, h3, h4⟩ := h
 unfold zbk.f
 by_cases c : la = []
 ·subst c
  (repeat (first | with_reducible refine ep ?_ | with_reducible refine en ?_))
  refine zg (Ev.now _) ?_
  rw [zaa, zbB, zjS, zhJ hb]
 refine ze (fun h => c (zbR.1 h)) ?_
 by_cases c2 : lb = []
 ·subst c2
  (repeat (first | with_reducible refine ep ?_ | with_reducible refine en ?_))
  refine zg (Ev.now _) ?_
  rw [zaa, zbB, zjT, zhJ ha]
 refine ze (fun h => c2 (zbR.1 h)) ?_
 by_cases c3 : eb < ea
 ·refine zd c3 ?_
  exact zg (zim ha.nm hb.nm h1 h2 (by omega) (by omega) (by omega) (by omega) (by omega) (by omega)) (zgN (by omega) (by omega))
 ·refine ze c3 ?_
  exact zg (zim ha.nm hb.nm h1 h2 (by omega) (by omega) (by omega) (by omega) (by omega) (by omega)) (zgN (by omega) (by omega))
theorem zfL {l : List Int} (c : l ≠ []) : (l.length : Int) > 0 := by
 have := List.length_pos_iff.2 c
 omega
theorem zmf {s : Bool} {l : List Int} {e : Int} (h : Dy s l e) : zdg.f s l e = some (mk (-(sv s (V l))) e) := by
 unfold zdg.f
 by_cases c : l = []
 ·obtain ⟨h1, h2⟩ := h.none c
  subst c; subst h1; subst h2
  rfl
 ·have hl := zfL c
  have h1 := h.odd c
  have h0 : V l ≠ 0 := by omega
  rw [if_pos hl, ← ziX, zcU _ h0, zfN h1, Nat.pow_zero, Nat.div_one, h.nm]
  simp
theorem zlj {z e : Int} : (mk z e).2.1 = D (z.natAbs / 2 ^ lw z.natAbs) := by
 unfold mk
 by_cases h : z = 0
 ·subst h; rw [if_pos rfl]; simp [zC]
 ·rw [if_neg h]
theorem zdy {s : Bool} {n : Nat} (h : n ≠ 0) : (sv s n).sign = if s = true then -1 else 1 := by
 unfold sv
 split
 ·exact Int.sign_eq_neg_one_of_neg (by omega)
 ·exact Int.sign_eq_one_of_pos (by omega)
theorem zgb {s : Bool} {l : List Int} {e : Int} (h : Dy s l e) : zcl.f s l e = some (sv s (V l)).sign := by
 unfold zcl.f
 by_cases c : l = []
 ·subst c
  rw [if_pos (zbR.2 rfl), zaa, zbB]; rfl
 ·have h1 := h.odd c
  have h0 : V l ≠ 0 := by omega
  rw [if_neg (fun h => c (zbR.1 h)), zdy h0]
  split <;> rfl
def top (z e : Int) : Int := if z = 0 then 0 else e + (bl z.natAbs : Nat)
theorem ziw {s : Bool} {l : List Int} {e : Int} (h : Dy s l e) (hl : l.length ≤ 1000000) (h1 : -1000000000000000 ≤ e) (h2 : e ≤ 1000000000000000) : Ev (fun k => zb4.f k s l e) (top (sv s (V l)) e) := by
 unfold zb4.f top
 by_cases c : l = []
 ·subst c
  (repeat (first | with_reducible refine ep ?_ | with_reducible refine en ?_))
  exact zg (Ev.now _) (by rw [zaa, zbB]; rfl)
 ·have h3 := h.odd c
  have h0 : V l ≠ 0 := by omega
  have hb := zcj h.nm.dg
  refine ze (fun h => c (zbR.1 h)) ?_
  refine Ev.bind (zf9 h.nm (by omega)) ?_
  (repeat (first | with_reducible refine ep ?_ | with_reducible refine en ?_))
  refine zg (Ev.now _) ?_
  rw [if_neg (fun h => h0 (zce.1 h)), zah, zgx h1 h2 (by omega)]
theorem zgn (s t : Bool) (x y : Nat) : sv s x * sv t y = sv (s != t) (x * y) := by
 unfold sv
 cases s <;> cases t <;> simp [Int.mul_neg, Int.neg_mul]
theorem zly (s t : Bool) : decide (¬ s = t) = (s != t) := by cases s <;> cases t <;> rfl
theorem zme {sa sb : Bool} {la lb : List Int} {ea eb : Int} (ha : Dy sa la ea) (hb : Dy sb lb eb) (l1 : la.length ≤ 1000000) (l2 : lb.length ≤ 1000000) (h1 : -100000000000000 ≤ ea) (h2 : ea ≤ 100000000000000) (h3 : -100000000000000 ≤ eb) (h4 : eb ≤ 100000000000000) :
  Ev (fun k => zcQ.f k sa la ea sb lb eb) (mk (sv sa (V la) * sv sb (V lb)) (ea + eb)) := by
 unfold zcQ.f
 have e : wrap64 (ea + eb) = ea + eb := by unfold wrap64; omega
 rw [e]
 have hl : (D (V la * V lb)).length ≤ la.length + lb.length := zkZ (by rw [ha.nm.len]; exact Nat.le_refl _) (by rw [hb.nm.len]; exact Nat.le_refl _)
 have hf := zcZ (sa != sb) (zG (V la * V lb)) (by omega) (e := ea + eb) (by omega) (by omega)
 rw [V_D] at hf
 refine Ev.bind (zga ha.nm.dg hb.nm.dg (by omega) (by omega)) ?_
 (repeat (first | with_reducible refine ep ?_ | with_reducible refine en ?_))
 rw [zly]
 refine Ev.bind hf ?_
 (repeat (first | with_reducible refine ep ?_ | with_reducible refine en ?_))
 refine zg (Ev.now _) ?_
 rw [zgn]
theorem zmh {sa sb : Bool} {la lb : List Int} {ea eb : Int} (ha : Dy sa la ea) (hb : Dy sb lb eb) (h : zeu la ea lb eb) : Ev (fun k => zdh.f k sa la ea sb lb eb) (zbZ (sv sa (V la)) ea (-(sv sb (V lb))) eb) := by
 unfold zdh.f
 have hn := zbY (-(sv sb (V lb))) eb
 have e1 : mk (-(sv sb (V lb))) eb = ((mk (-(sv sb (V lb))) eb).1, (mk (-(sv sb (V lb))) eb).2.1, (mk (-(sv sb (V lb))) eb).2.2) := rfl
 have hv : (mk (-(sv sb (V lb))) eb).2.1 = lb ∧ sv (mk (-(sv sb (V lb))) eb).1 (V lb) = -(sv sb (V lb)) ∧ (mk (-(sv sb (V lb))) eb).2.2 = eb := by
  by_cases c : lb = []
  ·obtain ⟨h1, h2⟩ := hb.none c
   subst c; subst h1; subst h2
   exact ⟨rfl, by rw [zaa, zbB, zbB]; rfl, rfl⟩
  ·have h3 := hb.odd c
   have h0 : V lb ≠ 0 := by omega
   rw [← ziX, zcU _ h0, zfN h3, Nat.pow_zero, Nat.div_one, hb.nm]
   exact ⟨rfl, rfl, by simp⟩
 refine zl (zmf hb) ?_
 (repeat (first | with_reducible refine ep ?_ | with_reducible refine en ?_))
 rw [hv.1, hv.2.2] at hn
 have ha2 := zl8 ha hn h
 rw [hv.2.1] at ha2
 simp only [hv.1, hv.2.2]
 refine Ev.bind ha2 ?_
 (repeat (first | with_reducible refine ep ?_ | with_reducible refine en ?_))
 exact Ev.now _
theorem zll (z e : Int) : (sv (mk z e).1 (V (mk z e).2.1)).sign = z.sign := by
 unfold mk
 by_cases h : z = 0
 ·subst h; rfl
 ·rw [if_neg h]
  have hn : z.natAbs ≠ 0 := by omega
  have h1 : V (D (z.natAbs / 2 ^ lw z.natAbs)) ≠ 0 := by
   rw [V_D]
   have h2 := (zbO hn).le
   have := Nat.div_pos h2 (zh _)
   omega
  show (sv (decide (z < 0)) (V (D (z.natAbs / 2 ^ lw z.natAbs)))).sign = z.sign
  rw [zdy h1]
  by_cases h3 : z < 0
  ·rw [decide_eq_true h3, if_pos rfl, Int.sign_eq_neg_one_of_neg h3]
  ·rw [decide_eq_false h3, if_neg (by simp), Int.sign_eq_one_of_pos (by omega)]
theorem zlT (k : Nat) : (0 : Int) < 2 ^ k := Int.pow_pos (by omega)
theorem zbE (z e m : Int) : (al z e m).sign = z.sign := by
 unfold al
 rw [Int.sign_mul, Int.sign_eq_one_of_pos (zlT _), Int.mul_one]
theorem zjU (z e m : Int) : (al z e m).natAbs = z.natAbs * 2 ^ (e - m).toNat := by
 unfold al
 rw [Int.natAbs_mul, Int.natAbs_pow]; rfl
theorem zgO {z e m : Int} (h : z ≠ 0) (hm : m ≤ e) : ((bl (al z e m).natAbs : Nat) : Int) + m = top z e := by
 rw [zjU, zaZ (by omega)]
 unfold top
 rw [if_neg h]
 omega
theorem zhF {x y : Nat} (h : bl x < bl y) : x < y := by
 rcases Nat.lt_or_ge x y with h1 | h1
 ·exact h1
 ·have := zar h1; omega
def zal (za ea zb eb : Int) : Int := (al za ea (min ea eb) - al zb eb (min ea eb)).sign
theorem zg7 {a b : Int} : (a - b).sign = if a < b then -1 else if b < a then 1 else 0 := by
 split
 ·exact Int.sign_eq_neg_one_of_neg (by omega)
 ·split
  ·exact Int.sign_eq_one_of_pos (by omega)
  ·have : a - b = 0 := by omega
   rw [this]; rfl
theorem zbS (z : Int) : (z < 0 ∧ z.sign = -1) ∨ (z = 0 ∧ z.sign = 0) ∨ (0 < z ∧ z.sign = 1) := by
 rcases Int.lt_trichotomy z 0 with h | h | h
 ·exact .inl ⟨h, Int.sign_eq_neg_one_of_neg h⟩
 ·exact .inr (.inl ⟨h, by rw [h]; rfl⟩)
 ·exact .inr (.inr ⟨h, Int.sign_eq_one_of_pos h⟩)
theorem zkd {a b : Int} (h : a.sign ≠ b.sign) : (a - b).sign = if a.sign < b.sign then -1 else 1 := by
 rw [zg7]
 rcases zbS a with ⟨h1, e1⟩ | ⟨h1, e1⟩ | ⟨h1, e1⟩ <;> rcases zbS b with ⟨h2, e2⟩ | ⟨h2, e2⟩ | ⟨h2, e2⟩ <;> rw [e1, e2] at h ⊢ <;> first | exact absurd rfl h | (simp <;> omega)
theorem zkc {a b : Int} (h : a.sign = b.sign) (h0 : a.sign ≠ 0) (hl : bl a.natAbs ≠ bl b.natAbs) : (a - b).sign = if (decide (bl a.natAbs < bl b.natAbs) == decide (a.sign > 0)) = true then -1 else 1 := by
 rw [zg7]
 have hlt : bl a.natAbs < bl b.natAbs ∨ bl b.natAbs < bl a.natAbs := by omega
 have hn : a.natAbs ≠ b.natAbs := fun e => hl (by rw [e])
 rcases hlt with h1 | h1
 ·have h2 := zhF h1
  rw [decide_eq_true h1]
  rcases zbS a with ⟨h3, e1⟩ | ⟨h3, e1⟩ | ⟨h3, e1⟩
  ·rw [e1] at h ⊢
   have : b < 0 := by rcases zbS b with ⟨h4, e2⟩ | ⟨h4, e2⟩ | ⟨h4, e2⟩ <;> omega
   rw [if_neg (by omega), if_pos (by omega)]; rfl
  ·exact absurd e1 h0
  ·rw [e1] at h ⊢
   have : 0 < b := by rcases zbS b with ⟨h4, e2⟩ | ⟨h4, e2⟩ | ⟨h4, e2⟩ <;> omega
   rw [if_pos (by omega)]; rfl
 ·have h2 := zhF h1
  rw [decide_eq_false (by omega : ¬ bl a.natAbs < bl b.natAbs)]
  rcases zbS a with ⟨h3, e1⟩ | ⟨h3, e1⟩ | ⟨h3, e1⟩
  ·rw [e1] at h ⊢
   have : b < 0 := by rcases zbS b with ⟨h4, e2⟩ | ⟨h4, e2⟩ | ⟨h4, e2⟩ <;> omega
   rw [if_pos (by omega)]; rfl
  ·exact absurd e1 h0
  ·rw [e1] at h ⊢
   have : 0 < b := by rcases zbS b with ⟨h4, e2⟩ | ⟨h4, e2⟩ | ⟨h4, e2⟩ <;> omega
   rw [if_neg (by omega), if_pos (by omega)]; rfl
theorem zg2 (za ea zb eb : Int) : zal za ea zb eb = (al za ea (min ea eb) - al zb eb (min ea eb)).sign := rfl
theorem ziP {z : Int} (h : z.sign ≠ 0) : z ≠ 0 := fun e => h (by rw [e]; rfl)
theorem zmb {sa sb : Bool} {la lb : List Int} {ea eb : Int} (ha : Dy sa la ea) (hb : Dy sb lb eb) (h : zeu la ea lb eb) : Ev (fun k => zb3.f k sa la ea sb lb eb) (zal (sv sa (V la)) ea (sv sb (V lb)) eb) := by
 have hs := zmh ha hb h
 obtain ⟨h1, h2, h3, h4⟩ := h
 have ta := ziw ha h1 (by omega) (by omega)
 have tb := ziw hb h2 (by omega) (by omega)
 unfold zb3.f
 refine zl (zgb ha) ?_
 (repeat (first | with_reducible refine ep ?_ | with_reducible refine en ?_))
 refine zl (zgb hb) ?_
 (repeat (first | with_reducible refine ep ?_ | with_reducible refine en ?_))
 rw [zg2]
 generalize hza : sv sa (V la) = za at *
 generalize hzb : sv sb (V lb) = zb at *
 have hm1 : min ea eb ≤ ea := by omega
 have hm2 : min ea eb ≤ eb := by omega
 by_cases c : za.sign = zb.sign
 ·refine ze (fun h => h c) ?_
  by_cases c0 : za.sign = 0
  ·refine zd c0 ?_
   refine zg (Ev.now _) ?_
   have e1 : za = 0 := by rcases zbS za with ⟨_, e⟩ | ⟨e, _⟩ | ⟨_, e⟩ <;> omega
   have e2 : zb = 0 := by rcases zbS zb with ⟨_, e⟩ | ⟨e, _⟩ | ⟨_, e⟩ <;> omega
   rw [e1, e2, zdM, zdM]; rfl
  ·refine ze c0 ?_
   refine Ev.bind ta ?_
   (repeat (first | with_reducible refine ep ?_ | with_reducible refine en ?_))
   refine Ev.bind tb ?_
   (repeat (first | with_reducible refine ep ?_ | with_reducible refine en ?_))
   have ba := zgO (ziP c0) hm1
   have bb := zgO (z := zb) (ziP (by rw [← c]; exact c0)) hm2
   by_cases ct : top za ea = top zb eb
   ·refine ze (fun h => h ct) ?_
    refine Ev.bind hs ?_
    (repeat (first | with_reducible refine ep ?_ | with_reducible refine en ?_))
    have hd := zbY (al za ea (min ea eb) + al (-zb) eb (min ea eb)) (min ea eb)
    have hg : zbZ za ea (-zb) eb = mk (al za ea (min ea eb) + al (-zb) eb (min ea eb)) (min ea eb) := rfl
    rw [hg]
    refine zl (zgb hd) ?_
    (repeat (first | with_reducible refine ep ?_ | with_reducible refine en ?_))
    refine zg (Ev.now _) ?_
    rw [zll]
    congr 1
    unfold al
    rw [Int.neg_mul]; rfl
   ·refine zd ct ?_
    refine Ev.bind ta ?_
    (repeat (first | with_reducible refine ep ?_ | with_reducible refine en ?_))
    refine Ev.bind tb ?_
    (repeat (first | with_reducible refine ep ?_ | with_reducible refine en ?_))
    have hne : bl (al za ea (min ea eb)).natAbs ≠ bl (al zb eb (min ea eb)).natAbs := fun e => ct (by rw [← ba, ← bb, e])
    have hc := zkc (a := al za ea (min ea eb)) (b := al zb eb (min ea eb)) (by rw [zbE, zbE]; exact c) (by rw [zbE]; exact c0) hne
    rw [zbE] at hc
    have hd : decide (top za ea < top zb eb) = decide (bl (al za ea (min ea eb)).natAbs < bl (al zb eb (min ea eb)).natAbs) := decide_eq_decide.2 (by omega)
    rw [hc, hd]
    generalize decide (bl (al za ea (min ea eb)).natAbs < bl (al zb eb (min ea eb)).natAbs) = p
    generalize decide (za.sign > 0) = q
    by_cases cq : p = q
    ·exact zd cq (zg (Ev.now _) (by rw [if_pos (beq_iff_eq.2 cq)]))
    ·exact ze cq (zg (Ev.now _) (by rw [if_neg (fun h => cq (beq_iff_eq.1 h))]))
 ·refine zd c ?_
  have hc := zkd (a := al za ea (min ea eb)) (b := al zb eb (min ea eb)) (by rw [zbE, zbE]; exact c)
  rw [zbE, zbE] at hc
  rw [hc]
  by_cases c1 : za.sign < zb.sign
  ·refine zd c1 ?_
   exact zg (Ev.now _) (if_pos c1).symm
  ·refine ze c1 ?_
   exact zg (Ev.now _) (if_neg c1).symm
theorem zjZ (X : Nat) (hX : X < 4294967296) : Go.bits .and .u32 (X : Int) 1 = ((X % 2 : Nat) : Int) := by
 have h1 : (BitVec.ofInt 32 (X : Int)).toNat = X := by
  rw [BitVec.ofInt_natCast, BitVec.toNat_ofNat]; exact Nat.mod_eq_of_lt (by omega)
 show IntKind.u32.wrap ((BitVec.ofInt 32 (X : Int) &&& BitVec.ofInt 32 1).toNat : Int) = _
 have h2 : (BitVec.ofInt 32 (1 : Int)).toNat = 1 := by decide
 have h3 : ∀ n : Int, IntKind.u32.wrap n = n % 4294967296 := fun n => by simp [IntKind.wrap, IntKind.signed, IntKind.bits]
 rw [BitVec.toNat_and, h1, h2, h3, Nat.and_one_is_mod]
 omega
theorem zla {l : List Int} (h : Dg l) : Go.bits .and .u32 (rd l 0) 1 = ((V l % 2 : Nat) : Int) := by
 have h1 := h.getD 0
 have h2 := zgH h 0
 rw [Nat.pow_zero, Nat.div_one] at h2
 have h3 : rd l 0 = l.getD 0 0 := rdn l 0
 rw [h3]
 obtain ⟨x, hx⟩ := Int.eq_ofNat_of_zero_le h1.1
 rw [hx] at h1 h2 ⊢
 rw [zjZ x (by omega)]
 rw [Int.toNat_natCast] at h2
 omega
structure My (s : Bool) (l : List Int) (e : Int) : Prop where
 dy : Dy s l e
 len : l.length ≤ 4096
 lo : -16777216 ≤ e
 hi : e ≤ 16777216
theorem zct {s : Bool} {l : List Int} {e : Int} (h : My s l e) : zbm.f s l e = some true := by
 obtain ⟨hd, hl, h1, h2⟩ := h
 unfold zbm.f
 rw [zcw hd.nm.dg (by omega), Option.bind_some, zbP.2 ⟨hl, hd.nm⟩, if_neg (by simp)]
 by_cases c : l = []
 ·obtain ⟨h3, h4⟩ := hd.none c
  subst c; subst h3; subst h4
  rfl
 ·have ho := hd.odd c
  rw [if_neg (fun h => c (zbR.1 h)), if_pos (zfL c), zla hd.nm.dg, if_pos (by omega)]
  unfold zdU.f
  rw [if_pos h1, decide_eq_true h2]; rfl
theorem zfF {s : Bool} {l : List Int} {e : Int} (h : My s l e) : Ev (fun k => za5.f k s l e) (sv s (V l)).sign := by
 unfold za5.f
 refine zl (zct h) ?_
 (repeat (first | with_reducible refine ep ?_ | with_reducible refine en ?_))
 refine zf ?_
 simp only [za5.j0]
 by_cases c : l = []
 ·subst c
  (repeat (first | with_reducible refine ep ?_ | with_reducible refine en ?_))
  exact zg (Ev.now _) (by rw [zaa, zbB]; rfl)
 ·have h1 := h.dy.odd c
  have h0 : V l ≠ 0 := by omega
  refine ze (by simpa using fun e => c e) ?_
  rw [zdy h0]
  by_cases hs : s = true
  ·refine zd hs ?_
   exact zg (Ev.now _) (if_pos hs).symm
  ·refine ze hs ?_
   exact zg (Ev.now _) (if_neg hs).symm
theorem zli {s : Bool} {n : Nat} {e : Int} (h1 : -16777216 ≤ e) (h2 : e + (bl n : Nat) ≤ 16777216) : zd1 s n e = ((mk (sv s n) e).1, (mk (sv s n) e).2.1, (mk (sv s n) e).2.2, 0) := by
 unfold zd1
 by_cases h0 : n = 0
 ·rw [if_pos h0, h0, zbB]; rfl
 ·have := zdp h0
  rw [if_neg h0, if_neg (by omega), if_neg (by omega)]
theorem zhn {sa sb : Bool} {la lb : List Int} {ea eb : Int} (ha : My sa la ea) (hb : My sb lb eb) : Ev (fun k => zaS.f k [(sa, la, ea), (sb, lb, eb)]) true := by
 unfold zaS.f
 have e1 : wrap64 (0 + 1) = 1 := by rw [zap (by omega) (by omega)]; rfl
 have e2 : wrap64 (1 + 1) = 2 := by rw [zap (by omega) (by omega)]; rfl
 have el : (([(sa, la, ea), (sb, lb, eb)] : List (Bool × List Int × Int)).length : Int) = 2 := rfl
 have r0 : rdT [.b, .is .u32, .i .i64] [(sa, la, ea), (sb, lb, eb)] 0 = ⟨sa, la, ea⟩ := rfl
 have r1 : rdT [.b, .is .u32, .i .i64] [(sa, la, ea), (sb, lb, eb)] 1 = ⟨sb, lb, eb⟩ := rfl
 refine zf ?_
 simp only [zaS.l0, el, e1, e2, r0]
 (repeat (first | with_reducible refine ep ?_ | with_reducible refine en ?_))
 refine zl (zct ha) ?_
 (repeat (first | with_reducible refine ep ?_ | with_reducible refine en ?_))
 refine zf ?_
 simp only [zaS.l0, el, e1, e2, r1]
 (repeat (first | with_reducible refine ep ?_ | with_reducible refine en ?_))
 refine zl (zct hb) ?_
 (repeat (first | with_reducible refine ep ?_ | with_reducible refine en ?_))
 refine zf ?_
 simp only [zaS.l0, el, e1, e2]
 (repeat (first | with_reducible refine ep ?_ | with_reducible refine en ?_))
 exact Ev.now _
def ok3 (d : Bool × List Int × Int) : Bool × List Int × Int × Int := (d.1, d.2.1, d.2.2, 0)
theorem zdq {s : Bool} {n : Nat} {e : Int} (h1 : -16777216 ≤ e) (h2 : e + (bl n : Nat) ≤ 16777216) : zd1 s n e = ok3 (mk (sv s n) e) := zli h1 h2
theorem zdO {n : Nat} (h : bl n ≤ 131072) : zz n = (D n, 0) := by
 have : (D n).length ≤ 4096 := zaT (by omega)
 unfold zz
 rw [if_neg (by omega)]
theorem zj9 {za ea zb eb m : Int} (h1 : m ≤ ea) (h2 : m ≤ eb) : (al za ea m - al zb eb m).sign = zal za ea zb eb := by
 unfold zal
 have h3 : m ≤ min ea eb := by omega
 rw [← zey (z := za) (e := ea) (m := min ea eb) (n := m) (by omega) h3, ← zey (z := zb) (e := eb) (m := min ea eb) (n := m) (by omega) h3]
 generalize al za ea (min ea eb) = x
 generalize al zb eb (min ea eb) = y
 have e : al x (min ea eb) m - al y (min ea eb) m = al (x - y) (min ea eb) m := by unfold al; rw [Int.sub_mul]
 rw [e, zbE]
theorem zeB (n : Nat) (h : n < 18446744073709551616) : (BitVec.ofInt 64 (n : Int)).toNat = n := by
 rw [BitVec.ofInt_natCast, BitVec.toNat_ofNat]; exact Nat.mod_eq_of_lt (by omega)
theorem zjX (a b : Nat) (ha : a < 18446744073709551616) (hb : b < 18446744073709551616) : Go.bits .and .u64 (a : Int) (b : Int) = ((a &&& b : Nat) : Int) := by
 show IntKind.u64.wrap ((BitVec.ofInt 64 (a : Int) &&& BitVec.ofInt 64 (b : Int)).toNat : Int) = _
 have hx : a &&& b < 2 ^ 64 := Nat.and_lt_two_pow _ (by omega)
 rw [BitVec.toNat_and, zeB a ha, zeB b hb, zek]
 omega
theorem ze1 (a b : Nat) (ha : a < 18446744073709551616) (hb : b < 18446744073709551616) : Go.bits .or .u64 (a : Int) (b : Int) = ((a ||| b : Nat) : Int) := by
 show IntKind.u64.wrap ((BitVec.ofInt 64 (a : Int) ||| BitVec.ofInt 64 (b : Int)).toNat : Int) = _
 have hx : a ||| b < 2 ^ 64 := Nat.or_lt_two_pow (by omega) (by omega)
 rw [BitVec.toNat_or, zeB a ha, zeB b hb, zek]
 omega
theorem zgR (a k : Nat) (ha : a < 18446744073709551616) (hk : k ≤ 63) : Go.bits .and .u64 (a : Int) ((2 ^ k - 1 : Nat) : Int) = ((a % 2 ^ k : Nat) : Int) := by
 have h1 : 2 ^ k ≤ 2 ^ 63 := Nat.pow_le_pow_right (by omega) hk
 rw [zjX a _ ha (by omega), Nat.and_two_pow_sub_one_eq_mod]
theorem zlJ (a b k : Nat) (hb : b < 2 ^ k) (h : a * 2 ^ k + b < 18446744073709551616) : Go.bits .or .u64 ((a * 2 ^ k : Nat) : Int) (b : Int) = ((a * 2 ^ k + b : Nat) : Int) := by
 rw [ze1 _ _ (by omega) (by omega)]
 congr 1
 rw [Nat.mul_comm]
 exact (Nat.two_pow_add_eq_or_of_lt hb a).symm
theorem zlH (a b : Nat) (ha : a < 18446744073709551616) (hb : b < 18446744073709551616) : Go.bits .or .u64 (a : Int) (b : Int) = Go.bits .or .u64 (b : Int) (a : Int) := by
 rw [ze1 a b ha hb, ze1 b a hb ha, Nat.or_comm]
def isF (f : Int) : Prop := f = 1 ∨ f = 2
def fb (f : Int) : Nat := if f = 1 then 23 else 52
def mo (f : Int) : Nat := if f = 1 then 255 else 2047
def sk (f : Int) : Nat := if f = 1 then 31 else 63
def sg (f : Int) : Nat := if f = 1 then 2147483648 else 9223372036854775808
theorem zmC {f : Int} (h : isF f) : zer.f f = some ((fb f : Int), (mo f : Int), (sg f : Int), true) := by
 rcases h with rfl | rfl <;> rfl
theorem zdD {f : Int} (h : isF f) : Ev (fun k => zL.f k f []) ((fb f : Int), (mo f : Int), (sg f : Int), 0) := by
 unfold zL.f
 refine zl (zmC h) ?_
 (repeat (first | with_reducible refine ep ?_ | with_reducible refine en ?_))
 refine zf ?_
 simp only [zL.l0]
 (repeat (first | with_reducible refine ep ?_ | with_reducible refine en ?_))
 exact Ev.now _
theorem zcA {f : Int} (h : isF f) : 0 < sg f ∧ 2 * sg f ≤ 18446744073709551616 := by rcases h with rfl | rfl <;> decide
theorem zgi {f : Int} (h : isF f) : sg f = 2 ^ sk f := by rcases h with rfl | rfl <;> decide
theorem zmF {f : Int} (h : isF f) : shl .u64 ((mo f : Nat) : Int) ((fb f : Nat) : Int) = ((mo f * 2 ^ fb f : Nat) : Int) := by
 rcases h with rfl | rfl <;> decide
theorem zhu {f : Int} (h : isF f) : zbf.f (fb f : Int) (mo f : Int) (sg f : Int) = some ((mo f * 2 ^ fb f : Nat) : Int) := by
 unfold zbf.f
 have hm : mo f < 10000 := by rcases h with rfl | rfl <;> decide
 rw [if_pos (by omega), u64 (by omega) (by omega), zmF h]
def cls (f : Int) (w : Nat) : Int :=
 if w % sg f = 0 then 1 else if w % sg f < 2 ^ fb f then 2 else if w % sg f < mo f * 2 ^ fb f then 3 else if w % sg f = mo f * 2 ^ fb f then 4 else 5
theorem zhT {f : Int} (h : isF f) : shl .u64 1 ((fb f : Nat) : Int) = ((2 ^ fb f : Nat) : Int) := by rcases h with rfl | rfl <;> decide
def zae (f : Int) (w : Nat) : Bool := decide (sg f ≤ w)
def zx (f : Int) (w : Nat) : Nat := w % sg f / 2 ^ fb f
def zai (f : Int) (w : Nat) : Nat := w % sg f % 2 ^ fb f
theorem zaJ {f : Int} (h : isF f) : fb f ≤ 52 := by rcases h with rfl | rfl <;> decide
theorem zmB {f : Int} (h : isF f) : sg f = 2 ^ fb f * (mo f + 1) := by rcases h with rfl | rfl <;> decide
theorem pfb {f : Int} (h : isF f) : 2 ^ fb f ≤ 4503599627370496 := by rcases h with rfl | rfl <;> decide
theorem zds {f : Int} (h : isF f) : mo f ≤ 2047 := by rcases h with rfl | rfl <;> decide
def lo (f : Int) : Int := if f = 1 then -149 else -1074
theorem zlb {f : Int} (h : isF f) : zbs.f (fb f : Int) (mo f : Int) (sg f : Int) = some (lo f) := by
 unfold zbs.f
 have e : wrap64 (Int.tdiv ((mo f : Nat) : Int) 2) = ((mo f / 2 : Nat) : Int) := by
  have := zds h
  exact zap (by show (0 : Int) ≤ ((mo f / 2 : Nat) : Int); omega) (by show ((mo f / 2 : Nat) : Int) < _; omega)
 have hm := zds h
 have hb := zaJ h
 rw [e]
 have e2 : wrap64 (1 - ((mo f / 2 : Nat) : Int)) = 1 - ((mo f / 2 : Nat) : Int) := by unfold wrap64; omega
 rw [e2]
 have e3 : wrap64 (1 - ((mo f / 2 : Nat) : Int) - ((fb f : Nat) : Int)) = 1 - ((mo f / 2 : Nat) : Int) - ((fb f : Nat) : Int) := by unfold wrap64; omega
 rw [e3]
 rcases h with rfl | rfl <;> rfl
def zo (f : Int) (w : Nat) : Nat := if zx f w = 0 then zai f w else 2 ^ fb f + zai f w
def wex (f : Int) (w : Nat) : Int := (if zx f w = 0 then 0 else (zx f w : Int) - 1) + lo f
def pr (f : Int) : Nat := if f = 1 then 24 else 53
def wd (f : Int) : Int := if f = 1 then 128 else 1024
def sgn (f : Int) (s : Bool) : Nat := if s = true then sg f else 0
def zq (f : Int) (n : Nat) (e : Int) : Int := max (e + (bl n : Nat) - (pr f : Nat)) (lo f)
def enc (f : Int) (n : Nat) (e : Int) : Nat := (zq f n e - lo f).toNat * 2 ^ fb f + n * 2 ^ (e - zq f n e).toNat
theorem zQ {f : Int} (h : isF f) : pr f = fb f + 1 := by rcases h with rfl | rfl <;> rfl
theorem znh {f : Int} (h : isF f) : wd f = ((mo f / 2 : Nat) : Int) + 1 := by rcases h with rfl | rfl <;> rfl
theorem zby {f : Int} (h : isF f) : -1074 ≤ lo f ∧ lo f ≤ -149 := by rcases h with rfl | rfl <;> decide
theorem zdz {f : Int} (h : isF f) : 128 ≤ wd f ∧ wd f ≤ 1024 := by rcases h with rfl | rfl <;> decide
theorem zfH {f : Int} (h : isF f) : wd f - (pr f : Nat) - lo f = ((mo f - 2 : Nat) : Int) := by rcases h with rfl | rfl <;> rfl
theorem zcV {f : Int} (h : isF f) : 255 ≤ mo f := by rcases h with rfl | rfl <;> decide
theorem zm7 (f : Int) (n : Nat) (e : Int) : lo f ≤ zq f n e := by unfold zq; omega
theorem zh2 {f : Int} {n : Nat} {e : Int} (hn : bl n ≤ pr f) (he : lo f ≤ e) : n * 2 ^ (e - zq f n e).toNat < 2 ^ pr f := by
 have h1 := zZ n
 have h2 : n * 2 ^ (e - zq f n e).toNat < 2 ^ bl n * 2 ^ (e - zq f n e).toNat := Nat.mul_lt_mul_of_pos_right h1 (zh _)
 rw [← Nat.pow_add] at h2
 exact Nat.lt_of_lt_of_le h2 (Nat.pow_le_pow_right (by omega) (by unfold zq; omega))
theorem zm8 {f : Int} {n : Nat} {e : Int} (hn : bl n ≤ pr f) (he : lo f ≤ e) : zq f n e ≤ e := by unfold zq; omega
theorem zkG {f : Int} (h : isF f) {n : Nat} {e : Int} (hn : bl n ≤ pr f) (he : lo f ≤ e) (hw : e + (bl n : Nat) ≤ wd f) : enc f n e < mo f * 2 ^ fb f ∧ (zq f n e - lo f).toNat ≤ mo f - 2 := by
 have h1 := zh2 hn he
 have h2 := zfH h
 have h3 := zcV h
 have h4 : (zq f n e - lo f).toNat ≤ mo f - 2 := by unfold zq; omega
 refine ⟨?_, h4⟩
 unfold enc
 rw [zQ h, Nat.pow_succ] at h1
 have h5 : (zq f n e - lo f).toNat * 2 ^ fb f ≤ (mo f - 2) * 2 ^ fb f := Nat.mul_le_mul_right _ h4
 have h6 : (mo f - 2) * 2 ^ fb f + 2 ^ fb f * 2 = mo f * 2 ^ fb f := by
  rw [Nat.mul_comm (2 ^ fb f) 2, ← Nat.add_mul]; congr 1; omega
 omega
theorem zdX {f : Int} (h : isF f) : mo f * 2 ^ fb f + 2 ^ fb f = sg f := by rcases h with rfl | rfl <;> decide
theorem ze7 {X s : Nat} (h : X * 2 ^ s < 18446744073709551616) (hs : s ≤ 64) : shl .u64 (X : Int) (s : Int) = ((X * 2 ^ s : Nat) : Int) := by
 unfold shl
 have e : min (s : Int).toNat IntKind.u64.bits = s := by
  have : IntKind.u64.bits = 64 := rfl
  omega
 rw [e, ze2, ← Int.natCast_mul]
 exact u64 (by omega) (by omega)
theorem zhW {f : Int} (h : isF f) {x : Nat} (hx : x < sg f) : Go.bits .or .u64 (x : Int) (sg f : Int) = ((x + sg f : Nat) : Int) := by
 have hp := zcA h
 rw [zlH _ _ (by omega) (by omega)]
 have h1 := zlJ 1 x (sk f) (by rw [← zgi h]; exact hx) (by rw [← zgi h]; omega)
 rw [Nat.one_mul, ← zgi h] at h1
 rw [h1, Nat.add_comm]
theorem zlL {x : Nat} (h : x < 18446744073709551616) : Go.bits .or .u64 0 (x : Int) = (x : Int) := by
 have := ze1 0 x (by omega) h
 rw [Nat.zero_or] at this
 exact this
theorem zkY {f : Int} (h : isF f) {x : Nat} (hx : x < sg f) (s : Bool) : zc7.f (fb f : Int) (mo f : Int) (sg f : Int) s 0 (x : Int) = some ((x + sgn f s : Nat) : Int) := by
 have hp := zcA h
 have e0 : shl .u64 (IntKind.u64.wrap 0) ((fb f : Nat) : Int) = 0 := by rcases h with rfl | rfl <;> decide
 unfold zc7.f sgn
 rw [if_pos (by omega), e0, zlL (by omega)]
 cases s
 ·rfl
 ·rw [if_pos rfl, if_pos rfl, zhW h hx]
theorem zdH {a b : Int} (h1 : -100000000000 ≤ a) (h2 : a ≤ 100000000000) (h3 : -100000000000 ≤ b) (h4 : b ≤ 100000000000) : wrap64 (a - b) = a - b := by unfold wrap64; omega
theorem zbX {a b : Int} (h1 : -100000000000 ≤ a) (h2 : a ≤ 100000000000) (h3 : -100000000000 ≤ b) (h4 : b ≤ 100000000000) : wrap64 (a + b) = a + b := by unfold wrap64; omega
theorem zfX {l : List Int} (h : Nm l) (hb : V l < 18446744073709551616) : zbo l = true := by
 have h1 : l.length ≤ 2 := by
  have : (D (V l)).length ≤ 2 := zch (by omega)
  rwa [h] at this
 unfold zbo
 rw [zbP.2 ⟨by omega, h⟩, decide_eq_true h1]
 rfl
theorem zgs {f : Int} (h : isF f) : 2 ^ pr f ≤ 9007199254740992 := by rcases h with rfl | rfl <;> decide
theorem zna {f : Int} (h : isF f) {n : Nat} {e : Int} (he : lo f ≤ e) (hw : e + (bl n : Nat) ≤ wd f) (hn : bl n ≤ 100) : mx (wrap64 (wrap64 (e + ((bl n : Nat) : Int) - ((fb f : Nat) : Int)) - 1)) (lo f) = zq f n e := by
 have hl := zby h
 have hwb := zdz h
 have hpr := zQ h
 have hfb := zaJ h
 have e1 : wrap64 (e + ((bl n : Nat) : Int) - ((fb f : Nat) : Int)) = e + ((bl n : Nat) : Int) - ((fb f : Nat) : Int) := by unfold wrap64; omega
 have e2 : wrap64 (e + ((bl n : Nat) : Int) - ((fb f : Nat) : Int) - 1) = e + ((bl n : Nat) : Int) - ((fb f : Nat) : Int) - 1 := by unfold wrap64; omega
 rw [e1, e2, zeX]
 unfold zq
 omega
theorem zlR {n k : Nat} (h : n ≠ 0) (hb : n * 2 ^ k < 18446744073709551616) : k ≤ 64 := by
 rcases Nat.lt_or_ge 64 k with c | c
 ·have h1 : 2 ^ 64 ≤ 2 ^ k := Nat.pow_le_pow_right (by omega) (by omega)
  have h2 : 2 ^ k ≤ n * 2 ^ k := Nat.le_mul_of_pos_left _ (by omega)
  have h3 : (2 : Nat) ^ 64 = 18446744073709551616 := by decide
  omega
 ·exact c
theorem znn {f : Int} (h : isF f) {s : Bool} {l : List Int} {e : Int} (hd : My s l e) (h0 : l ≠ []) (hn : bl (V l) ≤ pr f) (he : lo f ≤ e) (hw : e + (bl (V l) : Nat) ≤ wd f) :
  Ev (fun k => zcg.f k f s l e) (((enc f (V l) e + sgn f s : Nat) : Int), 0) := by
 have hV : V l ≠ 0 := fun c => h0 ((zcN hd.dy.nm).1 c)
 have hl := zby h
 have hwb := zdz h
 have hpr := zQ h
 have hfb := zaJ h
 have h2 := zgs h
 have hbig : V l < 2 ^ pr f := Nat.lt_of_lt_of_le (zZ _) (Nat.pow_le_pow_right (by omega) hn)
 have hnum := zfT hd.dy.nm.dg (by have := hd.len; omega)
 rw [zfX hd.dy.nm (by omega), if_pos rfl] at hnum
 obtain ⟨e1, e2⟩ := zkG h hn he hw
 have hil := zdX h
 have hsp := zcA h
 have hplt := zh2 hn he
 have hu := zm8 hn he
 have hul := zm7 f (V l) e
 have hpf := zh (fb f)
 have hub : zq f (V l) e ≤ 1100 := by omega
 have hA : (zq f (V l) e - lo f).toNat * 2 ^ fb f < 18446744073709551616 := by unfold enc at e1; omega
 have hB : V l * 2 ^ (e - zq f (V l) e).toNat < 18446744073709551616 := by omega
 have hsm : (e - zq f (V l) e).toNat ≤ 64 := by
  have := zlR (n := V l) (k := (e - zq f (V l) e).toNat) (by omega) hB
  exact this
 have hE : enc f (V l) e < 18446744073709551616 := by omega
 have t7 : IntKind.u64.wrap (((zq f (V l) e - lo f).toNat * 2 ^ fb f + V l * 2 ^ (e - zq f (V l) e).toNat : Nat) : Int) = ((enc f (V l) e : Nat) : Int) := u64 (by omega) (by unfold enc at hE; omega)
 have t8 := u64 (n := (((zq f (V l) e - lo f).toNat : Nat) : Int)) (by omega) (by omega)
 have t9 := ze7 hA (by omega)
 have t10 := ze7 hB hsm
 have hj := zkY h (x := enc f (V l) e) (by omega) s
 have hVi : ¬ ((V l : Nat) : Int) = 0 := by omega
 have c1 : ¬ ((bl (V l) : Nat) : Int) > ((fb f : Nat) : Int) + 1 := by omega
 have c2 : ¬ e < lo f := by omega
 have c3 : ¬ e + ((bl (V l) : Nat) : Int) > wd f := by omega
 have c4 : (0 : Int) ≤ (((e - zq f (V l) e).toNat : Nat) : Int) := by omega
 have c5 : (0 : Int) ≤ ((fb f : Nat) : Int) := by omega
 have hm := zds h
 have hL := zdY (x := ((V l : Nat) : Int)) ⟨by omega, by omega⟩
 rw [Int.toNat_natCast] at hL
 have t1 : wrap64 (e + ((bl (V l) : Nat) : Int)) = e + ((bl (V l) : Nat) : Int) := zbX (by omega) (by omega) (by omega) (by omega)
 have t2 : wrap64 (((fb f : Nat) : Int) + 1) = ((fb f : Nat) : Int) + 1 := by clear t1; exact zbX (by omega) (by omega) (by omega) (by omega)
 have t3 : wrap64 (wrap64 (Int.tdiv ((mo f : Nat) : Int) 2) + 1) = wd f := by
  clear t1 t2
  have e3 : wrap64 (Int.tdiv ((mo f : Nat) : Int) 2) = ((mo f / 2 : Nat) : Int) := zap (by show (0 : Int) ≤ ((mo f / 2 : Nat) : Int); omega) (by show ((mo f / 2 : Nat) : Int) < _; omega)
  rw [e3, zbX (by clear e3; omega) (by clear e3; omega) (by clear e3; omega) (by clear e3; omega), znh h]
 have t4 := zna h he hw (by clear t1 t2 t3; omega : bl (V l) ≤ 100)
 have t5 : wrap64 (e - zq f (V l) e) = (((e - zq f (V l) e).toNat : Nat) : Int) := by clear t1 t2 t3 t4; rw [zdH (by omega) (by omega) (by omega) (by omega)]; omega
 have t6 : wrap64 (zq f (V l) e - lo f) = (((zq f (V l) e - lo f).toNat : Nat) : Int) := by clear t1 t2 t3 t4 t5; rw [zdH (by omega) (by omega) (by omega) (by omega)]; omega
 have hN := zct hd
 have hlow := zlb h
 have hop := zdD h
 clear e1 e2 hA hB hE hplt hbig h2 hil hsp hm hub hu hul he hw hn hpf hsm
 unfold zcg.f
 refine Ev.bind (hop) ?_; try dsimp only
 refine ze (fun h => h rfl) ?_
 refine zl (hN) ?_; try dsimp only
 refine ze (by simp) ?_
 refine Ev.bind (hnum) ?_; try dsimp only
 refine Ev.bind (hL) ?_; try dsimp only
 rw [t2]
 refine ze (by simp) (ze c1 (zd hVi ?_))
 refine zl (hlow) ?_; try dsimp only
 refine ze c2 ?_
 rw [t3, t1]
 refine ze c3 (ze hVi ?_)
 refine zl (hlow) ?_; try dsimp only
 rw [t4, t5]
 refine zd c4 ?_
 refine zl (hlow) ?_; try dsimp only
 refine zd c5 ?_
 rw [t6, t8, t9, t10, ← Int.natCast_add, t7]
 refine zl (hj) ?_; try dsimp only
 exact Ev.now _
theorem zfS {f : Int} (h : isF f) (s : Bool) {x : Nat} (hx : x < sg f) : Ev (fun _ => if s = true then (some (Go.bits .or .u64 (x : Int) (sg f : Int), (0 : Int))) else (some ((x : Int), 0))) (((x + sgn f s : Nat) : Int), 0) := by
 unfold sgn
 cases s
 ·(repeat (first | with_reducible refine ep ?_ | with_reducible refine en ?_))
  exact Ev.now _
 ·(repeat (first | with_reducible refine ep ?_ | with_reducible refine en ?_))
  rw [zhW h hx, if_pos rfl]
  exact Ev.now _
theorem zjt {f : Int} (h : isF f) (s : Bool) : Ev (fun k => zcK.f k f s) (((sgn f s : Nat) : Int), 0) := by
 have hp := zcA h
 have hn := zfS h s (x := 0) hp.1
 rw [Nat.zero_add] at hn
 unfold zcK.f zeo.f
 refine Ev.bind (a := (((sgn f s : Nat) : Int), 0)) ?_ (Ev.now _)
 refine Ev.bind (zdD h) ?_; try dsimp only
 (repeat (first | with_reducible refine ep ?_ | with_reducible refine en ?_))
 exact zl rfl hn
theorem zjs {f : Int} (h : isF f) (s : Bool) : Ev (fun k => zcI.f k f s) (((mo f * 2 ^ fb f + sgn f s : Nat) : Int), 0) := by
 have hil := zdX h
 have hp := zh (fb f)
 have hn := zfS h s (x := mo f * 2 ^ fb f) (by omega)
 unfold zcI.f zep.f
 refine Ev.bind (a := (((mo f * 2 ^ fb f + sgn f s : Nat) : Int), 0)) ?_ (Ev.now _)
 refine Ev.bind (zdD h) ?_; try dsimp only
 (repeat (first | with_reducible refine ep ?_ | with_reducible refine en ?_))
 exact zl (zhu h) hn
theorem znl {f : Int} (h : isF f) (s : Bool) : Ev (fun k => zdA.f k f s) (((mo f * 2 ^ fb f - 1 + sgn f s : Nat) : Int), 0) := by
 have hil := zdX h
 have hp := zh (fb f)
 have hsp := zcA h
 have hm := zcV h
 have hq : 1 ≤ mo f * 2 ^ fb f := Nat.mul_pos (by omega) hp
 have hl : zdB.f ((fb f : Nat) : Int) ((mo f : Nat) : Int) ((sg f : Nat) : Int) = some ((mo f * 2 ^ fb f - 1 : Nat) : Int) := by
  unfold zdB.f
  rw [zhu h, Option.bind_some, zek]
  congr 1
  omega
 have hn := zfS h s (x := mo f * 2 ^ fb f - 1) (by omega)
 unfold zdA.f zen.f
 refine Ev.bind (a := (((mo f * 2 ^ fb f - 1 + sgn f s : Nat) : Int), 0)) ?_ (Ev.now _)
 refine Ev.bind (zdD h) ?_; try dsimp only
 (repeat (first | with_reducible refine ep ?_ | with_reducible refine en ?_))
 exact zl hl hn
def zeY (f : Int) : Nat := mo f * 2 ^ fb f + 2 ^ (fb f - 1)
theorem znm {f : Int} (h : isF f) : Ev (fun k => zdC.f k f) (((zeY f : Nat) : Int), 0) := by
 have hl : zes.f ((fb f : Nat) : Int) ((mo f : Nat) : Int) ((sg f : Nat) : Int) = some ((zeY f : Nat) : Int) := by
  rcases h with rfl | rfl <;> decide +kernel
 unfold zdC.f zeq.f
 refine Ev.bind (a := (((zeY f : Nat) : Int), 0)) ?_ (Ev.now _)
 refine Ev.bind (zdD h) ?_; try dsimp only
 (repeat (first | with_reducible refine ep ?_ | with_reducible refine en ?_))
 refine zl (hl) ?_; try dsimp only
 (repeat (first | with_reducible refine ep ?_ | with_reducible refine en ?_))
 exact Ev.now _
instance (f : Int) : Decidable (isF f) := inferInstanceAs (Decidable (f = 1 ∨ f = 2))
theorem zii (f : Int) : zcm.f f = some (decide (isF f)) := by
 unfold zcm.f isF
 by_cases h : f = 1
 ·rw [if_pos h]; simp [h]
 ·rw [if_neg h]; simp [h]
def isM (m : Int) : Prop := 1 ≤ m ∧ m ≤ 5
instance (m : Int) : Decidable (isM m) := inferInstanceAs (Decidable (1 ≤ m ∧ m ≤ 5))
theorem zih (m : Int) : zdl.f m = some (decide (isM m)) := by
 unfold zdl.f isM
 by_cases h : m ≥ 1
 ·rw [if_pos h]; simp [show 1 ≤ m from h]
 ·rw [if_neg h]; simp [show ¬ 1 ≤ m from h]
theorem zik {f : Int} (h : isF f) : zcn.f f = some (sg f : Int) := by rcases h with rfl | rfl <;> rfl
theorem zf8 {f : Int} (h : isF f) : zbJ.f f = some (fb f : Int) := by rcases h with rfl | rfl <;> rfl
theorem zl4 {f : Int} (h : isF f) : zdP.f f = some (mo f : Int) := by rcases h with rfl | rfl <;> rfl
theorem zij {f : Int} (h : isF f) : zdj.f f = some (lo f) := by rcases h with rfl | rfl <;> rfl
theorem zem {f : Int} (h : isF f) (w : Nat) : zx f w ≤ mo f := by
 have hz : w % sg f < sg f := Nat.mod_lt _ (zcA h).1
 have : zx f w < mo f + 1 := Nat.div_lt_of_lt_mul (by rw [← zmB h]; exact hz)
 omega
theorem zc6 (f : Int) (w : Nat) : zai f w < 2 ^ fb f := Nat.mod_lt _ (zh _)
theorem zjo (f : Int) (w : Nat) : w % sg f = zx f w * 2 ^ fb f + zai f w := by
 unfold zx zai
 have := Nat.div_add_mod (w % sg f) (2 ^ fb f)
 rw [Nat.mul_comm] at this
 exact this.symm
theorem zl6 {f : Int} (h : isF f) (w : Nat) : zdk.f f (w : Int) = some (zae f w, (zx f w : Int), (zai f w : Int)) := by
 have hp := zcA h
 have hpp := zh (fb f)
 have hm := zds h
 have hx := zem h w
 have h52 := zaJ h
 unfold zdk.f
 rw [zik h, Option.bind_some, Option.bind_some, if_neg (by omega), zf8 h, Option.bind_some, if_pos (by omega), zhT h, if_neg (by omega), Option.bind_some, if_pos (by omega), ze9, ze9, zcC _ _ (by show fb f ≤ 64; omega)]
 have e : wrap64 ((w % sg f / 2 ^ fb f : Nat) : Int) = (zx f w : Int) := by
  show wrap64 ((zx f w : Nat) : Int) = _
  exact zap (by omega) (by omega)
 rw [e]
 have e2 : decide ((w : Int) ≥ (sg f : Int)) = zae f w := decide_eq_decide.2 (by omega)
 rw [e2]
 rfl
theorem zgY {f : Int} (h : isF f) (w : Nat) : cls f w = if zx f w = 0 then (if zai f w = 0 then 1 else 2) else if zx f w < mo f then 3 else if zai f w = 0 then 4 else 5 := by
 have h1 := zjo f w
 have h2 := zc6 f w
 have h3 := zem h w
 have hpp := zh (fb f)
 have hm := zcV h
 unfold cls
 rw [h1]
 generalize zai f w = r at *
 generalize zx f w = q at *
 generalize 2 ^ fb f = p at *
 by_cases c : q = 0
 ·subst c
  simp only [Nat.zero_mul, Nat.zero_add, if_true]
  by_cases c2 : r = 0
  ·simp [c2]
  ·rw [if_neg c2, if_pos h2, if_neg c2]
 ·have h4 : p ≤ q * p := Nat.le_mul_of_pos_left _ (by omega)
  rw [if_neg (by omega), if_neg (by omega), if_neg c]
  by_cases c2 : q < mo f
  ·have h5 : (q + 1) * p ≤ mo f * p := Nat.mul_le_mul_right _ c2
   rw [Nat.add_mul, Nat.one_mul] at h5
   rw [if_pos (by omega), if_pos c2]
  ·have h5 : q = mo f := by omega
   rw [h5, if_neg (by omega), if_neg (Nat.lt_irrefl _)]
   by_cases c3 : r = 0
   ·rw [if_pos (by omega), if_pos c3]
   ·rw [if_neg (by omega), if_neg c3]
theorem zl3 {f : Int} (h : isF f) (s : Bool) {q r : Nat} (hq : q * 2 ^ fb f + r < sg f) : zdi.f f s (q : Int) (r : Int) = some ((q * 2 ^ fb f + r + sgn f s : Nat) : Int) := by
 have hp := zcA h
 have hpp := zh (fb f)
 have h52 := zaJ h
 have hqq : q ≤ q * 2 ^ fb f := Nat.le_mul_of_pos_right _ hpp
 unfold zdi.f sgn
 rw [zf8 h, Option.bind_some, if_pos (by omega), zik h, u64 (n := (q : Int)) (by omega) (by omega), ze7 (by omega) (by omega), ← Int.natCast_add, u64 (n := ((q * 2 ^ fb f + r : Nat) : Int)) (by omega) (by omega)]
 cases s
 ·rw [if_neg (by simp), if_neg (by simp)]; rfl
 ·rw [if_pos rfl, if_pos rfl, Option.bind_some, ← Int.natCast_add, u64 (by omega) (by omega)]
theorem ze5 {f : Int} (h : isF f) (s : Bool) : zb5.f f s = some ((mo f * 2 ^ fb f + sgn f s : Nat) : Int) := by
 have hil := zdX h
 have hpp := zh (fb f)
 unfold zb5.f
 rw [zl4 h, Option.bind_some]
 have := zl3 h s (q := mo f) (r := 0) (by omega)
 rw [show ((0 : Nat) : Int) = 0 from rfl, Nat.add_zero] at this
 rw [this]; rfl
theorem znk {f : Int} (h : isF f) (w : Nat) : zo f w < 18446744073709551616 := by
 have := zc6 f w
 have := pfb h
 unfold zo; split <;> omega
theorem zjq {f : Int} (h : isF f) (w : Nat) : -1074 ≤ wex f w ∧ wex f w ≤ 3000 := by
 have := zem h w
 have := zds h
 have := zby h
 unfold wex; split <;> omega
theorem zil {f : Int} (h : isF f) (w : Nat) : Ev (fun k => zcR.f k f (w : Int)) (mk (sv (zae f w) (zo f w)) (wex f w)) := by
 have hlt := znk h w
 have hwb := zjq h w
 have hfr := zc6 f w
 have hpw := pfb h
 have hx := zem h w
 have hm := zds h
 have hlo := zby h
 have o1 := ziu (n := (zo f w : Int)) (by omega) (by omega)
 rw [Int.toNat_natCast] at o1
 have f1 := zcZ (zae f w) (zG (zo f w)) (by
  have : (D (zo f w)).length ≤ 2 := zbt (by omega)
  omega) (e := wex f w) (by omega) (by omega)
 rw [V_D] at f1
 unfold zcR.f
 refine zl (zl6 h w) ?_; try dsimp only
 by_cases c : zx f w = 0
 ·have e1 : zo f w = zai f w := by unfold zo; rw [if_pos c]
  have e2 : wex f w = lo f := by unfold wex; rw [if_pos c]; omega
  rw [e1] at o1
  rw [e1, e2] at f1
  refine zd (by omega) ?_
  refine Ev.bind (o1) ?_; try dsimp only
  refine zl (zij h) ?_; try dsimp only
  refine Ev.bind (f1) ?_; try dsimp only
  rw [e1, e2]
  exact Ev.now _
 ·have e1 : zo f w = 2 ^ fb f + zai f w := by unfold zo; rw [if_neg c]
  have e2 : wex f w = (zx f w : Int) - 1 + lo f := by unfold wex; rw [if_neg c]
  have e3 : IntKind.u64.wrap (((2 ^ fb f : Nat) : Int) + (zai f w : Int)) = (zo f w : Int) := by rw [e1, ← Int.natCast_add]; exact u64 (by omega) (by omega)
  have e4 : wrap64 (wrap64 ((zx f w : Int) - 1) + lo f) = wex f w := by rw [e2]; unfold wrap64; omega
  refine ze (by omega) ?_
  refine zl (zf8 h) ?_; try dsimp only
  rw [zhT h, e3]
  refine zd (by omega) ?_
  refine Ev.bind (o1) ?_; try dsimp only
  refine zl (zij h) ?_; try dsimp only
  rw [e4]
  refine Ev.bind (f1) ?_; try dsimp only
  exact Ev.now _
def mz (z e : Int) : Int := sv (mk z e).1 (V (mk z e).2.1)
def me (z e : Int) : Int := (mk z e).2.2
theorem zd5 (e : Int) : mz 0 e = 0 := rfl
theorem zgp (z : Int) : sv (decide (z < 0)) z.natAbs = z := by
 unfold sv
 by_cases h : z < 0
 ·rw [decide_eq_true h, if_pos rfl]; omega
 ·rw [decide_eq_false h, if_neg (by simp)]; omega
theorem zcv {z : Int} (h : z ≠ 0) (e : Int) : ∃ j : Nat, z = mz z e * 2 ^ j ∧ me z e = e + (j : Int) ∧ mz z e ≠ 0 ∧ bl (mz z e).natAbs + j = bl z.natAbs := by
 have hn : z.natAbs ≠ 0 := by omega
 have hw := zdp hn
 obtain ⟨q, hq⟩ := zbO hn
 have hd : z.natAbs / 2 ^ lw z.natAbs = 2 * q + 1 := by
  have : z.natAbs / 2 ^ lw z.natAbs = 2 ^ lw z.natAbs * (2 * q + 1) / 2 ^ lw z.natAbs := by rw [← hq]
  rw [this, Nat.mul_div_cancel_left _ (zh _)]
 have hm : mz z e = sv (decide (z < 0)) (z.natAbs / 2 ^ lw z.natAbs) := by
  unfold mz mk; rw [if_neg h]; show sv _ (V (D _)) = _; rw [V_D]
 have he : me z e = e + (lw z.natAbs : Nat) := by unfold me mk; rw [if_neg h]
 refine ⟨lw z.natAbs, ?_, he, ?_, ?_⟩
 ·rw [hm, hd]
  have h1 : sv (decide (z < 0)) (2 * q + 1) * 2 ^ lw z.natAbs = sv (decide (z < 0)) ((2 * q + 1) * 2 ^ lw z.natAbs) := by
   unfold sv
   split
   ·rw [Int.neg_mul, Int.natCast_mul, Int.natCast_pow]; rfl
   ·rw [Int.natCast_mul, Int.natCast_pow]; rfl
  rw [h1, Nat.mul_comm, ← hq, zgp]
 ·rw [hm, hd]; intro h2; have := zce.1 h2; omega
 ·rw [hm, zah, zbG]; omega
theorem zd2 (z e : Int) : (mk z e).2.1.length ≤ (bl z.natAbs + 31) / 32 := by
 rw [zlj]
 refine zaT ?_
 rw [zbG]; omega
theorem zcu (z e : Int) : me z e = 0 ∧ z = 0 ∨ e ≤ me z e ∧ me z e ≤ e + (bl z.natAbs : Nat) := by
 by_cases h : z = 0
 ·exact .inl ⟨by rw [h]; rfl, h⟩
 ·obtain ⟨j, _, h2, _, h4⟩ := zcv h e
  exact .inr (by omega)
theorem zjW {z : Int} (h : z ≠ 0) {e m : Int} (hm : m ≤ e) : al (mz z e) (me z e) m = al z e m := by
 obtain ⟨j, h1, h2, _, _⟩ := zcv h e
 rw [h2]
 have h3 : al z e m = al (mz z e * 2 ^ j) e m := by rw [← h1]
 rw [h3]
 unfold al
 rw [Int.mul_assoc, ← Int.pow_add]
 congr 2
 omega
theorem zlo {z : Int} (h : z ≠ 0) (e : Int) : mz z e ≠ 0 := by obtain ⟨j, _, _, h3, _⟩ := zcv h e; exact h3
theorem zg4 (ea zb eb : Int) : zal 0 ea zb eb = -zb.sign := by
 unfold zal
 rw [zdM, Int.zero_sub, Int.sign_neg, zbE]
theorem zg1 (za ea zb eb : Int) : zal za ea zb eb = -zal zb eb za ea := by
 unfold zal
 rw [← Int.sign_neg, Int.neg_sub, Int.min_comm]
theorem zg3 (za ea zb eb : Int) : zal (mz za ea) (me za ea) zb eb = zal za ea zb eb := by
 by_cases h : za = 0
 ·subst h; rw [zd5, zg4, zg4]
 ·have hb := zcu za ea
  have h1 : ea ≤ me za ea := by omega
  rw [← zj9 (za := mz za ea) (m := min ea eb) (by omega) (by omega), zjW h (by omega)]
  rfl
theorem zka (za ea zb eb : Int) : zal za ea (mz zb eb) (me zb eb) = zal za ea zb eb := by
 rw [zg1, zg3, ← zg1]
theorem zkb (a b e : Int) : zal a e b e = (a - b).sign := by
 unfold zal al
 rw [Int.min_self, Int.sub_self]; simp
theorem zi8 (z e : Int) : top (mz z e) (me z e) = top z e := by
 by_cases h : z = 0
 ·subst h; rfl
 ·obtain ⟨j, h1, h2, h3, h4⟩ := zcv h e
  unfold top
  rw [if_neg h, if_neg h3, h2]; omega
structure Rg (z e : Int) : Prop where
 b : bl z.natAbs ≤ 10000000
 lo : -40000000 ≤ e
 hi : e ≤ 40000000
theorem zmj {za ea zb eb : Int} (ha : Rg za ea) (hb : Rg zb eb) : zeu (mk za ea).2.1 (me za ea) (mk zb eb).2.1 (me zb eb) := by
 have a1 := zd2 za ea
 have b1 := zd2 zb eb
 have a2 := zcu za ea
 have b2 := zcu zb eb
 obtain ⟨h1, h2, h3⟩ := ha
 obtain ⟨h4, h5, h6⟩ := hb
 refine ⟨by omega, by omega, by omega, by omega⟩
theorem zig {za ea zb eb : Int} (ha : Rg za ea) (hb : Rg zb eb) : Ev (fun k => zb3.f k (mk za ea).1 (mk za ea).2.1 (mk za ea).2.2 (mk zb eb).1 (mk zb eb).2.1 (mk zb eb).2.2) (zal za ea zb eb) := by
 refine zg (zmb (zbY za ea) (zbY zb eb) (zmj ha hb)) ?_
 show zal (mz za ea) (me za ea) (mz zb eb) (me zb eb) = _
 rw [zg3, zka]
theorem zl5 {za ea zb eb : Int} (ha : Rg za ea) (hb : Rg zb eb) : Ev (fun k => zcQ.f k (mk za ea).1 (mk za ea).2.1 (mk za ea).2.2 (mk zb eb).1 (mk zb eb).2.1 (mk zb eb).2.2) (mk (za * zb) (ea + eb)) := by
 have a1 := zd2 za ea
 have b1 := zd2 zb eb
 have a2 := zcu za ea
 have b2 := zcu zb eb
 obtain ⟨h1, h2, h3⟩ := ha
 obtain ⟨h4, h5, h6⟩ := hb
 have e1 : (mk za ea).2.2 = me za ea := rfl
 have e2 : (mk zb eb).2.2 = me zb eb := rfl
 refine zg (zme (zbY za ea) (zbY zb eb) (by omega) (by omega) (by omega) (by omega) (by omega) (by omega)) ?_
 show mk (mz za ea * mz zb eb) (me za ea + me zb eb) = _
 by_cases c : za = 0
 ·subst c; rw [zd5, Int.zero_mul, Int.zero_mul]; rfl
 by_cases c2 : zb = 0
 ·subst c2; rw [zd5, Int.mul_zero, Int.mul_zero]; rfl
 obtain ⟨j, p1, p2, _, _⟩ := zcv c ea
 obtain ⟨i, q1, q2, _, _⟩ := zcv c2 eb
 have e3 : za * zb = mz za ea * mz zb eb * 2 ^ (j + i) := by
  conv => lhs; rw [p1, q1]
  rw [Int.pow_add, Int.mul_assoc, Int.mul_assoc]
  congr 1
  rw [Int.mul_left_comm]
 rw [e3, zdr, p2, q2]
 congr 1
 omega
def upB (m : Int) (s odd zR more : Bool) : Bool :=
 if m = 1 then zR && (more || odd) else if m = 2 then zR else if m = 4 then !s && (zR || more) else if m = 5 then s && (zR || more) else false
def rnd (m : Int) (s : Bool) (n k : Nat) : Nat :=
 n / 2 ^ k + (if upB m s (decide (n / 2 ^ k % 2 = 1)) (decide (2 ^ k ≤ 2 * (n % 2 ^ k))) (decide (2 * (n % 2 ^ k) % 2 ^ k ≠ 0)) = true then 1 else 0)
theorem ziA {m : Int} {s : Bool} {n k : Nat} (h : n % 2 ^ k = 0) : rnd m s n k = n / 2 ^ k := by
 have hp := zh k
 unfold rnd
 rw [h]
 have e1 : decide (2 ^ k ≤ 2 * 0) = false := decide_eq_false (by omega)
 have e2 : decide (2 * 0 % 2 ^ k ≠ 0) = false := decide_eq_false (by simp)
 rw [e1, e2]
 unfold upB
 simp
theorem zc0 (m : Int) (s : Bool) (n : Nat) : rnd m s n 0 = n := by
 rw [ziA (by rw [Nat.pow_zero, Nat.mod_one]), Nat.pow_zero, Nat.div_one]
theorem zgd (m : Int) (s : Bool) (n k j : Nat) : rnd m s (n * 2 ^ j) (k + j) = rnd m s n k := by
 have hj := zh j
 have hk := zh k
 have e1 : n * 2 ^ j / 2 ^ (k + j) = n / 2 ^ k := by rw [Nat.pow_add, Nat.mul_div_mul_right _ _ hj]
 have e2 : n * 2 ^ j % 2 ^ (k + j) = n % 2 ^ k * 2 ^ j := by rw [Nat.pow_add, Nat.mul_mod_mul_right]
 unfold rnd
 rw [e1, e2]
 have e3 : decide (2 ^ (k + j) ≤ 2 * (n % 2 ^ k * 2 ^ j)) = decide (2 ^ k ≤ 2 * (n % 2 ^ k)) := decide_eq_decide.2 (by
  rw [Nat.pow_add, ← Nat.mul_assoc]
  exact ⟨fun h => Nat.le_of_mul_le_mul_right h hj, fun h => Nat.mul_le_mul_right _ h⟩)
 have e4 : decide (2 * (n % 2 ^ k * 2 ^ j) % 2 ^ (k + j) ≠ 0) = decide (2 * (n % 2 ^ k) % 2 ^ k ≠ 0) := decide_eq_decide.2 (by
  rw [Nat.pow_add, ← Nat.mul_assoc, Nat.mul_mod_mul_right]
  constructor
  ·intro h h2; exact h (by rw [h2, Nat.zero_mul])
  ·intro h h2
   rcases Nat.mul_eq_zero.1 h2 with h3 | h3
   ·exact h h3
   ·omega)
 rw [e3, e4]
def R (m : Int) (s : Bool) (n : Nat) (e E : Int) : Nat := rnd m s (n * 2 ^ (e - E).toNat) (E - e).toNat
theorem zev (m : Int) (s : Bool) (n : Nat) (e E : Int) (j : Nat) : R m s (n * 2 ^ j) e E = R m s n (e + j) E := by
 unfold R
 by_cases h : E ≤ e
 ·have e1 : (E - e).toNat = 0 := by omega
  have e2 : (E - (e + (j : Int))).toNat = 0 := by omega
  rw [e1, e2, zc0, zc0, Nat.mul_assoc, ← Nat.pow_add]
  congr 2; omega
 ·by_cases h2 : E ≤ e + (j : Int)
  ·have e1 : (e - E).toNat = 0 := by omega
   have e2 : (E - (e + (j : Int))).toNat = 0 := by omega
   rw [e1, e2, zc0, Nat.pow_zero, Nat.mul_one]
   have e3 : n * 2 ^ j = n * 2 ^ (e + (j : Int) - E).toNat * 2 ^ (E - e).toNat := by
    rw [Nat.mul_assoc, ← Nat.pow_add]; congr 2; omega
   rw [e3]
   have := zgd m s (n * 2 ^ (e + (j : Int) - E).toNat) 0 (E - e).toNat
   rw [Nat.zero_add, zc0] at this
   exact this
  ·have e1 : (e - E).toNat = 0 := by omega
   have e2 : (e + (j : Int) - E).toNat = 0 := by omega
   have e3 : (E - e).toNat = (E - (e + (j : Int))).toNat + j := by omega
   rw [e1, e2, e3, Nat.pow_zero, Nat.mul_one, Nat.mul_one, zgd]
def exR (n : Nat) (e E : Int) : Bool := decide (n % 2 ^ (E - e).toNat = 0)
theorem zeP (n : Nat) (e E : Int) (j : Nat) : exR (n * 2 ^ j) e E = exR n (e + j) E := by
 unfold exR
 apply decide_eq_decide.2
 by_cases h2 : E ≤ e + (j : Int)
 ·have e2 : (E - (e + (j : Int))).toNat = 0 := by omega
  rw [e2, Nat.pow_zero, Nat.mod_one]
  have e3 : n * 2 ^ j = n * 2 ^ (j - (E - e).toNat) * 2 ^ (E - e).toNat := by
   rw [Nat.mul_assoc, ← Nat.pow_add]; congr 2; omega
  rw [e3, Nat.mul_mod_left]
 ·have e3 : (E - e).toNat = (E - (e + (j : Int))).toNat + j := by omega
  rw [e3, Nat.pow_add, Nat.mul_mod_mul_right]
  constructor
  ·intro h
   rcases Nat.mul_eq_zero.1 h with h3 | h3
   ·exact h3
   ·have := zh j; omega
  ·intro h; rw [h, Nat.zero_mul]
theorem zj6 (q : Nat) : bl (q + 1) ≤ bl q + 1 := by
 refine zI ?_
 have := zZ q
 rw [Nat.pow_succ]
 have := zh (bl q)
 omega
theorem zjD {m : Int} {s : Bool} {n : Nat} {e E : Int} (hn : n ≠ 0) : (bl (R m s n e E) : Int) ≤ max 1 (e + (bl n : Nat) - E + 1) := by
 have h0 : rnd m s (n * 2 ^ (e - E).toNat) (E - e).toNat ≤ n * 2 ^ (e - E).toNat / 2 ^ (E - e).toNat + 1 := by unfold rnd; split <;> omega
 have h1 := zar h0
 have h2 := zj6 (n * 2 ^ (e - E).toNat / 2 ^ (E - e).toNat)
 rw [zbG, zaZ hn] at h2
 unfold R
 by_cases c : E ≤ e
 ·have e1 : (E - e).toNat = 0 := by omega
  rw [e1, zc0, zaZ hn]; omega
 ·omega
theorem zfo {m : Int} {s : Bool} {n : Nat} {e E : Int} (hn : n ≠ 0) (h : E ≤ e + (bl n : Nat) - 1) : e + (bl n : Nat) ≤ (bl (R m s n e E) : Int) + E ∧ (bl (R m s n e E) : Int) + E ≤ e + (bl n : Nat) + 1 := by
 have h3 := zjD (m := m) (s := s) (e := e) (E := E) hn
 refine ⟨?_, by omega⟩
 have h0 : n * 2 ^ (e - E).toNat / 2 ^ (E - e).toNat ≤ rnd m s (n * 2 ^ (e - E).toNat) (E - e).toNat := by unfold rnd; split <;> omega
 have h1 := zar h0
 rw [zbG, zaZ hn] at h1
 unfold R; omega
def TK (m : Int) (z e E : Int) : Int := sv (decide (z < 0)) (R m (decide (z < 0)) z.natAbs e E)
theorem zjI {m z e E : Int} (h : exR z.natAbs e E = true) : mk (TK m z e E) E = mk z e := by
 unfold TK R
 unfold exR at h
 have h := of_decide_eq_true h
 by_cases c : E ≤ e
 ·have e1 : (E - e).toNat = 0 := by omega
  rw [e1, zc0]
  have e2 : sv (decide (z < 0)) (z.natAbs * 2 ^ (e - E).toNat) = z * 2 ^ (e - E).toNat := by
   have := zfr (decide (z < 0)) z.natAbs e E
   rw [zgp] at this
   exact this.symm
  rw [e2, zdr]; congr 1; omega
 ·have e1 : (e - E).toNat = 0 := by omega
  rw [e1, Nat.pow_zero, Nat.mul_one, ziA h]
  generalize hk : (E - e).toNat = k at *
  have hE : E = e + (k : Int) := by omega
  rw [hE, ← zdr]
  congr 1
  have e2 : sv (decide (z < 0)) (z.natAbs / 2 ^ k) * 2 ^ k = sv (decide (z < 0)) (z.natAbs / 2 ^ k * 2 ^ k) := by
   unfold sv; split
   ·rw [Int.neg_mul, Int.natCast_mul, Int.natCast_pow]; rfl
   ·rw [Int.natCast_mul, Int.natCast_pow]; rfl
  rw [e2, Nat.div_mul_cancel (Nat.dvd_of_mod_eq_zero h), zgp]
theorem zfb {E : Int} (h1 : -1000000000 ≤ E) (h2 : E ≤ 1000000000) : wrap64 (-E) = -E := by unfold wrap64; omega
def inw (m : Int) (s : Bool) : Bool := decide (m = 3) || (decide (m = 4) && s) || (decide (m = 5) && !s)
def zcW (f m : Int) (s : Bool) : Nat := (if inw m s = true then mo f * 2 ^ fb f - 1 else mo f * 2 ^ fb f) + sgn f s
def zaH (f : Int) (n : Nat) (e : Int) : Nat := enc f (n / 2 ^ lw n) (e + (lw n : Nat))
def zj (f : Int) (n : Nat) (e : Int) : Int := max (e + (bl n : Nat) - (pr f : Nat)) (lo f)
def zu (f m : Int) (s : Bool) (n : Nat) (e : Int) : Int × Int :=
 let q := R m s n e (zj f n e)
 if (bl q : Int) + zj f n e > wd f then ((zcW f m s : Int), 20)
 else ((((if q = 0 then 0 else zaH f q (zj f n e)) + sgn f s : Nat) : Int),
  if exR n e (zj f n e) = true then 0
  else if (bl (R m s n e (e + (bl n : Nat) - (pr f : Nat))) : Int) + (e + (bl n : Nat) - (pr f : Nat)) < lo f + (pr f : Nat) then 24 else 16)
theorem zjE {m : Int} {s : Bool} {n : Nat} {e E : Int} {p : Nat} (h : e + (bl n : Nat) - (p : Nat) ≤ E) : R m s n e E ≤ 2 ^ p := by
 have h1 := zZ n
 unfold R
 by_cases c : E ≤ e
 ·have e1 : (E - e).toNat = 0 := by omega
  rw [e1, zc0]
  have h2 : n * 2 ^ (e - E).toNat < 2 ^ bl n * 2 ^ (e - E).toNat := Nat.mul_lt_mul_of_pos_right h1 (zh _)
  rw [← Nat.pow_add] at h2
  exact Nat.le_trans (Nat.le_of_lt h2) (Nat.pow_le_pow_right (by omega) (by omega))
 ·have e1 : (e - E).toNat = 0 := by omega
  rw [e1, Nat.pow_zero, Nat.mul_one]
  have h3 : n / 2 ^ (E - e).toNat < 2 ^ p := by
   rw [Nat.div_lt_iff_lt_mul (zh _), ← Nat.pow_add]
   exact Nat.lt_of_lt_of_le h1 (Nat.pow_le_pow_right (by omega) (by omega))
  unfold rnd
  split <;> omega
theorem zlB {q p : Nat} (h0 : q ≠ 0) (h : q ≤ 2 ^ p) : bl (q / 2 ^ lw q) ≤ p ∨ p = 0 := by
 rcases Nat.eq_zero_or_pos p with hp | hp
 ·exact .inr hp
 left
 rcases Nat.lt_or_ge q (2 ^ p) with c | c
 ·exact zI (Nat.lt_of_le_of_lt (Nat.div_le_self _ _) c)
 ·have e : q = 2 ^ p := by omega
  have hw : lw q = p := zd0 ⟨0, by rw [e]; omega⟩
  rw [hw, e, Nat.div_self (zh p)]
  have : bl 1 = 1 := by decide
  omega
theorem zgr {n : Nat} (h : n ≠ 0) : bl (n / 2 ^ lw n) + lw n = bl n := by
 have := zdp h
 rw [zbG]; omega
def bN (b : Bool) : Nat := if b = true then 1 else 0
theorem zmn {m : Int} {s : Bool} {n k n' k' : Nat} (h1 : n / 2 ^ k = n' / 2 ^ k') (h2 : 2 ^ k ≤ 2 * (n % 2 ^ k) ↔ 2 ^ k' ≤ 2 * (n' % 2 ^ k')) (h3 : 2 * (n % 2 ^ k) % 2 ^ k = 0 ↔ 2 * (n' % 2 ^ k') % 2 ^ k' = 0) : rnd m s n k = rnd m s n' k' := by
 unfold rnd
 rw [h1, decide_eq_decide.2 h2, decide_eq_decide.2 (show 2 * (n % 2 ^ k) % 2 ^ k ≠ 0 ↔ 2 * (n' % 2 ^ k') % 2 ^ k' ≠ 0 from not_congr h3)]
theorem zfz {x M : Nat} (h : x < M) : 2 * x % M = 0 ↔ x = 0 ∨ 2 * x = M := by
 by_cases c : 2 * x < M
 ·rw [Nat.mod_eq_of_lt c]; omega
 ·have : 2 * x % M = 2 * x - M := by rw [Nat.mod_eq_sub_mod (by omega), Nat.mod_eq_of_lt (by omega)]
  rw [this]; omega
theorem zef {H j r d : Nat} (hr : r < 2 ^ j) : (H * 2 ^ j + r) / 2 ^ (d + j) = H / 2 ^ d ∧ (H * 2 ^ j + r) % 2 ^ (d + j) = H % 2 ^ d * 2 ^ j + r := by
 have := zc3 (X := H) (P := 2 ^ j) (Q := 2 ^ d) (c := r) (zh j) hr
 rw [Nat.pow_add, Nat.mul_comm (2 ^ d)]
 exact ⟨this.1, by rw [this.2, Nat.mul_comm]⟩
theorem ziB (m : Int) (s : Bool) {H j r d : Nat} (hr : r < 2 ^ j) (hd : 1 ≤ d) : rnd m s (H * 2 ^ j + r) (d + j) = rnd m s (2 * H + bN (decide (r ≠ 0))) (d + 1) := by
 have hb : bN (decide (r ≠ 0)) < 2 ^ 1 := by unfold bN; split <;> omega
 have hb0 : bN (decide (r ≠ 0)) = 0 ↔ r = 0 := by
  unfold bN
  by_cases c : r = 0
  ·simp [c]
  ·simp [c]
 have e0 : 2 * H + bN (decide (r ≠ 0)) = H * 2 ^ 1 + bN (decide (r ≠ 0)) := by omega
 rw [e0]
 generalize bN (decide (r ≠ 0)) = b at *
 obtain ⟨a1, a2⟩ := zef (H := H) (d := d) hr
 obtain ⟨b1, b2⟩ := zef (H := H) (d := d) hb
 have hh := Nat.mod_lt H (zh d)
 have hj := zh j
 obtain ⟨d', rfl⟩ : ∃ d', d = d' + 1 := ⟨d - 1, by omega⟩
 have he : 2 ^ (d' + 1) = 2 * 2 ^ d' := by rw [Nat.pow_succ, Nat.mul_comm]
 refine zmn (by rw [a1, b1]) ?_ ?_
 ·rw [a2, b2, Nat.pow_add 2 (d' + 1) j, Nat.pow_add 2 (d' + 1) 1, he]
  rw [he] at hh
  generalize H % (2 * 2 ^ d') = h at *
  generalize 2 ^ d' = p at *
  generalize 2 ^ j = q at *
  constructor
  ·intro h1
   rcases Nat.lt_or_ge h p with c | c
   ·exfalso
    have h2 : (h + 1) * q ≤ p * q := Nat.mul_le_mul_right _ c
    rw [Nat.add_mul, Nat.one_mul] at h2
    rw [Nat.mul_assoc] at h1
    omega
   ·omega
  ·intro h1
   have h2 : p * q ≤ h * q := Nat.mul_le_mul_right _ (by omega)
   rw [Nat.mul_assoc]; omega
 ·have l1 : H % 2 ^ (d' + 1) * 2 ^ j + r < 2 ^ (d' + 1 + j) := by
   rw [Nat.pow_add 2 (d' + 1) j]
   have h2 : (H % 2 ^ (d' + 1) + 1) * 2 ^ j ≤ 2 ^ (d' + 1) * 2 ^ j := Nat.mul_le_mul_right _ hh
   rw [Nat.add_mul, Nat.one_mul] at h2
   omega
  have l2 : H % 2 ^ (d' + 1) * 2 ^ 1 + b < 2 ^ (d' + 1 + 1) := by rw [Nat.pow_add 2 (d' + 1) 1]; omega
  rw [a2, b2, zfz l1, zfz l2, Nat.pow_add 2 (d' + 1) j, Nat.pow_add 2 (d' + 1) 1, he]
  rw [he] at hh
  generalize H % (2 * 2 ^ d') = h at *
  generalize 2 ^ d' = p at *
  generalize 2 ^ j = q at *
  constructor
  ·rintro (h1 | h1)
   ·have h2 : h * q = 0 := by omega
    rcases Nat.mul_eq_zero.1 h2 with h3 | h3
    ·left; have := hb0.2 (by omega); omega
    ·omega
   ·right
    rw [Nat.mul_assoc] at h1
    rcases Nat.lt_trichotomy h p with c | c | c
    ·have h2 : (h + 1) * q ≤ p * q := Nat.mul_le_mul_right _ c
     rw [Nat.add_mul, Nat.one_mul] at h2
     omega
    ·subst c
     have := hb0.2 (by omega)
     omega
    ·have h2 : (p + 1) * q ≤ h * q := Nat.mul_le_mul_right _ c
     rw [Nat.add_mul, Nat.one_mul] at h2
     omega
  ·rintro (h1 | h1)
   ·left
    have h2 : h = 0 := by omega
    have h3 := hb0.1 (by omega)
    rw [h2, h3]; omega
   ·right
    have h2 : h = p := by omega
    have h3 := hb0.1 (by omega)
    rw [h2, h3, Nat.mul_assoc]; omega
theorem zhp {H j r d : Nat} (hr : r < 2 ^ j) : (H * 2 ^ j + r) % 2 ^ (d + j) = 0 ↔ (2 * H + bN (decide (r ≠ 0))) % 2 ^ (d + 1) = 0 := by
 have hb : bN (decide (r ≠ 0)) < 2 ^ 1 := by unfold bN; split <;> omega
 have hb0 : bN (decide (r ≠ 0)) = 0 ↔ r = 0 := by
  unfold bN
  by_cases c : r = 0
  ·simp [c]
  ·simp [c]
 have e0 : 2 * H + bN (decide (r ≠ 0)) = H * 2 ^ 1 + bN (decide (r ≠ 0)) := by omega
 rw [e0]
 generalize bN (decide (r ≠ 0)) = b at *
 rw [(zef (H := H) (d := d) hr).2, (zef (H := H) (d := d) hb).2]
 have hj := zh j
 constructor
 ·intro h
  have h2 : H % 2 ^ d * 2 ^ j = 0 := by omega
  rcases Nat.mul_eq_zero.1 h2 with h3 | h3
  ·have := hb0.2 (by omega); omega
  ·omega
 ·intro h
  have h2 : H % 2 ^ d = 0 := by omega
  have h3 := hb0.1 (by omega)
  rw [h2, h3]; omega
def UP (m : Int) (s : Bool) (H : Nat) (T : Int) (b : Bool) (E : Int) : Nat := rnd m s (2 * H + bN b) ((E - T + 64).toNat + 1)
def XP (H : Nat) (T : Int) (b : Bool) (E : Int) : Bool := decide ((2 * H + bN b) % 2 ^ ((E - T + 64).toNat + 1) = 0)
def zJ (n : Nat) : Nat := n * 2 ^ (64 - bl n) / 2 ^ (bl n - 64)
def za6 (n : Nat) : Bool := decide (n % 2 ^ (bl n - 64) ≠ 0)
theorem zhr {n : Nat} (h : n ≠ 0) : 2 ^ 63 ≤ zJ n ∧ zJ n < 2 ^ 64 := by
 have h1 := zZ n
 have h2 := zcO h
 have hp := zbu h
 unfold zJ
 by_cases c : bl n ≤ 64
 ·have e1 : bl n - 64 = 0 := by omega
  rw [e1, Nat.pow_zero, Nat.div_one]
  have h3 : 2 ^ (bl n - 1) * 2 ^ (64 - bl n) ≤ n * 2 ^ (64 - bl n) := Nat.mul_le_mul_right _ h2
  have h4 : n * 2 ^ (64 - bl n) < 2 ^ bl n * 2 ^ (64 - bl n) := Nat.mul_lt_mul_of_pos_right h1 (zh _)
  rw [← Nat.pow_add] at h3 h4
  rw [show bl n - 1 + (64 - bl n) = 63 by omega] at h3
  rw [show bl n + (64 - bl n) = 64 by omega] at h4
  exact ⟨h3, h4⟩
 ·have e1 : 64 - bl n = 0 := by omega
  rw [e1, Nat.pow_zero, Nat.mul_one]
  constructor
  ·rw [Nat.le_div_iff_mul_le (zh _), ← Nat.pow_add, show 63 + (bl n - 64) = bl n - 1 by omega]; exact h2
  ·rw [Nat.div_lt_iff_lt_mul (zh _), ← Nat.pow_add, show 64 + (bl n - 64) = bl n by omega]; exact h1
theorem zjK (m : Int) (s : Bool) {n : Nat} (hn : n ≠ 0) {e E : Int} (h : 1 ≤ E - (e + (bl n : Nat)) + 64) : UP m s (zJ n) (e + (bl n : Nat)) (za6 n) E = R m s n e E ∧ XP (zJ n) (e + (bl n : Nat)) (za6 n) E = exR n e E := by
 have hp := zbu hn
 generalize hd : (E - (e + (bl n : Nat)) + 64).toNat = d
 by_cases c : 64 ≤ bl n
 ·have e1 : 64 - bl n = 0 := by omega
  have hH : zJ n = n / 2 ^ (bl n - 64) := by unfold zJ; rw [e1, Nat.pow_zero, Nat.mul_one]
  have hsp : n = zJ n * 2 ^ (bl n - 64) + n % 2 ^ (bl n - 64) := by
   rw [hH]
   have := Nat.div_add_mod n (2 ^ (bl n - 64))
   rw [Nat.mul_comm] at this
   exact this.symm
  have hr := Nat.mod_lt n (zh (bl n - 64))
  have hk : (E - e).toNat = d + (bl n - 64) := by omega
  have hz : (e - E).toNat = 0 := by omega
  have st := ziB m s (H := zJ n) (d := d) hr (by omega)
  have ex := zhp (H := zJ n) (d := d) hr
  rw [← hsp] at st ex
  unfold UP XP R exR za6
  rw [hd, hk, hz, Nat.pow_zero, Nat.mul_one]
  exact ⟨st.symm, decide_eq_decide.2 ex.symm⟩
 ·have e1 : bl n - 64 = 0 := by omega
  have hH : zJ n = n * 2 ^ (64 - bl n) := by unfold zJ; rw [e1, Nat.pow_zero, Nat.div_one]
  have hm : za6 n = false := by unfold za6; rw [e1, Nat.pow_zero, Nat.mod_one]; rfl
  have hR := zev m s n (e - (64 - bl n : Nat)) E (64 - bl n)
  have hX := zeP n (e - (64 - bl n : Nat)) E (64 - bl n)
  rw [show e - ((64 - bl n : Nat) : Int) + ((64 - bl n : Nat) : Int) = e by omega, ← hH] at hR hX
  rw [← hR, ← hX, hm]
  unfold UP XP R exR bN
  rw [if_neg (by simp), Nat.add_zero, hd, show (e - ((64 - bl n : Nat) : Int) - E).toNat = 0 by omega, show (E - (e - ((64 - bl n : Nat) : Int))).toNat = d by omega, Nat.pow_zero, Nat.mul_one]
  have := zgd m s (zJ n) d 1
  rw [Nat.pow_one, Nat.mul_comm] at this
  refine ⟨this, ?_⟩
  apply decide_eq_decide.2
  rw [Nat.pow_succ, Nat.mul_comm 2, Nat.mul_mod_mul_right]
  omega
theorem zjk (m : Int) (s odd zR more : Bool) : zc2.f m s odd zR more = some (upB m s odd zR more) := by
 unfold zc2.f upB
 by_cases c1 : m = 1
 ·rw [if_pos c1, if_pos c1]; cases more <;> cases odd <;> cases zR <;> rfl
 rw [if_neg c1, if_neg c1]
 by_cases c2 : m = 2
 ·rw [if_pos c2, if_pos c2]
 rw [if_neg c2, if_neg c2]
 by_cases c4 : m = 4
 ·rw [if_pos c4, if_pos c4]; cases s <;> cases zR <;> cases more <;> rfl
 rw [if_neg c4, if_neg c4]
 by_cases c5 : m = 5
 ·rw [if_pos c5, if_pos c5]; cases s <;> cases zR <;> cases more <;> rfl
 ·rw [if_neg c5, if_neg c5]
theorem zgV (b : Bool) : zdw.f b = some (bN b : Int) := by cases b <;> rfl
theorem zgQ (a : Nat) (ha : a < 18446744073709551616) : Go.bits .and .u64 (a : Int) 1 = ((a % 2 : Nat) : Int) := zgR a 1 ha (by omega)
theorem zjh (m : Int) (s : Bool) {W : Nat} (hW : W < 9223372036854775808) (zR more : Bool) : Ev (fun k => zad.j2 k m s (W : Int) zR more) (((W + bN (upB m s (decide (W % 2 = 1)) zR more) : Nat) : Int), !zR && !more) := by
 have hb : bN (upB m s (decide (W % 2 = 1)) zR more) ≤ 1 := by unfold bN; split <;> omega
 refine zf ?_
 simp only [zad.j2]
 rw [zgQ W (by omega)]
 have e1 : decide (((W % 2 : Nat) : Int) = 1) = decide (W % 2 = 1) := decide_eq_decide.2 (by omega)
 rw [e1]
 refine zl (zjk _ _ _ _ _) ?_; try dsimp only
 refine zl (zgV _) ?_; try dsimp only
 rw [← Int.natCast_add, zaC (by omega)]
 cases zR
 ·exact zd rfl (Ev.now _)
 ·exact ze (by simp) (Ev.now _)
theorem zj2 {H d : Nat} (b : Bool) (hd : 1 ≤ d) : (2 * H + bN b) / 2 ^ (d + 1) = H / 2 ^ d ∧
  decide (2 ^ (d + 1) ≤ 2 * ((2 * H + bN b) % 2 ^ (d + 1))) = decide (H / 2 ^ (d - 1) % 2 = 1) ∧
  decide (2 * ((2 * H + bN b) % 2 ^ (d + 1)) % 2 ^ (d + 1) ≠ 0) = (b || decide (H % 2 ^ (d - 1) ≠ 0)) ∧
  decide ((2 * H + bN b) % 2 ^ (d + 1) = 0) = (!decide (H / 2 ^ (d - 1) % 2 = 1) && !(b || decide (H % 2 ^ (d - 1) ≠ 0))) := by
 have hb : bN b < 2 ^ 1 := by unfold bN; split <;> omega
 have hb0 : bN b = 0 ↔ b = false := by unfold bN; cases b <;> simp
 have hb1 : bN b ≤ 1 := by unfold bN; split <;> omega
 obtain ⟨d', rfl⟩ : ∃ d', d = d' + 1 := ⟨d - 1, by omega⟩
 have hs := zef (H := H) (d := d' + 1) hb
 have e0 : H * 2 ^ 1 + bN b = 2 * H + bN b := by omega
 rw [e0] at hs
 have hm : H % 2 ^ (d' + 1) = H % 2 ^ d' + 2 ^ d' * (H / 2 ^ d' % 2) := by rw [Nat.pow_succ, Nat.mod_mul]
 have hl := Nat.mod_lt H (zh d')
 have h2 : H / 2 ^ d' % 2 = 0 ∨ H / 2 ^ d' % 2 = 1 := by omega
 have hp : 2 ^ (d' + 1 + 1) = 4 * 2 ^ d' := by rw [Nat.pow_succ, Nat.pow_succ]; omega
 have hx : H % 2 ^ (d' + 1) * 2 ^ 1 + bN b < 4 * 2 ^ d' := by
  rw [hm]; rcases h2 with h | h <;> rw [h] <;> omega
 rw [hs.1, hs.2, hp]
 rw [show d' + 1 - 1 = d' from rfl]
 refine ⟨rfl, ?_, ?_, ?_⟩
 ·apply decide_eq_decide.2
  rw [hm]; rcases h2 with h | h <;> rw [h] <;> constructor <;> intro h3 <;> omega
 ·have e3 : (b || decide (H % 2 ^ d' ≠ 0)) = decide (¬ (bN b = 0 ∧ H % 2 ^ d' = 0)) := by
   by_cases c : H % 2 ^ d' = 0
   ·cases b <;> simp [c, bN]
   ·cases b <;> simp [c, bN]
  rw [e3]
  apply decide_eq_decide.2
  apply not_congr
  rw [zfz hx, hm]
  rcases h2 with h | h <;> rw [h] <;> constructor
  ·rintro (h3 | h3) <;> omega
  ·rintro ⟨h3, h4⟩; left; omega
  ·rintro (h3 | h3) <;> omega
  ·rintro ⟨h3, h4⟩; right; omega
 ·have e3 : (!decide (H / 2 ^ d' % 2 = 1) && !(b || decide (H % 2 ^ d' ≠ 0))) = decide (¬ (H / 2 ^ d' % 2 = 1) ∧ (bN b = 0 ∧ H % 2 ^ d' = 0)) := by
   by_cases c : H % 2 ^ d' = 0
   ·rcases h2 with h | h <;> cases b <;> simp [c, h, bN]
   ·rcases h2 with h | h <;> cases b <;> simp [c, h, bN]
  rw [e3]
  apply decide_eq_decide.2
  rw [hm]
  rcases h2 with h | h <;> rw [h] <;> constructor <;> intro h3 <;> omega
theorem zjg (m : Int) (s : Bool) {H : Nat} (hH : 2 ^ 63 ≤ H ∧ H < 2 ^ 64) {T E : Int} (b : Bool) (hd : 1 ≤ E - T + 64) (h1 : -1000000000 ≤ T) (h2 : T ≤ 1000000000) (h3 : -1000000000 ≤ E) (h4 : E ≤ 1000000000) :
  Ev (fun k => zad.f k (H : Int) T b m s E) ((UP m s H T b E : Int), XP H T b E) := by
 have ew : wrap64 (wrap64 (E - T) + 64) = E - T + 64 := by unfold wrap64; omega
 unfold zad.f
 rw [ew]
 clear ew
 obtain ⟨d, hdd⟩ := Int.eq_ofNat_of_zero_le (show 0 ≤ E - T + 64 by omega)
 have hdn : (E - T + 64).toNat = d := by omega
 unfold UP XP
 rw [hdn, hdd]
 rw [hdd] at hd
 clear hdn hdd
 have hd1 : 1 ≤ d := by omega
 have hbb : bN b ≤ 1 := by unfold bN; split <;> omega
 by_cases c : d > 64
 ·have hp : 2 ^ 66 ≤ 2 ^ (d + 1) := Nat.pow_le_pow_right (by omega) (by omega)
  have e1 : rnd m s (2 * H + bN b) (d + 1) = bN (upB m s false false true) := by
   unfold rnd
   rw [Nat.div_eq_of_lt (by omega), Nat.mod_eq_of_lt (a := 2 * H + bN b) (by omega), Nat.mod_eq_of_lt (a := 2 * (2 * H + bN b)) (by omega)]
   rw [decide_eq_false (by omega : ¬ (0 % 2 = 1)), decide_eq_false (by omega : ¬ (2 ^ (d + 1) ≤ 2 * (2 * H + bN b))), decide_eq_true (by omega : 2 * (2 * H + bN b) ≠ 0), Nat.zero_add]
   rfl
  have e2 : decide ((2 * H + bN b) % 2 ^ (d + 1) = 0) = false := decide_eq_false (by rw [Nat.mod_eq_of_lt (by omega)]; omega)
  rw [e1, e2]
  refine zd (by omega) ?_
  refine zl (zjk _ _ _ _ _) ?_; try dsimp only
  refine zl (zgV _) ?_; try dsimp only
  exact Ev.now _
 refine ze (by omega) ?_
 obtain ⟨a1, a2, a3, a4⟩ := zj2 (H := H) b hd1
 have e1 : rnd m s (2 * H + bN b) (d + 1) = H / 2 ^ d + bN (upB m s (decide (H / 2 ^ d % 2 = 1)) (decide (H / 2 ^ (d - 1) % 2 = 1)) (b || decide (H % 2 ^ (d - 1) ≠ 0))) := by
  unfold rnd
  rw [a1, a2, a3]; rfl
 rw [e1, a4]
 clear a1 a2 a3 a4 e1
 have hW : H / 2 ^ d < 9223372036854775808 := by
  rw [Nat.div_lt_iff_lt_mul (zh d)]
  have : 2 ^ 1 ≤ 2 ^ d := Nat.pow_le_pow_right (by omega) hd1
  have := Nat.mul_le_mul_left 9223372036854775808 this
  omega
 have last : Ev (fun k => zad.j1 k m s (H : Int) T b (d : Int) ((H / 2 ^ d : Nat) : Int) false b) (((H / 2 ^ d + bN (upB m s (decide (H / 2 ^ d % 2 = 1)) (decide (H / 2 ^ (d - 1) % 2 = 1)) (b || decide (H % 2 ^ (d - 1) ≠ 0))) : Nat) : Int), (!decide (H / 2 ^ (d - 1) % 2 = 1) && !(b || decide (H % 2 ^ (d - 1) ≠ 0)))) := by
  have ew : wrap64 ((d : Int) - 1) = ((d - 1 : Nat) : Int) := by unfold wrap64; omega
  have hp64 : 2 ^ (d - 1) ≤ 2 ^ 63 := Nat.pow_le_pow_right (by omega) (by omega)
  have hpp := zh (d - 1)
  have hq : H / 2 ^ (d - 1) ≤ H := Nat.div_le_self _ _
  refine zf ?_
  simp only [zad.j1]
  rw [ew]
  clear ew
  rw [zcC H (d - 1) (by show d - 1 ≤ 64; omega), zgQ _ (by omega)]
  have e2 : decide (((H / 2 ^ (d - 1) % 2 : Nat) : Int) = 1) = decide (H / 2 ^ (d - 1) % 2 = 1) := decide_eq_decide.2 (by omega)
  have e3 : shl .u64 1 ((d - 1 : Nat) : Int) = ((2 ^ (d - 1) : Nat) : Int) := by
   have := ze7 (X := 1) (s := d - 1) (by omega) (by omega)
   rw [Nat.one_mul] at this
   exact this
  have e4 : IntKind.u64.wrap (((2 ^ (d - 1) : Nat) : Int) - 1) = ((2 ^ (d - 1) - 1 : Nat) : Int) := by
   rw [show ((2 ^ (d - 1) : Nat) : Int) - 1 = ((2 ^ (d - 1) - 1 : Nat) : Int) by omega]
   exact zaC (by omega)
  have e5 : decide (¬ (((H % 2 ^ (d - 1) : Nat) : Int) = 0)) = decide (H % 2 ^ (d - 1) ≠ 0) := decide_eq_decide.2 (by omega)
  rw [e2, e3, e4, zgR H (d - 1) (by omega) (by omega), e5]
  refine zd (by omega) (zd (by omega) ?_)
  cases b
  ·refine ze (by simp) (zd (by omega) ?_)
   exact zjh m s hW _ _
  ·refine zd rfl ?_
   exact zjh m s hW _ _
 by_cases c2 : d < 64
 ·refine zd (by omega) (zd (by omega) ?_)
  rw [zcC H d (by show d ≤ 64; omega)]
  exact last
 ·have zJ : d = 64 := by omega
  have e0 : H / 2 ^ d = 0 := Nat.div_eq_of_lt (by rw [zJ]; exact hH.2)
  refine ze (by omega) ?_
  rw [e0] at last ⊢
  exact last
def zcb (f m : Int) (s : Bool) (T : Int) (U : Int → Nat) (X : Int → Bool) : Int × Int :=
 if (bl (U (max (T - (pr f : Nat)) (lo f))) : Int) + max (T - (pr f : Nat)) (lo f) > wd f then ((zcW f m s : Int), 20)
 else ((((if U (max (T - (pr f : Nat)) (lo f)) = 0 then 0 else zaH f (U (max (T - (pr f : Nat)) (lo f))) (max (T - (pr f : Nat)) (lo f))) + sgn f s : Nat) : Int),
  if X (max (T - (pr f : Nat)) (lo f)) = true then 0
  else if (bl (U (T - (pr f : Nat))) : Int) + (T - (pr f : Nat)) < lo f + (pr f : Nat) then 24 else 16)
theorem ze6 (f m : Int) (s : Bool) (n : Nat) (e : Int) : zcb f m s (e + (bl n : Nat)) (R m s n e) (exR n e) = zu f m s n e := rfl
theorem zge {f m : Int} {s : Bool} {T : Int} {U U' : Int → Nat} {X X' : Int → Bool} (h : ∀ E, T - (pr f : Nat) ≤ E → U E = U' E ∧ X E = X' E) : zcb f m s T U X = zcb f m s T U' X' := by
 unfold zcb
 rw [(h (max (T - (pr f : Nat)) (lo f)) (by omega)).1, (h (max (T - (pr f : Nat)) (lo f)) (by omega)).2, (h (T - (pr f : Nat)) (by omega)).1]
theorem zfI {f : Int} (h : isF f) : zec.f f = some ((pr f : Int), lo f, wd f, true) := by rcases h with rfl | rfl <;> rfl
def fmE (f m : Int) : Int := if isF f then (if isM m then 0 else 5) else 4
theorem zlE {f m : Int} (h : isF f) (hm : isM m) : Ev (fun k => zN.f k f m []) ((pr f : Int), lo f, wd f, 0) := by
 unfold zN.f
 unfold isM at hm
 refine zl (zfI h) ?_; try dsimp only
 refine ze (by simp) (ze (by omega) (ze (by omega) ?_))
 refine zf ?_
 simp only [zN.l0]
 exact ze (by simp) (Ev.now _)
theorem zlF {f m : Int} (h : isF f) (hm : isM m) {s : Bool} {l : List Int} {e : Int} (hd : My s l e) : Ev (fun k => zN.f k f m [(s, l, e)]) ((pr f : Int), lo f, wd f, 0) := by
 unfold zN.f
 unfold isM at hm
 refine zl (zfI h) ?_; try dsimp only
 refine ze (by simp) (ze (by omega) (ze (by omega) ?_))
 have e1 : wrap64 (0 + 1) = 1 := by rw [zap (by omega) (by omega)]; rfl
 have el : (([(s, l, e)] : List (Bool × List Int × Int)).length : Int) = 1 := rfl
 have r0 : rdT [.b, .is .u32, .i .i64] [(s, l, e)] 0 = (s, l, e) := rfl
 refine zf ?_
 simp only [zN.l0, el, e1, r0]
 clear e1
 refine zd (by omega) (zd (by omega) (zd (by omega) ?_))
 refine zl (zct hd) ?_; try dsimp only
 refine ze (by simp) (zf ?_)
 simp only [zN.l0]
 exact ze (by omega) (Ev.now _)
theorem zjB {f : Int} (h : isF f) (s b : Bool) : Ev (fun k => zao.j1 k f s b) ((((if b = true then mo f * 2 ^ fb f - 1 else mo f * 2 ^ fb f) + sgn f s : Nat) : Int), 0) := by
 refine zf ?_
 simp only [zao.j1]
 cases b
 ·refine ze (by simp) ?_
  refine Ev.bind (zjs h s) ?_; try dsimp only
  exact Ev.now _
 ·refine zd rfl ?_
  refine Ev.bind (znl h s) ?_; try dsimp only
  exact Ev.now _
theorem zgD {f m : Int} (h : isF f) (hm : isM m) (s : Bool) : Ev (fun k => zao.f k f m s) ((zcW f m s : Int), 0) := by
 have j := fun b => zjB h s b
 unfold zao.f zcW
 refine Ev.bind (zlE h hm) ?_; try dsimp only
 refine ze (by simp) ?_
 by_cases c3 : m = 3
 ·refine zd c3 ?_
  have e : inw m s = true := by unfold inw; simp [c3]
  rw [e]; exact j true
 refine ze c3 ?_
 by_cases c4 : m = 4
 ·refine zd c4 ?_
  have e : inw m s = s := by unfold inw; simp [c4]
  rw [e]
  cases s
  ·exact ze (by simp) (ze (by omega) (j false))
  ·exact zd rfl (j true)
 refine ze c4 ?_
 by_cases c5 : m = 5
 ·refine zd c5 ?_
  have e : inw m s = !s := by unfold inw; simp [c5]
  rw [e]; exact j (!s)
 ·refine ze c5 ?_
  have e : inw m s = false := by unfold inw; simp [c3, c4, c5]
  rw [e]; exact j false
theorem zno {f : Int} (h : isF f) : Ev (fun k => zcg.f k f false [] 0) (0, 0) := by
 have hm : My false [] 0 := ⟨⟨zcL, fun _ => ⟨rfl, rfl⟩, fun h => absurd rfl h⟩, by simp, by omega, by omega⟩
 have hn := zfT Dg.nil (by simp)
 have e1 : zbo [] = true := zfX zcL (by simp)
 rw [e1, if_pos rfl] at hn
 have hl := zdY (x := 0) (by omega)
 have b0 : bl (Int.toNat 0) = 0 := za0
 rw [b0] at hl
 have hfb := zaJ h
 have w1 : wrap64 ((fb f : Int) + 1) = (fb f : Int) + 1 := by unfold wrap64; omega
 unfold zcg.f
 refine Ev.bind (zdD h) ?_; try dsimp only
 refine ze (fun h => h rfl) ?_
 refine zl (zct hm) ?_; try dsimp only
 refine ze (by simp) ?_
 refine Ev.bind (hn) ?_; try dsimp only
 refine Ev.bind (hl) ?_; try dsimp only
 rw [w1]
 clear w1
 refine ze (by simp) (ze (by omega) (ze (by simp) ?_))
 exact zd rfl (Ev.now _)
theorem zgG {m : Int} {s : Bool} {H : Nat} (hH : H < 2 ^ 64) {T E : Int} {b : Bool} {p : Nat} (hp : p ≤ 64) (h : T - (p : Nat) ≤ E) : UP m s H T b E ≤ 2 ^ p := by
 have hb : bN b ≤ 1 := by unfold bN; split <;> omega
 have h1 : (2 * H + bN b) / 2 ^ ((E - T + 64).toNat + 1) < 2 ^ p := by
  rw [Nat.div_lt_iff_lt_mul (zh _), ← Nat.pow_add]
  have : 2 ^ 65 ≤ 2 ^ (p + ((E - T + 64).toNat + 1)) := Nat.pow_le_pow_right (by omega) (by omega)
  omega
 unfold UP rnd
 split <;> omega
theorem znq {f : Int} (h : isF f) (s : Bool) {q : Nat} {E : Int} (hq : q ≤ 2 ^ pr f) (hE : lo f ≤ E) (hw : (bl q : Int) + E ≤ wd f) (h0 : q ≠ 0) : Ev (fun k => zcg.f k f (mk (sv s q) E).1 (mk (sv s q) E).2.1 (mk (sv s q) E).2.2) (((zaH f q E + sgn f s : Nat) : Int), 0) := by
 have hpr := zQ h
 have hfb := zaJ h
 have hl := zby h
 have hwb := zdz h
 have h2 := (zlB h0 hq).resolve_right (by omega)
 have h3 := zgr h0
 have hdy := zbY (sv s q) E
 rw [zcU s h0] at hdy ⊢
 have hne : D (q / 2 ^ lw q) ≠ [] := by
  intro hc
  have h1 : V (D (q / 2 ^ lw q)) = 0 := by rw [hc]; rfl
  rw [V_D] at h1
  rw [h1, za0] at h3
  have := zdp h0
  omega
 have hmy : My s (D (q / 2 ^ lw q)) (E + (lw q : Nat)) := ⟨hdy, zaT (by omega), by omega, by omega⟩
 have := znn h hmy hne (by rw [V_D]; exact h2) (by omega) (by rw [V_D]; omega)
 rw [V_D] at this
 exact this
theorem zlQ {f m : Int} (h : isF f) (s : Bool) {H : Nat} (hH : 2 ^ 63 ≤ H ∧ H < 2 ^ 64) {T : Int} (b : Bool) (h1 : -100000000 ≤ T) (h2 : T ≤ 100000000) (x : Bool) (w : Int) :
  Ev (fun k => za8.j1 k m s (H : Int) T b (pr f : Int) (lo f) (wd f) x w) (w, if x = true then 0 else if (bl (UP m s H T b (T - (pr f : Nat))) : Int) + (T - (pr f : Nat)) < lo f + (pr f : Nat) then 24 else 16) := by
 have hpr := zQ h
 have hfb := zaJ h
 have hl := zby h
 have hu := zjg m s hH (T := T) (E := T - (pr f : Nat)) b (by omega) (by omega) (by omega) (by omega) (by omega)
 have hle := zgG (m := m) (s := s) (H := H) (b := b) hH.2 (T := T) (E := T - (pr f : Nat)) (p := pr f) (by omega) (Int.le_refl _)
 have h2f := zgs h
 have hlen := zdY (x := (UP m s H T b (T - (pr f : Nat)) : Int)) ⟨by omega, by omega⟩
 rw [Int.toNat_natCast] at hlen
 have hb : bl (UP m s H T b (T - (pr f : Nat))) ≤ 64 := zI (by omega)
 refine zf ?_
 simp only [za8.j1]
 cases x
 ·refine ze (by simp) ?_
  have w0 : wrap64 (T - ((pr f : Nat) : Int)) = T - ((pr f : Nat) : Int) := by unfold wrap64; omega
  rw [w0]
  clear w0
  refine Ev.bind (hu) ?_; try dsimp only
  refine Ev.bind (hlen) ?_; try dsimp only
  have w1 : wrap64 (wrap64 ((bl (UP m s H T b (T - (pr f : Nat))) : Int) + T) - ((pr f : Nat) : Int)) = (bl (UP m s H T b (T - (pr f : Nat))) : Int) + (T - (pr f : Nat)) := by unfold wrap64; omega
  have w2 : wrap64 (lo f + ((pr f : Nat) : Int)) = lo f + ((pr f : Nat) : Int) := by clear w1; unfold wrap64; omega
  rw [w1, w2]
  clear w1 w2
  rw [if_neg Bool.false_ne_true]
  by_cases c : (bl (UP m s H T b (T - (pr f : Nat))) : Int) + (T - (pr f : Nat)) < lo f + (pr f : Nat)
  ·exact zd c (zg (Ev.now _) (by rw [if_pos c]))
  ·exact ze c (zg (Ev.now _) (by rw [if_neg c]))
 ·exact zd rfl (Ev.now _)
theorem zh3 {f m : Int} (h : isF f) (hm : isM m) (s : Bool) {H : Nat} (hH : 2 ^ 63 ≤ H ∧ H < 2 ^ 64) {T : Int} (b : Bool) (h1 : -100000000 ≤ T) (h2 : T ≤ 100000000) :
  Ev (fun k => za8.f k (H : Int) T b f (pr f : Int) (lo f) (wd f) m s) (zcb f m s T (UP m s H T b) (XP H T b)) := by
 have hpr := zQ h
 have hfb := zaJ h
 have hl := zby h
 have hwb := zdz h
 have h2f := zgs h
 obtain ⟨E, hE⟩ : ∃ E, E = max (T - (pr f : Nat)) (lo f) := ⟨_, rfl⟩
 have hu := zjg m s hH (T := T) (E := E) b (by omega) (by omega) (by omega) (by omega) (by omega)
 have hle := zgG (m := m) (s := s) (H := H) (b := b) hH.2 (T := T) (E := E) (p := pr f) (by omega) (by omega)
 have hlen := zdY (x := (UP m s H T b E : Int)) ⟨by omega, by omega⟩
 rw [Int.toNat_natCast] at hlen
 have hb : bl (UP m s H T b E) ≤ 64 := zI (by omega)
 have ho := zfU (n := (UP m s H T b E : Int)) (by omega) (by omega)
 rw [Int.toNat_natCast] at ho
 have hj := zlQ (m := m) h s hH (T := T) b h1 h2 (XP H T b E)
 have hwos := znq h s (q := UP m s H T b E) (E := E) hle (by omega)
 have em : mx (wrap64 (T - ((pr f : Nat) : Int))) (lo f) = E := by rw [zeX, zdH (by omega) (by omega) (by omega) (by omega), hE]
 unfold za8.f zcb
 rw [em, ← hE]
 clear em
 refine Ev.bind (hu) ?_; try dsimp only
 refine Ev.bind (hlen) ?_; try dsimp only
 have w1 : wrap64 ((bl (UP m s H T b E) : Int) + E) = (bl (UP m s H T b E) : Int) + E := zbX (by omega) (by omega) (by omega) (by omega)
 rw [w1]
 clear w1
 by_cases c : (bl (UP m s H T b E) : Int) + E > wd f
 ·rw [if_pos c]
  refine zd c ?_
  refine Ev.bind (zgD h hm s) ?_; try dsimp only
  exact Ev.now _
 rw [if_neg c]
 refine ze c ?_
 refine Ev.bind (ho) ?_; try dsimp only
 have m1 := zdn s (zG (UP m s H T b E)) (zaT (by omega)) E
 rw [V_D, zdq (by omega) (by omega)] at m1
 refine Ev.bind (m1) ?_; try dsimp only
 by_cases c0 : UP m s H T b E = 0
 ·have hz := zno h
  rw [if_pos c0]
  rw [c0, zbB, zhK]
  refine Ev.bind (hz) ?_; try dsimp only
  refine zd rfl ?_
  refine Ev.bind (zjt h s) ?_; try dsimp only
  rw [Nat.zero_add]
  exact hj _
 ·rw [if_neg c0]
  refine Ev.bind (hwos (by omega) c0) ?_; try dsimp only
  refine ze (by omega) ?_
  exact hj _
theorem zh1 {s : Bool} {l : List Int} {e : Int} (hd : My s l e) (h0 : V l ≠ 0) : Ev (fun k => zcz.f k s l e) ((zJ (V l) : Int), e + (bl (V l) : Nat), za6 (V l)) := by
 have hlen := hd.len
 have hb := zcj hd.dy.nm.dg
 have hlo := hd.lo
 have hhi := hd.hi
 have hH := zhr h0
 unfold zcz.f
 refine Ev.bind (zdt hd.dy.nm hlen) ?_; try dsimp only
 have w1 : wrap64 (e + ((bl (V l) : Nat) : Int)) = e + ((bl (V l) : Nat) : Int) := zbX (by omega) (by omega) (by omega) (by omega)
 have w2 : wrap64 (64 - ((bl (V l) : Nat) : Int)) = 64 - ((bl (V l) : Nat) : Int) := by clear w1; unfold wrap64; omega
 rw [w1, w2]
 clear w1 w2
 have hs := ze0 hd.dy.nm hlen (64 - ((bl (V l) : Nat) : Int))
 have es : zcB (V l) (64 - ((bl (V l) : Nat) : Int)) = (D (zJ (V l)), za6 (V l), 0) := by
  by_cases c : bl (V l) ≤ 64
  ·have e1 : 64 - ((bl (V l) : Nat) : Int) = ((64 - bl (V l) : Nat) : Int) := by omega
   have e2 : bl (V l) - 64 = 0 := by omega
   rw [e1, zgk (by omega)]
   unfold zJ za6
   rw [e2, Nat.pow_zero, Nat.div_one, Nat.mod_one]; rfl
  ·have e1 : 64 - ((bl (V l) : Nat) : Int) = -((bl (V l) - 64 : Nat) : Int) := by omega
   have e2 : 64 - bl (V l) = 0 := by omega
   rw [e1, zgj (by omega) (by omega)]
   unfold zJ za6
   rw [e2, Nat.pow_zero, Nat.mul_one]
 rw [es] at hs
 refine Ev.bind (hs) ?_; try dsimp only
 have hl2 : (D (zJ (V l))).length ≤ 2 := zbt (by omega)
 have hn := zfT (zW (zJ (V l))) (by omega)
 rw [zfX (zG _) (by rw [V_D]; omega), if_pos rfl, V_D] at hn
 refine Ev.bind (hn) ?_; try dsimp only
 exact Ev.now _
theorem zjG {f m : Int} (h : isF f) (hm : isM m) {s : Bool} {l : List Int} {e : Int} (hd : My s l e) (h0 : V l ≠ 0) : Ev (fun k => zc1.f k f m s l e) ((zu f m s (V l) e).1, (zu f m s (V l) e).2, 0) := by
 have hb := zcj hd.dy.nm.dg
 have hlen := hd.len
 have hlo := hd.lo
 have hhi := hd.hi
 have hpr := zQ h
 have hfb := zaJ h
 have hp := zh3 h hm s (zhr h0) (T := e + (bl (V l) : Nat)) (za6 (V l)) (by omega) (by omega)
 have hg : zcb f m s (e + (bl (V l) : Nat)) (UP m s (zJ (V l)) (e + (bl (V l) : Nat)) (za6 (V l))) (XP (zJ (V l)) (e + (bl (V l) : Nat)) (za6 (V l))) = zu f m s (V l) e := by
  rw [← ze6]
  refine zge ?_
  intro E hE
  exact zjK m s h0 (by omega)
 rw [hg] at hp
 unfold zc1.f
 refine Ev.bind (zlF h hm hd) ?_; try dsimp only
 refine ze (by simp) ?_
 refine Ev.bind (zfF hd) ?_; try dsimp only
 refine ze (by rw [zdy h0]; split <;> omega) ?_
 refine Ev.bind (zh1 hd h0) ?_; try dsimp only
 refine Ev.bind (hp) ?_; try dsimp only
 exact Ev.now _
theorem ziE (f m : Int) (s : Bool) {n : Nat} (hn : n ≠ 0) (e : Int) (j : Nat) : zu f m s (n * 2 ^ j) e = zu f m s n (e + j) := by
 have hu : zj f (n * 2 ^ j) e = zj f n (e + j) := by unfold zj; rw [zaZ hn]; congr 1; omega
 have hb : e + (bl (n * 2 ^ j) : Nat) - (pr f : Nat) = e + j + (bl n : Nat) - (pr f : Nat) := by rw [zaZ hn]; omega
 unfold zu
 simp only [hu, hb, zev, zeP]
theorem zeC {f : Int} (h : isF f) {w : Nat} (h1 : cls f w ≠ 1) (h2 : cls f w < 4) : zo f w ≠ 0 := by
 rw [zgY h] at h1 h2
 have hp := zh (fb f)
 unfold zo
 by_cases c : zx f w = 0
 ·rw [if_pos c] at h1 h2 ⊢
  intro h3
  rw [if_pos h3] at h1
  exact h1 rfl
 ·rw [if_neg c]; omega
theorem zgy {f : Int} (h : isF f) (w : Nat) : bl (zo f w) ≤ pr f := by
 have h1 := zc6 f w
 have h2 := zQ h
 refine zI ?_
 rw [h2, Nat.pow_succ]
 unfold zo; split <;> omega
theorem zel {s : Bool} {n : Nat} (h : n ≠ 0) : decide (sv s n < 0) = s ∧ (sv s n).natAbs = n ∧ sv s n ≠ 0 := ⟨zdx h, zah s n, fun h2 => h (zce.1 h2)⟩
theorem zb8 {z : Int} (h : z ≠ 0) (e : Int) : ∃ j : Nat, z.natAbs = V (mk z e).2.1 * 2 ^ j ∧ (mk z e).2.2 = e + j ∧ (mk z e).1 = decide (z < 0) ∧ V (mk z e).2.1 ≠ 0 := by
 have hza : z.natAbs ≠ 0 := by omega
 obtain ⟨q, hq⟩ := zbO hza
 have hd : z.natAbs / 2 ^ lw z.natAbs = 2 * q + 1 := by
  have : z.natAbs / 2 ^ lw z.natAbs = 2 ^ lw z.natAbs * (2 * q + 1) / 2 ^ lw z.natAbs := by rw [← hq]
  rw [this, Nat.mul_div_cancel_left _ (zh _)]
 have hm : mk z e = (decide (z < 0), D (z.natAbs / 2 ^ lw z.natAbs), e + (lw z.natAbs : Nat)) := by unfold mk; rw [if_neg h]
 refine ⟨lw z.natAbs, ?_, by rw [hm], by rw [hm], ?_⟩
 ·rw [hm]
  show _ = V (D _) * _
  rw [V_D, hd, Nat.mul_comm]; exact hq
 ·rw [hm]
  show V (D _) ≠ 0
  rw [V_D, hd]; omega
theorem zh8 {A B : Nat} (hA : A ≠ 0) (hB : B ≠ 0) (n : Nat) (h : bl B ≤ bl A + n) : bl A + n - bl B ≤ bl (A * 2 ^ n / B) ∧ bl (A * 2 ^ n / B) ≤ bl A + n - bl B + 1 := by
 have h1 := zcO hA
 have h2 := zZ A
 have h3 := zcO hB
 have h4 := zZ B
 have h5 := zbu hA
 have h6 := zbu hB
 have lo : 2 ^ (bl A - 1 + n) ≤ A * 2 ^ n := by rw [Nat.pow_add]; exact Nat.mul_le_mul_right _ h1
 have hi : A * 2 ^ n < 2 ^ (bl A + n) := by rw [Nat.pow_add]; exact Nat.mul_lt_mul_of_pos_right h2 (zh n)
 constructor
 ·rcases Nat.eq_zero_or_pos (bl A + n - bl B) with c | c
  ·omega
  ·have h7 : 2 ^ (bl A + n - bl B - 1) ≤ A * 2 ^ n / B := by
    rw [Nat.le_div_iff_mul_le (by omega)]
    have h8 : 2 ^ (bl A + n - bl B - 1) * B ≤ 2 ^ (bl A + n - bl B - 1) * 2 ^ bl B := Nat.mul_le_mul_left _ (by omega)
    rw [← Nat.pow_add, show bl A + n - bl B - 1 + bl B = bl A - 1 + n by omega] at h8
    omega
   have h9 := zar h7
   have : bl (2 ^ (bl A + n - bl B - 1)) = bl A + n - bl B := by
    have := zaZ (v := 1) (by omega) (bl A + n - bl B - 1)
    rw [Nat.one_mul] at this
    rw [this, show bl 1 = 1 by decide]; omega
   omega
 ·refine zI ?_
  rw [Nat.div_lt_iff_lt_mul (by omega)]
  have h8 : 2 ^ (bl A + n - bl B + 1) * 2 ^ (bl B - 1) ≤ 2 ^ (bl A + n - bl B + 1) * B := Nat.mul_le_mul_left _ h3
  rw [← Nat.pow_add, show bl A + n - bl B + 1 + (bl B - 1) = bl A + n by omega] at h8
  omega
theorem zgo (s : Bool) (n j : Nat) : sv s n * 2 ^ j = sv s (n * 2 ^ j) := by
 unfold sv; split
 ·rw [Int.neg_mul, Int.natCast_mul, Int.natCast_pow]; rfl
 ·rw [Int.natCast_mul, Int.natCast_pow]; rfl
theorem zft (x y : Nat) : bl (x * y) ≤ bl x + bl y := zI (by rw [Nat.pow_add]; exact Nat.mul_lt_mul'' (zZ x) (zZ y))
theorem zkL {f : Int} (h : isF f) {w : Nat} (h2 : cls f w < 4) : wex f w + (bl (zo f w) : Nat) ≤ wd f := by
 rw [zgY h] at h2
 have h3 := zgy h w
 have h4 := zfH h
 have h5 := zc6 f w
 have h6 := zQ h
 have h7 := zcV h
 have hlo := zby h
 have hwd := zdz h
 by_cases c : zx f w = 0
 ·unfold wex; rw [if_pos c]
  have := zaJ h
  omega
 ·rw [if_neg c] at h2
  have : zx f w < mo f := by
   rcases Nat.lt_or_ge (zx f w) (mo f) with c2 | c2
   ·exact c2
   ·rw [if_neg (by omega)] at h2; split at h2 <;> omega
  unfold wex; rw [if_neg c]
  omega
theorem zm9 (f : Int) {n : Nat} (h : n ≠ 0) (e : Int) : zq f (n / 2 ^ lw n) (e + (lw n : Nat)) = zq f n e := by
 have := zgr h
 unfold zq
 congr 1; omega
theorem zld {n : Nat} (h : n ≠ 0) : n / 2 ^ lw n * 2 ^ lw n = n := by
 obtain ⟨q, hq⟩ := zbO h
 refine Nat.div_mul_cancel ⟨2 * q + 1, hq⟩
theorem zfG {f : Int} {n : Nat} (h : n ≠ 0) {e : Int} (hu : zq f n e ≤ e) : zaH f n e = (zq f n e - lo f).toNat * 2 ^ fb f + n * 2 ^ (e - zq f n e).toNat := by
 unfold zaH enc
 rw [zm9 f h]
 congr 1
 have e1 : (e + (lw n : Nat) - zq f n e).toNat = lw n + (e - zq f n e).toNat := by omega
 rw [e1, Nat.pow_add, ← Nat.mul_assoc, zld h]
theorem znj {f : Int} (h : isF f) {w : Nat} (c : zx f w ≠ 0) : bl (zo f w) = pr f := by
 have h1 := zc6 f w
 have h2 := zQ h
 have h3 : zo f w = 2 ^ fb f + zai f w := by unfold zo; rw [if_neg c]
 have hp := zh (fb f)
 have h4 : 2 ^ (fb f + 1) = 2 ^ fb f * 2 := Nat.pow_succ ..
 have h5 : bl (zo f w) ≤ fb f + 1 := zI (by omega)
 have h6 : 2 ^ fb f ≤ zo f w := by omega
 have h7 := zar h6
 have h8 := zaZ (v := 1) (by omega) (fb f)
 rw [Nat.one_mul, show bl 1 = 1 by decide] at h8
 omega
theorem zkH {f : Int} (h : isF f) {w : Nat} (c1 : cls f w ≠ 1) (c4 : cls f w < 4) : zaH f (zo f w) (wex f w) = w % sg f := by
 have hn := zeC h c1 c4
 have h2 := zQ h
 have hx := zem h w
 have hu : zq f (zo f w) (wex f w) = wex f w := by
  unfold zq
  by_cases c : zx f w = 0
  ·have h3 : zo f w = zai f w := by unfold zo; rw [if_pos c]
   have h4 : bl (zo f w) ≤ fb f := zI (by rw [h3]; exact zc6 f w)
   have h5 : wex f w = lo f := by unfold wex; rw [if_pos c]; omega
   omega
  ·have h4 := znj h c
   have h5 : wex f w = (zx f w : Int) - 1 + lo f := by unfold wex; rw [if_neg c]
   omega
 rw [zfG hn (by omega), hu, Int.sub_self, zjo f w]
 show _ + zo f w * 2 ^ 0 = _
 rw [Nat.pow_zero, Nat.mul_one]
 unfold zo wex
 by_cases c : zx f w = 0
 ·rw [if_pos c, if_pos c, c, Int.zero_add, Int.sub_self]
  simp
 ·rw [if_neg c, if_neg c, show ((zx f w : Int) - 1 + lo f - lo f).toNat = zx f w - 1 by omega]
  obtain ⟨q, hq⟩ : ∃ q, zx f w = q + 1 := ⟨zx f w - 1, by omega⟩
  rw [hq, Nat.add_mul, Nat.one_mul, Nat.add_sub_cancel]; omega
theorem zjp {f : Int} (h : isF f) {w : Nat} (hw : w < 2 * sg f) : w % sg f + sgn f (zae f w) = w := by
 unfold sgn zae
 by_cases c : sg f ≤ w
 ·rw [if_pos (decide_eq_true c), Nat.mod_eq_sub_mod c, Nat.mod_eq_of_lt (by omega)]; omega
 ·rw [if_neg (by simpa using c), Nat.mod_eq_of_lt (by omega)]; omega
theorem ziW {f : Int} (h : isF f) {x : Nat} (hx : x < sg f) (s : Bool) : (x + sgn f s) % sg f = x := by
 unfold sgn
 cases s
 ·rw [if_neg (by simp), Nat.add_zero, Nat.mod_eq_of_lt hx]
 ·rw [if_pos rfl, Nat.add_mod_right, Nat.mod_eq_of_lt hx]
theorem zjF {m : Int} {s : Bool} {n n' : Nat} {e e' : Int} (hn : n ≠ 0) (hn' : n' ≠ 0) (hv : mk (sv s n) e = mk (sv s n') e') (E : Int) : R m s n e E = R m s n' e' E ∧ exR n e E = exR n' e' E := by
 obtain ⟨a1, a2, a3⟩ := zel (s := s) hn
 obtain ⟨b1, b2, b3⟩ := zel (s := s) hn'
 obtain ⟨j, j1, j2, _, _⟩ := zb8 a3 e
 obtain ⟨i, i1, i2, _, _⟩ := zb8 b3 e'
 rw [a2] at j1
 rw [b2] at i1
 rw [j1, i1, zev, zev, zeP, zeP, ← j2, ← i2, hv]
 exact ⟨rfl, rfl⟩
theorem zi9 {s : Bool} {n n' : Nat} {e e' : Int} (hn : n ≠ 0) (hn' : n' ≠ 0) (hv : mk (sv s n) e = mk (sv s n') e') : e + (bl n : Nat) = e' + (bl n' : Nat) := by
 obtain ⟨a1, a2, a3⟩ := zel (s := s) hn
 obtain ⟨b1, b2, b3⟩ := zel (s := s) hn'
 have h1 := zi8 (sv s n) e
 have h2 := zi8 (sv s n') e'
 have e1 : top (mz (sv s n) e) (me (sv s n) e) = top (mz (sv s n') e') (me (sv s n') e') := by unfold mz me; rw [hv]
 rw [h1, h2] at e1
 unfold top at e1
 rw [if_neg a3, if_neg b3, a2, b2] at e1
 exact e1
theorem zmr {f m : Int} {s : Bool} {n n' : Nat} {e e' : Int} (hn : n ≠ 0) (hn' : n' ≠ 0) (hv : mk (sv s n) e = mk (sv s n') e') : zu f m s n e = zu f m s n' e' := by
 have ht := zi9 hn hn' hv
 have hu : zj f n e = zj f n' e' := by unfold zj; rw [ht]
 have hr := fun E => zjF (m := m) hn hn' hv E
 unfold zu
 simp only [hu, ht, fun E => (hr E).1, fun E => (hr E).2]
theorem zkE {f : Int} {s : Bool} {n n' : Nat} {e e' : Int} (hn : n ≠ 0) (hn' : n' ≠ 0) (hv : mk (sv s n) e = mk (sv s n') e') : zaH f n e = zaH f n' e' := by
 rw [zcU s hn, zcU s hn'] at hv
 simp only [Prod.mk.injEq] at hv
 unfold zaH
 rw [zjw hv.2.1, hv.2.2]
theorem zmq {f m : Int} (h : isF f) (s : Bool) {n : Nat} {e : Int} (hn : n ≠ 0) (hb : bl (n / 2 ^ lw n) ≤ pr f) (hl : lo f ≤ e + (lw n : Nat)) (ht : e + (bl n : Nat) ≤ wd f) : zu f m s n e = (((zaH f n e + sgn f s : Nat) : Int), 0) := by
 have h3 := zgr hn
 have hu : zj f n e ≤ e + (lw n : Nat) := by unfold zj; omega
 have hx : exR n e (zj f n e) = true := by
  unfold exR
  refine decide_eq_true ?_
  have := (zbO hn).mod (k := (zj f n e - e).toNat)
  exact this.2 (by omega)
 obtain ⟨a1, a2, a3⟩ := zel (s := s) hn
 have hT := zjI (m := m) (z := sv s n) (e := e) (E := zj f n e) (by rw [a2]; exact hx)
 have hTK : TK m (sv s n) e (zj f n e) = sv s (R m s n e (zj f n e)) := by unfold TK; rw [a1, a2]
 rw [hTK] at hT
 have hq0 : R m s n e (zj f n e) ≠ 0 := by
  intro h0
  rw [h0, zbB] at hT
  have h1 := zlo a3 e
  unfold mz at h1
  rw [← hT, zhK] at h1
  exact h1 rfl
 have htop := zi9 hq0 hn hT
 have henc := zkE (f := f) hq0 hn hT
 unfold zu
 simp only [hx]
 rw [if_neg (by omega), if_neg hq0, henc]
 rfl
theorem znp {f : Int} (h : isF f) {w : Nat} (c1 : cls f w ≠ 1) (c4 : cls f w < 4) : bl (zo f w / 2 ^ lw (zo f w)) ≤ pr f ∧ lo f ≤ wex f w + (lw (zo f w) : Nat) ∧ wex f w + (bl (zo f w) : Nat) ≤ wd f := by
 have h1 := zgy h w
 have h2 := zkL h c4
 have h3 : bl (zo f w / 2 ^ lw (zo f w)) ≤ bl (zo f w) := zar (Nat.div_le_self _ _)
 have h4 : lo f ≤ wex f w := by unfold wex; split <;> omega
 exact ⟨by omega, by omega, h2⟩
theorem zms {f m : Int} {s : Bool} {n : Nat} {e : Int} (h : isF f) (hn : n ≠ 0) (ht : e + (bl n : Nat) > wd f) : zu f m s n e = ((zcW f m s : Int), 20) := by
 have hp := zQ h
 have hl := zby h
 have hw : 128 ≤ wd f := by rcases h with rfl | rfl <;> decide
 have hu : zj f n e ≤ e + (bl n : Nat) - 1 := by unfold zj; omega
 have hm := (zfo (m := m) (s := s) hn hu).1
 show (if (bl (R m s n e (zj f n e)) : Int) + zj f n e > wd f then _ else _) = _
 rw [if_pos (by omega)]
def zcF (m : Int) (s : Bool) : Nat := if upB m s false false true = true then 1 else 0
theorem zmp (m : Int) (s : Bool) {n k : Nat} (hn : n ≠ 0) (h : 2 * n < 2 ^ k) : rnd m s n k = zcF m s := by
 unfold rnd zcF
 rw [Nat.div_eq_of_lt (by omega), Nat.mod_eq_of_lt (by omega : n < 2 ^ k), Nat.mod_eq_of_lt h, Nat.zero_add]
 have e1 : decide (2 ^ k ≤ 2 * n) = false := decide_eq_false (by omega)
 have e2 : decide (2 * n ≠ 0) = true := decide_eq_true (by omega)
 rw [e1, e2]
 rfl
theorem ziD {f m : Int} {s : Bool} {n : Nat} {e : Int} (h : isF f) (hn : n ≠ 0) (ht : e + (bl n : Nat) < lo f) :
  zu f m s n e = ((((if zcF m s = 0 then 0 else zaH f (zcF m s) (lo f)) + sgn f s : Nat) : Int), 24) := by
 have hp := zQ h
 have hl := zby h
 have hw : 128 ≤ wd f := by rcases h with rfl | rfl <;> decide
 have hu : zj f n e = lo f := by unfold zj; omega
 obtain ⟨k, hk⟩ : ∃ k : Nat, (lo f - e).toNat = k := ⟨_, rfl⟩
 have hk1 : bl n + 1 ≤ k := by omega
 have h2 : 2 * n < 2 ^ k := by
  have h3 := zZ n
  have h4 : 2 ^ (bl n + 1) ≤ 2 ^ k := Nat.pow_le_pow_right (by omega) hk1
  rw [Nat.pow_succ] at h4
  omega
 have hR : R m s n e (lo f) = zcF m s := by
  unfold R
  rw [show (e - lo f).toNat = 0 by omega, hk, Nat.pow_zero, Nat.mul_one]
  exact zmp m s hn h2
 have hx : exR n e (lo f) = false := by
  unfold exR
  rw [hk, Nat.mod_eq_of_lt (by omega)]
  exact decide_eq_false hn
 have hm := (zfo (m := m) (s := s) hn (show e + (bl n : Nat) - (pr f : Nat) ≤ e + (bl n : Nat) - 1 by omega)).2
 have hb : bl (zcF m s) ≤ 1 := by unfold zcF; split <;> decide
 show (if (bl (R m s n e (zj f n e)) : Int) + zj f n e > wd f then _ else _) = _
 rw [hu, hR, hx, if_neg (show ¬ ((bl (zcF m s) : Int) + lo f > wd f) by omega), if_neg (show ¬ (false = true) by simp), if_pos (show (bl (R m s n e (e + (bl n : Nat) - (pr f : Nat))) : Int) + (e + (bl n : Nat) - (pr f : Nat)) < lo f + (pr f : Nat) by omega)]
def zT : List UInt8 → Bool
 | 45 :: _ => true
 | _ => false
def zaO : List UInt8 → List UInt8
 | 45 :: r => r
 | r => r
theorem zht (l : List UInt8) (c : UInt8) : (Lib.indexByte l c = -1 ∧ c ∉ l) ∨ ∃ A B, l = A ++ c :: B ∧ c ∉ A ∧ Lib.indexByte l c = (A.length : Int) := by
 induction l with
 | nil => exact .inl ⟨rfl, by simp⟩
 | cons b l ih =>
  unfold Lib.indexByte
  by_cases h : b = c
  ·subst h
   exact .inr ⟨[], l, rfl, by simp, by simp⟩
  ·have hb : (b == c) = false := by simpa using h
   rw [hb]
   rcases ih with ⟨h1, h2⟩ | ⟨A, B, h1, h2, h3⟩
   ·exact .inl ⟨by simp [h1], by simp [h2, Ne.symm h]⟩
   ·refine .inr ⟨b :: A, B, by rw [h1]; rfl, by simp [h2, Ne.symm h], ?_⟩
    have : (Lib.indexByte l c == -1) = false := by rw [h3]; simp
    rw [this, h3]
    simp
theorem zky (a b : List UInt8) (n : Nat) : zk (a ++ b) n = zk b (zk a n) := by unfold zk; rw [List.foldl_append]
theorem zeM {l : List UInt8} (h : l.all isD = true) (hl : l.length ≤ 6) : zk l 0 < 1000000 := by
 have h1 := zkz l h 0
 have h2 : 10 ^ l.length ≤ 10 ^ 6 := Nat.pow_le_pow_right (by omega) hl
 omega
theorem zkK {l : List UInt8} (h1 : ¬ l.take 1 = [45]) (h2 : ¬ l.take 1 = [43]) : zb7 l = false ∧ zr l = l := by
 cases l with
 | nil => exact ⟨rfl, rfl⟩
 | cons a l =>
  have n1 : a ≠ 45 := by rintro rfl; exact h1 rfl
  have n2 : a ≠ 43 := by rintro rfl; exact h2 rfl
  constructor
  ·unfold zb7; split
   ·rename_i h; exact absurd (List.cons.inj h).1 n1
   ·rfl
  ·unfold zr; split
   ·rename_i h; exact absurd (List.cons.inj h).1 n1
   ·rename_i h; exact absurd (List.cons.inj h).1 n2
   ·rfl
theorem zaP {s : ByteArray} {A B : List UInt8} {b : UInt8} (h : tl s = A ++ b :: B) : bt s (A.length : Int) = (b.toNat : Int) := by
 rw [zgU, h, Int.toNat_natCast]
 simp [List.getD]
theorem zV {s : ByteArray} {A B : List UInt8} (h : tl s = A ++ B) : s.size = A.length + B.length := by
 rw [zc5, h, List.length_append]
abbrev RT := Bool × ByteArray × List Int × Int × Bool
def rF : RT := (false, ⟨#[]⟩, [], 0, false)
set_option maxRecDepth 100000
theorem zho {α : Type} {g : Nat → Option α} {r : α} {n : Nat} (h : ∀ k, g (k + n) = some r) : Ev g r := ⟨n, fun k hk => by have := h (k - n); rwa [Nat.sub_add_cancel hk] at this⟩
end Go.Proofs.YtnkpmjhlkmlmbaaGreatDoor.Eng.K
