import Derived.Test.YtnkpmjhlkmlmbaaGreatDoorQDeciExactF1
import Derived.Lib.Strings
import Derived.Laws.RangeString
import Derived.Laws.BitsAllLaws
import Derived.Lib.Bytes
import Derived.KernelRfl
import Derived.Lib.Atoi
set_option linter.unusedVariables false
set_option linter.unusedSimpArgs false
namespace Go.Proofs.YtnkpmjhlkmlmbaaGreatDoor.Eng
def Ev {α : Type} (g : Nat → Option α) (r : α) : Prop := ∃ n, ∀ k, n ≤ k → g k = some r
theorem Ev.now {α : Type} (r : α) : Ev (fun _ => some r) r := ⟨0, fun _ _ => rfl⟩
theorem Ev.bind {α β : Type} {g : Nat → Option α} {f : Nat → α → Option β} {a : α} {r : β} (h : Ev g a) (k : Ev (fun n => f n a) r) : Ev (fun n => (g n).bind (f n)) r := by
 obtain ⟨n, hn⟩ := h
 obtain ⟨m, hm⟩ := k
 exact ⟨n + m, fun i hi => by show (g i).bind (f i) = some r; rw [hn i (by omega), Option.bind_some]; exact hm i (by omega)⟩
theorem Ev.step {α : Type} {g f : Nat → Option α} {r : α} (h : ∀ k, g (k + 1) = f k) (k : Ev f r) : Ev g r := by
 obtain ⟨n, hn⟩ := k
 refine ⟨n + 1, fun i hi => ?_⟩
 obtain ⟨i, rfl⟩ : ∃ j, i = j + 1 := ⟨i - 1, by omega⟩
 rw [h]; exact hn i (by omega)
end Go.Proofs.YtnkpmjhlkmlmbaaGreatDoor.Eng
namespace Go.Proofs.YtnkpmjhlkmlmbaaGreatDoor.Eng.K
open Go.RowKit
theorem w64 {n : Int} (h0 : -9223372036854775808 ≤ n) (h1 : n < 9223372036854775808) : wrap64 n = n := by unfold wrap64; omega
theorem qa9 {n : Int} (h0 : 0 ≤ n) (h1 : n < 9223372036854775808) : wrap64 n = n := by unfold wrap64; omega
theorem u64 {n : Int} (h0 : 0 ≤ n) (h1 : n < 18446744073709551616) : IntKind.u64.wrap n = n := by
 simp [IntKind.wrap, IntKind.bits, IntKind.signed]; omega
theorem qdd (n : Int) : IntKind.u64.wrap n = n % 18446744073709551616 := by
 simp [IntKind.wrap, IntKind.bits, IntKind.signed]
theorem rdn (xs : List Int) (n : Nat) : rd xs (n : Int) = xs.getD n 0 := by simp [rd]
theorem qaM {xs ys : List Int} {y : Int} {i : Int} (h : i = (xs.length : Int)) : rd (xs ++ y :: ys) i = y := by
 subst h; simp [rd]
theorem qde {xs ys : List Int} {y z : Int} {i : Int} (h : i = (xs.length : Int)) : (xs ++ y :: ys).set i.toNat z = (xs ++ [z]) ++ ys := by
 subst h; simp
theorem qq {α : Type} {g : Nat → Option α} {r s : α} (h : Ev g r) (e : r = s) : Ev g s := e ▸ h
theorem qom {α : Type} {x : Option α} {r : α} (h : x = some r) : Ev (fun _ => x) r := by subst h; exact Ev.now r
theorem qa {α : Type} {c : Prop} {_ : Decidable c} {g f : Nat → Option α} {r : α} (h : c) (k : Ev g r) : Ev (fun n => if c then g n else f n) r := by
 simpa [h] using k
theorem qd {α : Type} {c : Prop} {_ : Decidable c} {g f : Nat → Option α} {r : α} (h : ¬ c) (k : Ev f r) : Ev (fun n => if c then g n else f n) r := by
 simpa [h] using k
theorem ep {α : Type} {c : Prop} {_ : Decidable c} {g f : Nat → Option α} {r : α} (k : Ev g r) (h : c := by (first | omega | assumption | (simp; done) | (simp; omega))) : Ev (fun n => if c then g n else f n) r := qa h k
theorem en {α : Type} {c : Prop} {_ : Decidable c} {g f : Nat → Option α} {r : α} (k : Ev f r) (h : ¬ c := by (first | omega | assumption | (simp; done) | (simp; omega))) : Ev (fun n => if c then g n else f n) r := qd h k
theorem qQ {α β : Type} {x : Option α} {f : Nat → α → Option β} {a : α} {r : β} (h : x = some a) (k : Ev (fun n => f n a) r) : Ev (fun n => x.bind (f n)) r := by
 subst h; exact k
theorem qi {α : Type} {g : Nat → Option α} {r : α} (k : Ev (fun n => g (n + 1)) r) : Ev g r := Ev.step (fun _ => rfl) k
theorem Ev.unique {α : Type} {g : Nat → Option α} {r s : α} (h : Ev g r) (k : Ev g s) : r = s := by
 obtain ⟨a, ha⟩ := h; obtain ⟨b, hb⟩ := k
 have h1 := ha (max a b) (Nat.le_max_left _ _); have h2 := hb (max a b) (Nat.le_max_right _ _)
 rw [h1] at h2; exact Option.some.inj h2
def Dg (l : List Int) : Prop := ∀ x ∈ l, 0 ≤ x ∧ x < 4294967296
def V : List Int → Nat
 | [] => 0
 | d :: l => d.toNat + 4294967296 * V l
def D (n : Nat) : List Int := if h : n = 0 then [] else ((n % 4294967296 : Nat) : Int) :: D (n / 4294967296)
termination_by n
decreasing_by omega
theorem Dg.nil : Dg [] := fun _ h => by simp at h
theorem Dg.cons {d : Int} {l : List Int} (h0 : 0 ≤ d) (h1 : d < 4294967296) (h : Dg l) : Dg (d :: l) := fun x hx => by
 rcases List.mem_cons.1 hx with rfl | hx
 ·exact ⟨h0, h1⟩
 ·exact h x hx
theorem Dg.head {d : Int} {l : List Int} (h : Dg (d :: l)) : 0 ≤ d ∧ d < 4294967296 := h d (by simp)
theorem Dg.tail {d : Int} {l : List Int} (h : Dg (d :: l)) : Dg l := fun x hx => h x (by simp [hx])
theorem Dg.app {a b : List Int} (h : Dg a) (k : Dg b) : Dg (a ++ b) := fun x hx => by
 rcases List.mem_append.1 hx with hx | hx
 ·exact h x hx
 ·exact k x hx
theorem Dg.left {a b : List Int} (h : Dg (a ++ b)) : Dg a := fun x hx => h x (by simp [hx])
theorem Dg.right {a b : List Int} (h : Dg (a ++ b)) : Dg b := fun x hx => h x (by simp [hx])
theorem Dg.take {a : List Int} (h : Dg a) (n : Nat) : Dg (a.take n) := fun x hx => h x (List.mem_of_mem_take hx)
theorem Dg.drop {a : List Int} (h : Dg a) (n : Nat) : Dg (a.drop n) := fun x hx => h x (List.mem_of_mem_drop hx)
theorem Dg.zeros (n : Nat) : Dg (List.replicate n 0) := fun x hx => by
 obtain ⟨_, rfl⟩ := List.mem_replicate.1 hx; omega
theorem Dg.getD {a : List Int} (h : Dg a) (n : Nat) : 0 ≤ a.getD n 0 ∧ a.getD n 0 < 4294967296 := by
 rw [List.getD_eq_getElem?_getD]
 cases e : a[n]? with
 | none => simp
 | some x => simpa using h x (List.mem_of_getElem? e)
theorem Dg.set {a : List Int} (h : Dg a) (n : Nat) {x : Int} (h0 : 0 ≤ x) (h1 : x < 4294967296) : Dg (a.set n x) := fun y hy => by
 rcases List.mem_or_eq_of_mem_set hy with hy | rfl
 ·exact h y hy
 ·exact ⟨h0, h1⟩
@[simp] theorem qdM : V [] = 0 := rfl
@[simp] theorem qad (d : Int) (l : List Int) : V (d :: l) = d.toNat + 4294967296 * V l := rfl
theorem qcP (a b : List Int) : V (a ++ b) = V a + 4294967296 ^ a.length * V b := by
 induction a with
 | nil => simp
 | cons d a ih => simp [ih, Nat.pow_succ]; grind
theorem qh7 (n : Nat) : V (List.replicate n 0) = 0 := by
 induction n with
 | zero => rfl
 | succ n ih => simp [List.replicate_succ, ih]
theorem qdf {l : List Int} (h : Dg l) : V l < 4294967296 ^ l.length := by
 induction l with
 | nil => simp
 | cons d l ih =>
  have := ih h.tail; have := h.head
  simp only [qad, List.length_cons, Nat.pow_succ]
  omega
theorem qY : D 0 = [] := by unfold D; simp
theorem qcw {n : Nat} (h : n ≠ 0) : D n = ((n % 4294967296 : Nat) : Int) :: D (n / 4294967296) := by
 conv => lhs; unfold D
 simp [h]
theorem V_D (n : Nat) : V (D n) = n := by
 induction n using Nat.strongRecOn with
 | _ n ih =>
  by_cases h : n = 0
  ·subst h; simp [qY]
  ·rw [qcw h, qad, ih _ (by omega)]; omega
theorem qbk (n : Nat) : Dg (D n) := by
 induction n using Nat.strongRecOn with
 | _ n ih =>
  by_cases h : n = 0
  ·subst h; rw [qY]; exact Dg.nil
  ·rw [qcw h]; exact Dg.cons (by omega) (by omega) (ih _ (by omega))
theorem qh8 {d : Int} {n : Nat} (h0 : 0 ≤ d) (h1 : d < 4294967296) (h : d ≠ 0 ∨ n ≠ 0) : D (d.toNat + 4294967296 * n) = d :: D n := by
 rw [qcw (by omega)]
 congr 1
 ·omega
 ·congr 1; omega
def Nm (l : List Int) : Prop := D (V l) = l
instance (l : List Int) : Decidable (Nm l) := inferInstanceAs (Decidable (D (V l) = l))
theorem Nm.dg {l : List Int} (h : Nm l) : Dg l := h ▸ qbk _
theorem qb9 (n : Nat) : Nm (D n) := by unfold Nm; rw [V_D]
theorem qh9 : Nm [] := by unfold Nm; exact qY
theorem Nm.inj {a b : List Int} (h : Nm a) (k : Nm b) (e : V a = V b) : a = b := by rw [← h, e, k]
theorem qeq {l : List Int} (h : Nm l) : V l = 0 ↔ l = [] := by
 constructor
 ·intro e; rw [← h, e, qY]
 ·rintro rfl; rfl
theorem qgQ {l : List Int} {d : Int} (h : Dg l) (h0 : 0 < d) (h1 : d < 4294967296) : Nm (l ++ [d]) := by
 unfold Nm
 induction l with
 | nil =>
  have := qh8 (d := d) (n := 0) (by omega) h1 (by omega)
  simpa [qY] using this
 | cons x l ih =>
  have hx := h.head
  rw [List.cons_append, qad, qh8 hx.1 hx.2, ih h.tail]
  right; rw [qcP]
  have : 0 < 4294967296 ^ l.length := Nat.pow_pos (by omega)
  have : 0 < 4294967296 ^ l.length * V [d] := Nat.mul_pos this (by simp; omega)
  omega
theorem qia (l : List Int) : V (l ++ [0]) = V l := by rw [qcP]; simp
theorem qon {l : List Int} (h : Dg l) : (D (V l)).length ≤ l.length := by
 induction l with
 | nil => simp [qY]
 | cons x l ih =>
  have hx := h.head
  by_cases e : x ≠ 0 ∨ V l ≠ 0
  ·rw [qad, qh8 hx.1 hx.2 e]; simpa using ih h.tail
  ·have h1 : x = 0 := by omega
   have h2 : V l = 0 := by omega
   simp [h1, h2, qY]
theorem qku {l : List Int} {d : Int} (h : Nm (l ++ [d])) : d ≠ 0 := by
 intro e; subst e
 have h2 := qon h.dg.left
 have h3 : D (V (l ++ [0])) = l ++ [0] := h
 rw [qia] at h3
 rw [h3] at h2
 simp at h2
 omega
theorem qkv {l : List Int} (h : Dg l) : Nm l ↔ l = [] ∨ l.getD (l.length - 1) 0 ≠ 0 := by
 rcases List.eq_nil_or_concat l with rfl | ⟨a, d, rfl⟩
 ·simp [qh9]
 ·rw [List.concat_eq_append] at h ⊢
  have : (a ++ [d]).getD ((a ++ [d]).length - 1) 0 = d := by simp
  rw [this]
  constructor
  ·intro k; exact .inr (qku k)
  ·rintro (k | k)
   ·simp at k
   ·have := h d (by simp)
    exact qgQ h.left (by omega) this.2
theorem qfa {n k : Nat} (h : n < 4294967296 ^ k) : (D n).length ≤ k := by
  induction k generalizing n with
  | zero => have : n = 0 := by simpa using h
            subst this; simp [qY]
  | succ k ih =>
    by_cases e : n = 0
    · subst e; simp [qY]
    · rw [qcw e, List.length_cons]
      have := ih (n := n / 4294967296) (by rw [Nat.pow_succ] at h; omega)
      omega
theorem qfb (n : Nat) : n < 4294967296 ^ (D n).length := by
 have := qdf (qbk n); rwa [V_D] at this
theorem qkw {n : Nat} (h : n ≠ 0) : 4294967296 ^ ((D n).length - 1) ≤ n := by
 apply Nat.le_of_not_lt
 intro k
 have := qfa k
 have : (D n).length ≠ 0 := by rw [qcw h]; simp
 omega
theorem qib {a b : Nat} (h : a ≤ b) : (D a).length ≤ (D b).length :=
 qfa (Nat.lt_of_le_of_lt h (qfb b))
theorem Nm.len {l : List Int} (h : Nm l) : (D (V l)).length = l.length := by rw [h]
open Go.RowKit Go.Proofs Go.Proofs.YtnkpmjhlkmlmbaaGreatDoor.Eng
def tl (s : ByteArray) : List UInt8 := s.data.toList
theorem qoo (s : ByteArray) : (tl s).length = s.size := by simp [tl]
theorem qfc {a b : ByteArray} : tl a = tl b ↔ a = b := ⟨fun h => by
 cases a; cases b
 congr
 exact Array.toList_inj.1 h, fun h => by rw [h]⟩
theorem qop (a b : ByteArray) : tl (a ++ b) = tl a ++ tl b := by simp [tl]
theorem qkx (s : ByteArray) (i j : Nat) : tl (s.extract i j) = ((tl s).take j).drop i := by
 simp only [tl, ByteArray.data_extract, Array.toList_extract, List.extract_eq_take_drop]
 rw [List.take_drop, List.drop_take, List.drop_take]
 congr 1
 omega
theorem qoq {s : ByteArray} : tl s = [] ↔ s = ⟨#[]⟩ := by
 rw [← qfc]
 simp [tl]
theorem qor (s : ByteArray) : s.size = (tl s).length := (qoo s).symm
def hx (b : UInt8) : Option Nat := if 48 ≤ b.toNat ∧ b.toNat ≤ 57 then some (b.toNat - 48) else if 97 ≤ b.toNat ∧ b.toNat ≤ 102 then some (b.toNat - 87) else none
def isD (b : UInt8) : Bool := decide (48 ≤ b.toNat ∧ b.toNat ≤ 57)
def qdg (l : List UInt8) (a : Nat) : Nat := l.foldl (fun a b => 10 * a + (b.toNat - 48)) a
theorem qos {α : Type} (p : α → Bool) (l : List α) {c : α} {r : List α} (h : l.dropWhile p = c :: r) : p c = false := by
 induction l with
 | nil => simp at h
 | cons a l ih =>
  by_cases ha : p a = true
  ·simp [ha] at h; exact ih h
  ·simp [ha] at h; rw [← h.1]; simpa using ha
theorem qcx {n : Nat} (h : n < 4611686018427387904) : wrap64 ((n : Int) + 1) = ((n + 1 : Nat) : Int) := by unfold wrap64; omega
theorem qic {n : Nat} (h : n < 4611686018427387904) : wrap64 (((n + 1 : Nat) : Int) - 1) = (n : Int) := by unfold wrap64; omega
theorem qky : ∀ (n : Nat) (l : List Int), l.length = n → Dg l → n < 4611686018427387904 → Ev (fun k => qv.f k l) (D (V l))
 | 0, l, hn, hd, hb => by
  have : l = [] := List.eq_nil_of_length_eq_zero hn
  subst this
  refine qi (qom ?_)
  simp [qv.f, qv.l0, qY]
 | n + 1, l, hn, hd, hb => by
  rcases List.eq_nil_or_concat l with rfl | ⟨a, d, rfl⟩
  ·simp at hn
  rw [List.concat_eq_append] at hn hd ⊢
  have hl : (a ++ [d]).length = n + 1 := hn
  have ha : a.length = n := by simpa using hn
  refine qi ?_
  show Ev (fun k => qv.l0 (k + 1) (a ++ [d])) _
  simp only [qv.l0, hl, qic (n := n) (by omega)]
  refine qa (by omega) (qa (by omega) (qa (by omega) ?_))
  rw [qaM (by omega)]
  by_cases h0 : d = 0
  ·subst h0
   refine qa rfl (qa (by omega) ?_)
   rw [qia]
   have : (a ++ [(0 : Int)]).take (n : Int).toNat = a := by simp [← ha]
   rw [this]
   exact qa (by omega) (qky n a ha hd.left (by omega))
  ·refine qd h0 ?_
   have := hd d (by simp)
   rw [qgQ hd.left (by omega) this.2]
   exact Ev.now _
theorem qfd {l : List Int} (hd : Dg l) (hb : l.length < 4611686018427387904) : Ev (fun k => qv.f k l) (D (V l)) := qky _ l rfl hd hb
theorem qkz (l : List Int) (hd : Dg l) (hb : l.length < 4611686018427387904) : ∀ (n : Nat) (a b : List Int), a.length = n → l = a ++ b → V b = 0 → Ev (fun k => qV.l0 k l n) (D (V l))
 | 0, a, b, hn, he, h0 => by
  have : a = [] := List.eq_nil_of_length_eq_zero hn
  subst this
  refine qi ?_
  simp only [qV.l0]
  refine qd (by omega) (qa (by omega) (qa (by omega) ?_))
  rw [he]; simp [h0, qY]; exact Ev.now _
 | n + 1, a, b, hn, he, h0 => by
  rcases List.eq_nil_or_concat a with rfl | ⟨a, d, rfl⟩
  ·simp at hn
  rw [List.concat_eq_append] at hn he
  have ha : a.length = n := by simpa using hn
  have hl : l.length = n + 1 + b.length := by rw [he]; simp [ha]; omega
  refine qi ?_
  simp only [qV.l0, qic (n := n) (by omega)]
  refine qa (by omega) (qa (by omega) (qa (by omega) ?_))
  have hr : rd l n = d := by rw [he, List.append_assoc]; exact qaM (by omega)
  rw [hr]
  by_cases hz : d = 0
  ·refine qa hz ?_
   exact qkz l hd hb n a (d :: b) ha (by rw [he]; simp) (by simp [h0, hz])
  ·refine qd hz (qa (by omega) (qa (by omega) ?_))
   have hd2 := hd
   rw [he] at hd2
   have h1 := hd2.left d (by simp)
   have h2 : V l = V (a ++ [d]) := by rw [he, qcP (a ++ [d]) b, h0]; simp
   have h3 : l.take ((n + 1 : Nat) : Int).toNat = a ++ [d] := by
    rw [he, Int.toNat_natCast]; exact List.take_left' (by simp [ha])
   rw [h3, h2, qgQ hd2.left.left (by omega) h1.2]
   exact Ev.now _
theorem qfe {l : List Int} (hd : Dg l) (hb : l.length < 4611686018427387904) : Ev (fun k => qV.f k l) (D (V l)) :=
 qkz l hd hb l.length l [] rfl (by simp) rfl
theorem qkA (n : Int) (h0 : 0 ≤ n) (h1 : n < 18446744073709551616) : V [n % 4294967296, (n / 4294967296) % 4294967296] = n.toNat := by
 simp; omega
theorem qkB (n : Int) : Dg [n % 4294967296, (n / 4294967296) % 4294967296] := Dg.cons (by omega) (by omega) (Dg.cons (by omega) (by omega) Dg.nil)
theorem qgR {n : Int} (h0 : 0 ≤ n) (h1 : n < 18446744073709551616) : Ev (fun k => qby.f k n) (D n.toNat) := by
 unfold qby.f
 refine Ev.bind (qfd (qkB n) (by simp)) ?_
 rw [qkA n h0 h1]; exact Ev.now _
theorem qid {n : Int} (h0 : 0 ≤ n) (h1 : n < 18446744073709551616) : Ev (fun k => qb8.f k n) (D n.toNat) := by
 unfold qb8.f
 refine Ev.bind (qfe (qkB n) (by simp)) ?_
 rw [qkA n h0 h1]; exact Ev.now _
def may (l : List Int) : Bool := decide (l.length ≤ 4096) && decide (Nm l)
theorem qdN {l : List Int} : may l = true ↔ l.length ≤ 4096 ∧ Nm l := by simp [may]
theorem qdO {l : List Int} (h : Dg l) (hb : l.length < 4611686018427387904) : qan.f l = some (may l) := by
 unfold qan.f may
 by_cases h1 : l.length ≤ 4096
 ·rw [if_pos (by omega)]
  by_cases h2 : l.length = 0
  ·have : l = [] := List.eq_nil_of_length_eq_zero h2
   subst this; simp [qh9]
  ·rw [if_neg (by omega)]
   have e : wrap64 ((l.length : Int) - 1) = ((l.length - 1 : Nat) : Int) := by unfold wrap64; omega
   rw [e, if_pos (by omega), if_pos (by omega), rdn]
   have h3 : l ≠ [] := fun e => h2 (by rw [e]; rfl)
   have h4 := qkv h
   by_cases h5 : l.getD (l.length - 1) 0 = 0
   ·have : ¬ Nm l := fun k => by rcases h4.1 k with k | k <;> contradiction
    rw [h5]; simp [this]
   ·have : Nm l := h4.2 (.inr h5)
    simp only [h5, not_false_eq_true, decide_true]; simp [h1, this]
 ·rw [if_neg (by omega)]; simp [h1]
theorem qot {a b : List Int} (ha : Dg a) (hb : Dg b) (la : a.length < 4611686018427387904) (lb : b.length < 4611686018427387904) : Ev (fun k => qai.f k [a, b]) (may a && may b) := by
 unfold qai.f
 refine qi ?_
 simp only [qai.l0]
 refine qa (by simp) (qa (by omega) (qa (by simp) ?_))
 have e0 : rdT [.is .u32] [a, b] 0 = a := rfl
 have e1 : rdT [.is .u32] [a, b] 1 = b := rfl
 rw [e0]
 refine qQ (qdO ha la) ?_
 cases may a with
 | false => exact qa (by simp) (Ev.now _)
 | true =>
  refine qd (by simp) ?_
  have w1 : wrap64 (0 + 1) = 1 := by unfold wrap64; omega
  have w2 : wrap64 (1 + 1) = 2 := by unfold wrap64; omega
  rw [w1]
  refine qi ?_
  simp only [qai.l0]
  refine qa (by simp) (qa (by omega) (qa (by simp) ?_))
  rw [e1]
  refine qQ (qdO hb lb) ?_
  cases may b with
  | false => exact qa (by simp) (Ev.now _)
  | true =>
   refine qd (by simp) ?_
   rw [w2]
   refine qi ?_
   simp only [qai.l0]
   exact qd (by simp) (Ev.now _)
def qaN (n : Nat) : List Int × Int := if (D n).length > 4096 then ([], 3) else (D n, 0)
theorem qou (n : Nat) : qa7.f (D n) = some (qaN n) := by
 unfold qa7.f qaN
 by_cases h : (D n).length > 4096
 ·rw [if_pos (by omega), if_pos h]
 ·rw [if_neg (by omega), if_neg h]
theorem Dg.headD {b : List Int} (h : Dg b) : 0 ≤ b.headD 0 ∧ b.headD 0 < 4294967296 := by
 cases b with
 | nil => simp
 | cons y b => exact h.head
theorem qov (b : List Int) : V b = (b.headD 0).toNat + 4294967296 * V b.tail := by
 cases b <;> simp
theorem qow (b : List Int) (n : Nat) : (b.drop n).headD 0 = b.getD n 0 := by
 rw [List.headD_eq_head?_getD, List.head?_drop, List.getD_eq_getElem?_getD]
theorem qkC {l : List Int} {n : Nat} (h : n < l.length) : V (l.take (n + 1)) = V (l.take n) + 4294967296 ^ n * (l.getD n 0).toNat := by
 rw [List.take_succ_eq_append_getElem h, qcP]
 simp [Nat.min_eq_left (Nat.le_of_lt h), h]
theorem qdh {n : Nat} (h : n < 4611686018427387904) : wrap64 ((n : Int) - 1) = (n : Int) - 1 := by unfold wrap64; omega
theorem qff (n : Nat) : n >>> 31 = n / 2147483648 := by rw [Nat.shiftRight_eq_div_pow]
theorem qgS {x y : Int} (hx : 0 ≤ x ∧ x < 4294967296) (hy : 0 ≤ y ∧ y < 4294967296) : 0 ≤ x * y ∧ x * y ≤ 18446744065119617025 := by
 constructor
 ·exact Int.mul_nonneg hx.1 hy.1
 ·have h1 : x * y ≤ 4294967295 * y := Int.mul_le_mul_of_nonneg_right (by omega) hy.1
  have h2 : 4294967295 * y ≤ 4294967295 * 4294967295 := Int.mul_le_mul_of_nonneg_left (by omega) (by omega)
  omega
def qaj : Int → List Int → List Int → Int → List Int
 | _, [], o, c => c :: o.tail
 | x, y :: b, o, c => ((x * y + o.headD 0 + c) % 4294967296) :: qaj x b o.tail ((x * y + o.headD 0 + c) / 4294967296)
theorem qie {x y : Int} (hx : 0 ≤ x) (hy : 0 ≤ y) : (x * y).toNat = x.toNat * y.toNat := Int.toNat_mul hx hy
theorem qif {x : Int} (hx : 0 ≤ x ∧ x < 4294967296) : ∀ (b o : List Int) (c : Int) (m : Nat), Dg b → Dg o → 0 ≤ c ∧ c < 4294967296 → o.drop b.length = List.replicate (m + 1) 0 →
  V (qaj x b o c) = V o + x.toNat * V b + c.toNat ∧ Dg (qaj x b o c) ∧ (qaj x b o c).tail.drop b.length = List.replicate m 0 ∧ (qaj x b o c).length = o.length
 | [], o, c, m, hb, ho, hc, hz => by
  have hz' : o = 0 :: List.replicate m 0 := by simpa [List.replicate_succ] using hz
  subst hz'
  refine ⟨?_, ?_, ?_, ?_⟩
  ·simp [qaj, qh7]
  ·exact Dg.cons hc.1 hc.2 (Dg.zeros m)
  ·simp [qaj]
  ·simp [qaj]
 | y :: b, o, c, m, hb, ho, hc, hz => by
  obtain ⟨o0, o, rfl⟩ : ∃ o0 o', o = o0 :: o' := by
   cases o with
   | nil => simp at hz
   | cons o0 o' => exact ⟨o0, o', rfl⟩
  have hy := hb.head
  have h0 := ho.head
  have hp := qgS hx hy
  have hz2 : o.drop b.length = List.replicate (m + 1) 0 := by simpa using hz
  have := qif hx b o ((x * y + o0 + c) / 4294967296) m hb.tail ho.tail (by omega) hz2
  simp only [qaj, List.headD_cons, List.tail_cons]
  refine ⟨?_, Dg.cons (by omega) (by omega) this.2.1, ?_, by simp [this.2.2.2]⟩
  ·have e1 : x.toNat * (y.toNat + 4294967296 * V b) = (x * y).toNat + 4294967296 * (x.toNat * V b) := by
    rw [Nat.mul_add, Nat.mul_left_comm, qie hx.1 hy.1]
   rw [qad, this.1, qad, qad, e1]
   omega
  ·obtain ⟨r0, r, hr⟩ : ∃ r0 r', qaj x b o ((x * y + o0 + c) / 4294967296) = r0 :: r' := by
    cases h : qaj x b o ((x * y + o0 + c) / 4294967296) with
    | nil =>
     have hl := this.2.2.2
     rw [h] at hl
     have : o = [] := List.eq_nil_of_length_eq_zero (by simpa using hl.symm)
     subst this; simp at hz2
    | cons r0 r' => exact ⟨r0, r', rfl⟩
   have h3 := this.2.2.1
   rw [hr] at h3 ⊢
   simpa using h3
def qcy : List Int → List Int → List Int → List Int
 | [], _, o => o
 | x :: a, b, o => (qaj x b o 0).headD 0 :: qcy a b (qaj x b o 0).tail
theorem qkD : ∀ (a b o : List Int), Dg a → Dg b → Dg o → o.drop b.length = List.replicate a.length 0 → V (qcy a b o) = V o + V a * V b ∧ Dg (qcy a b o) ∧ (qcy a b o).length = o.length
 | [], b, o, ha, hb, ho, hz => by simp [qcy, ho]
 | x :: a, b, o, ha, hb, ho, hz => by
  have hr := qif ha.head b o 0 a.length hb ho (by omega) (by simpa using hz)
  obtain ⟨r0, r, he⟩ : ∃ r0 r', qaj x b o 0 = r0 :: r' := by
   cases h : qaj x b o 0 with
   | nil =>
    have hl := hr.2.2.2
    rw [h] at hl
    have : o = [] := List.eq_nil_of_length_eq_zero (by simpa using hl.symm)
    subst this; simp at hz
   | cons r0 r' => exact ⟨r0, r', rfl⟩
  rw [he] at hr
  have := qkD a b r ha.tail hb hr.2.1.tail (by simpa using hr.2.2.1)
  simp only [qcy, he, List.headD_cons, List.tail_cons]
  refine ⟨?_, Dg.cons hr.2.1.head.1 hr.2.1.head.2 this.2.1, ?_⟩
  ·have h1 := hr.1
   rw [qad] at h1
   rw [qad, this.1, qad, Nat.add_mul, Nat.mul_add, Nat.mul_assoc]
   simp at h1
   omega
  ·have := hr.2.2.2
   simp at this ⊢; omega
theorem qig {l : List Int} (h : Nm l) (h0 : l ≠ []) : 4294967296 ^ (l.length - 1) ≤ V l := by
 have h1 : V l ≠ 0 := fun e => h0 ((qeq h).1 e)
 have := qkw h1
 rwa [h.len] at this
def conv : List Int → List Int → Nat → Nat
 | [], _, _ => 0
 | x :: _, b, 0 => x.toNat * (b.getD 0 0).toNat
 | x :: a, b, k + 1 => x.toNat * (b.getD (k + 1) 0).toNat + conv a b k
def qbU (a b : List Int) : Nat → Nat
 | 0 => 0
 | n + 1 => qbU a b n + 4294967296 ^ n * conv a b n
theorem qkE (l : List Int) (n : Nat) : V (l.take (n + 1)) = V (l.take n) + 4294967296 ^ n * (l.getD n 0).toNat := by
 by_cases h : n < l.length
 ·exact qkC h
 ·have e : l.getD n 0 = 0 := by rw [List.getD_eq_getElem?_getD, List.getElem?_eq_none (by omega)]; rfl
  rw [List.take_of_length_le (by omega), List.take_of_length_le (by omega), e]; simp
theorem qox (b : List Int) (n : Nat) : qbU [] b n = 0 := by
 induction n with
 | zero => rfl
 | succ n ih => simp [qbU, ih, conv]
theorem qoy (x : Int) (a b : List Int) (n : Nat) : qbU (x :: a) b (n + 1) = x.toNat * V (b.take (n + 1)) + 4294967296 * qbU a b n := by
 induction n with
 | zero =>
  have := qkE b 0
  simp at this
  simp [qbU, conv, this]
 | succ n ih =>
  have e := qkE b (n + 1)
  rw [qbU, ih, conv, e, qbU, Nat.pow_succ]
  grind
theorem qoz (a b : List Int) (n : Nat) (h : a.length + b.length ≤ n) : qbU a b n = V a * V b := by
 induction a generalizing n with
 | nil => simp [qox]
 | cons x a ih =>
  cases n with
  | zero => simp at h
  | succ n =>
   rw [qoy, ih n (by simp at h; omega), List.take_of_length_le (by simp at h; omega), qad, Nat.add_mul, Nat.mul_assoc]
theorem qoA {a b : List Int} (ha : Dg a) (hb : Dg b) (k : Nat) : conv a b k ≤ a.length * 18446744065119617025 := by
 induction a generalizing k with
 | nil => simp [conv]
 | cons x a ih =>
  have hx := ha.head
  have key : ∀ j, x.toNat * (b.getD j 0).toNat ≤ 18446744065119617025 := by
   intro j
   have hy := hb.getD j
   have hp := qgS hx hy
   rw [← qie hx.1 hy.1]; omega
  cases k with
  | zero => rw [conv]; have := key 0; simp only [List.length_cons]; omega
  | succ k => rw [conv]; have := key (k + 1); have := ih ha.tail k; simp only [List.length_cons]; omega
theorem qoB {a b : List Int} {k : Nat} (h : b.length ≤ k) (hk : 0 < k) : conv a b k = conv (a.drop 1) b (k - 1) := by
 cases a with
 | nil => simp [conv]
 | cons x a =>
  obtain ⟨k, rfl⟩ : ∃ m, k = m + 1 := ⟨k - 1, by omega⟩
  have e : b.getD (k + 1) 0 = 0 := by rw [List.getD_eq_getElem?_getD, List.getElem?_eq_none (by omega)]; rfl
  rw [conv, e]; simp
theorem qkF (a b : List Int) (k : Nat) : ∀ n, n + b.length ≤ k + 1 → n ≤ k → conv a b k = conv (a.drop n) b (k - n)
 | 0, _, _ => by simp
 | n + 1, h, hk => by
  rw [qkF a b k n (by omega) (by omega), qoB (by omega) (by omega), List.drop_drop]
  rw [Nat.sub_sub]
theorem qoC {x y : Int} (h0 : 0 ≤ x ∧ x < 4294967296) (h1 : 0 ≤ y) : Go.bits .or .u64 x (IntKind.u64.wrap (y * 4294967296)) = x + (y % 4294967296) * 4294967296 := by
 rw [qdd]
 obtain ⟨X, rfl⟩ := Int.eq_ofNat_of_zero_le h0.1
 obtain ⟨Y, rfl⟩ := Int.eq_ofNat_of_zero_le h1
 have e : (Y : Int) * 4294967296 % 18446744073709551616 = ((2 ^ 32 * (Y % 4294967296) : Nat) : Int) := by omega
 rw [e, u64_or_nat _ _ (by omega) (by omega), Nat.or_comm, ← Nat.two_pow_add_eq_or_of_lt (by omega)]
 omega
theorem qih (A Bl : List Int) (hA : Dg A) (hB : Dg Bl) (hl : A.length < 1000000000) (hlb : Bl.length < 1000000000) (out : List Int) (k : Nat) (hk : k < A.length + Bl.length) (hout : out.length < 1000000000) (T : Nat) (hT : T < 79228162514264337593543950336000) (res : List Int)
  (H : Ev (fun q => qJ.l0 q A Bl (out ++ [((T % 4294967296 : Nat) : Int)]) (((T / 4294967296) % 18446744073709551616 : Nat) : Int) (((T / 4294967296) / 18446744073709551616 : Nat) : Int) ((k + 1 : Nat) : Int)) res) :
  ∀ (d i : Nat) (low high : Int), i + d = k + 1 → 0 ≤ low ∧ low < 18446744073709551616 → 0 ≤ high → k < i + Bl.length → low.toNat + 18446744073709551616 * high.toNat + (if i ≤ k then conv (A.drop i) Bl (k - i) else 0) = T →
  Ev (fun q => qJ.l1 q A Bl out low high k i) res
 | d, i, low, high, hd, hlow, hhigh, hi, he => by
  have fin : low.toNat + 18446744073709551616 * high.toNat = T → Ev (fun q => if out.length + ([low % 4294967296] : List Int).length < 35184372088832 then qJ.l0 q A Bl (out ++ [low % 4294967296]) (Go.bits .or .u64 (low / 4294967296) (IntKind.u64.wrap (high * 4294967296))) (high / 4294967296) ((k + 1 : Nat) : Int) else none) res := by
   intro e
   (repeat (first | with_reducible refine ep ?_ | with_reducible refine en ?_))
   rw [qoC (by omega) hhigh]
   have e1 : low % 4294967296 = ((T % 4294967296 : Nat) : Int) := by omega
   have e2 : low / 4294967296 + high % 4294967296 * 4294967296 = (((T / 4294967296) % 18446744073709551616 : Nat) : Int) := by omega
   have e3 : high / 4294967296 = (((T / 4294967296) / 18446744073709551616 : Nat) : Int) := by omega
   rw [e1, e2, e3]; exact H
  refine qi ?_
  have e : wrap64 ((k : Int) - (i : Int)) = (k : Int) - (i : Int) := by unfold wrap64; omega
  simp only [qJ.l1, e, qcx (n := i) (by omega), qcx (n := k) (by omega)]
  clear e
  by_cases c1 : i ≤ k
  ·rw [if_pos c1] at he
   by_cases c2 : i < A.length
   ·have hx : A.drop i = A.getD i 0 :: A.drop (i + 1) := by rw [List.drop_eq_getElem_cons c2]; simp [c2]
    have ha := hA.getD i
    have hb := hB.getD (k - i)
    have hp := qgS ha hb
    have hpN := qie ha.1 hb.1
    have e : (k : Int) - (i : Int) = ((k - i : Nat) : Int) := by omega
    (repeat (first | with_reducible refine ep ?_ | with_reducible refine en ?_))
    rw [e]
    rw [rdn, rdn, u64 ha.1 (by omega), u64 hb.1 (by omega), u64 hp.1 (by omega)]
    generalize hP : A.getD i 0 * Bl.getD (k - i) 0 = P at *
    have hc : conv (A.drop i) Bl (k - i) = P.toNat + (if i + 1 ≤ k then conv (A.drop (i + 1)) Bl (k - (i + 1)) else 0) := by
     rw [hx, hpN]
     by_cases c3 : i + 1 ≤ k
     ·rw [if_pos c3, show k - i = (k - (i + 1)) + 1 by omega, conv]
     ·rw [if_neg c3, show k - i = 0 by omega, conv]; simp
    rw [hc] at he
    obtain ⟨d, rfl⟩ : ∃ m, d = m + 1 := ⟨d - 1, by omega⟩
    by_cases c4 : low + P < 18446744073709551616
    ·rw [u64 (n := low + P) (by omega) (by omega)]
     (repeat (first | with_reducible refine ep ?_ | with_reducible refine en ?_))
     exact qih A Bl hA hB hl hlb out k hk hout T hT res H d (i + 1) (low + P) high (by omega) (by omega) hhigh (by omega) (by omega)
    ·have e5 : IntKind.u64.wrap (low + P) = low + P - 18446744073709551616 := by rw [qdd]; omega
     rw [e5]
     (repeat (first | with_reducible refine ep ?_ | with_reducible refine en ?_))
     rw [u64 (n := high + 1) (by omega) (by omega)]
     exact qih A Bl hA hB hl hlb out k hk hout T hT res H d (i + 1) (low + P - 18446744073709551616) (high + 1) (by omega) (by omega) (by omega) (by omega) (by omega)
   ·refine qa (by omega) (qd (by omega) (fin ?_))
    rw [List.drop_eq_nil_of_le (by omega), conv] at he
    omega
  ·rw [if_neg c1] at he
   exact qd (by omega) (fin (by omega))
theorem qkG (A Bl : List Int) (hA : Dg A) (hB : Dg Bl) (hl : A.length < 100000000) (hlb : Bl.length < 100000000) (hb0 : 0 < Bl.length) : ∀ (d : Nat) (out : List Int) (T : Nat), out.length + d = A.length + Bl.length → Dg out → T < 79228162514264337593543950336 → V out + 4294967296 ^ out.length * T = qbU A Bl out.length →
  Ev (fun q => qJ.l0 q A Bl out ((T % 18446744073709551616 : Nat) : Int) ((T / 18446744073709551616 : Nat) : Int) out.length) (D (V A * V Bl))
 | 0, out, T, hd, hg, hT, hv => by
  refine qi ?_
  have e : wrap64 ((A.length : Int) + (Bl.length : Int)) = ((A.length + Bl.length : Nat) : Int) := by unfold wrap64; omega
  simp only [qJ.l0, e]
  clear e
  refine qd (by omega) (Ev.bind (qfe hg (by omega)) (qq (Ev.now _) ?_))
  rw [qoz A Bl _ (by omega)] at hv
  have h1 := qdf hA
  have h2 := qdf hB
  have h3 : V A * V Bl < 4294967296 ^ out.length := by
   rw [show out.length = A.length + Bl.length by omega, Nat.pow_add]
   exact Nat.mul_lt_mul'' h1 h2
  have h4 : T = 0 := by
   rcases Nat.eq_zero_or_pos T with h | h
   ·exact h
   ·have := Nat.mul_le_mul_left (4294967296 ^ out.length) h
    omega
  subst h4
  rw [← hv]; simp
 | d + 1, out, T, hd, hg, hT, hv => by
  refine qi ?_
  have e : wrap64 ((A.length : Int) + (Bl.length : Int)) = ((A.length + Bl.length : Nat) : Int) := by unfold wrap64; omega
  simp only [qJ.l0, e]
  clear e
  have hcl := qoA hA hB out.length
  have hcl2 : A.length * 18446744065119617025 ≤ 100000000 * 18446744065119617025 := Nat.mul_le_mul_right _ (by omega)
  have next : Ev (fun q => qJ.l0 q A Bl (out ++ [(((T + conv A Bl out.length) % 4294967296 : Nat) : Int)]) ((((T + conv A Bl out.length) / 4294967296) % 18446744073709551616 : Nat) : Int) ((((T + conv A Bl out.length) / 4294967296) / 18446744073709551616 : Nat) : Int) ((out.length + 1 : Nat) : Int)) (D (V A * V Bl)) := by
   have := qkG A Bl hA hB hl hlb hb0 d (out ++ [(((T + conv A Bl out.length) % 4294967296 : Nat) : Int)]) ((T + conv A Bl out.length) / 4294967296) (by simp; omega) (hg.app (Dg.cons (by omega) (by omega) Dg.nil)) (by omega) (by
    rw [qcP, List.length_append, List.length_singleton, qbU, ← hv, Nat.pow_succ, Nat.mul_assoc, Nat.add_assoc, ← Nat.mul_add, Nat.add_assoc, ← Nat.mul_add]
    congr 2
    simp only [qad, qdM]
    omega)
   rwa [List.length_append, List.length_singleton] at this
  (repeat (first | with_reducible refine ep ?_ | with_reducible refine en ?_))
  have j2 : ∀ (i : Nat), i ≤ out.length → out.length < i + Bl.length → conv A Bl out.length = conv (A.drop i) Bl (out.length - i) → Ev (fun q => qJ.j3 q A Bl out ((T % 18446744073709551616 : Nat) : Int) ((T / 18446744073709551616 : Nat) : Int) out.length i) (D (V A * V Bl)) := by
   intro i h1 h2 h3
   refine qi ?_
   simp only [qJ.j3]
   exact qih A Bl hA hB (by omega) (by omega) out out.length (by omega) (by omega) (T + conv A Bl out.length) (by omega) _ next (out.length + 1 - i) i _ _ (by omega) (by omega) (by omega) h2 (by rw [if_pos h1, ← h3]; omega)
  by_cases c1 : out.length ≥ Bl.length
  ·(repeat (first | with_reducible refine ep ?_ | with_reducible refine en ?_))
   have c2 := hb0
   ·have e : wrap64 (wrap64 ((out.length : Int) - (Bl.length : Int)) + 1) = ((out.length + 1 - Bl.length : Nat) : Int) := by unfold wrap64; omega
    rw [e]
    clear e
    exact j2 _ (by omega) (by omega) (qkF A Bl out.length _ (by omega) (by omega))
  ·(repeat (first | with_reducible refine ep ?_ | with_reducible refine en ?_)); exact j2 0 (by omega) (by omega) (by simp)
theorem qii {a b : List Int} (ha : Dg a) (hb : Dg b) (la : a.length < 100000000) (lb : b.length < 100000000) : Ev (fun k => qJ.f k a b) (D (V a * V b)) := by
 unfold qJ.f
 by_cases c1 : a.length = 0
 ·(repeat (first | with_reducible refine ep ?_ | with_reducible refine en ?_))
  have : a = [] := List.eq_nil_of_length_eq_zero c1
  subst this
  refine qq (Ev.now _) ?_
  simp [qY]
 ·(repeat (first | with_reducible refine ep ?_ | with_reducible refine en ?_))
  by_cases c2 : b.length = 0
  ·(repeat (first | with_reducible refine ep ?_ | with_reducible refine en ?_))
   have : b = [] := List.eq_nil_of_length_eq_zero c2
   subst this
   refine qq (Ev.now _) ?_
   simp [qY]
  ·(repeat (first | with_reducible refine ep ?_ | with_reducible refine en ?_))
   have := qkG a b ha hb la lb (by omega) (a.length + b.length) [] 0 (by simp) Dg.nil (by omega) (by simp [qbU])
   simpa using this
theorem qij {m n : Nat} (h : (D m).length > 4096) (k : m ≤ n) : qaN n = ([], 3) := by
 have := qib k
 unfold qaN; rw [if_pos (by omega)]
theorem qoD {m e : Nat} (he : 4096 = e) (h : 4294967296 ^ e ≤ m) : (D m).length > 4096 := by
 apply Nat.lt_of_not_le
 rw [he]
 intro k
 exact absurd (Nat.lt_of_lt_of_le (qfb m) (Nat.le_trans (Nat.pow_le_pow_right (by decide) k) h)) (Nat.lt_irrefl _)
theorem qoE {m e k : Nat} (he : 32 * k ≤ e) (h : 2 ^ e ≤ m) : 4294967296 ^ k ≤ m := by
 have e1 : (4294967296 : Nat) ^ k = 2 ^ (32 * k) := by rw [Nat.pow_mul]
 rw [e1]
 exact Nat.le_trans (Nat.pow_le_pow_right (by decide) he) h
theorem qoF {m e : Nat} (he : 131072 ≤ e) (h : 2 ^ e ≤ m) : qaN m = ([], 3) :=
 have key : ∀ k, 4096 = k → qaN m = ([], 3) := fun k hk => qij (qoD hk (qoE (by omega) h)) (Nat.le_refl _)
 key 4096 rfl
def bl (n : Nat) : Nat := if n = 0 then 0 else n.log2 + 1
theorem qik : bl 0 = 0 := rfl
theorem qkH {n : Nat} (h : n ≠ 0) : 2 ^ (bl n - 1) ≤ n := by
 unfold bl; rw [if_neg h]; exact Nat.log2_self_le h
theorem qbE (n : Nat) : n < 2 ^ bl n := by
 unfold bl
 split
 ·subst n; simp
 ·exact Nat.lt_log2_self
theorem qgT {n : Nat} (h : n ≠ 0) : 0 < bl n := by unfold bl; rw [if_neg h]; omega
theorem qbV {n k : Nat} (h : n < 2 ^ k) : bl n ≤ k := by
 by_cases e : n = 0
 ·subst e; simp [qik]
 ·have h1 := qkH e
  have h2 := qgT e
  have : bl n - 1 < k := (Nat.pow_lt_pow_iff_right (a := 2) (by omega)).1 (Nat.lt_of_le_of_lt h1 h)
  omega
theorem qoG {n k : Nat} (h1 : 2 ^ k ≤ n) (h2 : n < 2 ^ (k + 1)) : bl n = k + 1 := by
 have := qbV h2
 have h3 : 2 ^ k < 2 ^ bl n := Nat.lt_of_le_of_lt h1 (qbE n)
 have := (Nat.pow_lt_pow_iff_right (a := 2) (by omega)).1 h3
 omega
theorem qdi {n k : Nat} (h : 2 ^ k ≤ n) : bl n = k + bl (n / 2 ^ k) := by
 have hp : 0 < 2 ^ k := Nat.pow_pos (by omega)
 have h0 : n / 2 ^ k ≠ 0 := by
  have := (Nat.le_div_iff_mul_le hp (x := 1) (y := n)).2 (by omega)
  omega
 have h1 := qkH h0
 have h2 := qbE (n / 2 ^ k)
 have h3 := qgT h0
 have e : k + bl (n / 2 ^ k) = (k + (bl (n / 2 ^ k) - 1)) + 1 := by omega
 rw [e]
 apply qoG
 ·rw [Nat.pow_add]
  have := (Nat.le_div_iff_mul_le hp).1 h1
  rw [Nat.mul_comm]; exact this
 ·have := (Nat.div_lt_iff_lt_mul hp).1 h2
  rw [show k + (bl (n / 2 ^ k) - 1) + 1 = bl (n / 2 ^ k) + k by omega, Nat.pow_add]
  exact this
theorem qkI {n : Nat} (h : n ≠ 0) : bl n = bl (n / 2) + 1 := by
 by_cases h1 : n = 1
 ·subst h1; rfl
 ·have := qdi (n := n) (k := 1) (by omega)
  simp at this; omega
theorem qoH {a b : Nat} (h : a ≤ b) : bl a ≤ bl b := qbV (Nat.lt_of_le_of_lt h (qbE b))
def qkJ : ByteArray := ⟨#[0, 1, 2, 2, 3, 3, 3, 3, 4, 4, 4, 4, 4, 4, 4, 4, 5, 5, 5, 5, 5, 5, 5, 5, 5, 5, 5, 5, 5, 5, 5, 5, 6, 6, 6, 6, 6, 6, 6, 6, 6, 6, 6, 6, 6, 6, 6, 6, 6, 6, 6, 6, 6, 6, 6, 6, 6, 6, 6, 6, 6, 6, 6, 6, 7, 7, 7, 7, 7, 7, 7, 7, 7, 7, 7, 7, 7, 7, 7, 7, 7, 7, 7, 7, 7, 7, 7, 7, 7, 7, 7, 7, 7, 7, 7, 7, 7, 7, 7, 7, 7, 7, 7, 7, 7, 7, 7, 7, 7, 7, 7, 7, 7, 7, 7, 7, 7, 7, 7, 7, 7, 7, 7, 7, 7, 7, 7, 7, 8, 8, 8, 8, 8, 8, 8, 8, 8, 8, 8, 8, 8, 8, 8, 8, 8, 8, 8, 8, 8, 8, 8, 8, 8, 8, 8, 8, 8, 8, 8, 8, 8, 8, 8, 8, 8, 8, 8, 8, 8, 8, 8, 8, 8, 8, 8, 8, 8, 8, 8, 8, 8, 8, 8, 8, 8, 8, 8, 8, 8, 8, 8, 8, 8, 8, 8, 8, 8, 8, 8, 8, 8, 8, 8, 8, 8, 8, 8, 8, 8, 8, 8, 8, 8, 8, 8, 8, 8, 8, 8, 8, 8, 8, 8, 8, 8, 8, 8, 8, 8, 8, 8, 8, 8, 8, 8, 8, 8, 8, 8, 8, 8, 8, 8, 8, 8, 8, 8, 8, 8, 8, 8, 8, 8, 8, 8, 8]⟩
theorem qoI : (List.range 256).all (fun i => bt qkJ (i : Int) == (bl i : Int)) = true := by decide +kernel
theorem bt8 {t : ByteArray} {n : Nat} (h : n < 256) (ht : t = qkJ) : bt t (n : Int) = (bl n : Int) := by
 subst ht
 have := List.all_eq_true.1 qoI n (List.mem_range.2 h)
 exact eq_of_beq this
theorem qkK {n : Nat} (h : n < 256) : bl n ≤ 8 := qbV h
theorem qkL : qe1.size = 256 := by decide +kernel
theorem qkM {n : Nat} (h : n < 256) {m : Int} (hm : 0 ≤ m ∧ m ≤ 64) : Ev (fun k => qao.j1 k (n : Int) m) (m + (bl n : Nat)) := by
 refine qi ?_
 simp only [qao.j1]
 have e : (n : Int) % 256 = n := by omega
 have l := qkK h
 rw [e, qkL]
 (repeat (first | with_reducible refine ep ?_ | with_reducible refine en ?_))
 rw [bt8 h (by rfl), qa9 (n := ((bl n : Nat) : Int)) (by omega) (by omega), qa9 (by omega) (by omega)]
 exact Ev.now _
theorem qkN {n : Nat} (h : n < 65536) {m : Int} (hm : 0 ≤ m ∧ m ≤ 32) : Ev (fun k => qao.j0 k (n : Int) m) (m + (bl n : Nat)) := by
 refine qi ?_
 simp only [qao.j0]
 by_cases c : n ≥ 256
 ·(repeat (first | with_reducible refine ep ?_ | with_reducible refine en ?_))
  have e2 : bl n = 8 + bl (n / 256) := qdi (k := 8) c
  have := qkM (n := n / 256) (by omega) (m := m + 8) (by omega)
  rw [qa9 (by omega) (by omega), show (n : Int) / 256 = ((n / 256 : Nat) : Int) by omega]
  exact qq this (by rw [e2]; omega)
 ·(repeat (first | with_reducible refine ep ?_ | with_reducible refine en ?_))
  exact qkM (by omega) (by omega)
theorem qoJ {x : Int} (h : 0 ≤ x ∧ x < 4294967296) : Ev (fun k => qao.f k x) ((bl x.toNat : Nat) : Int) := by
 obtain ⟨n, rfl⟩ := Int.eq_ofNat_of_zero_le h.1
 unfold qao.f
 rw [Int.toNat_natCast]
 by_cases c : n ≥ 65536
 ·(repeat (first | with_reducible refine ep ?_ | with_reducible refine en ?_))
  have e1 : bl n = 16 + bl (n / 65536) := qdi (k := 16) c
  rw [show (n : Int) / 65536 = ((n / 65536 : Nat) : Int) by omega]
  exact qq (qkN (by omega) (by omega)) (by rw [e1]; omega)
 ·(repeat (first | with_reducible refine ep ?_ | with_reducible refine en ?_))
  exact qq (qkN (by omega) (by omega)) (by omega)
theorem qkO {n : Nat} (h : n < 256) {m : Int} (hm : 0 ≤ m ∧ m ≤ 128) : Ev (fun k => qO.j2 k (n : Int) m) (m + (bl n : Nat)) := by
 refine qi ?_
 simp only [qO.j2]
 have e : (n : Int) % 256 = n := by omega
 have l := qkK h
 rw [e, qkL]
 (repeat (first | with_reducible refine ep ?_ | with_reducible refine en ?_))
 rw [bt8 h (by rfl), qa9 (n := ((bl n : Nat) : Int)) (by omega) (by omega), qa9 (by omega) (by omega)]
 exact Ev.now _
theorem qkP {n : Nat} (h : n < 65536) {m : Int} (hm : 0 ≤ m ∧ m ≤ 100) : Ev (fun k => qO.j1 k (n : Int) m) (m + (bl n : Nat)) := by
 refine qi ?_
 simp only [qO.j1]
 by_cases c : n ≥ 256
 ·(repeat (first | with_reducible refine ep ?_ | with_reducible refine en ?_))
  have e2 : bl n = 8 + bl (n / 256) := qdi (k := 8) c
  have := qkO (n := n / 256) (by omega) (m := m + 8) (by omega)
  rw [qa9 (by omega) (by omega), show (n : Int) / 256 = ((n / 256 : Nat) : Int) by omega]
  exact qq this (by rw [e2]; omega)
 ·(repeat (first | with_reducible refine ep ?_ | with_reducible refine en ?_))
  exact qkO (by omega) (by omega)
theorem qkQ {n : Nat} (h : n < 4294967296) {m : Int} (hm : 0 ≤ m ∧ m ≤ 64) : Ev (fun k => qO.j0 k n m) (m + (bl n : Nat)) := by
 refine qi ?_
 simp only [qO.j0]
 by_cases c : n ≥ 65536
 ·(repeat (first | with_reducible refine ep ?_ | with_reducible refine en ?_))
  have e2 : bl n = 16 + bl (n / 65536) := qdi (k := 16) c
  have := qkP (n := n / 65536) (by omega) (m := m + 16) (by omega)
  rw [qa9 (by omega) (by omega), show (n : Int) / 65536 = ((n / 65536 : Nat) : Int) by omega]
  exact qq this (by rw [e2]; omega)
 ·(repeat (first | with_reducible refine ep ?_ | with_reducible refine en ?_))
  exact qkP (by omega) (by omega)
theorem qoK {x : Int} (h : 0 ≤ x ∧ x < 18446744073709551616) : Ev (fun k => qO.f k x) ((bl x.toNat : Nat) : Int) := by
 obtain ⟨n, rfl⟩ := Int.eq_ofNat_of_zero_le h.1
 rw [Int.toNat_natCast]
 unfold qO.f
 by_cases c : n ≥ 4294967296
 ·(repeat (first | with_reducible refine ep ?_ | with_reducible refine en ?_))
  have e : bl n = 32 + bl (n / 4294967296) := qdi (k := 32) c
  have := qkQ (n := n / 4294967296) (by omega) (m := 32) (by omega)
  refine qq this ?_
  omega
 ·(repeat (first | with_reducible refine ep ?_ | with_reducible refine en ?_))
  have := qkQ (n := n) (by omega) (m := 0) (by omega)
  exact qq this (by omega)
theorem qoL : ∀ (n : Nat) (m : Int), 0 ≤ m ∧ m + (bl n : Nat) < 4611686018427387904 → n < 4294967296 → Ev (fun k => qbT.l0 k m n) (m + (bl n : Nat)) := by
 intro n
 induction n using Nat.strongRecOn with
 | _ n ih =>
  intro m hm hn
  refine qi ?_
  simp only [qbT.l0]
  by_cases c : n = 0
  ·subst c
   (repeat (first | with_reducible refine ep ?_ | with_reducible refine en ?_))
   exact qq (Ev.now _) (by simp [qik])
  ·(repeat (first | with_reducible refine ep ?_ | with_reducible refine en ?_))
   have e : (n : Int) / 2 = ((n / 2 : Nat) : Int) := by omega
   have hb := qkI c
   rw [e, qa9 (by omega) (by omega)]
   refine qq (ih (n / 2) (by omega) (m + 1) (by omega) (by omega)) ?_
   omega
theorem qkR {l : List Int} (h : Nm l) (h0 : l ≠ []) : bl (V l) = 32 * (l.length - 1) + bl (l.getD (l.length - 1) 0).toNat := by
 rcases List.eq_nil_or_concat l with rfl | ⟨a, d, rfl⟩
 ·exact absurd rfl h0
 rw [List.concat_eq_append] at h ⊢
 have hd := h.dg d (by simp)
 have hn := qku h
 have e : (a ++ [d]).getD ((a ++ [d]).length - 1) 0 = d := by simp
 rw [e]
 have hl : (a ++ [d]).length - 1 = a.length := by simp
 rw [hl, qcP]
 simp only [qad, qdM, Nat.mul_zero, Nat.add_zero]
 have hv := qdf h.dg.left
 have hp : (4294967296 : Nat) ^ a.length = 2 ^ (32 * a.length) := by rw [Nat.pow_mul]
 rw [hp] at hv ⊢
 have hpos : 0 < 2 ^ (32 * a.length) := Nat.pow_pos (by omega)
 have hd1 : 2 ^ (32 * a.length) * 1 ≤ 2 ^ (32 * a.length) * d.toNat := Nat.mul_le_mul_left _ (by omega)
 rw [qdi (n := V a + 2 ^ (32 * a.length) * d.toNat) (k := 32 * a.length) (by omega)]
 rw [Nat.add_mul_div_left _ _ hpos, Nat.div_eq_of_lt hv, Nat.zero_add]
theorem qkS {l : List Int} (h : Nm l) (hb : l.length < 1000000000) : Ev (fun k => qbT.f k l) ((bl (V l) : Nat) : Int) := by
 unfold qbT.f
 by_cases c : l.length = 0
 ·have : l = [] := List.eq_nil_of_length_eq_zero c
  subst this
  (repeat (first | with_reducible refine ep ?_ | with_reducible refine en ?_)); exact Ev.now _
 ·(repeat (first | with_reducible refine ep ?_ | with_reducible refine en ?_))
  have e : wrap64 ((l.length : Int) - 1) = ((l.length - 1 : Nat) : Int) := by unfold wrap64; omega
  rw [e]
  clear e
  (repeat (first | with_reducible refine ep ?_ | with_reducible refine en ?_))
  have hd := h.dg.getD (l.length - 1)
  rw [rdn, qa9 (by omega) (by omega)]
  generalize hx : l.getD (l.length - 1) 0 = x at hd
  obtain ⟨n, rfl⟩ := Int.eq_ofNat_of_zero_le hd.1
  have hbn : bl n ≤ 32 := qbV (by omega)
  refine qq (qoL n _ (by omega) (by omega)) ?_
  have hne : l ≠ [] := fun e => c (by rw [e]; rfl)
  have hm := qkv h.dg |>.1 h
  rw [qkR h hne, hx]
  simp
theorem qkT {x y : Int} (h0 : 0 ≤ x ∧ x < 4294967296) (h1 : 0 ≤ y ∧ y < 4294967296) : Go.bits .or .u64 (x * 4294967296) y = x * 4294967296 + y := by
 obtain ⟨X, rfl⟩ := Int.eq_ofNat_of_zero_le h0.1
 obtain ⟨Y, rfl⟩ := Int.eq_ofNat_of_zero_le h1.1
 have e : (X : Int) * 4294967296 = ((2 ^ 32 * X : Nat) : Int) := by omega
 rw [e, u64_or_nat _ _ (by omega) (by omega), ← Nat.two_pow_add_eq_or_of_lt (by omega)]
 omega
theorem qil {r x d : Int} (hr : 0 ≤ r ∧ r < d) (hx : 0 ≤ x ∧ x < 4294967296) (hd : d < 4294967296) : 0 ≤ (r * 4294967296 + x) / d ∧ (r * 4294967296 + x) / d < 4294967296 := by
 constructor
 ·exact Int.ediv_nonneg (by omega) (by omega)
 ·apply Int.ediv_lt_of_lt_mul (by omega)
  have : r * 4294967296 + 4294967296 ≤ d * 4294967296 := by omega
  rw [Int.mul_comm]; omega
theorem qoM {r x d : Int} (hr : 0 ≤ r ∧ r < d) (hx : 0 ≤ x ∧ x < 4294967296) (hd : d < 4294967296) : qea.f r x d = some ((r * 4294967296 + x) / d, (r * 4294967296 + x) % d) := by
 have hn : 0 ≤ r * 4294967296 + x := by omega
 have hd0 : d ≠ 0 := by omega
 have hr0 : ¬ d ≤ r := by omega
 have ur := u64 (n := r) (by omega) (by omega)
 have ur2 := u64 (n := r * 4294967296) (by omega) (by omega)
 have ux := u64 (n := x) (by omega) (by omega)
 have ud := u64 (n := d) (by omega) (by omega)
 have ho := qkT (x := r) (by omega) hx
 have h1 := qil hr hx hd
 have h2 : 0 ≤ (r * 4294967296 + x) % d := Int.emod_nonneg _ hd0
 have h3 : (r * 4294967296 + x) % d < d := Int.emod_lt_of_pos _ (by omega)
 unfold qea.f
 rw [if_pos hd0, if_neg hr0, ud, if_neg hd0, if_neg hd0, ur, ur2, ux, ho, Int.tdiv_eq_ediv_of_nonneg hn, Int.tmod_eq_emod_of_nonneg hn]
 clear ur ur2 ux ud ho
 generalize (r * 4294967296 + x) / d = q at *
 generalize (r * 4294967296 + x) % d = m at *
 rw [u64 h1.1 (by omega), Int.emod_eq_of_lt h1.1 h1.2, Int.emod_eq_of_lt h2 (by omega)]
theorem qkU (n : Nat) (l : List Int) : List.replicate (n + 1) (0 : Int) ++ l = List.replicate n 0 ++ 0 :: l := by
 rw [List.replicate_succ', List.append_assoc]; rfl
theorem qoN (t P X R E w : Nat) (hE : 0 < E) :
  (t + P * X + P * 4294967296 * R) / E + P * 4294967296 * w = (t + P * ((R * 4294967296 + X) % E)) / E + P * ((R * 4294967296 + X) / E + 4294967296 * w) ∧
  (t + P * X + P * 4294967296 * R) % E = (t + P * ((R * 4294967296 + X) % E)) % E := by
 have h := Nat.div_add_mod (R * 4294967296 + X) E
 have e4 : P * (R * 4294967296 + X) = P * 4294967296 * R + P * X := by rw [Nat.mul_add, Nat.mul_comm R, Nat.mul_assoc]
 generalize (R * 4294967296 + X) / E = q at *
 generalize (R * 4294967296 + X) % E = m at *
 have e3 : P * (E * q + m) = E * (P * q) + P * m := by rw [Nat.mul_add, Nat.mul_left_comm]
 rw [h, e4] at e3
 have key : t + P * X + P * 4294967296 * R = t + P * m + E * (P * q) := by
  rw [Nat.add_assoc, Nat.add_comm (P * X), e3, Nat.add_assoc, Nat.add_comm (P * m)]
 rw [key, Nat.add_mul_div_left _ _ hE, Nat.add_mul_mod_self_left, Nat.mul_add, Nat.mul_assoc P, Nat.add_assoc]
 exact ⟨rfl, rfl⟩
theorem qkV {a : List Int} (ha : Dg a) {i : Nat} (hi : i < a.length) {r d : Int} (hr : 0 ≤ r ∧ r < d) (w : Nat) :
  (V (a.take (i + 1)) + 4294967296 ^ (i + 1) * r.toNat) / d.toNat + 4294967296 ^ (i + 1) * w =
   (V (a.take i) + 4294967296 ^ i * ((r * 4294967296 + a.getD i 0) % d).toNat) / d.toNat + 4294967296 ^ i * (((r * 4294967296 + a.getD i 0) / d).toNat + 4294967296 * w) ∧
  (V (a.take (i + 1)) + 4294967296 ^ (i + 1) * r.toNat) % d.toNat = (V (a.take i) + 4294967296 ^ i * ((r * 4294967296 + a.getD i 0) % d).toNat) % d.toNat := by
 have hx := ha.getD i
 rw [qkC hi]
 obtain ⟨R, rfl⟩ := Int.eq_ofNat_of_zero_le hr.1
 obtain ⟨E, rfl⟩ := Int.eq_ofNat_of_zero_le (show 0 ≤ d by omega)
 obtain ⟨X, hX⟩ := Int.eq_ofNat_of_zero_le hx.1
 rw [hX]
 have hE : 0 < E := by omega
 clear hx hX hr ha hi
 have e1 : ((R : Int) * 4294967296 + X) % E = (((R * 4294967296 + X) % E : Nat) : Int) := by
  rw [Int.natCast_emod, Int.natCast_add, Int.natCast_mul, Int.cast_ofNat_Int]
 have e2 : ((R : Int) * 4294967296 + X) / E = (((R * 4294967296 + X) / E : Nat) : Int) := by
  rw [Int.natCast_ediv, Int.natCast_add, Int.natCast_mul, Int.cast_ofNat_Int]
 rw [e1, e2]
 rw [Int.toNat_natCast, Int.toNat_natCast, Int.toNat_natCast, Int.toNat_natCast, Int.toNat_natCast, Nat.pow_succ]
 exact qoN _ _ _ _ _ _ hE
theorem qkW {a : List Int} (ha : Dg a) (hl : a.length < 1000000000) {d : Int} (hd : 0 < d ∧ d < 4294967296) : ∀ (i : Nat) (r : Int) (done : List Int), i + done.length = a.length → 0 ≤ r ∧ r < d → Dg done →
  Ev (fun k => qa6.l0 k a d (List.replicate i 0 ++ done) r ((i : Int) - 1)) (D ((V (a.take i) + 4294967296 ^ i * r.toNat) / d.toNat + 4294967296 ^ i * V done), (((V (a.take i) + 4294967296 ^ i * r.toNat) % d.toNat : Nat) : Int))
 | 0, r, done, hi, hr, hg => by
  refine qi ?_
  simp only [qa6.l0]
  (repeat (first | with_reducible refine ep ?_ | with_reducible refine en ?_))
  refine Ev.bind (qfd (l := List.replicate 0 0 ++ done) (by simpa using hg) (by simp; omega)) (qq (Ev.now _) ?_)
  have h1 : r.toNat / d.toNat = 0 := Nat.div_eq_of_lt (by omega)
  have h2 : r.toNat % d.toNat = r.toNat := Nat.mod_eq_of_lt (by omega)
  simp [h1, h2]; omega
 | i + 1, r, done, hi, hr, hg => by
  have e0 : ((i + 1 : Nat) : Int) - 1 = (i : Int) := by omega
  have hx := ha.getD i
  have ht := qil hr hx hd.2
  have st := qkV ha (i := i) (by omega) hr (V done)
  have hm0 : 0 ≤ (r * 4294967296 + a.getD i 0) % d := Int.emod_nonneg _ (by omega)
  have hm1 : (r * 4294967296 + a.getD i 0) % d < d := Int.emod_lt_of_pos _ (by omega)
  have ih := qkW ha hl hd i ((r * 4294967296 + a.getD i 0) % d) (((r * 4294967296 + a.getD i 0) / d) :: done) (by simp; omega) ⟨hm0, hm1⟩ (Dg.cons ht.1 ht.2 hg)
  rw [e0]
  refine qi ?_
  simp only [qa6.l0, qdh (n := i) (by omega)]
  (repeat (first | with_reducible refine ep ?_ | with_reducible refine en ?_))
  rw [rdn]
  refine qQ (qoM hr hx hd.2) ?_
  refine qa (by omega) (qa (by simp; omega) ?_)
  have hs : (List.replicate (i + 1) (0 : Int) ++ done).set ((i : Int)).toNat ((r * 4294967296 + a.getD i 0) / d) = List.replicate i 0 ++ ((r * 4294967296 + a.getD i 0) / d) :: done := by
   rw [qkU, qde (by simp)]; simp
  rw [hs]
  refine qq ih ?_
  rw [qad, st.1, st.2]
theorem qoO {a : List Int} (ha : Dg a) (hl : a.length < 1000000000) {d : Int} (hd : 0 < d ∧ d < 4294967296) : Ev (fun k => qa6.f k a d) (D (V a / d.toNat), ((V a % d.toNat : Nat) : Int)) := by
 unfold qa6.f
 (repeat (first | with_reducible refine ep ?_ | with_reducible refine en ?_))
 have := qkW ha hl hd a.length 0 [] (by simp) (by omega) Dg.nil
 rw [qdh (by omega)]
 simpa using this
theorem qkX {a : List Int} (ha : Dg a) (hl : a.length < 1000000000) {d : Int} (hd : 0 < d ∧ d < 4294967296) : ∀ (i : Nat) (r : Int) (done : List Int), i + done.length = a.length → 0 ≤ r ∧ r < d → Dg done →
  Ev (fun k => qbD.l0 k a d (List.replicate i 0 ++ done) r ((i : Int) - 1)) (D ((V (a.take i) + 4294967296 ^ i * r.toNat) / d.toNat + 4294967296 ^ i * V done), D ((V (a.take i) + 4294967296 ^ i * r.toNat) % d.toNat))
 | 0, r, done, hi, hr, hg => by
  refine qi ?_
  simp only [qbD.l0]
  (repeat (first | with_reducible refine ep ?_ | with_reducible refine en ?_))
  refine Ev.bind (qfe (l := List.replicate 0 0 ++ done) (by simpa using hg) (by simp; omega)) (Ev.bind (qid hr.1 (by omega)) (qq (Ev.now _) ?_))
  have h1 : r.toNat / d.toNat = 0 := Nat.div_eq_of_lt (by omega)
  have h2 : r.toNat % d.toNat = r.toNat := Nat.mod_eq_of_lt (by omega)
  simp [h1, h2]
 | i + 1, r, done, hi, hr, hg => by
  have e0 : ((i + 1 : Nat) : Int) - 1 = (i : Int) := by omega
  have hx := ha.getD i
  have ht := qil hr hx hd.2
  have st := qkV ha (i := i) (by omega) hr (V done)
  have hm0 : 0 ≤ (r * 4294967296 + a.getD i 0) % d := Int.emod_nonneg _ (by omega)
  have hm1 : (r * 4294967296 + a.getD i 0) % d < d := Int.emod_lt_of_pos _ (by omega)
  have ih := qkX ha hl hd i ((r * 4294967296 + a.getD i 0) % d) (((r * 4294967296 + a.getD i 0) / d) :: done) (by simp; omega) ⟨hm0, hm1⟩ (Dg.cons ht.1 ht.2 hg)
  rw [e0]
  refine qi ?_
  simp only [qbD.l0, qdh (n := i) (by omega)]
  (repeat (first | with_reducible refine ep ?_ | with_reducible refine en ?_))
  rw [rdn, u64 (n := d) (by omega) (by omega), u64 (n := r * 4294967296) (by omega) (by omega), u64 (n := a.getD i 0) (by omega) (by omega), qkT (by omega) hx,
   Int.tdiv_eq_ediv_of_nonneg (by omega), Int.tmod_eq_emod_of_nonneg (by omega), u64 ht.1 (by omega), Int.emod_eq_of_lt ht.1 ht.2]
  (repeat (first | with_reducible refine ep ?_ | with_reducible refine en ?_))
  have hs : (List.replicate (i + 1) (0 : Int) ++ done).set ((i : Int)).toNat ((r * 4294967296 + a.getD i 0) / d) = List.replicate i 0 ++ ((r * 4294967296 + a.getD i 0) / d) :: done := by
   rw [qkU, qde (by simp)]; simp
  rw [hs]
  refine qq ih ?_
  rw [qad, st.1, st.2]
theorem qoP {a : List Int} (ha : Dg a) (hl : a.length < 1000000000) {d : Int} (hd : 0 < d ∧ d < 4294967296) : Ev (fun k => qbD.f k a d) (D (V a / d.toNat), D (V a % d.toNat)) := by
 unfold qbD.f
 (repeat (first | with_reducible refine ep ?_ | with_reducible refine en ?_))
 have := qkX ha hl hd a.length 0 [] (by simp) (by omega) Dg.nil
 rw [qdh (by omega)]
 simpa using this
theorem pw {s : Nat} (h : s ≤ 32) : 2 ^ s * 2 ^ (32 - s) = 4294967296 := by
 rw [← Nat.pow_add]; have : s + (32 - s) = 32 := by omega
 rw [this]
theorem qW (s : Nat) : 0 < 2 ^ s := Nat.pow_pos (by omega)
theorem qer {X P Q c : Nat} (hP : 0 < P) (hc : c < P) : (X * P + c) / (P * Q) = X / Q ∧ (X * P + c) % (P * Q) = P * (X % Q) + c := by
 have h1 : (X * P + c) / P = X := by rw [Nat.mul_comm, Nat.mul_add_div hP, Nat.div_eq_of_lt hc, Nat.add_zero]
 have h2 : (X * P + c) % P = c := by rw [Nat.mul_comm, Nat.mul_add_mod, Nat.mod_eq_of_lt hc]
 exact ⟨by rw [← Nat.div_div_eq_div_mul, h1], by rw [Nat.mod_mul, h1, h2, Nat.add_comm]⟩
theorem qim (s : Nat) : ((2 : Int) ^ s) = ((2 ^ s : Nat) : Int) := by simp
theorem qoQ (X s : Nat) (hs : s < 32) : shl .u32 (X : Int) (s : Int) = ((X * 2 ^ s % 4294967296 : Nat) : Int) := by
 unfold shl
 rw [Int.toNat_natCast, Nat.min_eq_left (by simp [IntKind.bits]; omega), qim, ← Int.natCast_mul]
 simp [IntKind.wrap, IntKind.bits, IntKind.signed]
theorem qin (X s : Nat) (hs : s ≤ 32) (hX : X < 4294967296) : shl .u64 (X : Int) (s : Int) = ((X * 2 ^ s : Nat) : Int) := by
 unfold shl
 rw [Int.toNat_natCast, Nat.min_eq_left (by simp [IntKind.bits]; omega), qim, ← Int.natCast_mul]
 have h1 : 2 ^ s ≤ 2 ^ 32 := Nat.pow_le_pow_right (by omega) hs
 have h2 : X * 2 ^ s ≤ 4294967295 * 2 ^ 32 := Nat.mul_le_mul (by omega) h1
 exact u64 (by omega) (by omega)
theorem qdP {k : IntKind} (X s : Nat) (hs : s ≤ k.bits) : shr k (X : Int) (s : Int) = ((X / 2 ^ s : Nat) : Int) := by
 unfold shr
 rw [Int.toNat_natCast, Nat.min_eq_left hs, qim, ← Int.natCast_ediv]
theorem qes (X : Nat) (hX : X < 4294967296) : IntKind.u64.wrap (X : Int) = (X : Int) := u64 (by omega) (by omega)
theorem qio {s : Nat} (hs : s ≤ 32) : wrap64 (32 - (s : Int)) = ((32 - s : Nat) : Int) := by unfold wrap64; omega
theorem qfg {X s : Nat} (hs : s ≤ 32) (hX : X < 4294967296) : X / 2 ^ s < 2 ^ (32 - s) := by
 rw [Nat.div_lt_iff_lt_mul (qW _), Nat.mul_comm, pw hs]; exact hX
theorem qoR (X s c : Nat) (hs : s < 32) (hX : X < 4294967296) (hc : c < 2 ^ s) : Go.bits .or .u32 (shl .u32 (X : Int) (s : Int)) (c : Int) = (((X * 2 ^ s + c) % 4294967296 : Nat) : Int) := by
 have h1 := (qer (X := X) (Q := 2 ^ (32 - s)) (qW s) hc).2
 have h0 := (qer (X := X) (Q := 2 ^ (32 - s)) (c := 0) (qW s) (qW s)).2
 have hle : 2 ^ s ≤ 2 ^ 31 := Nat.pow_le_pow_right (by omega) (by omega)
 rw [pw (by omega)] at h1 h0
 rw [qoQ _ _ hs, u32_or_nat _ _ (by omega) (by omega), h1]
 rw [Nat.add_zero, Nat.add_zero] at h0
 rw [h0, ← Nat.two_pow_add_eq_or_of_lt hc]
theorem qoS (X s c : Nat) (hs : s < 32) (hX : X < 4294967296) (hc : c < 2 ^ s) : (shr .u64 (IntKind.u64.wrap (X : Int)) (wrap64 (32 - (s : Int)))) % 4294967296 = (((X * 2 ^ s + c) / 4294967296 : Nat) : Int) := by
 have h1 := (qer (X := X) (Q := 2 ^ (32 - s)) (qW s) hc).1
 rw [pw (by omega)] at h1
 rw [qes _ hX, qio (by omega), qdP _ _ (by simp [IntKind.bits]; omega), h1]
 have := qfg (s := 32 - s) (by omega) hX
 have h3 : X / 2 ^ (32 - s) ≤ X := Nat.div_le_self _ _
 omega
theorem qip (X s c : Nat) (hs : s < 32) (hX : X < 4294967296) (hc : c < 2 ^ s) : (X * 2 ^ s + c) / 4294967296 < 2 ^ s := by
 have h1 := (qer (X := X) (Q := 2 ^ (32 - s)) (qW s) hc).1
 rw [pw (by omega)] at h1
 rw [h1]
 have := qfg (s := 32 - s) (by omega) hX
 have e : 32 - (32 - s) = s := by omega
 rwa [e] at this
theorem qoT (X s c : Nat) (hs : s < 32) (hX : X < 4294967296) (hc : c < 2 ^ s) : Go.bits .or .u64 (c : Int) (shl .u64 (IntKind.u64.wrap (X : Int)) (s : Int)) = ((X * 2 ^ s + c : Nat) : Int) := by
 have hle : 2 ^ s ≤ 2 ^ 31 := Nat.pow_le_pow_right (by omega) (by omega)
 have h2 : X * 2 ^ s ≤ 4294967295 * 2 ^ 31 := Nat.mul_le_mul (by omega) hle
 rw [qes _ hX, qin _ _ (by omega) hX, u64_or_nat _ _ (by omega) (by omega), Nat.or_comm, Nat.mul_comm X, ← Nat.two_pow_add_eq_or_of_lt hc]
def qcz (P : Nat) : List Int → Nat → List Int
 | [], c => [(c : Int)]
 | d :: l, c => (((d.toNat * P + c) % 4294967296 : Nat) : Int) :: qcz P l ((d.toNat * P + c) / 4294967296)
theorem qkY {s : Nat} (hs : s < 32) : ∀ (l : List Int) (c : Nat), Dg l → c < 2 ^ s → V (qcz (2 ^ s) l c) = V l * 2 ^ s + c ∧ Dg (qcz (2 ^ s) l c)
 | [], c, _, hc => by
  have hle : 2 ^ s ≤ 2 ^ 31 := Nat.pow_le_pow_right (by omega) (by omega)
  simp only [qcz, qad, qdM]
  exact ⟨by omega, Dg.cons (by omega) (by omega) Dg.nil⟩
 | d :: l, c, hg, hc => by
  have hd := hg.head
  have hX : d.toNat < 4294967296 := by omega
  have ih := qkY hs l _ hg.tail (qip d.toNat s c hs hX hc)
  simp only [qcz, qad, ih.1]
  refine ⟨?_, Dg.cons (by omega) (by omega) ih.2⟩
  generalize hm : d.toNat * 2 ^ s + c = m
  rw [Nat.add_mul, Nat.mul_assoc]
  generalize V l * 2 ^ s = z
  omega
theorem nn {i : Nat} : 0 ≤ (i : Int) := Int.natCast_nonneg i
theorem qkZ (A : List Int) (hA : Dg A) (hl : A.length < 1000000000) {s : Nat} (hs : s < 32) : ∀ (a done pa : List Int) (c : Nat), A = pa ++ a → c < 2 ^ s → Dg done → done.length + a.length < 2000000000 →
  Ev (fun k => qaU.l0 k done s c A A.length pa.length) (D (V (done ++ qcz (2 ^ s) a c)))
 | [], done, pa, c, he, hc, hg, hb => by
  have hlen : A.length = pa.length := by rw [he]; simp
  have hle : 2 ^ s ≤ 2 ^ 31 := Nat.pow_le_pow_right (by omega) (by omega)
  refine qi ?_
  simp only [qaU.l0]
  (repeat (first | with_reducible refine ep ?_ | with_reducible refine en ?_))
  exact Ev.bind (qfd (hg.app (Dg.cons (by omega) (by omega) Dg.nil)) (by simp at hb ⊢; omega)) (Ev.now _)
 | d :: a, done, pa, c, he, hc, hg, hb => by
  have hlen : A.length = pa.length + 1 + a.length := by rw [he]; simp; omega
  have hd : 0 ≤ d ∧ d < 4294967296 := by rw [he] at hA; exact hA.right.head
  obtain ⟨X, rfl⟩ := Int.eq_ofNat_of_zero_le hd.1
  have hX : X < 4294967296 := by omega
  have h1 : rd A (pa.length : Int) = (X : Int) := by rw [he]; exact qaM rfl
  refine qi ?_
  simp only [qaU.l0, h1, qcx (n := pa.length) (by omega), qoR X s c hs hX hc, qoS X s c hs hX hc]
  have w32 : wrap64 (32 - (s : Int)) = 32 - (s : Int) := by unfold wrap64; omega
  (repeat (first | with_reducible refine ep ?_ | with_reducible refine en ?_))
  have := qkZ A hA hl hs a (done ++ [(((X * 2 ^ s + c) % 4294967296 : Nat) : Int)]) (pa ++ [(X : Int)]) ((X * 2 ^ s + c) / 4294967296) (by rw [he]; simp) (qip X s c hs hX hc) (hg.app (Dg.cons (by omega) (by omega) Dg.nil)) (by simp at hb ⊢; omega)
  rw [List.length_append, List.length_singleton] at this
  refine qq this ?_
  simp [qcz]
theorem qk0 (A : List Int) (hA : Dg A) (hl : A.length < 1000000000) {s : Nat} (hs : s < 32) : ∀ (a done pa : List Int) (c : Nat), A = pa ++ a → c < 2 ^ s → Dg done → done.length + a.length < 2000000000 →
  Ev (fun k => qbC.l0 k A done s c pa.length) (D (V (done ++ qcz (2 ^ s) a c)))
 | [], done, pa, c, he, hc, hg, hb => by
  have hlen : A.length = pa.length := by rw [he]; simp
  have hle : 2 ^ s ≤ 2 ^ 31 := Nat.pow_le_pow_right (by omega) (by omega)
  refine qi ?_
  have e : (c : Int) % 4294967296 = (c : Int) := by omega
  simp only [qbC.l0, e]
  (repeat (first | with_reducible refine ep ?_ | with_reducible refine en ?_))
  exact Ev.bind (qfe (hg.app (Dg.cons (by omega) (by omega) Dg.nil)) (by simp at hb ⊢; omega)) (Ev.now _)
 | d :: a, done, pa, c, he, hc, hg, hb => by
  have hlen : A.length = pa.length + 1 + a.length := by rw [he]; simp; omega
  have hd : 0 ≤ d ∧ d < 4294967296 := by rw [he] at hA; exact hA.right.head
  obtain ⟨X, rfl⟩ := Int.eq_ofNat_of_zero_le hd.1
  have hX : X < 4294967296 := by omega
  have h1 : rd A (pa.length : Int) = (X : Int) := by rw [he]; exact qaM rfl
  have e1 : ((X * 2 ^ s + c : Nat) : Int) % 4294967296 = (((X * 2 ^ s + c) % 4294967296 : Nat) : Int) := by omega
  have e2 : ((X * 2 ^ s + c : Nat) : Int) / 4294967296 = (((X * 2 ^ s + c) / 4294967296 : Nat) : Int) := by omega
  refine qi ?_
  simp only [qbC.l0, h1, qcx (n := pa.length) (by omega), qoT X s c hs hX hc, e1, e2]
  (repeat (first | with_reducible refine ep ?_ | with_reducible refine en ?_))
  have := qk0 A hA hl hs a (done ++ [(((X * 2 ^ s + c) % 4294967296 : Nat) : Int)]) (pa ++ [(X : Int)]) ((X * 2 ^ s + c) / 4294967296) (by rw [he]; simp) (qip X s c hs hX hc) (hg.app (Dg.cons (by omega) (by omega) Dg.nil)) (by simp at hb ⊢; omega)
  rw [List.length_append, List.length_singleton] at this
  refine qq this ?_
  simp [qcz]
theorem t32 {n : Nat} (h : n < 4611686018427387904) : wrap64 (Int.tdiv (n : Int) 32) = ((n / 32 : Nat) : Int) := by
 rw [Int.tdiv_eq_ediv_of_nonneg (by omega)]; unfold wrap64; omega
theorem m32 (n : Nat) : Int.tmod (n : Int) 32 = ((n % 32 : Nat) : Int) := by
 rw [Int.tmod_eq_emod_of_nonneg (by omega)]; omega
theorem qfh (n : Nat) : 2 ^ n = 4294967296 ^ (n / 32) * 2 ^ (n % 32) := by
 have h : (4294967296 : Nat) = 2 ^ 32 := by decide
 rw [h, ← Nat.pow_mul, ← Nat.pow_add]; congr 1; omega
theorem qk1 {a : List Int} (ha : Dg a) (n : Nat) : V (List.replicate (n / 32) 0 ++ qcz (2 ^ (n % 32)) a 0) = V a * 2 ^ n := by
 have h := (qkY (s := n % 32) (by omega) a 0 ha (qW _)).1
 rw [qcP, qh7, List.length_replicate, h, Nat.zero_add, Nat.add_zero, qfh n, Nat.mul_left_comm]
theorem qoU {a : List Int} (ha : Dg a) (la : a.length < 1000000000) (n : Nat) (hn : n < 1000000000) : Ev (fun k => qaU.f k a n) (D (V a * 2 ^ n)) := by
 unfold qaU.f
 have e1 : wrap64 (wrap64 (((n / 32 : Nat) : Int) + (a.length : Int)) + 1) = ((n / 32 + a.length + 1 : Nat) : Int) := by unfold wrap64; omega
 simp only [t32 (n := n) (by omega), m32, e1]
 clear e1
 by_cases h0 : a = []
 ·subst h0
  (repeat (first | with_reducible refine ep ?_ | with_reducible refine en ?_))
  exact qq (Ev.now _) (by simp [qY])
 ·have : 0 < a.length := List.length_pos_iff.2 h0
  (repeat (first | with_reducible refine ep ?_ | with_reducible refine en ?_))
  have h := qkZ a ha la (s := n % 32) (by omega) a (List.replicate (n / 32) 0) [] 0 rfl (qW _) (Dg.zeros _) (by simp; omega)
  rw [qk1 ha] at h
  simp only [Int.toNat_natCast]
  simpa using h
theorem qoV {a : List Int} (ha : Dg a) (la : a.length < 1000000000) (n : Nat) (hn : n < 1000000000) : Ev (fun k => qbC.f k a n) (D (V a * 2 ^ n)) := by
 unfold qbC.f
 simp only [t32 (n := n) (by omega), m32]
 by_cases h0 : a = []
 ·subst h0
  (repeat (first | with_reducible refine ep ?_ | with_reducible refine en ?_))
  exact qq (Ev.now _) (by simp [qY])
 ·have : 0 < a.length := List.length_pos_iff.2 h0
  (repeat (first | with_reducible refine ep ?_ | with_reducible refine en ?_))
  have h := qk0 a ha la (s := n % 32) (by omega) a (List.replicate (n / 32) 0) [] 0 rfl (qW _) (Dg.zeros _) (by simp; omega)
  rw [qk1 ha] at h
  simp only [Int.toNat_natCast]
  simpa using h
theorem pw' {s : Nat} (h : s ≤ 32) : 2 ^ (32 - s) * 2 ^ s = 4294967296 := by rw [Nat.mul_comm]; exact pw h
theorem qfi {l : List Int} (h : Dg l) (q : Nat) : V (l.drop q) = V l / 4294967296 ^ q := by
 by_cases hq : q ≤ l.length
 ·have e : V l = V (l.take q) + 4294967296 ^ q * V (l.drop q) := by
   conv => lhs; rw [← List.take_append_drop q l, qcP, List.length_take, Nat.min_eq_left hq]
  have hlt : V (l.take q) < 4294967296 ^ q := by
   have := qdf (h.take q); rwa [List.length_take, Nat.min_eq_left hq] at this
  rw [e, Nat.add_mul_div_left _ _ (Nat.pow_pos (by omega)), Nat.div_eq_of_lt hlt, Nat.zero_add]
 ·rw [List.drop_eq_nil_of_le (by omega), qdM, Nat.div_eq_of_lt]
  exact Nat.lt_of_lt_of_le (qdf h) (Nat.pow_le_pow_right (by omega) (by omega))
theorem qiq {m : Nat} (h : m < 4294967296) : (m : Int) < 4294967296 := by omega
theorem qoW (Y s : Nat) (hs : s < 32) (hY : Y < 4294967296) : (shl .u64 (IntKind.u64.wrap (Y : Int)) (wrap64 (32 - (s : Int)))) % 4294967296 = ((2 ^ (32 - s) * (Y % 2 ^ s) : Nat) : Int) := by
 rw [qes _ hY, qio (by omega), qin _ _ (by omega) hY]
 have h := (qer (X := Y) (P := 2 ^ (32 - s)) (Q := 2 ^ s) (c := 0) (qW _) (qW _)).2
 rw [pw' (by omega), Nat.add_zero, Nat.add_zero] at h
 rw [← h]; omega
theorem qgU (X Y s : Nat) (hs : s < 32) (hX : X < 4294967296) : X / 2 ^ s + 2 ^ (32 - s) * (Y % 2 ^ s) < 4294967296 := by
 have h1 := qfg (s := s) (by omega) hX
 have h2 : Y % 2 ^ s + 1 ≤ 2 ^ s := Nat.mod_lt _ (qW _)
 have h3 := Nat.mul_le_mul_left (2 ^ (32 - s)) h2
 rw [pw' (by omega), Nat.mul_add] at h3
 omega
theorem qoX (X Y s : Nat) (hs : s < 32) (hX : X < 4294967296) (hY : Y < 4294967296) : Go.bits .or .u32 ((X / 2 ^ s : Nat) : Int) ((shl .u64 (IntKind.u64.wrap (Y : Int)) (wrap64 (32 - (s : Int)))) % 4294967296) = ((X / 2 ^ s + 2 ^ (32 - s) * (Y % 2 ^ s) : Nat) : Int) := by
 have hl := qgU X Y s hs hX
 rw [qoW Y s hs hY, u32_or_nat _ _ (Nat.lt_of_le_of_lt (Nat.le_add_right _ _) hl) (Nat.lt_of_le_of_lt (Nat.le_add_left _ _) hl), Nat.or_comm, ← Nat.two_pow_add_eq_or_of_lt (qfg (by omega) hX), Nat.add_comm]
theorem qoY (X Y s : Nat) (hs : s < 32) (hX : X < 4294967296) (hY : Y < 4294967296) : (Go.bits .or .u64 (shr .u64 (IntKind.u64.wrap (X : Int)) (s : Int)) (shl .u64 (IntKind.u64.wrap (Y : Int)) (wrap64 (32 - (s : Int))))) % 4294967296 = ((X / 2 ^ s + 2 ^ (32 - s) * (Y % 2 ^ s) : Nat) : Int) := by
 have hl := qfg (s := s) (by omega) hX
 have hle : 2 ^ (32 - s) ≤ 2 ^ 32 := Nat.pow_le_pow_right (by omega) (by omega)
 have h2 : Y * 2 ^ (32 - s) ≤ 4294967295 * 2 ^ 32 := Nat.mul_le_mul (by omega) hle
 have hX2 : X / 2 ^ s ≤ X := Nat.div_le_self _ _
 rw [qes _ hX, qes _ hY, qio (by omega), qin _ _ (by omega) hY, qdP _ _ (by simp [IntKind.bits]; omega), u64_or_nat _ _ (by omega) (by omega), Nat.or_comm, Nat.mul_comm Y, ← Nat.two_pow_add_eq_or_of_lt hl, Nat.mul_comm _ Y]
 have h := (qer (X := Y) (P := 2 ^ (32 - s)) (Q := 2 ^ s) (c := X / 2 ^ s) (qW _) hl).2
 rw [pw' (by omega)] at h
 rw [Nat.add_comm (X / 2 ^ s), ← h]; omega
def qaY (s : Nat) : List Int → List Int
 | [] => []
 | d :: l => ((d.toNat / 2 ^ s + 2 ^ (32 - s) * ((l.headD 0).toNat % 2 ^ s) : Nat) : Int) :: qaY s l
theorem qoZ {l : List Int} {s : Nat} (hs : s ≤ 32) : V l % 2 ^ s = (l.headD 0).toNat % 2 ^ s := by
 cases l with
 | nil => simp
 | cons d l =>
  have h := pw (s := s) hs
  simp only [qad, List.headD_cons]
  rw [← h, Nat.mul_assoc, Nat.add_mul_mod_self_left]
theorem qk2 {s : Nat} (hs : s < 32) : ∀ (l : List Int), Dg l → V (qaY s l) = V l / 2 ^ s ∧ Dg (qaY s l)
 | [], _ => by simp [qaY, Dg.nil]
 | d :: l, hg => by
  have hd := hg.head
  have ih := qk2 hs l hg.tail
  have hl := qgU d.toNat (l.headD 0).toNat s hs (by omega)
  simp only [qaY, qad, ih.1]
  refine ⟨?_, Dg.cons nn (qiq hl) ih.2⟩
  rw [← qoZ (l := l) (by omega), Int.toNat_natCast]
  have h := pw (s := s) (by omega)
  have h' := pw' (s := s) (by omega)
  have e1 : (d.toNat + 4294967296 * V l) / 2 ^ s = d.toNat / 2 ^ s + 2 ^ (32 - s) * V l := by
   rw [← h, Nat.mul_assoc, Nat.add_mul_div_left _ _ (qW _)]
  have e2 : 2 ^ (32 - s) * V l = 2 ^ (32 - s) * (V l % 2 ^ s) + 4294967296 * (V l / 2 ^ s) := by
   rw [← h', Nat.mul_assoc, ← Nat.mul_add, Nat.mod_add_div]
  rw [e1, e2, Nat.add_assoc]
theorem qk3 {a : List Int} (ha : Dg a) (n : Nat) : V (qaY (n % 32) (a.drop (n / 32))) = V a / 2 ^ n := by
 rw [(qk2 (by omega) _ (ha.drop _)).1, qfi ha, Nat.div_div_eq_div_mul, ← qfh]
theorem qk4 (A : List Int) (hA : Dg A) (hl : A.length < 1000000000) {s : Nat} (hs : s < 32) : ∀ (a done pa : List Int), A = pa ++ a → done.length = pa.length → Dg done →
  Ev (fun k => qaT.l0 k A s (done ++ List.replicate a.length 0) A A.length pa.length) (D (V (done ++ qaY s a)))
 | [], done, pa, he, hd, hg => by
  have hlen : A.length = pa.length := by rw [he]; simp
  refine qi ?_
  simp only [qaT.l0]
  (repeat (first | with_reducible refine ep ?_ | with_reducible refine en ?_))
  simp only [List.length_nil, List.replicate_zero, qaY]
  exact Ev.bind (qfd (l := done ++ []) (by simpa using hg) (by simp; omega)) (Ev.now _)
 | d :: a, done, pa, he, hd, hg => by
  have hlen : A.length = pa.length + 1 + a.length := by rw [he]; simp; omega
  have hdd : 0 ≤ d ∧ d < 4294967296 := by rw [he] at hA; exact hA.right.head
  obtain ⟨X, rfl⟩ := Int.eq_ofNat_of_zero_le hdd.1
  have hX : X < 4294967296 := by omega
  have h1 : rd A (pa.length : Int) = (X : Int) := by rw [he]; exact qaM rfl
  have hg2 : Dg (a) := by rw [he] at hA; exact hA.right.tail
  have hy := hg2.headD
  have ih := qk4 A hA hl hs a (done ++ [((X / 2 ^ s + 2 ^ (32 - s) * ((a.headD 0).toNat % 2 ^ s) : Nat) : Int)]) (pa ++ [(X : Int)]) (by rw [he]; simp) (by simp [hd])
   (hg.app (Dg.cons nn (qiq (qgU X (a.headD 0).toNat s hs hX)) Dg.nil))
  rw [@List.length_append _ pa, List.length_singleton] at ih
  refine qi ?_
  have hset : (done ++ List.replicate ((X : Int) :: a).length 0).set ((pa.length : Int)).toNat ((X / 2 ^ s : Nat) : Int) = (done ++ [((X / 2 ^ s : Nat) : Int)]) ++ List.replicate a.length 0 := by
   rw [List.length_cons, List.replicate_succ, qde (by omega)]
  simp only [qaT.l0, h1, qcx (n := pa.length) (by omega), qdP (k := .u32) X s (by simp [IntKind.bits]; omega), hset, Option.bind_some]
  have w32 : wrap64 (32 - (s : Int)) = 32 - (s : Int) := by unfold wrap64; omega
  (repeat (first | with_reducible refine ep ?_ | with_reducible refine en ?_))
  by_cases hn : a = []
  ·subst hn
   simp only [List.length_nil, Nat.add_zero] at hlen
   (repeat (first | with_reducible refine ep ?_ | with_reducible refine en ?_))
   refine qq (by simpa [qaY] using ih) ?_
   simp [qaY]
  ·obtain ⟨y, a', rfl⟩ := List.exists_cons_of_ne_nil hn
   obtain ⟨Y, rfl⟩ := Int.eq_ofNat_of_zero_le hy.1
   simp only [List.headD_cons] at hy ih
   have hlen' := hlen
   simp only [List.length_cons] at hlen'
   have h2 : rd A ((pa.length + 1 : Nat) : Int) = (Y : Int) := by rw [he, show pa ++ (X : Int) :: (Y : Int) :: a' = (pa ++ [(X : Int)]) ++ (Y : Int) :: a' by simp]; exact qaM (by simp)
   have h3 : rd (done ++ [((X / 2 ^ s : Nat) : Int)] ++ List.replicate ((Y : Int) :: a').length 0) (pa.length : Int) = ((X / 2 ^ s : Nat) : Int) := by rw [List.append_assoc, List.singleton_append]; exact qaM (by omega)
   have hset2 : (done ++ [((X / 2 ^ s : Nat) : Int)] ++ List.replicate ((Y : Int) :: a').length 0).set ((pa.length : Int)).toNat ((X / 2 ^ s + 2 ^ (32 - s) * (Y % 2 ^ s) : Nat) : Int) = done ++ [((X / 2 ^ s + 2 ^ (32 - s) * (Y % 2 ^ s) : Nat) : Int)] ++ List.replicate ((Y : Int) :: a').length 0 := by
    rw [List.append_assoc, List.singleton_append, qde (by omega)]
   simp only [h2, h3, qoX X Y s hs hX (by omega), hset2]
   (repeat (first | with_reducible refine ep ?_ | with_reducible refine en ?_))
   rw [Int.toNat_natCast] at ih
   refine qq ih ?_
   simp [qaY]
theorem qo0 {a : List Int} (ha : Dg a) (la : a.length < 1000000000) (n : Nat) (hn : n < 100000000000) : Ev (fun k => qaT.f k a n) (D (V a / 2 ^ n)) := by
 unfold qaT.f
 simp only [t32 (n := n) (by omega), m32]
 by_cases h : n / 32 ≥ a.length
 ·(repeat (first | with_reducible refine ep ?_ | with_reducible refine en ?_))
  have : V a / 2 ^ n = 0 := by
   rw [qfh, ← Nat.div_div_eq_div_mul, ← qfi ha, List.drop_eq_nil_of_le h]; simp
  rw [this, qY]; exact Ev.now _
 ·(repeat (first | with_reducible refine ep ?_ | with_reducible refine en ?_))
  have h := qk4 (a.drop (n / 32)) (ha.drop _) (by simp; omega) (s := n % 32) (by omega) (a.drop (n / 32)) [] [] rfl rfl Dg.nil
  simp only [List.nil_append, qk3 ha] at h
  simp only [Int.toNat_natCast]
  simpa using h
theorem qo1 {l : List Int} (h : Dg l) (hl : l.length < 1000000000) (i : Nat) (hi : i < 4611686018427387904) : qeo.f l i = some ((V l / 2 ^ i % 2 : Nat) : Int) := by
 unfold qeo.f
 simp only [t32 hi, m32]
 rw [if_neg (by omega)]
 by_cases hq : i / 32 ≥ l.length
 ·rw [if_pos (by omega)]
  have : V l / 2 ^ i = 0 := by
   rw [qfh, ← Nat.div_div_eq_div_mul, ← qfi h, List.drop_eq_nil_of_le hq]; simp
  rw [this]; rfl
 ·rw [if_neg (by omega), if_pos nn, if_pos (by omega), if_pos nn]
  rw [rdn]
  have hx := h.getD (i / 32)
  obtain ⟨X, hX⟩ := Int.eq_ofNat_of_zero_le hx.1
  have hX2 : X < 4294967296 := by omega
  rw [hX, qdP _ _ (by simp [IntKind.bits]; omega)]
  have hle : X / 2 ^ (i % 32) ≤ X := Nat.div_le_self _ _
  have e := u32_and_nat (X / 2 ^ (i % 32)) 1 (by omega) (by omega)
  rw [Nat.and_one_is_mod] at e
  rw [show (1 : Int) = ((1 : Nat) : Int) from rfl, e]
  congr 2
  rw [qfh i, ← Nat.div_div_eq_div_mul, ← qfi h]
  have hd : l.drop (i / 32) = (X : Int) :: l.drop (i / 32 + 1) := by
   rw [List.drop_eq_getElem_cons (by omega)]
   congr 1
   rw [← hX, List.getD_eq_getElem?_getD, List.getElem?_eq_getElem (by omega)]; rfl
  rw [hd, qad, Int.toNat_natCast, ← pw (s := i % 32) (by omega), Nat.mul_assoc, Nat.add_mul_div_left _ _ (qW _)]
  have e3 : 2 ^ (32 - i % 32) = 2 * 2 ^ (31 - i % 32) := by
   rw [show 32 - i % 32 = (31 - i % 32) + 1 by omega, Nat.pow_succ, Nat.mul_comm]
  rw [e3, Nat.mul_assoc, Nat.add_mul_mod_self_left]
theorem qet {l : List Int} (h : Dg l) : bl (V l) ≤ 32 * l.length := by
 apply qbV
 have := qdf h
 rwa [show (4294967296 : Nat) = 2 ^ 32 from rfl, ← Nat.pow_mul] at this
theorem qgV {n k : Nat} (h : n < 4294967296 ^ k) : (D n).length ≤ k := by
 rcases Nat.lt_or_ge k (D n).length with h1 | h1
 ·have h2 := qig (qb9 n) (by intro e; rw [e] at h1; simp at h1)
  rw [V_D] at h2
  have h3 : 4294967296 ^ k ≤ 4294967296 ^ ((D n).length - 1) := Nat.pow_le_pow_right (by omega) (by omega)
  omega
 ·exact h1
theorem qk5 (A : List Int) (hA : Dg A) (hl : A.length < 1000000000) (b : Bool) {s : Nat} (hs : s < 32) : ∀ (a done pa : List Int), A = pa ++ a → done.length + a.length < 1000000000 → Dg done →
  Ev (fun k => qbj.l0 k A b done s pa.length) (D (V (done ++ qaY s a)), b)
 | [], done, pa, he, hd, hg => by
  have hlen : A.length = pa.length := by rw [he]; simp
  refine qi ?_
  simp only [qbj.l0]
  (repeat (first | with_reducible refine ep ?_ | with_reducible refine en ?_))
  simp only [qaY, List.append_nil]
  exact Ev.bind (qfe hg (by simp at hd; omega)) (Ev.now _)
 | d :: a, done, pa, he, hd, hg => by
  have hlen : A.length = pa.length + 1 + a.length := by rw [he]; simp; omega
  have hdd : 0 ≤ d ∧ d < 4294967296 := by rw [he] at hA; exact hA.right.head
  obtain ⟨X, rfl⟩ := Int.eq_ofNat_of_zero_le hdd.1
  have hX : X < 4294967296 := by omega
  have h1 : rd A (pa.length : Int) = (X : Int) := by rw [he]; exact qaM rfl
  have hg2 : Dg (a) := by rw [he] at hA; exact hA.right.tail
  have hy := hg2.headD
  have ih := qk5 A hA hl b hs a (done ++ [((X / 2 ^ s + 2 ^ (32 - s) * ((a.headD 0).toNat % 2 ^ s) : Nat) : Int)]) (pa ++ [(X : Int)]) (by rw [he]; simp) (by simp at hd ⊢; omega)
   (hg.app (Dg.cons nn (qiq (qgU X (a.headD 0).toNat s hs hX)) Dg.nil))
  rw [@List.length_append _ pa, List.length_singleton] at ih
  have hXs : X / 2 ^ s ≤ X := Nat.div_le_self _ _
  have e0 : ((X / 2 ^ s : Nat) : Int) % 4294967296 = ((X / 2 ^ s : Nat) : Int) := by
   generalize X / 2 ^ s = z at *; omega
  refine qi ?_
  simp only [qbj.l0, h1, qcx (n := pa.length) (by omega)]
  (repeat (first | with_reducible refine ep ?_ | with_reducible refine en ?_))
  by_cases hn : a = []
  ·subst hn
   simp only [List.length_nil, Nat.add_zero] at hlen
   (repeat (first | with_reducible refine ep ?_ | with_reducible refine en ?_))
   rw [qes _ hX, qdP _ _ (by simp [IntKind.bits]; omega), e0]
   refine qq (by simpa [qaY] using ih) ?_
   simp [qaY]
  ·obtain ⟨y, a', rfl⟩ := List.exists_cons_of_ne_nil hn
   obtain ⟨Y, rfl⟩ := Int.eq_ofNat_of_zero_le hy.1
   simp only [List.headD_cons] at hy ih
   have hlen' := hlen
   have w32 : wrap64 (32 - (s : Int)) = 32 - (s : Int) := by unfold wrap64; omega
   have hd' := hd
   simp only [List.length_cons] at hd'
   simp only [List.length_cons] at hlen'
   have h2 : rd A ((pa.length + 1 : Nat) : Int) = (Y : Int) := by rw [he, show pa ++ (X : Int) :: (Y : Int) :: a' = (pa ++ [(X : Int)]) ++ (Y : Int) :: a' by simp]; exact qaM (by simp)
   simp only [h2, qoY X Y s hs hX (by omega)]
   (repeat (first | with_reducible refine ep ?_ | with_reducible refine en ?_))
   rw [Int.toNat_natCast] at ih
   refine qq ih ?_
   simp [qaY]
theorem qk6 {l : List Int} (h : Nm l) (h0 : l ≠ []) : V l ≠ 0 := fun e => h0 ((qeq h).1 e)
theorem qk7 (a b : Nat) : Int.tmod (a : Int) (b : Int) = ((a % b : Nat) : Int) := rfl
theorem qo2 (a b : Nat) : mx (a : Int) (b : Int) = ((max a b : Nat) : Int) := by unfold mx; split <;> omega
theorem qo3 {l : List Int} (h : Nm l) (hb : l.length ≤ 4096) : Ev (fun k => qaI.f k l) ((bl (V l) : Nat) : Int) := by
 unfold qaI.f
 refine qQ (qdO h.dg (by omega)) ?_
 rw [qdN.2 ⟨hb, h⟩]
 (repeat (first | with_reducible refine ep ?_ | with_reducible refine en ?_))
 by_cases c : l.length = 0
 ·have : l = [] := List.eq_nil_of_length_eq_zero c
  subst this
  (repeat (first | with_reducible refine ep ?_ | with_reducible refine en ?_))
  exact qq (Ev.now _) rfl
 ·have e : wrap64 ((l.length : Int) - 1) = ((l.length - 1 : Nat) : Int) := by unfold wrap64; omega
  rw [e]
  clear e
  have hd := h.dg.getD (l.length - 1)
  have hne : l ≠ [] := fun e => c (by rw [e]; rfl)
  rw [rdn]
  (repeat (first | with_reducible refine ep ?_ | with_reducible refine en ?_))
  refine Ev.bind (qoJ hd) (qq (Ev.now _) ?_)
  rw [qkR h hne]
  generalize l.getD (l.length - 1) 0 = x at hd
  have hbn : bl x.toNat ≤ 32 := qbV (by omega)
  unfold wrap64
  omega
def qaO (n b : Nat) : Prop := ∃ m, n = 2 ^ b * (2 * m + 1)
theorem qaO.ne {n b : Nat} (h : qaO n b) : n ≠ 0 := by
 obtain ⟨m, h⟩ := h
 have := Nat.mul_pos (qW b) (show 0 < 2 * m + 1 by omega)
 omega
theorem qaO.le {n b : Nat} (h : qaO n b) : 2 ^ b ≤ n := by
 obtain ⟨m, h⟩ := h
 rw [h]; exact Nat.le_mul_of_pos_right _ (by omega)
theorem qaO.mod {n b k : Nat} (h : qaO n b) : n % 2 ^ k = 0 ↔ k ≤ b := by
 obtain ⟨m, h⟩ := h
 constructor
 ·intro hk
  rcases Nat.lt_or_ge b k with h1 | h1
  ·exfalso
   obtain ⟨d, rfl⟩ := Nat.exists_eq_add_of_lt h1
   have hd : 2 ^ (b + d + 1) ∣ 2 ^ b * (2 * m + 1) := by rw [← h]; exact Nat.dvd_of_mod_eq_zero hk
   rw [Nat.add_assoc, Nat.pow_add] at hd
   have h2 := Nat.dvd_of_mul_dvd_mul_left (qW b) hd
   rw [Nat.pow_succ] at h2
   have h3 : 2 ∣ 2 * m + 1 := Nat.dvd_trans (Nat.dvd_mul_left 2 _) h2
   omega
  ·exact h1
 ·intro hk
  obtain ⟨d, rfl⟩ := Nat.exists_eq_add_of_le hk
  rw [h, Nat.pow_add, Nat.mul_assoc]
  exact Nat.mul_mod_right _ _
theorem qaO.unique {n b c : Nat} (h : qaO n b) (k : qaO n c) : b = c := by
 have h1 := (h.mod (k := b)).2 (Nat.le_refl _)
 have h2 := (k.mod (k := c)).2 (Nat.le_refl _)
 have h3 := k.mod.1 h1
 have h4 := h.mod.1 h2
 omega
theorem qo4 {n b : Nat} (h : n % 2 ^ b = 0) (k : n / 2 ^ b % 2 = 1) : qaO n b :=
 ⟨n / 2 ^ b / 2, by
  have h1 := Nat.div_add_mod n (2 ^ b)
  rw [h, Nat.add_zero] at h1
  have h2 : 2 * (n / 2 ^ b / 2) + 1 = n / 2 ^ b := by omega
  rw [h2, h1]⟩
theorem qo5 {n b k : Nat} (h : qaO n b) : qaO (n * 2 ^ k) (b + k) := by
 obtain ⟨m, h⟩ := h
 exact ⟨m, by rw [h, Nat.pow_add, Nat.mul_assoc, Nat.mul_comm (2 * m + 1), ← Nat.mul_assoc]⟩
theorem qo6 {x : Nat} (h : x ≠ 0) (hx : x < 4294967296) : qaO x (Lib.ctz 32 x) ∧ Lib.ctz 32 x < 32 := by
 obtain ⟨m, h1, h2⟩ := Lib.ctzFrom_spec 32 x (by omega) hx
 unfold Lib.ctz
 rw [if_neg h]
 exact ⟨⟨m, h1⟩, h2⟩
theorem qo7 {x r b : Nat} (h : qaO x b) (hb : b < 32) : qaO (x + 4294967296 * r) b := by
 obtain ⟨m, h⟩ := h
 obtain ⟨d, hd⟩ : ∃ d, 32 = b + (d + 1) := ⟨31 - b, by omega⟩
 have e : 4294967296 = 2 ^ b * (2 ^ d * 2) := by
  rw [← Nat.pow_succ, ← Nat.pow_add, Nat.succ_eq_add_one, ← hd]
 have e2 : 2 ^ b * (2 ^ d * 2) * r = 2 ^ b * (2 * (2 ^ d * r)) := by
  rw [Nat.mul_assoc, Nat.mul_comm (2 ^ d) 2, Nat.mul_assoc]
 refine ⟨m + 2 ^ d * r, ?_⟩
 rw [h, e, e2, ← Nat.mul_add]
 congr 1
 omega
def lw (n : Nat) : Nat := if n = 0 then 0 else Lib.ctzFrom n n
theorem qfj {n : Nat} (h : n ≠ 0) : qaO n (lw n) := by
 obtain ⟨m, h1, _⟩ := Lib.ctzFrom_spec n n (by omega) Nat.lt_two_pow_self
 unfold lw
 rw [if_neg h]
 exact ⟨m, h1⟩
theorem qk8 {n b : Nat} (h : qaO n b) : lw n = b := (qfj h.ne).unique h
theorem qo8 {x : Int} (h : 0 ≤ x ∧ x < 4294967296) : qbe.f x = some ((Lib.ctz 32 x.toNat : Nat) : Int) := by
 unfold qbe.f
 rw [if_pos h]
theorem qo9 {i b : Nat} (hi : i < 1000000) (hb : b < 32) : wrap64 (wrap64 (32 * (i : Int)) + (b : Int)) = ((b + 32 * i : Nat) : Int) := by unfold wrap64; omega
theorem qk9 (A : List Int) (hA : Dg A) (hl : A.length < 1000000) : ∀ (a pa : List Int), A = pa ++ a → V pa = 0 → Ev (fun k => qa5.l0 k A A.length pa.length) ((lw (V A) : Nat) : Int)
 | [], pa, he, hv => by
  have hlen : A.length = pa.length := by rw [he]; simp
  refine qi ?_
  simp only [qa5.l0]
  (repeat (first | with_reducible refine ep ?_ | with_reducible refine en ?_))
  refine qq (Ev.now _) ?_
  have : V A = 0 := by rw [he, List.append_nil, hv]
  rw [this]; rfl
 | d :: a, pa, he, hv => by
  have hlen : A.length = pa.length + 1 + a.length := by rw [he]; simp; omega
  have hdd : 0 ≤ d ∧ d < 4294967296 := by rw [he] at hA; exact hA.right.head
  have h1 : rd A (pa.length : Int) = d := by rw [he]; exact qaM rfl
  refine qi ?_
  simp only [qa5.l0, h1, qcx (n := pa.length) (by omega)]
  (repeat (first | with_reducible refine ep ?_ | with_reducible refine en ?_))
  by_cases h0 : d = 0
  ·refine qd (fun h => h h0) ?_
   have := qk9 A hA hl a (pa ++ [0]) (by rw [he, h0]; simp) (by rw [qia, hv])
   rwa [@List.length_append _ pa, List.length_singleton] at this
  ·refine qa h0 ?_
   refine qQ (qo8 hdd) ?_
   (repeat (first | with_reducible refine ep ?_ | with_reducible refine en ?_))
   refine qq (Ev.now _) ?_
   have hz := qo6 (x := d.toNat) (by omega) (by omega)
   have e : V A = (d.toNat + 4294967296 * V a) * 2 ^ (32 * pa.length) := by
    rw [he, qcP, hv, qad, Nat.zero_add, Nat.mul_comm, Nat.pow_mul]
   rw [e, qk8 (qo5 (qo7 hz.1 hz.2)), qo9 (by omega) hz.2]
theorem qla {a : List Int} (ha : Nm a) (la : a.length ≤ 4096) : Ev (fun k => qa5.f k a) ((lw (V a) : Nat) : Int) := by
 unfold qa5.f
 refine qQ (qdO ha.dg (by omega)) ?_
 rw [qdN.2 ⟨la, ha⟩]
 (repeat (first | with_reducible refine ep ?_ | with_reducible refine en ?_))
 exact qk9 a ha.dg (by omega) a [] rfl rfl
theorem qpa {l : List Int} (h : Dg l) (q : Nat) : V l / 4294967296 ^ q % 4294967296 = (l.getD q 0).toNat := by
 have h1 := qov (l.drop q)
 rw [qow, qfi h] at h1
 have h2 := h.getD q
 rw [h1, Nat.add_mul_mod_self_left, Nat.mod_eq_of_lt (by omega)]
theorem qpb {n i : Nat} (h : n % 2 ^ i = 0) (k : n / 2 ^ i % 2 = 0) : n % 2 ^ (i + 1) = 0 := by
 rw [Nat.pow_succ, Nat.mod_mul, h, k, Nat.mul_zero]
theorem qpc {n q : Nat} (h : n % 2 ^ (32 * q) = 0) (k : n / 4294967296 ^ q % 4294967296 = 0) : n % 2 ^ (32 * q + 32) = 0 := by
 have e : 2 ^ (32 * q + 32) = 2 ^ (32 * q) * 4294967296 := by rw [Nat.pow_add]
 have e2 : 4294967296 ^ q = 2 ^ (32 * q) := by rw [Nat.pow_mul]
 rw [e, Nat.mod_mul, h, ← e2, k, Nat.mul_zero]
theorem qpd {l : List Int} (h : Dg l) {i : Nat} (hi : i = 32 * l.length) (hm : V l % 2 ^ i = 0) : V l = 0 := by
 have hv := qdf h
 have e2 : 4294967296 ^ l.length = 2 ^ (32 * l.length) := by rw [Nat.pow_mul]
 rw [e2, ← hi] at hv
 rwa [Nat.mod_eq_of_lt hv] at hm
theorem qpe {i m : Nat} (h : i < 32 * m) : ((i / 32 : Nat) : Int) < (m : Int) := by omega
theorem qlb {i : Nat} (h : i < 100000000000) : wrap64 ((i : Int) + 1) = ((i + 1 : Nat) : Int) ∧ wrap64 ((i : Int) + 32) = ((i + 32 : Nat) : Int) := by unfold wrap64; omega
theorem qpf {l : List Int} (h : Dg l) (hl : l.length < 1000000000) (n : Nat) : ∀ (i : Nat), 32 * l.length - i ≤ n → i ≤ 32 * l.length → V l % 2 ^ i = 0 → (i % 32 = 0 ∨ l.getD (i / 32) 0 ≠ 0) → Ev (fun k => qa8.l0 k l i) ((lw (V l) : Nat) : Int) := by
 induction n using Nat.strongRecOn with
 | _ n ih =>
  intro i hn hi hm hd
  have e32 : wrap64 (32 * (l.length : Int)) = ((32 * l.length : Nat) : Int) := by unfold wrap64; omega
  refine qi ?_
  simp only [qa8.l0, e32]
  by_cases hlt : i < 32 * l.length
  ·have hb := qo1 h hl i (by clear hm hd; omega)
   refine qa (by clear hm hd; omega) ?_
   refine qQ hb ?_
   have hi9 : i < 100000000000 := by clear hm hd; omega
   have hn1 : 32 * l.length - (i + 1) < n := by clear hm hd; omega
   have hn32 : 32 * l.length - (i + 32) < n := by clear hm hd; omega
   have hi1 : i + 1 ≤ 32 * l.length := hlt
   have hi32 : i % 32 = 0 → i + 32 ≤ 32 * l.length := by clear hm hd; omega
   have hne : i ≠ 32 * l.length := by clear hm hd; omega
   have et : wrap64 (Int.tdiv (i : Int) 32) = ((i / 32 : Nat) : Int) := t32 (by clear hm hd; omega)
   have hdv := qpe hlt
   simp only [et, rdn]
   rw [(qlb hi9).1, (qlb hi9).2]
   clear et e32
   rcases Nat.mod_two_eq_zero_or_one (V l / 2 ^ i) with hz | hz
   ·rw [hz]
    refine qa rfl (qa nn (qa hdv ?_))
    by_cases h0 : l.getD (i / 32) 0 = 0
    ·have hi0 : i % 32 = 0 := hd.resolve_right (fun h => h h0)
     have hi33 := hi32 hi0
     obtain ⟨q, hq0⟩ : ∃ q, i = 32 * q := ⟨i / 32, by clear hm hd hz; omega⟩
     subst hq0
     have hq : 32 * q / 32 = q := by clear hm hd hz; omega
     rw [hq] at h0
     rw [hq]
     refine qa h0 ?_
     refine ih _ hn32 (32 * q + 32) (Nat.le_refl _) hi33 (qpc hm ?_) (.inl ?_)
     ·rw [qpa h, h0]; rfl
     ·clear hm hd hz; omega
    ·refine qd h0 ?_
     refine ih _ hn1 (i + 1) (Nat.le_refl _) hi1 (qpb hm hz) ?_
     clear hm hd hz
     rcases Nat.eq_zero_or_pos ((i + 1) % 32) with h1 | h1
     ·exact .inl h1
     ·have : (i + 1) / 32 = i / 32 := by omega
      rw [this]; exact .inr h0
   ·rw [hz]
    refine qd (by decide) ?_
    refine qd (fun e => hne (Int.ofNat.inj e)) ?_
    refine qq (Ev.now _) ?_
    rw [qk8 (qo4 hm hz)]
  ·have hi2 : i = 32 * l.length := by clear hm hd; omega
   refine qd (by clear hm hd; omega) ?_
   refine qa (by rw [hi2]) ?_
   refine qq (Ev.now _) ?_
   rw [qpd h hi2 hm]; rfl
theorem qlc {l : List Int} (h : Dg l) (hl : l.length < 1000000000) : Ev (fun k => qa8.f k l) ((lw (V l) : Nat) : Int) := by
 unfold qa8.f
 exact qpf h hl _ 0 (Nat.le_refl _) (by omega) (by rw [Nat.pow_zero, Nat.mod_one]) (.inl rfl)
theorem qld {n k : Nat} (h : n ≠ 0) : k > lw n ↔ n % 2 ^ k ≠ 0 := by
 have := (qfj h).mod (k := k)
 constructor
 ·intro h1 h2; have := this.1 h2; omega
 ·intro h1; rcases Nat.lt_or_ge (lw n) k with h2 | h2
  ·exact h2
  ·exact absurd (this.2 h2) h1
theorem qpg {a : List Int} (ha : Nm a) (la : a.length < 100000000) (n : Nat) (hn : n < 1000000000) : Ev (fun k => qbj.f k a n) (D (V a / 2 ^ n), decide (V a % 2 ^ n ≠ 0)) := by
 unfold qbj.f
 have hlt := qbE (V a)
 by_cases h : n ≥ bl (V a)
 ·have hp : V a < 2 ^ n := Nat.lt_of_lt_of_le hlt (Nat.pow_le_pow_right (by omega) h)
  refine Ev.bind (qkS ha (by omega)) ?_
  (repeat (first | with_reducible refine ep ?_ | with_reducible refine en ?_))
  refine qq (Ev.now _) ?_
  rw [Nat.div_eq_of_lt hp, qY, Nat.mod_eq_of_lt hp]
  congr 1
  refine decide_eq_decide.2 ?_
  have := qeq ha
  have hl : a.length = 0 ↔ a = [] := List.length_eq_zero_iff
  constructor
  ·intro h1 h2; have := hl.2 (this.1 h2); omega
  ·intro h1
   rcases Nat.eq_zero_or_pos a.length with h3 | h3
   ·exact absurd (this.2 (hl.1 h3)) h1
   ·omega
 ·have h0 : V a ≠ 0 := by
   intro h0; rw [h0, qik] at h; omega
  refine Ev.bind (qkS ha (by omega)) ?_
  (repeat (first | with_reducible refine ep ?_ | with_reducible refine en ?_))
  refine Ev.bind (qlc ha.dg (by omega)) ?_
  (repeat (first | with_reducible refine ep ?_ | with_reducible refine en ?_))
  have hd : decide ((n : Int) > ((lw (V a) : Nat) : Int)) = decide (V a % 2 ^ n ≠ 0) := decide_eq_decide.2 (by rw [← qld h0]; omega)
  rw [hd]
  simp only [t32 (n := n) (by omega), m32]
  have hbl := qet ha.dg
  have hq : n / 32 ≤ a.length := by omega
  have h1 := qk5 a ha.dg (by omega) (decide (V a % 2 ^ n ≠ 0)) (s := n % 32) (by omega) (a.drop (n / 32)) [] (a.take (n / 32)) (by simp) (by simp; omega) Dg.nil
  rw [List.length_take, Nat.min_eq_left hq, List.nil_append, qk3 ha.dg] at h1
  exact h1
def qcQ (v : Nat) (n : Int) : List Int × Bool × Int :=
 if v = 0 then ([], false, 0) else if n < -131072 then ([], true, 0) else if n < 0 then (D (v / 2 ^ (-n).toNat), decide (v % 2 ^ (-n).toNat ≠ 0), 0) else if n > 131072 - (bl v : Int) then ([], false, 3) else (D (v * 2 ^ n.toNat), false, 0)
theorem qle {a : List Int} (ha : Nm a) (la : a.length ≤ 4096) (n : Int) : Ev (fun k => qaJ.f k a n) (qcQ (V a) n) := by
 unfold qaJ.f qcQ
 refine qQ (qdO ha.dg (by omega)) ?_
 rw [qdN.2 ⟨la, ha⟩]
 (repeat (first | with_reducible refine ep ?_ | with_reducible refine en ?_))
 by_cases c : a = []
 ·subst c
  (repeat (first | with_reducible refine ep ?_ | with_reducible refine en ?_))
  exact qq (Ev.now _) (by simp)
 have h0 : V a ≠ 0 := fun h => c ((qeq ha).1 h)
 have hl : a.length ≠ 0 := fun h => c (List.eq_nil_of_length_eq_zero h)
 have hbl := qet ha.dg
 rw [if_neg h0]
 (repeat (first | with_reducible refine ep ?_ | with_reducible refine en ?_))
 by_cases h1 : n < -131072
 ·rw [if_pos h1]; exact qa h1 (Ev.now _)
 rw [if_neg h1]
 refine qd h1 ?_
 by_cases h2 : n < 0
 ·rw [if_pos h2]
  have e : wrap64 (-n) = (((-n).toNat : Nat) : Int) := by unfold wrap64; omega
  rw [e]
  clear e
  have hm : (-n).toNat ≤ 131072 := by omega
  generalize (-n).toNat = m at *
  refine qa h2 ?_
  refine Ev.bind (qo0 ha.dg (by omega) m (by omega)) ?_
  (repeat (first | with_reducible refine ep ?_ | with_reducible refine en ?_))
  refine Ev.bind (qla ha la) ?_
  (repeat (first | with_reducible refine ep ?_ | with_reducible refine en ?_))
  refine qq (Ev.now _) ?_
  congr 2
  exact decide_eq_decide.2 (by rw [← qld h0]; omega)
 ·rw [if_neg h2]
  have e : wrap64 (131072 - ((bl (V a) : Nat) : Int)) = 131072 - ((bl (V a) : Nat) : Int) := by unfold wrap64; omega
  refine qd h2 ?_
  refine Ev.bind (qo3 ha la) ?_
  (repeat (first | with_reducible refine ep ?_ | with_reducible refine en ?_))
  rw [e]
  clear e
  by_cases h3 : n > 131072 - ((bl (V a) : Nat) : Int)
  ·rw [if_pos h3]; exact qa h3 (Ev.now _)
  ·rw [if_neg h3]
   obtain ⟨m, rfl⟩ := Int.eq_ofNat_of_zero_le (show 0 ≤ n by omega)
   refine qd h3 ?_
   refine Ev.bind (qoU ha.dg (by omega) m (by omega)) ?_
   (repeat (first | with_reducible refine ep ?_ | with_reducible refine en ?_))
   refine qq (Ev.now _) ?_
   rw [Int.toNat_natCast]
theorem qlf {x k : Nat} (h : bl x ≤ 32 * k) : (D x).length ≤ k := by
 refine qgV ?_
 have e : 4294967296 ^ k = 2 ^ (32 * k) := by rw [Nat.pow_mul]
 rw [e]
 exact Nat.lt_of_lt_of_le (qbE x) (Nat.pow_le_pow_right (by omega) h)
theorem qph (v m : Nat) : bl (v * 2 ^ m) ≤ bl v + m := by
 refine qbV ?_
 rw [Nat.pow_add]
 exact Nat.mul_lt_mul_of_pos_right (qbE v) (qW m)
theorem qpi {v : Nat} (h : v ≠ 0) (m : Nat) : bl (v * 2 ^ m) = bl v + m := by
 rw [qdi (n := v * 2 ^ m) (k := m) (Nat.le_mul_of_pos_left _ (by omega)), Nat.mul_div_cancel _ (qW m), Nat.add_comm]
theorem qpj {v m : Nat} (h : bl v + m ≤ 131072) : qcQ v (m : Int) = (D (v * 2 ^ m), false, 0) := by
 unfold qcQ
 by_cases hv : v = 0
 ·rw [if_pos hv, hv, Nat.zero_mul, qY]
 ·rw [if_neg hv, if_neg (by omega), if_neg (by omega), if_neg (by omega), Int.toNat_natCast]
theorem qpk {v m : Nat} (h : bl v ≤ 131072) (hm : m ≤ 131072) : qcQ v (-(m : Int)) = (D (v / 2 ^ m), decide (v % 2 ^ m ≠ 0), 0) := by
 by_cases hv : v = 0
 ·unfold qcQ
  rw [if_pos hv, hv, Nat.zero_div, Nat.zero_mod, qY]; rfl
 rcases Nat.eq_zero_or_pos m with h0 | h0
 ·subst h0
  have e := qpj (v := v) (m := 0) (by omega)
  rw [Nat.pow_zero, Nat.mul_one] at e
  rw [Nat.pow_zero, Nat.div_one, Nat.mod_one]
  exact e
 ·unfold qcQ
  have e : (-(-(m : Int))).toNat = m := by omega
  rw [if_neg hv, if_neg (by omega), if_pos (by omega), e]
def sv (s : Bool) (n : Nat) : Int := if s = true then -(n : Int) else n
theorem qlg (s : Bool) (n : Nat) : (sv s n).natAbs = n := by unfold sv; split <;> simp
theorem qlh {s : Bool} {n : Nat} : sv s n = 0 ↔ n = 0 := by unfold sv; split <;> omega
theorem qli {s : Bool} {n : Nat} (h : n ≠ 0) : decide (sv s n < 0) = s := by
 unfold sv
 cases s
 ·exact decide_eq_false (by simp)
 ·exact decide_eq_true (by simp; omega)
theorem qlj (s : Bool) : sv s 0 = 0 := by unfold sv; split <;> rfl
def mk (z e : Int) : Bool × List Int × Int := if z = 0 then (false, [], 0) else (decide (z < 0), D (z.natAbs / 2 ^ lw z.natAbs), e + (lw z.natAbs : Nat))
structure Dy (s : Bool) (l : List Int) (e : Int) : Prop where
 nm : Nm l
 none : l = [] → s = false ∧ e = 0
 odd : l ≠ [] → V l % 2 = 1
theorem qpl (z e : Int) : Dy (mk z e).1 (mk z e).2.1 (mk z e).2.2 := by
 unfold mk
 by_cases h : z = 0
 ·rw [if_pos h]; exact ⟨qh9, fun _ => ⟨rfl, rfl⟩, fun h => absurd rfl h⟩
 ·rw [if_neg h]
  obtain ⟨m, hm⟩ := qfj (n := z.natAbs) (by omega)
  have h1 : z.natAbs / 2 ^ lw z.natAbs = 2 * m + 1 := by
   have : z.natAbs / 2 ^ lw z.natAbs = 2 ^ lw z.natAbs * (2 * m + 1) / 2 ^ lw z.natAbs := by rw [← hm]
   rw [this, Nat.mul_div_cancel_left _ (qW _)]
  have h2 : D (z.natAbs / 2 ^ lw z.natAbs) ≠ [] := by rw [h1, qcw (by omega)]; simp
  exact ⟨qb9 _, fun h => absurd h h2, fun _ => by show V (D _) % 2 = 1; rw [V_D, h1]; omega⟩
theorem qlk (s : Bool) {n : Nat} (h : n ≠ 0) (e : Int) : mk (sv s n) e = (s, D (n / 2 ^ lw n), e + (lw n : Nat)) := by
 unfold mk
 rw [if_neg (fun h2 => h (qlh.1 h2)), qlg, qli h]
theorem qir {n : Nat} (h : n ≠ 0) : lw n < bl n := by
 have h1 := (qfj h).le
 rcases Nat.lt_or_ge (lw n) (bl n) with h2 | h2
 ·exact h2
 ·have h3 := qbE n
  have h4 : 2 ^ bl n ≤ 2 ^ lw n := Nat.pow_le_pow_right (by omega) h2
  omega
theorem qll {l : List Int} : (l.length : Int) = 0 ↔ l = [] := by
 constructor
 ·intro h; exact List.eq_nil_of_length_eq_zero (by omega)
 ·intro h; rw [h]; rfl
theorem qlm {e : Int} {b : Nat} (h1 : -1000000000000000 ≤ e) (h2 : e ≤ 1000000000000000) (hb : b < 100000000000) : wrap64 (e + (b : Int)) = e + (b : Int) := by unfold wrap64; omega
theorem qpm (s : Bool) {l : List Int} (hl : Nm l) (ll : l.length < 10000000) {e : Int} (h1 : -1000000000000000 ≤ e) (h2 : e ≤ 1000000000000000) : Ev (fun k => qdK.f k s l e) (mk (sv s (V l)) e) := by
 unfold qdK.f
 by_cases c : l = []
 ·subst c
  (repeat (first | with_reducible refine ep ?_ | with_reducible refine en ?_))
  exact qq (Ev.now _) (by rw [qdM, qlj]; rfl)
 ·have h0 : V l ≠ 0 := fun h => c ((qeq hl).1 h)
  have hb := qet hl.dg
  have hw := qir h0
  refine qd (fun h => c (qll.1 h)) ?_
  refine Ev.bind (qlc hl.dg (by omega)) ?_
  (repeat (first | with_reducible refine ep ?_ | with_reducible refine en ?_))
  refine Ev.bind (qpg hl (by omega) (lw (V l)) (by omega)) ?_
  (repeat (first | with_reducible refine ep ?_ | with_reducible refine en ?_))
  refine qq (Ev.now _) ?_
  rw [qlk s h0, qlm h1 h2 (by omega)]
def qfk (s : Bool) (n : Nat) (e : Int) : Bool × List Int × Int × Int :=
 if n = 0 then (false, [], 0, 0) else if e > 16777216 - (lw n : Nat) then (false, [], 0, 20) else if e < -16777216 - (lw n : Nat) then (false, [], 0, 20) else ((mk (sv s n) e).1, (mk (sv s n) e).2.1, (mk (sv s n) e).2.2, 0)
theorem qln (s : Bool) {l : List Int} (hl : Nm l) (ll : l.length ≤ 4096) (e : Int) : Ev (fun k => qaV.f k s l e) (qfk s (V l) e) := by
 unfold qaV.f qfk
 refine qQ (qdO hl.dg (by omega)) ?_
 rw [qdN.2 ⟨ll, hl⟩]
 (repeat (first | with_reducible refine ep ?_ | with_reducible refine en ?_))
 by_cases c : l = []
 ·subst c
  (repeat (first | with_reducible refine ep ?_ | with_reducible refine en ?_))
  exact qq (Ev.now _) (by rw [qdM, if_pos rfl])
 ·have h0 : V l ≠ 0 := fun h => c ((qeq hl).1 h)
  have hb := qet hl.dg
  have hw := qir h0
  rw [if_neg h0]
  refine qd (fun h => c (qll.1 h)) ?_
  refine Ev.bind (qla hl ll) ?_
  (repeat (first | with_reducible refine ep ?_ | with_reducible refine en ?_))
  have e1 : wrap64 (16777216 - ((lw (V l) : Nat) : Int)) = 16777216 - ((lw (V l) : Nat) : Int) := by unfold wrap64; omega
  have e2 : wrap64 (-16777216 - ((lw (V l) : Nat) : Int)) = -16777216 - ((lw (V l) : Nat) : Int) := by unfold wrap64; omega
  have e3 : wrap64 (-((lw (V l) : Nat) : Int)) = -((lw (V l) : Nat) : Int) := by unfold wrap64; omega
  rw [e1, e2, e3]
  clear e1 e2 e3
  by_cases h1 : e > 16777216 - ((lw (V l) : Nat) : Int)
  ·rw [if_pos h1]; exact qa h1 (Ev.now _)
  rw [if_neg h1]
  refine qd h1 ?_
  by_cases h2 : e < -16777216 - ((lw (V l) : Nat) : Int)
  ·rw [if_pos h2]; exact qa h2 (Ev.now _)
  rw [if_neg h2]
  have hs := qle hl ll (-((lw (V l) : Nat) : Int))
  rw [qpk (by omega) (by omega)] at hs
  refine qd h2 ?_
  refine Ev.bind hs ?_
  (repeat (first | with_reducible refine ep ?_ | with_reducible refine en ?_))
  refine qq (Ev.now _) ?_
  rw [qlk s h0, qlm (by omega) (by omega) (by omega)]
structure My (s : Bool) (l : List Int) (e : Int) : Prop where
 dy : Dy s l e
 len : l.length ≤ 4096
 lo : -16777216 ≤ e
 hi : e ≤ 16777216
theorem qpn {s : Bool} {n : Nat} {e : Int} (h1 : -16777216 ≤ e) (h2 : e + (bl n : Nat) ≤ 16777216) : qfk s n e = ((mk (sv s n) e).1, (mk (sv s n) e).2.1, (mk (sv s n) e).2.2, 0) := by
 unfold qfk
 by_cases h0 : n = 0
 ·rw [if_pos h0, h0, qlj]; rfl
 ·have := qir h0
  rw [if_neg h0, if_neg (by omega), if_neg (by omega)]
def ok3 (d : Bool × List Int × Int) : Bool × List Int × Int × Int := (d.1, d.2.1, d.2.2, 0)
theorem qlo {s : Bool} {n : Nat} {e : Int} (h1 : -16777216 ≤ e) (h2 : e + (bl n : Nat) ≤ 16777216) : qfk s n e = ok3 (mk (sv s n) e) := qpn h1 h2
theorem qeu (n : Nat) (h : n < 18446744073709551616) : (BitVec.ofInt 64 (n : Int)).toNat = n := by
 rw [BitVec.ofInt_natCast, BitVec.toNat_ofNat]; exact Nat.mod_eq_of_lt (by omega)
theorem qlp (a b : Nat) (ha : a < 18446744073709551616) (hb : b < 18446744073709551616) : Go.bits .and .u64 (a : Int) (b : Int) = ((a &&& b : Nat) : Int) := by
 show IntKind.u64.wrap ((BitVec.ofInt 64 (a : Int) &&& BitVec.ofInt 64 (b : Int)).toNat : Int) = _
 have hx : a &&& b < 2 ^ 64 := Nat.and_lt_two_pow _ (by omega)
 rw [BitVec.toNat_and, qeu a ha, qeu b hb, qdd]
 omega
theorem qfl (a b : Nat) (ha : a < 18446744073709551616) (hb : b < 18446744073709551616) : Go.bits .or .u64 (a : Int) (b : Int) = ((a ||| b : Nat) : Int) := by
 show IntKind.u64.wrap ((BitVec.ofInt 64 (a : Int) ||| BitVec.ofInt 64 (b : Int)).toNat : Int) = _
 have hx : a ||| b < 2 ^ 64 := Nat.or_lt_two_pow (by omega) (by omega)
 rw [BitVec.toNat_or, qeu a ha, qeu b hb, qdd]
 omega
theorem qpo (a b : Nat) (ha : a < 18446744073709551616) (hb : b < 18446744073709551616) : Go.bits .andNot .u64 (a : Int) (b : Int) = ((a &&& (18446744073709551616 - 1 - b) : Nat) : Int) := by
 show IntKind.u64.wrap ((BitVec.ofInt 64 (a : Int) &&& ~~~(BitVec.ofInt 64 (b : Int))).toNat : Int) = _
 have hx : a &&& (18446744073709551616 - 1 - b) < 2 ^ 64 := Nat.and_lt_two_pow _ (by omega)
 rw [BitVec.toNat_and, BitVec.toNat_not, qeu a ha, qeu b hb, qdd]
 have e : 2 ^ 64 - 1 - b = 18446744073709551616 - 1 - b := by omega
 rw [e]
 omega
theorem qpp (a k : Nat) (ha : a < 18446744073709551616) (hk : k ≤ 63) : Go.bits .and .u64 (a : Int) ((2 ^ k - 1 : Nat) : Int) = ((a % 2 ^ k : Nat) : Int) := by
 have h1 : 2 ^ k ≤ 2 ^ 63 := Nat.pow_le_pow_right (by omega) hk
 rw [qlp a _ ha (by omega), Nat.and_two_pow_sub_one_eq_mod]
theorem qpq (w k : Nat) (hk : k ≤ 63) (hw : w < 2 ^ (k + 1)) : Go.bits .andNot .u64 (w : Int) ((2 ^ k : Nat) : Int) = ((w % 2 ^ k : Nat) : Int) := by
 have h1 : 2 ^ k ≤ 2 ^ 63 := Nat.pow_le_pow_right (by omega) hk
 have h2 : 2 ^ (k + 1) ≤ 2 ^ 64 := Nat.pow_le_pow_right (by omega) (by omega)
 rw [qpo w _ (by omega) (by omega)]
 congr 1
 apply Nat.eq_of_testBit_eq
 intro i
 have e : 18446744073709551616 - 1 - 2 ^ k = 2 ^ 64 - (2 ^ k + 1) := by omega
 rw [Nat.testBit_and, Nat.testBit_mod_two_pow, e, Nat.testBit_two_pow_sub_succ (by omega), Nat.testBit_two_pow]
 rcases Nat.lt_trichotomy i k with h | h | h
 ·have h3 : i < 64 := by omega
  have h4 : ¬ k = i := by omega
  simp [h, h3, h4]
 ·subst h; simp
 ·have h3 : w.testBit i = false := Nat.testBit_lt_two_pow (Nat.lt_of_lt_of_le hw (Nat.pow_le_pow_right (by omega) (by omega)))
  have h4 : ¬ i < k := by omega
  simp [h3, h4]
theorem qpr (w k : Nat) (hk : k ≤ 63) (hw : w < 2 ^ (k + 1)) : Go.bits .and .u64 (w : Int) ((2 ^ k : Nat) : Int) = ((w / 2 ^ k * 2 ^ k : Nat) : Int) := by
 have h1 : 2 ^ k ≤ 2 ^ 63 := Nat.pow_le_pow_right (by omega) hk
 have h2 : 2 ^ (k + 1) ≤ 2 ^ 64 := Nat.pow_le_pow_right (by omega) (by omega)
 rw [qlp w _ (by omega) (by omega)]
 congr 1
 apply Nat.eq_of_testBit_eq
 intro i
 rw [Nat.testBit_and, Nat.testBit_two_pow, Nat.testBit_mul_two_pow, Nat.testBit_div_two_pow]
 rcases Nat.lt_trichotomy i k with h | h | h
 ·have h3 : ¬ k = i := by omega
  have h4 : ¬ k ≤ i := by omega
  simp [h3, h4]
 ·subst h; simp
 ·have h3 : w.testBit i = false := Nat.testBit_lt_two_pow (Nat.lt_of_lt_of_le hw (Nat.pow_le_pow_right (by omega) (by omega)))
  have h4 : ¬ k = i := by omega
  have h5 : i - k + k = i := by omega
  simp [h3, h4, h5]
theorem qps (a b k : Nat) (hb : b < 2 ^ k) (h : a * 2 ^ k + b < 18446744073709551616) : Go.bits .or .u64 ((a * 2 ^ k : Nat) : Int) (b : Int) = ((a * 2 ^ k + b : Nat) : Int) := by
 rw [qfl _ _ (by omega) (by omega)]
 congr 1
 rw [Nat.mul_comm]
 exact (Nat.two_pow_add_eq_or_of_lt hb a).symm
theorem qpt (a b : Nat) (ha : a < 18446744073709551616) (hb : b < 18446744073709551616) : Go.bits .or .u64 (a : Int) (b : Int) = Go.bits .or .u64 (b : Int) (a : Int) := by
 rw [qfl a b ha hb, qfl b a hb ha, Nat.or_comm]
def isF (f : Int) : Prop := f = 1 ∨ f = 2
def fb (f : Int) : Nat := if f = 1 then 23 else 52
def mo (f : Int) : Nat := if f = 1 then 255 else 2047
def sk (f : Int) : Nat := if f = 1 then 31 else 63
def sg (f : Int) : Nat := if f = 1 then 2147483648 else 9223372036854775808
theorem qpu {f : Int} (h : isF f) : qdH.f f = some ((fb f : Int), (mo f : Int), (sg f : Int), true) := by
 rcases h with rfl | rfl <;> rfl
theorem qpv {f : Int} (h : ¬ isF f) : qdH.f f = some (0, 0, 0, false) := by
 unfold qdH.f
 rw [if_neg (fun e => h (.inl e)), if_neg (fun e => h (.inr e))]
theorem qpw {f : Int} (h : ¬ isF f) (l : List Int) : Ev (fun k => qU.f k f l) (0, 0, 0, 4) := by
 unfold qU.f
 refine qQ (qpv h) ?_
 (repeat (first | with_reducible refine ep ?_ | with_reducible refine en ?_))
 exact Ev.now _
theorem qpx {f : Int} (h : isF f) : Go.bits .or .u64 (sg f : Int) (IntKind.u64.wrap ((sg f : Int) - 1)) = ((2 * sg f - 1 : Nat) : Int) := by
 rcases h with rfl | rfl
 ·have e : IntKind.u64.wrap (((sg 1 : Nat) : Int) - 1) = ((2147483647 : Nat) : Int) := by rw [qdd]; rfl
  rw [e, qfl _ _ (by decide) (by decide)]; rfl
 ·have e : IntKind.u64.wrap (((sg 2 : Nat) : Int) - 1) = ((9223372036854775807 : Nat) : Int) := by rw [qdd]; rfl
  rw [e, qfl _ _ (by decide) (by decide)]; rfl
theorem qfm {f : Int} (h : isF f) : 0 < sg f ∧ 2 * sg f ≤ 18446744073709551616 := by rcases h with rfl | rfl <;> decide
theorem qlq {f : Int} (h : isF f) : sg f = 2 ^ sk f := by rcases h with rfl | rfl <;> decide
theorem qlr {f : Int} (h : isF f) : sk f ≤ 63 := by rcases h with rfl | rfl <;> decide
def qcR (f : Int) (w : Nat) : Int := if w < 2 * sg f then 0 else 6
theorem qgW {f : Int} (h : isF f) (w : Nat) : Ev (fun k => qU.f k f [(w : Int)]) ((fb f : Int), (mo f : Int), (sg f : Int), qcR f w) := by
 have hp := qfm h
 unfold qU.f qcR
 have e1 : wrap64 (0 + 1) = 1 := by rw [qa9 (by omega) (by omega)]; rfl
 have el : (([(w : Int)] : List Int).length : Int) = 1 := rfl
 have er : rd [(w : Int)] 0 = (w : Int) := rfl
 refine qQ (qpu h) ?_
 (repeat (first | with_reducible refine ep ?_ | with_reducible refine en ?_))
 refine qi ?_
 simp only [qU.l0, el, e1, er, qpx h]
 (repeat (first | with_reducible refine ep ?_ | with_reducible refine en ?_))
 by_cases c : w < 2 * sg f
 ·rw [if_pos c]
  (repeat (first | with_reducible refine ep ?_ | with_reducible refine en ?_))
  refine qi ?_
  simp only [qU.l0, el]
  (repeat (first | with_reducible refine ep ?_ | with_reducible refine en ?_))
  exact Ev.now _
 ·rw [if_neg c]
  (repeat (first | with_reducible refine ep ?_ | with_reducible refine en ?_))
  exact Ev.now _
theorem qpy {f : Int} (h : isF f) : shl .u64 ((mo f : Nat) : Int) ((fb f : Nat) : Int) = ((mo f * 2 ^ fb f : Nat) : Int) := by
 rcases h with rfl | rfl <;> decide
theorem qpz {f : Int} (h : isF f) : qbx.f (fb f : Int) (mo f : Int) (sg f : Int) = some ((mo f * 2 ^ fb f : Nat) : Int) := by
 unfold qbx.f
 have hm : mo f < 10000 := by rcases h with rfl | rfl <;> decide
 rw [if_pos (by omega), u64 (by omega) (by omega), qpy h]
def cls (f : Int) (w : Nat) : Int :=
 if w % sg f = 0 then 1 else if w % sg f < 2 ^ fb f then 2 else if w % sg f < mo f * 2 ^ fb f then 3 else if w % sg f = mo f * 2 ^ fb f then 4 else 5
theorem qls {f : Int} (h : isF f) {w : Nat} (hw : w < 2 * sg f) : Go.bits .andNot .u64 (w : Int) (sg f : Int) = ((w % sg f : Nat) : Int) := by
 rw [qlq h] at hw ⊢
 exact qpq w (sk f) (qlr h) (by rw [Nat.pow_succ, Nat.mul_comm]; exact hw)
theorem qfn {f : Int} (h : isF f) : shl .u64 1 ((fb f : Nat) : Int) = ((2 ^ fb f : Nat) : Int) := by rcases h with rfl | rfl <;> decide
theorem qlt {f : Int} (h : isF f) {w : Nat} (hw : w < 2 * sg f) : qc0.f (fb f : Int) (mo f : Int) (sg f : Int) (w : Int) = some (cls f w) := by
 unfold qc0.f cls
 rw [qls h hw, qfn h]
 generalize w % sg f = z
 by_cases c1 : z = 0
 ·rw [if_pos (by omega), if_pos c1]
 rw [if_neg (by omega), if_neg c1, if_pos (by omega)]
 by_cases c2 : z < 2 ^ fb f
 ·rw [if_pos (by omega), if_pos c2]
 rw [if_neg (by omega), if_neg c2, qpz h, Option.bind_some]
 by_cases c3 : z < mo f * 2 ^ fb f
 ·rw [if_pos (by omega), if_pos c3]
 rw [if_neg (by omega), if_neg c3, Option.bind_some]
 by_cases c4 : z = mo f * 2 ^ fb f
 ·rw [if_pos (by omega), if_pos c4]
 ·rw [if_neg (by omega), if_neg c4]
theorem qpA {f : Int} (h : isF f) {w : Nat} (hw : w < 2 * sg f) : Ev (fun k => qcn.f k f (w : Int)) (cls f w, 0) := by
 have ho := qgW h w
 unfold qcR at ho
 rw [if_pos hw] at ho
 unfold qcn.f
 refine Ev.bind ho ?_
 (repeat (first | with_reducible refine ep ?_ | with_reducible refine en ?_))
 refine qQ (qlt h hw) ?_
 (repeat (first | with_reducible refine ep ?_ | with_reducible refine en ?_))
 exact Ev.now _
def qE (f : Int) (w : Nat) : Bool := decide (sg f ≤ w)
def qZ (f : Int) (w : Nat) : Nat := w % sg f / 2 ^ fb f
def qab (f : Int) (w : Nat) : Nat := w % sg f % 2 ^ fb f
theorem qev {f : Int} (h : isF f) : fb f ≤ 52 := by rcases h with rfl | rfl <;> decide
theorem qis {f : Int} (h : isF f) : sg f = 2 ^ fb f * (mo f + 1) := by rcases h with rfl | rfl <;> decide
theorem pfb {f : Int} (h : isF f) : 2 ^ fb f ≤ 4503599627370496 := by rcases h with rfl | rfl <;> decide
theorem qdQ {f : Int} (h : isF f) : mo f ≤ 2047 := by rcases h with rfl | rfl <;> decide
theorem qlu {f : Int} (h : isF f) {w : Nat} (hw : w < 2 * sg f) : qc1.f (fb f : Int) (mo f : Int) (sg f : Int) (w : Int) = some (qE f w, (qZ f w : Int), (qab f w : Int)) := by
 have hp := qfm h
 have hk := qlr h
 have h52 := qev h
 have hpw := pfb h
 have hpp := qW (fb f)
 unfold qc1.f
 rw [qls h hw, qfn h]
 have h1 : Go.bits .and .u64 (w : Int) (sg f : Int) = ((w / sg f * sg f : Nat) : Int) := by
  rw [qlq h] at hw ⊢
  exact qpr w (sk f) hk (by rw [Nat.pow_succ, Nat.mul_comm]; exact hw)
 have hz : w % sg f < sg f := Nat.mod_lt _ hp.1
 have h2 : IntKind.u64.wrap (((2 ^ fb f : Nat) : Int) - 1) = ((2 ^ fb f - 1 : Nat) : Int) := by rw [qdd]; omega
 have h3 := qpp (w % sg f) (fb f) (by omega) (by omega)
 have h4 : shr .u64 ((w % sg f : Nat) : Int) ((fb f : Nat) : Int) = ((w % sg f / 2 ^ fb f : Nat) : Int) := qdP _ _ (by show fb f ≤ 64; omega)
 have h5 : wrap64 ((w % sg f / 2 ^ fb f : Nat) : Int) = ((w % sg f / 2 ^ fb f : Nat) : Int) := by
  have hq : w % sg f / 2 ^ fb f < mo f + 1 := Nat.div_lt_of_lt_mul (by rw [← qis h]; exact hz)
  have hm := qdQ h
  clear h1 h2 h3 h4
  generalize w % sg f / 2 ^ fb f = q at hq ⊢
  exact qa9 (by omega) (by omega)
 rw [h1, h2, h3, h4, h5]
 have h6 : (decide (¬ (((w / sg f * sg f : Nat) : Int) = 0))) = qE f w := by
  unfold qE
  by_cases c : sg f ≤ w
  ·have : w / sg f = 1 := Nat.div_eq_of_lt_le (by omega) (by omega)
   rw [this, decide_eq_true c]
   exact decide_eq_true (by omega)
  ·rw [Nat.div_eq_of_lt (by omega), decide_eq_false c]
   simp
 rw [h6, if_pos (by omega)]
 rfl
theorem qpB {f : Int} (h : isF f) {w : Nat} (hw : w < 2 * sg f) : Ev (fun k => qd8.f k f (w : Int)) (qE f w, (qZ f w : Int), (qab f w : Int), 0) := by
 have ho := qgW h w
 unfold qcR at ho
 rw [if_pos hw] at ho
 unfold qd8.f
 refine Ev.bind ho ?_
 (repeat (first | with_reducible refine ep ?_ | with_reducible refine en ?_))
 refine qQ (qlu h hw) ?_
 (repeat (first | with_reducible refine ep ?_ | with_reducible refine en ?_))
 exact Ev.now _
def lo (f : Int) : Int := if f = 1 then -149 else -1074
theorem qlv {f : Int} (h : isF f) : qbN.f (fb f : Int) (mo f : Int) (sg f : Int) = some (lo f) := by
 unfold qbN.f
 have e : wrap64 (Int.tdiv ((mo f : Nat) : Int) 2) = ((mo f / 2 : Nat) : Int) := by
  have := qdQ h
  exact qa9 (by show (0 : Int) ≤ ((mo f / 2 : Nat) : Int); omega) (by show ((mo f / 2 : Nat) : Int) < _; omega)
 have hm := qdQ h
 have hb := qev h
 rw [e]
 have e2 : wrap64 (1 - ((mo f / 2 : Nat) : Int)) = 1 - ((mo f / 2 : Nat) : Int) := by unfold wrap64; omega
 rw [e2]
 have e3 : wrap64 (1 - ((mo f / 2 : Nat) : Int) - ((fb f : Nat) : Int)) = 1 - ((mo f / 2 : Nat) : Int) - ((fb f : Nat) : Int) := by unfold wrap64; omega
 rw [e3]
 rcases h with rfl | rfl <;> rfl
def qR (f : Int) (w : Nat) : Nat := if qZ f w = 0 then qab f w else 2 ^ fb f + qab f w
def wex (f : Int) (w : Nat) : Int := (if qZ f w = 0 then 0 else (qZ f w : Int) - 1) + lo f
theorem qpC {f : Int} (h : isF f) {w : Nat} (hw : w < 2 * sg f) : Ev (fun k => qd9.f k f (w : Int)) ((fb f : Int), (mo f : Int), (sg f : Int), if cls f w ≥ 4 then 7 else 0) := by
 have ho := qgW h w
 unfold qcR at ho
 rw [if_pos hw] at ho
 unfold qd9.f
 refine Ev.bind ho ?_
 (repeat (first | with_reducible refine ep ?_ | with_reducible refine en ?_))
 refine qQ (qlt h hw) ?_
 (repeat (first | with_reducible refine ep ?_ | with_reducible refine en ?_))
 by_cases c : cls f w ≥ 4
 ·refine qa c ?_
  exact qq (Ev.now _) (by rw [if_pos c])
 ·refine qd c ?_
  exact qq (Ev.now _) (by rw [if_neg c])
theorem mx1 (n : Nat) : (wrap64 ((mx (n : Int) 1) - 1) = if n = 0 then 0 else (n : Int) - 1) ∨ 4611686018427387904 ≤ n := by
 by_cases hb : n < 4611686018427387904
 ·left
  have e : mx (n : Int) 1 = ((max n 1 : Nat) : Int) := qo2 n 1
  rw [e, qa9 (by omega) (by omega)]
  split <;> omega
 ·right; omega
theorem qpD {f : Int} (h : isF f) {w : Nat} (hw : w < 2 * sg f) (hc : cls f w < 4) : Ev (fun k => qbz.f k f (w : Int)) (ok3 (mk (sv (qE f w) (qR f w)) (wex f w))) := by
 have hf := qpC h hw
 rw [if_neg (by omega)] at hf
 have hp := qfm h
 have hz : w % sg f < sg f := Nat.mod_lt _ hp.1
 have he : qZ f w < mo f + 1 := Nat.div_lt_of_lt_mul (by rw [← qis h]; exact hz)
 have hm := qdQ h
 have hfr : qab f w < 2 ^ fb f := Nat.mod_lt _ (qW _)
 have hpw := pfb h
 have h52 := qev h
 have hlo : -1074 ≤ lo f ∧ lo f ≤ -149 := by rcases h with rfl | rfl <;> decide
 have hmx := (mx1 (qZ f w)).resolve_right (by omega)
 have hbl : ∀ m : Nat, m < 18446744073709551616 → bl m ≤ 64 := fun m hm => qbV (by omega)
 unfold qbz.f
 refine Ev.bind hf ?_
 (repeat (first | with_reducible refine ep ?_ | with_reducible refine en ?_))
 refine qQ (qlu h hw) ?_
 (repeat (first | with_reducible refine ep ?_ | with_reducible refine en ?_))
 have hex : wrap64 (wrap64 ((mx (qZ f w : Int) 1) - 1) + lo f) = wex f w := by
  rw [hmx]
  unfold wex wrap64
  split <;> omega
 have hwx : -1074 ≤ wex f w ∧ wex f w ≤ 3000 := by unfold wex; split <;> omega
 by_cases c : qZ f w = 0
 ·have hm0 : qR f w = qab f w := by unfold qR; rw [if_pos c]
  have o1 := qgR (n := (qab f w : Int)) (by omega) (by omega)
  rw [Int.toNat_natCast] at o1
  have hb := hbl (qab f w) (by omega)
  have m1 := qln (qE f w) (qb9 (qab f w)) (qlf (by omega)) (wex f w)
  rw [V_D, qlo (by omega) (by omega)] at m1
  dsimp only
  (repeat (first | with_reducible refine ep ?_ | with_reducible refine en ?_))
  refine qi ?_; simp only [qbz.j1]
  refine Ev.bind (o1) ?_; try dsimp only
  refine qQ (qlv h) ?_; try dsimp only
  rw [hex, hm0]
  refine Ev.bind m1 ?_
  (repeat (first | with_reducible refine ep ?_ | with_reducible refine en ?_))
  exact Ev.now _
 ·have hm0 : qR f w = 1 * 2 ^ fb f + qab f w := by unfold qR; rw [if_neg c, Nat.one_mul]
  have eo : Go.bits .or .u64 (qab f w : Int) (shl .u64 1 ((fb f : Nat) : Int)) = ((qR f w : Nat) : Int) := by
   rw [qfn h, qpt _ _ (by omega) (by omega), hm0]
   have := qps 1 (qab f w) (fb f) hfr (by omega)
   rw [Nat.one_mul] at this
   rw [this, Nat.one_mul]
  have hlt : qR f w < 18446744073709551616 := by omega
  have o1 := qgR (n := (qR f w : Int)) (by omega) (by omega)
  rw [Int.toNat_natCast] at o1
  have hb := hbl (qR f w) hlt
  have m1 := qln (qE f w) (qb9 (qR f w)) (qlf (by omega)) (wex f w)
  rw [V_D, qlo (by omega) (by omega)] at m1
  dsimp only
  (repeat (first | with_reducible refine ep ?_ | with_reducible refine en ?_))
  refine qi ?_; simp only [qbz.j1]
  rw [eo]
  refine Ev.bind (o1) ?_; try dsimp only
  refine qQ (qlv h) ?_; try dsimp only
  rw [hex]
  refine Ev.bind m1 ?_
  (repeat (first | with_reducible refine ep ?_ | with_reducible refine en ?_))
  exact Ev.now _
def pr (f : Int) : Nat := if f = 1 then 24 else 53
def wd (f : Int) : Int := if f = 1 then 128 else 1024
theorem qit {f : Int} (h : isF f) : pr f = fb f + 1 := by rcases h with rfl | rfl <;> rfl
theorem qfo {f : Int} (h : isF f) : -1074 ≤ lo f ∧ lo f ≤ -149 := by rcases h with rfl | rfl <;> decide
theorem qlw {f : Int} (h : isF f) : 128 ≤ wd f ∧ wd f ≤ 1024 := by rcases h with rfl | rfl <;> decide
theorem qpE {f : Int} (h : isF f) : wd f - (pr f : Nat) - lo f = ((mo f - 2 : Nat) : Int) := by rcases h with rfl | rfl <;> rfl
theorem qlx {f : Int} (h : isF f) : 255 ≤ mo f := by rcases h with rfl | rfl <;> decide
instance (f : Int) : Decidable (isF f) := inferInstanceAs (Decidable (f = 1 ∨ f = 2))
theorem qiu (f : Int) : qc3.f f = some (decide (isF f)) := by
 unfold qc3.f isF
 by_cases h : f = 1
 ·rw [if_pos h]; simp [h]
 ·rw [if_neg h]; simp [h]
def isM (m : Int) : Prop := 1 ≤ m ∧ m ≤ 5
instance (m : Int) : Decidable (isM m) := inferInstanceAs (Decidable (1 ≤ m ∧ m ≤ 5))
theorem qly (m : Int) : qec.f m = some (decide (isM m)) := by
 unfold qec.f isM
 by_cases h : m ≥ 1
 ·rw [if_pos h]; simp [show 1 ≤ m from h]
 ·rw [if_neg h]; simp [show ¬ 1 ≤ m from h]
theorem qpF {f : Int} (h : isF f) {w : Nat} (hw : w < 18446744073709551616) : qed.f f (w : Int) = some (qcR f w) := by
 unfold qed.f qcR
 rw [qiu, decide_eq_true h, Option.bind_some, if_neg (by simp)]
 rcases h with rfl | rfl
 ·rw [if_pos rfl]
  by_cases c : w < 2 * sg 1
  ·rw [if_neg (by simp [sg] at c; omega), if_pos c]
  ·rw [if_pos (by simp [sg] at c; omega), if_neg c]
 ·rw [if_neg (by omega), if_pos (by simp [sg]; omega)]
theorem qpG {f : Int} (h : isF f) : qek.f f = some (sg f : Int) := by rcases h with rfl | rfl <;> rfl
theorem qlz {f : Int} (h : isF f) : qdc.f f = some (fb f : Int) := by rcases h with rfl | rfl <;> rfl
theorem qpH {f : Int} (h : isF f) : qel.f f = some (mo f : Int) := by rcases h with rfl | rfl <;> rfl
theorem qlA {f : Int} (h : isF f) : qen.f f = some (lo f) := by rcases h with rfl | rfl <;> rfl
theorem qgX {f : Int} (h : isF f) (w : Nat) : qZ f w ≤ mo f := by
 have hz : w % sg f < sg f := Nat.mod_lt _ (qfm h).1
 have : qZ f w < mo f + 1 := Nat.div_lt_of_lt_mul (by rw [← qis h]; exact hz)
 omega
theorem qfp (f : Int) (w : Nat) : qab f w < 2 ^ fb f := Nat.mod_lt _ (qW _)
theorem qpI (f : Int) (w : Nat) : w % sg f = qZ f w * 2 ^ fb f + qab f w := by
 unfold qZ qab
 have := Nat.div_add_mod (w % sg f) (2 ^ fb f)
 rw [Nat.mul_comm] at this
 exact this.symm
theorem qiv {f : Int} (h : isF f) (w : Nat) : qcv.f f (w : Int) = some (qE f w, (qZ f w : Int), (qab f w : Int)) := by
 have hp := qfm h
 have hpp := qW (fb f)
 have hm := qdQ h
 have hx := qgX h w
 have h52 := qev h
 unfold qcv.f
 rw [qpG h, Option.bind_some, Option.bind_some, if_neg (by omega), qlz h, Option.bind_some, if_pos (by omega), qfn h, if_neg (by omega), Option.bind_some, if_pos (by omega), qk7, qk7, qdP _ _ (by show fb f ≤ 64; omega)]
 have e : wrap64 ((w % sg f / 2 ^ fb f : Nat) : Int) = (qZ f w : Int) := by
  show wrap64 ((qZ f w : Nat) : Int) = _
  exact qa9 (by omega) (by omega)
 rw [e]
 have e2 : decide ((w : Int) ≥ (sg f : Int)) = qE f w := decide_eq_decide.2 (by omega)
 rw [e2]
 rfl
theorem qgY {f : Int} (h : isF f) (w : Nat) : cls f w = if qZ f w = 0 then (if qab f w = 0 then 1 else 2) else if qZ f w < mo f then 3 else if qab f w = 0 then 4 else 5 := by
 have h1 := qpI f w
 have h2 := qfp f w
 have h3 := qgX h w
 have hpp := qW (fb f)
 have hm := qlx h
 unfold cls
 rw [h1]
 generalize qab f w = r at *
 generalize qZ f w = q at *
 generalize 2 ^ fb f = p at *
 by_cases c : q = 0
 ·subst c
  simp only [Nat.zero_mul, Nat.zero_add, if_true]
  by_cases c2 : r = 0
  ·simp [c2]
  ·rw [if_neg c2, if_pos h2, if_neg c2]
 ·have h4 : p ≤ q * p := Nat.le_mul_of_pos_left _ (by omega)
  rw [if_neg (by omega), if_neg (by omega), if_neg c]
  by_cases c2 : q < mo f
  ·have h5 : (q + 1) * p ≤ mo f * p := Nat.mul_le_mul_right _ c2
   rw [Nat.add_mul, Nat.one_mul] at h5
   rw [if_pos (by omega), if_pos c2]
  ·have h5 : q = mo f := by omega
   rw [h5, if_neg (by omega), if_neg (Nat.lt_irrefl _)]
   by_cases c3 : r = 0
   ·rw [if_pos (by omega), if_pos c3]
   ·rw [if_neg (by omega), if_neg c3]
theorem qpJ {f : Int} (h : isF f) (w : Nat) : qem.f f (w : Int) = some (cls f w) := by
 unfold qem.f
 rw [qiv h, Option.bind_some, qgY h, qpH h]
 generalize qab f w = r
 generalize qZ f w = q
 generalize mo f = m
 simp only [Option.bind_some]
 by_cases c : q = 0
 ·rw [if_pos (by omega), if_pos c]
  by_cases c2 : r = 0
  ·rw [if_pos (by omega), if_pos c2]
  ·rw [if_neg (by omega), if_pos (by omega), if_neg c2]
 ·rw [if_neg (by omega), if_neg (by omega), if_neg c]
  by_cases c2 : q < m
  ·rw [if_pos (by omega), if_pos c2]
  ·rw [if_neg (by omega), if_neg c2]
   by_cases c3 : r = 0
   ·rw [if_pos (by omega), if_pos c3]
   ·rw [if_neg (by omega), if_neg c3]
theorem qpK {f : Int} (h : isF f) (w : Nat) : qR f w < 18446744073709551616 := by
 have := qfp f w
 have := pfb h
 unfold qR; split <;> omega
theorem qpL {f : Int} (h : isF f) (w : Nat) : -1074 ≤ wex f w ∧ wex f w ≤ 3000 := by
 have := qgX h w
 have := qdQ h
 have := qfo h
 unfold wex; split <;> omega
theorem qpM {f : Int} (h : isF f) (w : Nat) : Ev (fun k => qdL.f k f (w : Int)) (mk (sv (qE f w) (qR f w)) (wex f w)) := by
 have hlt := qpK h w
 have hwb := qpL h w
 have hfr := qfp f w
 have hpw := pfb h
 have hx := qgX h w
 have hm := qdQ h
 have hlo := qfo h
 have o1 := qid (n := (qR f w : Int)) (by omega) (by omega)
 rw [Int.toNat_natCast] at o1
 have f1 := qpm (qE f w) (qb9 (qR f w)) (by
  have : (D (qR f w)).length ≤ 2 := qgV (by omega)
  omega) (e := wex f w) (by omega) (by omega)
 rw [V_D] at f1
 unfold qdL.f
 refine qQ (qiv h w) ?_; try dsimp only
 by_cases c : qZ f w = 0
 ·have e1 : qR f w = qab f w := by unfold qR; rw [if_pos c]
  have e2 : wex f w = lo f := by unfold wex; rw [if_pos c]; omega
  rw [e1] at o1
  rw [e1, e2] at f1
  refine qa (by omega) ?_
  refine Ev.bind (o1) ?_; try dsimp only
  refine qQ (qlA h) ?_; try dsimp only
  refine Ev.bind (f1) ?_; try dsimp only
  rw [e1, e2]
  exact Ev.now _
 ·have e1 : qR f w = 2 ^ fb f + qab f w := by unfold qR; rw [if_neg c]
  have e2 : wex f w = (qZ f w : Int) - 1 + lo f := by unfold wex; rw [if_neg c]
  have e3 : IntKind.u64.wrap (((2 ^ fb f : Nat) : Int) + (qab f w : Int)) = (qR f w : Int) := by rw [e1, ← Int.natCast_add]; exact u64 (by omega) (by omega)
  have e4 : wrap64 (wrap64 ((qZ f w : Int) - 1) + lo f) = wex f w := by rw [e2]; unfold wrap64; omega
  refine qd (by omega) ?_
  refine qQ (qlz h) ?_; try dsimp only
  rw [qfn h, e3]
  refine qa (by omega) ?_
  refine Ev.bind (o1) ?_; try dsimp only
  refine qQ (qlA h) ?_; try dsimp only
  rw [e4]
  refine Ev.bind (f1) ?_; try dsimp only
  exact Ev.now _
def upB (m : Int) (s odd qff more : Bool) : Bool :=
 if m = 1 then qff && (more || odd) else if m = 2 then qff else if m = 4 then !s && (qff || more) else if m = 5 then s && (qff || more) else false
def rnd (m : Int) (s : Bool) (n k : Nat) : Nat :=
 n / 2 ^ k + (if upB m s (decide (n / 2 ^ k % 2 = 1)) (decide (2 ^ k ≤ 2 * (n % 2 ^ k))) (decide (2 * (n % 2 ^ k) % 2 ^ k ≠ 0)) = true then 1 else 0)
def R (m : Int) (s : Bool) (n : Nat) (e E : Int) : Nat := rnd m s (n * 2 ^ (e - E).toNat) (E - e).toNat
def fmE (f m : Int) : Int := if isF f then (if isM m then 0 else 5) else 4
theorem qpN {f : Int} (h : isF f) {w : Nat} (h1 : cls f w ≠ 1) (h2 : cls f w < 4) : qR f w ≠ 0 := by
 rw [qgY h] at h1 h2
 have hp := qW (fb f)
 unfold qR
 by_cases c : qZ f w = 0
 ·rw [if_pos c] at h1 h2 ⊢
  intro h3
  rw [if_pos h3] at h1
  exact h1 rfl
 ·rw [if_neg c]; omega
theorem qpO {f : Int} (h : isF f) (w : Nat) : 1 ≤ cls f w ∧ cls f w ≤ 5 := by
 rw [qgY h]; split
 ·split <;> omega
 ·split
  ·omega
  ·split <;> omega
theorem qlB {f : Int} (h : isF f) (w : Nat) : bl (qR f w) ≤ pr f := by
 have h1 := qfp f w
 have h2 := qit h
 refine qbV ?_
 rw [h2, Nat.pow_succ]
 unfold qR; split <;> omega
theorem qpP {s : Bool} {n : Nat} (h : n ≠ 0) : decide (sv s n < 0) = s ∧ (sv s n).natAbs = n ∧ sv s n ≠ 0 := ⟨qli h, qlg s n, fun h2 => h (qlh.1 h2)⟩
theorem qpQ {f : Int} (h : isF f) {w : Nat} (hw : ¬ w < 2 * sg f) : Ev (fun k => qcn.f k f (w : Int)) (0, 6) := by
 have ho := qgW h w
 unfold qcR at ho
 rw [if_neg hw] at ho
 unfold qcn.f
 refine Ev.bind (ho) ?_; try dsimp only
 exact qa (by simp) (Ev.now _)
theorem qpR {z : Int} (h : z ≠ 0) (e : Int) : ∃ j : Nat, z.natAbs = V (mk z e).2.1 * 2 ^ j ∧ (mk z e).2.2 = e + j ∧ (mk z e).1 = decide (z < 0) ∧ V (mk z e).2.1 ≠ 0 := by
 have hza : z.natAbs ≠ 0 := by omega
 obtain ⟨q, hq⟩ := qfj hza
 have hd : z.natAbs / 2 ^ lw z.natAbs = 2 * q + 1 := by
  have : z.natAbs / 2 ^ lw z.natAbs = 2 ^ lw z.natAbs * (2 * q + 1) / 2 ^ lw z.natAbs := by rw [← hq]
  rw [this, Nat.mul_div_cancel_left _ (qW _)]
 have hm : mk z e = (decide (z < 0), D (z.natAbs / 2 ^ lw z.natAbs), e + (lw z.natAbs : Nat)) := by unfold mk; rw [if_neg h]
 refine ⟨lw z.natAbs, ?_, by rw [hm], by rw [hm], ?_⟩
 ·rw [hm]
  show _ = V (D _) * _
  rw [V_D, hd, Nat.mul_comm]; exact hq
 ·rw [hm]
  show V (D _) ≠ 0
  rw [V_D, hd]; omega
theorem qpS (x y : Nat) : bl (x * y) ≤ bl x + bl y := qbV (by rw [Nat.pow_add]; exact Nat.mul_lt_mul'' (qbE x) (qbE y))
def wv (f : Int) (w : Nat) : Bool × List Int × Int := mk (sv (qE f w) (qR f w)) (wex f w)
structure Wv (f : Int) (w : Nat) : Prop where
 dy : Dy (wv f w).1 (wv f w).2.1 (wv f w).2.2
 ne : V (wv f w).2.1 ≠ 0
 b : bl (V (wv f w).2.1) ≤ pr f
 lo : lo f ≤ (wv f w).2.2
 hi : (wv f w).2.2 + (bl (V (wv f w).2.1) : Nat) = wex f w + (bl (qR f w) : Nat)
 s : (wv f w).1 = qE f w
theorem qlC {f : Int} (h : isF f) {w : Nat} (h2 : cls f w < 4) : wex f w + (bl (qR f w) : Nat) ≤ wd f := by
 rw [qgY h] at h2
 have h3 := qlB h w
 have h4 := qpE h
 have h5 := qfp f w
 have h6 := qit h
 have h7 := qlx h
 have hlo := qfo h
 have hwd := qlw h
 by_cases c : qZ f w = 0
 ·unfold wex; rw [if_pos c]
  have := qev h
  omega
 ·rw [if_neg c] at h2
  have : qZ f w < mo f := by
   rcases Nat.lt_or_ge (qZ f w) (mo f) with c2 | c2
   ·exact c2
   ·rw [if_neg (by omega)] at h2; split at h2 <;> omega
  unfold wex; rw [if_neg c]
  omega
theorem qlD {f : Int} (h : isF f) {w : Nat} (h1 : cls f w ≠ 1) (h2 : cls f w < 4) : Wv f w := by
 have hn := qpN h h1 h2
 obtain ⟨a1, a2, a3⟩ := qpP (s := qE f w) hn
 obtain ⟨j, j1, j2, j3, j4⟩ := qpR a3 (wex f w)
 have hb := qlB h w
 have hl : lo f ≤ wex f w := by
  unfold wex
  split <;> omega
 rw [a2] at j1
 have hbl : bl (qR f w) = bl (V (wv f w).2.1) + j := by rw [j1]; exact qpi j4 j
 have e2 : (wv f w).2.2 = wex f w + j := j2
 refine ⟨qpl _ _, j4, by omega, by omega, by omega, ?_⟩
 show (mk _ _).1 = _
 rw [j3, a1]
theorem qpT {f : Int} (h : isF f) {w : Nat} (hw : Wv f w) (h2 : cls f w < 4) : -5000 ≤ (wv f w).2.2 ∧ (wv f w).2.2 ≤ 5000 ∧ bl (V (wv f w).2.1) ≤ 64 := by
 have := hw.lo
 have := hw.hi
 have := hw.b
 have := qfo h
 have := qlw h
 have := qlC h h2
 have := qit h
 have := qev h
 refine ⟨by omega, by omega, by omega⟩
theorem qpU {n : Int} (h : IntKind.u64.min ≤ n ∧ n ≤ IntKind.u64.max) : ∃ w : Nat, n = (w : Int) ∧ w < 18446744073709551616 := by
 simp [IntKind.min, IntKind.max, IntKind.signed, IntKind.bits] at h
 exact ⟨n.toNat, by omega, by omega⟩
theorem qpV {f : Int} (h : ¬ isF f) (w : Int) : Ev (fun k => qcn.f k f w) (0, 4) := by
 unfold qcn.f
 refine Ev.bind (qpw h _) ?_; try dsimp only
 exact qa (by simp) (Ev.now _)
set_option maxRecDepth 100000
theorem qlE (b : UInt8) : ∀ n, Lib.repeatL [b] n = List.replicate n b
 | 0 => rfl
 | n + 1 => by rw [Lib.repeatL, qlE b n]; rfl
def sgT (s : Bool) : List UInt8 := if s = true then [45] else []
theorem qpW (s : Bool) : (sgT s).length ≤ 1 := by unfold sgT; split <;> simp
structure Pr (f : Int) (w : Nat) : Prop where
 my : My (wv f w).1 (wv f w).2.1 (wv f w).2.2
 ne : V (wv f w).2.1 ≠ 0
 b : bl (V (wv f w).2.1) ≤ 53
 lo : -1074 ≤ (wv f w).2.2
 hi : (wv f w).2.2 + (bl (V (wv f w).2.1) : Nat) ≤ 1024
 s : (wv f w).1 = qE f w
theorem qpX {f : Int} (h : isF f) {w : Nat} (c1 : cls f w ≠ 1) (c4 : cls f w < 4) : Pr f w := by
 have W := qlD h c1 c4
 have hb := qpT h W c4
 have hpr : pr f ≤ 53 := by rcases h with rfl | rfl <;> decide
 have hWb := W.b
 have hft := qlC h c4
 have hwd : wd f ≤ 1024 := by rcases h with rfl | rfl <;> decide
 have hlo := qfo h
 have hWlo := W.lo
 have hWhi := W.hi
 refine ⟨⟨W.dy, ?_, by omega, by omega⟩, W.ne, by omega, by omega, by omega, W.s⟩
 have hl := W.dy.nm.len
 have h2 : V (wv f w).2.1 < 4294967296 ^ 2 := Nat.lt_of_lt_of_le (qbE _) (Nat.le_trans (Nat.pow_le_pow_right (by omega) (by omega : bl (V (wv f w).2.1) ≤ 64)) (by decide))
 have h3 := qgV h2
 omega
theorem qlF {α : Type} {g : Nat → Option α} {r : α} {n : Nat} (h : ∀ k, g (k + n) = some r) : Ev g r := ⟨n, fun k hk => by have := h (k - n); rwa [Nat.sub_add_cancel hk] at this⟩
open Go.RowKit Go.Proofs.YtnkpmjhlkmlmbaaGreatDoor.Eng
theorem qlG (a b : ByteArray) : qL (a ++ b) = qL a ++ qL b := by unfold qL; simp
theorem qpY {a b : ByteArray} (h : qL a = qL b) : a = b := by
 unfold qL at h
 have := List.map_inj_right (f := fun b : UInt8 => (b.toNat : Int)) (by intro x y h; exact UInt8.toNat_inj.1 (by omega)) |>.1 h
 cases a; cases b; simp_all
theorem qlH (xs : List Int) (h : ∀ x ∈ xs, 0 ≤ x ∧ x < 256) : qL (qaQ xs) = xs := by
 show (xs.map fun n : Int => UInt8.ofNat n.toNat).map (fun b : UInt8 => (b.toNat : Int)) = xs
 rw [List.map_map]
 have e : xs.map ((fun b : UInt8 => (b.toNat : Int)) ∘ fun n : Int => UInt8.ofNat n.toNat) = xs.map id := by
  apply List.map_congr_left
  intro x hx
  have := h x hx
  simp
  omega
 rw [e, List.map_id]
theorem qpZ {d : Nat} (h : d < 10) : qL ((⟨#[48, 49, 50, 51, 52, 53, 54, 55, 56, 57]⟩ : ByteArray).extract d (d + 1)) = [48 + (d : Int)] := by
 have : ∀ d < 10, qL ((⟨#[48, 49, 50, 51, 52, 53, 54, 55, 56, 57]⟩ : ByteArray).extract d (d + 1)) = [48 + (d : Int)] := by decide +kernel
 exact this d h
def dcl (n : Nat) : List Int := if h : n = 0 then [] else (48 + (n % 10 : Nat) : Int) :: dcl (n / 10)
termination_by n
decreasing_by omega
theorem qba : dcl 0 = [] := by unfold dcl; simp
theorem qdj {n : Nat} (h : n ≠ 0) : dcl n = (48 + (n % 10 : Nat) : Int) :: dcl (n / 10) := by
 conv => lhs; unfold dcl
 simp [h]
def pd : Nat → Nat → List Int
 | 0, _ => []
 | j + 1, n => (48 + (n % 10 : Nat) : Int) :: pd j (n / 10)
theorem qlI : ∀ (j n : Nat), n < 10 ^ j → ∃ m, pd j n = dcl n ++ List.replicate m 48
  | 0, n, h => ⟨0, by have : n = 0 := by simpa using h
                      subst this; simp [pd, qba]⟩
  | j + 1, n, h => by
    obtain ⟨m, hm⟩ := qlI j (n / 10) (by rw [Nat.pow_succ] at h; omega)
    by_cases h0 : n = 0
    · subst h0
      refine ⟨m + 1, ?_⟩
      have h1 : dcl (0 / 10) = [] := qba
      rw [h1] at hm
      rw [pd, hm, qba]; simp [List.replicate_succ]
    · exact ⟨m, by rw [pd, hm, qdj h0]; simp⟩
theorem qiw : ∀ (j n : Nat), n / 10 ^ j ≠ 0 → pd j (n % 10 ^ j) ++ dcl (n / 10 ^ j) = dcl n
 | 0, n, h => by simp [pd]
 | j + 1, n, h => by
  have e1 : n / 10 ^ (j + 1) = n / 10 / 10 ^ j := by rw [Nat.pow_succ, Nat.mul_comm, Nat.div_div_eq_div_mul]
  have e2 : n % 10 ^ (j + 1) % 10 = n % 10 := Nat.mod_mod_of_dvd _ ⟨10 ^ j, by rw [Nat.pow_succ, Nat.mul_comm]⟩
  have e3 : n % 10 ^ (j + 1) / 10 = n / 10 % 10 ^ j := by
   rw [Nat.pow_succ, Nat.mul_comm, Nat.mod_mul_right_div_self]
  have h0 : n ≠ 0 := by rintro rfl; simp at h
  rw [pd, e2, e3, e1, qdj h0, List.cons_append, qiw j (n / 10) (by rw [← e1]; exact h)]
theorem qp0 : ∀ (n : Nat), ∀ x ∈ dcl n, 48 ≤ x ∧ x ≤ 57 := by
 intro n
 induction n using Nat.strongRecOn with
 | _ n ih =>
  intro x hx
  by_cases h : n = 0
  ·subst h; rw [qba] at hx; simp at hx
  ·rw [qdj h] at hx
   rcases List.mem_cons.1 hx with rfl | hx
   ·omega
   ·exact ih _ (by omega) x hx
theorem qp1 : ∀ (n : Nat), n ≠ 0 → ∃ l d, dcl n = l ++ [d] ∧ 48 < d ∧ d ≤ 57 := by
 intro n
 induction n using Nat.strongRecOn with
 | _ n ih =>
  intro h
  rw [qdj h]
  by_cases h1 : n / 10 = 0
  ·exact ⟨[], 48 + (n % 10 : Nat), by rw [h1, qba]; simp, by omega, by omega⟩
  ·obtain ⟨l, d, e, hd⟩ := ih (n / 10) (by omega) h1
   exact ⟨_ :: l, d, by rw [e]; rfl, hd⟩
theorem qlJ : ∀ (j n : Nat), n < 10 ^ j → (dcl n).length ≤ j
  | 0, n, h => by have : n = 0 := by simpa using h
                  subst this; simp [qba]
  | j + 1, n, h => by
    by_cases h0 : n = 0
    · subst h0; simp [qba]
    · rw [qdj h0]
      have := qlJ j (n / 10) (by rw [Nat.pow_succ] at h; omega)
      simp; omega
def txt (n : Nat) : List Int := if n = 0 then [48] else (dcl n).reverse
theorem qix (n : Nat) : ∀ x ∈ txt n, 48 ≤ x ∧ x ≤ 57 := by
 intro x hx
 unfold txt at hx
 split at hx
 ·simp at hx; omega
 ·exact qp0 n x (by simpa using hx)
theorem qiy : ∀ (j n : Nat), (pd j n).length = j
 | 0, _ => rfl
 | j + 1, n => by simp [pd, qiy j]
theorem qlK {n : Int} (h : 0 ≤ n ∧ n < 4294967296) : (Int.tdiv n 10) % 4294967296 = n / 10 := by
 rw [Int.tdiv_eq_ediv_of_nonneg h.1]; omega
theorem qiz {n : Int} (h : 0 ≤ n) : Int.tmod n 10 = n % 10 := Int.tmod_eq_emod_of_nonneg h
theorem qiA {n : Nat} (h : n ≠ 0) : bl (n / 1000000000) + 1 ≤ bl n := by
 rw [qkI h]
 have : n / 1000000000 ≤ n / 2 := by omega
 have := qoH this
 omega
def qcA (n : Nat) : List Int := if h : n = 0 then [] else pd 9 (n % 1000000000) ++ qcA (n / 1000000000)
termination_by n
decreasing_by omega
theorem qgZ : qcA 0 = [] := by unfold qcA; simp
theorem qiB {n : Nat} (h : n ≠ 0) : qcA n = pd 9 (n % 1000000000) ++ qcA (n / 1000000000) := by
 conv => lhs; unfold qcA
 simp [h]
theorem qp2 : ∀ (n : Nat), ∃ m, qcA n = dcl n ++ List.replicate m 48 := by
 intro n
 induction n using Nat.strongRecOn with
 | _ n ih =>
  by_cases h : n = 0
  ·exact ⟨0, by subst h; rw [qgZ, qba]; rfl⟩
  ·rw [qiB h]
   by_cases h1 : n / 1000000000 = 0
   ·rw [h1, qgZ, List.append_nil, Nat.mod_eq_of_lt (by omega)]
    exact qlI 9 n (by omega)
   ·obtain ⟨m, hm⟩ := ih (n / 1000000000) (by omega)
    refine ⟨m, ?_⟩
    have := qiw 9 n h1
    rw [hm, ← List.append_assoc]
    exact congrArg (· ++ List.replicate m 48) this
theorem qlL (q : List Int) {res : ByteArray × Int} : ∀ (j : Nat) (low : List Int) (r : Int), j ≤ 9 → 0 ≤ r ∧ r < 4294967296 → low.length + j < 1000000000000 → Ev (fun k => qD.l0 k q (low ++ pd j r.toNat)) res → Ev (fun k => qD.l1 k q low r ((9 - j : Nat) : Int)) res
 | 0, low, r, hj, hr, hl, H => by
  refine qi ?_
  simp only [qD.l1]
  refine qd (by omega) ?_
  simpa [pd] using H
 | j + 1, low, r, hj, hr, hl, H => by
  have e : wrap64 (((9 - (j + 1) : Nat) : Int) + 1) = ((9 - j : Nat) : Int) := by unfold wrap64; omega
  have e2 : (48 + Int.tmod r 10) % 4294967296 % 256 = 48 + ((r.toNat % 10 : Nat) : Int) := by rw [qiz hr.1]; omega
  refine qi ?_
  simp only [qD.l1, e, e2, qlK hr]
  clear e e2
  refine qa (by omega) (qa (by simp; omega) ?_)
  have hr10 : 0 ≤ r / 10 ∧ r / 10 < 4294967296 := by omega
  refine qlL q j _ _ (by omega) hr10 (by simp; omega) ?_
  have e3 : (r / 10).toNat = r.toNat / 10 := by omega
  rw [e3]
  simpa [pd] using H
theorem qp3 {res : ByteArray × Int} : ∀ (n : Nat) (low : List Int), low.length + 9 * bl n < 100000000000 → (D n).length < 1000000000 → Ev (fun k => qD.l2 k (low ++ qcA n)) res → Ev (fun k => qD.l0 k (D n) low) res := by
 intro n
 induction n using Nat.strongRecOn with
 | _ n ih =>
  intro low hl hd H
  refine qi ?_
  simp only [qD.l0]
  by_cases h : n = 0
  ·subst h
   rw [qgZ, List.append_nil] at H
   refine qd ?_ H
   rw [qY]; simp
  ·refine qa ?_ ?_
   ·rw [qcw h]; simp
   ·refine Ev.bind (qoO (qbk n) hd (by omega)) ?_
    rw [V_D]
    have hb := qiA h
    have hle : n / 1000000000 ≤ n := Nat.div_le_self _ _
    have hdl := qib hle
    have hm9 : 0 ≤ ((n % (1000000000 : Int).toNat : Nat) : Int) ∧ ((n % (1000000000 : Int).toNat : Nat) : Int) < 4294967296 := by
     rw [show (1000000000 : Int).toNat = 1000000000 from rfl]; omega
    refine qlL _ 9 low _ (by omega) hm9 (by omega) ?_
    refine ih (n / 1000000000) (by omega) _ ?_ (by omega) ?_
    ·rw [List.length_append, qiy]; omega
    ·rw [qiB h, ← List.append_assoc] at H
     exact H
theorem qp4 : ∀ (m : Nat) (p s q : List Int), s.length = m → (p ++ s ++ q).length < 1000000000000 → Ev (fun k => qD.l3 k (p ++ s ++ q) p.length (((p.length + s.length : Nat) : Int) - 1)) (qaQ (p ++ s.reverse ++ q), 0) := by
 intro m
 induction m using Nat.strongRecOn with
 | _ m ih =>
  intro p s q hs hl
  have hl2 : p.length + s.length + q.length < 1000000000000 := by simpa [Nat.add_assoc] using hl
  refine qi ?_
  simp only [qD.l3]
  match s, hs with
  | [], hs => exact qd (by simp; omega) (Ev.now _)
  | [x], hs => exact qd (by simp) (Ev.now _)
  | x :: y :: t, hs =>
   obtain ⟨u, z, hu⟩ : ∃ u z, y :: t = u ++ [z] := by
    rcases List.eq_nil_or_concat (y :: t) with h | ⟨u, z, h⟩
    ·simp at h
    ·exact ⟨u, z, by rw [h, List.concat_eq_append]⟩
   rw [hu] at hs hl2 ⊢
   have hul : u.length + 2 = m := by simpa using hs
   have hlen : (x :: (u ++ [z])).length = u.length + 2 := by simp
   rw [hlen] at hl2 ⊢
   have e0 : ((p.length + (u.length + 2) : Nat) : Int) - 1 = ((p.length + 1 + u.length : Nat) : Int) := by omega
   rw [e0]
   have hL : (p ++ x :: (u ++ [z]) ++ q).length = p.length + u.length + 2 + q.length := by simp; omega
   rw [hL]
   have r1 : rd (p ++ x :: (u ++ [z]) ++ q) ((p.length : Nat) : Int) = x := by
    rw [List.append_assoc, List.cons_append]; exact qaM rfl
   have r2 : rd (p ++ x :: (u ++ [z]) ++ q) ((p.length + 1 + u.length : Nat) : Int) = z := by
    have : p ++ x :: (u ++ [z]) ++ q = (p ++ x :: u) ++ z :: q := by simp
    rw [this]; exact qaM (by simp; omega)
   have s1 : (p ++ x :: (u ++ [z]) ++ q).set ((p.length : Nat) : Int).toNat z = p ++ z :: (u ++ [z]) ++ q := by
    rw [List.append_assoc, List.cons_append, qde rfl]; simp
   have s2 : (p ++ z :: (u ++ [z]) ++ q).set ((p.length + 1 + u.length : Nat) : Int).toNat x = (p ++ [z]) ++ u ++ (x :: q) := by
    have : p ++ z :: (u ++ [z]) ++ q = (p ++ z :: u) ++ z :: q := by simp
    rw [this, qde (by simp; omega)]; simp
   rw [r1, r2, s1, s2, qcx (n := p.length) (by omega), qdh (by omega)]
   refine qa (by omega) (qa (by omega) (qa (by omega) (qa (by omega) (qa (by omega) (qa (by omega) (qa (by omega) (qa (by omega) (qa (by simp; omega) ?_))))))))
   have := ih u.length (by omega) (p ++ [z]) u (x :: q) rfl (by simp; omega)
   rw [List.length_append, List.length_singleton] at this
   have e1 : ((p.length + 1 + u.length : Nat) : Int) - 1 = ((p.length + 1 + u.length : Nat) : Int) - 1 := rfl
   refine qq this ?_
   simp
theorem qlM {l : List Int} {d : Int} (hd : 48 < d) : ∀ (m : Nat), (l ++ [d]).length + m < 1000000000000 → Ev (fun k => qD.l2 k (l ++ [d] ++ List.replicate m 48)) (qaQ (l ++ [d]).reverse, 0)
 | 0, hl => by
  simp only [List.replicate_zero, List.append_nil]
  have e : wrap64 (((l ++ [d]).length : Int) - 1) = (((l ++ [d]).length : Nat) : Int) - 1 := qdh (by omega)
  refine qi ?_
  simp only [qD.l2, e]
  clear e
  have hl1 : (l ++ [d]).length = l.length + 1 := by simp
  have hr : rd (l ++ [d]) (((l ++ [d]).length : Int) - 1) = d := qaM (by omega)
  refine qa (by omega) (qa (by omega) (qd (by rw [hr]; omega) ?_))
  have := qp4 _ [] (l ++ [d]) [] rfl (by simp; omega)
  simpa using this
 | m + 1, hl => by
  rw [List.replicate_succ', ← List.append_assoc]
  have hX : ((l ++ [d]) ++ List.replicate m 48).length = (l ++ [d]).length + m := by rw [List.length_append, List.length_replicate]
  generalize hx : (l ++ [d]) ++ List.replicate m 48 = X at hX
  have hXl : (X ++ [48]).length = X.length + 1 := by simp
  have e : wrap64 (((X ++ [48]).length : Int) - 1) = (X.length : Int) := by rw [hXl]; exact qic (by omega)
  refine qi ?_
  simp only [qD.l2, e]
  clear e
  refine qa (by omega) (qa (by omega) (qa (qaM rfl) (qa (by omega) (qa (by omega) ?_))))
  have ht : (X ++ [(48 : Int)]).take ((X.length : Int)).toNat = X := by simp
  rw [ht, ← hx]
  exact qlM hd m (by omega)
theorem qlN {a : List Int} (h : Nm a) (hl : a.length ≤ 4096) : Ev (fun k => qD.f k a) (qaQ (txt (V a)), 0) := by
 unfold qD.f
 refine qQ (qdO h.dg (by omega)) (qd (by rw [qdN.2 ⟨hl, h⟩]; simp) ?_)
 by_cases c : a.length = 0
 ·have : a = [] := List.eq_nil_of_length_eq_zero c
  subst this
  exact qa (by simp) (Ev.now _)
 ·refine qd (by omega) ?_
  have hne : a ≠ [] := fun e => c (by rw [e]; rfl)
  have h0 := qk6 h hne
  have hb := qet h.dg
  obtain ⟨l, d, e, hd⟩ := qp1 (V a) h0
  obtain ⟨m, hm⟩ := qp2 (V a)
  have hml : (qcA (V a)).length < 100000000000 := by
   have : ∀ n, (qcA n).length ≤ 9 * bl n := by
    intro n
    induction n using Nat.strongRecOn with
    | _ n ih =>
     by_cases h : n = 0
     ·subst h; rw [qgZ]; simp
     ·rw [qiB h, List.length_append, qiy]
      have := ih (n / 1000000000) (by omega)
      have := qiA h
      omega
   have := this (V a)
   omega
  have key := qp3 (res := (qaQ (txt (V a)), 0)) (V a) [] (by simp; omega) (by rw [h]; omega) ?_
  ·rwa [h] at key
  ·rw [List.nil_append, hm, e]
   have ht : txt (V a) = (l ++ [d]).reverse := by unfold txt; rw [if_neg h0, e]
   rw [ht]
   refine qlM hd.1 m ?_
   rw [hm, e, List.length_append, List.length_replicate] at hml
   omega
theorem qp5 {r : Int} (h : 0 ≤ r ∧ r < 4294967296) : qL ((⟨#[48, 49, 50, 51, 52, 53, 54, 55, 56, 57]⟩ : ByteArray).extract ((Int.tmod r 10) : Int).toNat ((((Int.tmod r 10) + 1) % 4294967296) : Int).toNat) = [48 + ((r.toNat % 10 : Nat) : Int)] := by
 rw [qiz h.1]
 have e1 : (r % 10).toNat = r.toNat % 10 := by omega
 have e2 : (((r % 10) + 1) % 4294967296).toNat = r.toNat % 10 + 1 := by omega
 rw [e1, e2]
 exact qpZ (by omega)
theorem qp6 (s : ByteArray) : s.size = (qL s).length := by unfold qL; rw [List.length_map, Array.length_toList]; rfl
theorem qlO {n : Nat} :
  ∀ (j : Nat) (s : ByteArray) (r : Nat), j ≤ 9 → r < 10 ^ j → r < 4294967296 → s.size + j < 1000000000000 →
  ∃ u, qL u = (if n = 0 then dcl r else pd j r).reverse ++ qL s ∧ u.size ≤ s.size + j ∧ ∀ res, Ev (fun k => qN.l0 k (D n) u) res → Ev (fun k => qN.l1 k (D n) s (r : Int) ((9 - j : Nat) : Int)) res
 | 0, s, r, hj, hr, hr2, hs => by
  have : r = 0 := by simpa using hr
  subst this
  refine ⟨s, by rw [qba]; simp [pd], by omega, fun res h => ?_⟩
  refine qi ?_
  simp only [qN.l1]
  exact qd (by omega) h
 | j + 1, s, r, hj, hr, hr2, hs => by
  have e : wrap64 (((9 - (j + 1) : Nat) : Int) + 1) = ((9 - j : Nat) : Int) := by unfold wrap64; omega
  have hx := qp5 (r := (r : Int)) (by omega)
  have hd : Int.tdiv (r : Int) 10 % 4294967296 = ((r / 10 : Nat) : Int) := by rw [qlK (by omega)]; omega
  generalize hE : (⟨#[48, 49, 50, 51, 52, 53, 54, 55, 56, 57]⟩ : ByteArray).extract ((Int.tmod (r : Int) 10) : Int).toNat ((((Int.tmod (r : Int) 10) + 1) % 4294967296) : Int).toNat = E at hx
  have hEs : E.size = 1 := by rw [qp6, hx]; rfl
  have hm := qiz (n := (r : Int)) (by omega)
  obtain ⟨u, h1, h2, h3⟩ := qlO j (E ++ s) (r / 10) (by omega) (by rw [Nat.pow_succ] at hr; omega) (by omega) (by rw [ByteArray.size_append]; omega)
  have hsz : E.size + s.size < 35184372088832 := by omega
  by_cases c : n = 0
  ·by_cases c2 : r = 0
   ·subst c2
    refine ⟨s, by rw [if_pos c, qba]; simp, by omega, fun res h => ?_⟩
    refine qi ?_
    simp only [qN.l1]
    refine qa (by omega) (qd (by rw [c, qY]; simp) (qd (by omega) h))
   ·refine ⟨u, ?_, by rw [ByteArray.size_append] at h2; omega, fun res h => ?_⟩
    ·rw [h1, if_pos c, if_pos c, qlG, hx, qdj c2]; simp
    ·refine qi ?_
     simp only [qN.l1, hE, e, hd]
     clear e
     refine qa (by omega) (qd (by rw [c, qY]; simp) (qa (by omega) (qa (by omega) (qa (by omega) (qa (show _ ≤ ((10 : Nat) : Int) by omega) (qa hsz ?_))))))
     exact h3 res h
  ·refine ⟨u, ?_, by rw [ByteArray.size_append] at h2; omega, fun res h => ?_⟩
   ·rw [h1, if_neg c, if_neg c, qlG, hx, pd]; simp
   ·refine qi ?_
    simp only [qN.l1, hE, e, hd]
    clear e
    refine qa (by omega) (qa (by rw [qcw c]; simp) (qa (by omega) (qa (by omega) (qa (show _ ≤ ((10 : Nat) : Int) by omega) (qa hsz ?_)))))
    exact h3 res h
theorem qp7 : ∀ (n : Nat) (s : ByteArray), s.size + 9 * bl n < 100000000000 → (D n).length < 1000000000 → ∃ u, qL u = (dcl n).reverse ++ qL s ∧ Ev (fun k => qN.l0 k (D n) s) u := by
 intro n
 induction n using Nat.strongRecOn with
 | _ n ih =>
  intro s hl hd
  by_cases h : n = 0
  ·subst h
   refine ⟨s, by rw [qba]; simp, qi ?_⟩
   simp only [qN.l0]
   exact qd (by rw [qY]; simp) (Ev.now _)
  ·have hb := qiA h
   have hdl := qib (Nat.div_le_self n 1000000000)
   obtain ⟨u, h1, h2, h3⟩ := qlO (n := n / 1000000000) 9 s (n % 1000000000) (by omega) (by omega) (by omega) (by omega)
   obtain ⟨v, h4, h5⟩ := ih (n / 1000000000) (by omega) u (by omega) (by omega)
   refine ⟨v, ?_, qi ?_⟩
   ·rw [h4, h1]
    by_cases c : n / 1000000000 = 0
    ·rw [if_pos c, c, qba, Nat.mod_eq_of_lt (by omega)]; simp
    ·rw [if_neg c]
     have := qiw 9 n c
     rw [← List.append_assoc, ← List.reverse_append]
     exact congrArg (fun l => l.reverse ++ qL s) this
   ·simp only [qN.l0]
    refine qa (by rw [qcw h]; simp) ?_
    refine Ev.bind (qoP (qbk n) hd (by omega)) ?_
    rw [V_D, show (1000000000 : Int).toNat = 1000000000 from rfl]
    have go : Ev (fun k => qN.j2 k (D (n / 1000000000)) s ((n % 1000000000 : Nat) : Int)) v := by
     refine qi ?_
     simp only [qN.j2]
     exact h3 v h5
    by_cases c : n % 1000000000 = 0
    ·refine qd (by rw [c, qY]; simp) ?_
     rw [c] at go; exact go
    ·have e : D (n % 1000000000) = [((n % 1000000000 : Nat) : Int)] := by
      rw [qcw c, Nat.div_eq_of_lt (by omega), qY, Nat.mod_eq_of_lt (by omega)]
     refine qa (by rw [e]; simp) (qa (by rw [e]; simp) ?_)
     have hr : rd (D (n % 1000000000)) 0 = ((n % 1000000000 : Nat) : Int) := by rw [e]; rfl
     rw [hr]; exact go
theorem qp8 {a : List Int} (h : Nm a) (hl : a.length ≤ 4096) : Ev (fun k => qN.f k a) (qaQ (txt (V a))) := by
 unfold qN.f
 by_cases c : a.length = 0
 ·have : a = [] := List.eq_nil_of_length_eq_zero c
  subst this
  exact qa (by simp) (Ev.now _)
 ·refine qd (by omega) ?_
  have hne : a ≠ [] := fun e => c (by rw [e]; rfl)
  have h0 := qk6 h hne
  have hb := qet h.dg
  obtain ⟨u, h1, h2⟩ := qp7 (V a) ⟨#[]⟩ (by show 0 + _ < _; omega) (by rw [h]; omega)
  rw [h] at h2
  refine qq h2 (qpY ?_)
  rw [h1, qlH _ (fun x hx => by have := qix _ x hx; omega)]
  have e : qL (⟨#[]⟩ : ByteArray) = [] := rfl
  unfold txt
  rw [e, if_neg h0, List.append_nil]
def pvA : Nat → List Int → Nat
 | a, [] => a
 | a, c :: l => pvA (10 * a + (c - 48).toNat) l
theorem qiC : ∀ (l : List Int) (a : Nat), pvA a l = a * 10 ^ l.length + pvA 0 l
 | [], a => by simp [pvA]
 | c :: l, a => by
  rw [pvA, pvA, qiC l (10 * a + (c - 48).toNat), qiC l (10 * 0 + (c - 48).toNat), List.length_cons, Nat.pow_succ]
  grind
theorem qp9 (l m : List Int) (a : Nat) : pvA a (l ++ m) = pvA (pvA a l) m := by
 induction l generalizing a with
 | nil => rfl
 | cons c l ih => simp [pvA, ih]
def pv (l : List Int) : Nat := pvA 0 l
theorem qlP (l m : List Int) : pv (l ++ m) = pv l * 10 ^ m.length + pv m := by
 unfold pv; rw [qp9, qiC]
theorem qlQ (l : List Int) (c : Int) : pv (l ++ [c]) = 10 * pv l + (c - 48).toNat := by
 rw [qlP]; simp [pv, pvA]; omega
def qdR (l : List Int) : Prop := ∀ x ∈ l, 48 ≤ x ∧ x ≤ 57
instance (l : List Int) : Decidable (qdR l) := inferInstanceAs (Decidable (∀ x ∈ l, 48 ≤ x ∧ x ≤ 57))
def isT (l : List Int) : Bool := decide (qdR l) && (decide (l.length = 1) || decide (1 < l.length) && decide (l.getD 0 0 ≠ 48))
section
variable (s : ByteArray)
end
section
variable (s : ByteArray)
end
theorem qqa {c : Int} {l : List Int} : pv (c :: l) = (c - 48).toNat * 10 ^ l.length + pv l := by
 have := qlP [c] l
 simpa [pv, pvA] using this
theorem qiD {l : List Int} (hd : qdR l) (h0 : l.getD 0 0 ≠ 48) (hl : l ≠ []) : 10 ^ (l.length - 1) ≤ pv l := by
 cases l with
 | nil => exact absurd rfl hl
 | cons c l =>
  have hc := hd c (by simp)
  have h1 : c ≠ 48 := by simpa using h0
  rw [qqa]
  have : 1 * 10 ^ l.length ≤ (c - 48).toNat * 10 ^ l.length := Nat.mul_le_mul_right _ (by omega)
  simp; omega
theorem qqb : ∀ (n : Nat), pv (dcl n).reverse = n := by
 intro n
 induction n using Nat.strongRecOn with
 | _ n ih =>
  by_cases h : n = 0
  ·subst h; rw [qba]; rfl
  ·rw [qdj h, List.reverse_cons, qlQ, ih _ (by omega)]; omega
theorem qqc (n : Nat) : pv (txt n) = n := by
 unfold txt
 split
 ·subst n; rfl
 ·exact qqb n
theorem qlR {n : Nat} {c : Int} (hc : 48 ≤ c ∧ c ≤ 57) (h : n ≠ 0 ∨ c ≠ 48) : dcl (10 * n + (c - 48).toNat) = c :: dcl n := by
 rw [qdj (by omega)]
 congr 1
 ·omega
 ·congr 1; omega
theorem qlS : ∀ (m : Nat) (l : List Int), l.length = m → qdR l → l.getD 0 0 ≠ 48 → dcl (pv l) = l.reverse
 | 0, l, hm, _, _ => by
  have : l = [] := List.eq_nil_of_length_eq_zero hm
  subst this; simp [pv, pvA, qba]
 | m + 1, l, hm, hd, h0 => by
  rcases List.eq_nil_or_concat l with rfl | ⟨a, c, rfl⟩
  ·simp at hm
  rw [List.concat_eq_append] at hm hd h0 ⊢
  have hc := hd c (by simp)
  have hda : qdR a := fun x hx => hd x (by simp [hx])
  rw [qlQ, List.reverse_append, List.reverse_singleton, List.singleton_append]
  by_cases ha : a = []
  ·subst ha
   have : c ≠ 48 := by simpa using h0
   rw [qlR hc (.inr this)]; simp [pv, pvA, qba]
  ·have h1 : a.getD 0 0 ≠ 48 := by
    cases a with
    | nil => exact absurd rfl ha
    | cons x a => simpa using h0
   have h2 := qiD hda h1 ha
   have : 1 ≤ 10 ^ (a.length - 1) := Nat.one_le_pow _ _ (by omega)
   rw [qlR hc (.inl (by omega)), qlS m a (by simpa using hm) hda h1]
theorem qqd {l : List Int} (h : isT l = true) : txt (pv l) = l := by
 unfold isT at h
 simp only [Bool.and_eq_true, Bool.or_eq_true, decide_eq_true_eq] at h
 obtain ⟨hd, h⟩ := h
 by_cases h0 : l.getD 0 0 = 48
 ·have h1 : l.length = 1 := by
   rcases h with h | h
   ·exact h
   ·exact absurd h0 h.2
  match l, h1 with
  | [c], _ =>
   have : c = 48 := by simpa using h0
   subst this; rfl
 ·have hl : l ≠ [] := by rintro rfl; simp at h
  have h2 := qiD hd h0 hl
  have h3 : 1 ≤ 10 ^ (l.length - 1) := Nat.one_le_pow _ _ (by omega)
  unfold txt
  rw [if_neg (by omega), qlS _ l rfl hd h0, List.reverse_reverse]
theorem qqe (n : Nat) : qL (qaQ (txt n)) = txt n := qlH _ (fun x hx => by have := qix n x hx; omega)
theorem qqf {n k : Nat} (h : n < 10 ^ k) (hk : 1 ≤ k) : (txt n).length ≤ k := by
 unfold txt
 split
 ·simpa using hk
 ·have := qlJ k n h; simpa using this
theorem qlT (A Bl : List Int) (i : Nat) (x : Int) (hx : 0 ≤ x ∧ x < 4294967296) (hB : Dg Bl) (hl : A.length < 1000000000) (hlb : Bl.length < 1000000000) (hi : i < A.length) (res : List Int) : ∀ (b done r pb : List Int) (c : Int), Bl = pb ++ b → done.length = i + pb.length → b.length < r.length → Dg r → 0 ≤ c ∧ c < 4294967296 →
  Ev (fun k => qX.l0 k Bl (done ++ qaj x b r c) A A.length ((i + 1 : Nat) : Int)) res →
  Ev (fun k => qX.l1 k Bl (done ++ r) i x c A A.length i Bl Bl.length pb.length) res
 | [], done, r, pb, c, he, hd, hr, hg, hc, H => by
  obtain ⟨y, r, rfl⟩ : ∃ y r', r = y :: r' := by
   cases r with
   | nil => simp at hr
   | cons y r' => exact ⟨y, r', rfl⟩
  have hlen : Bl.length = pb.length := by rw [he]; simp
  refine qi ?_
  have e : wrap64 ((i : Int) + (Bl.length : Int)) = ((i + Bl.length : Nat) : Int) := by unfold wrap64; omega
  simp only [qX.l1, e, qcx (n := i) (by omega)]
  clear e
  refine qd (by omega) (qa (by omega) (qa (by simp; omega) ?_))
  have hs : (done ++ y :: r).set (((i + Bl.length : Nat) : Int)).toNat (c % 4294967296) = done ++ qaj x [] (y :: r) c := by
   rw [qde (by omega)]; simp [qaj]; omega
  rw [hs]; exact H
 | y :: b, done, r, pb, c, he, hd, hr, hg, hc, H => by
  obtain ⟨o, r, rfl⟩ : ∃ y r', r = y :: r' := by
   cases r with
   | nil => simp at hr
   | cons y r' => exact ⟨y, r', rfl⟩
  have hlen : Bl.length = pb.length + 1 + b.length := by rw [he]; simp; omega
  have hy : 0 ≤ y ∧ y < 4294967296 := by rw [he] at hB; exact hB.right.head
  have ho := hg.head
  have hp := qgS hx hy
  refine qi ?_
  have e : wrap64 ((i : Int) + (pb.length : Int)) = ((done.length : Nat) : Int) := by unfold wrap64; omega
  simp only [qX.l1, e, qcx (n := pb.length) (by omega)]
  clear e
  refine qa (by omega) (qa (by omega) (qa (by omega) (qa (by omega) (qa (by simp; omega) (qa (by omega) (qa (by simp; omega) ?_))))))
  have h1 : rd Bl (pb.length : Int) = y := by rw [he]; exact qaM rfl
  have h2 : rd (done ++ o :: r) (done.length : Int) = o := qaM rfl
  rw [h1, h2, qde rfl, u64 hx.1 (by omega), u64 hy.1 (by omega), u64 ho.1 (by omega), u64 (n := x * y) hp.1 (by omega), u64 (n := x * y + o) (by omega) (by omega), u64 (n := x * y + o + c) (by omega) (by omega)]
  have := qlT A Bl i x hx hB hl hlb hi res b (done ++ [(x * y + o + c) % 4294967296]) r (pb ++ [y]) ((x * y + o + c) / 4294967296) (by rw [he]; simp) (by simp [hd]; omega) (by simpa using hr) hg.tail (by omega) (by simpa [qaj] using H)
  simpa using this
theorem qlU (A Bl : List Int) (hA : Dg A) (hB : Dg Bl) (hl : A.length < 1000000000) (hlb : Bl.length < 1000000000) : ∀ (a done r pa : List Int), A = pa ++ a → done.length = pa.length → Dg done → Dg r → r.length = Bl.length + a.length → r.drop Bl.length = List.replicate a.length 0 →
  Ev (fun k => qX.l0 k Bl (done ++ r) A A.length done.length) (D (V (done ++ qcy a Bl r)))
 | [], done, r, pa, he, hd, hg, hr, hrl, hz => by
  have hlen : A.length = done.length := by rw [he, hd]; simp
  refine qi ?_
  simp only [qX.l0]
  refine qd (by omega) ?_
  refine Ev.bind (qfd (hg.app hr) (by simp; simp at hrl; omega)) ?_
  exact Ev.now _
 | x :: a, done, r, pa, he, hd, hg, hr, hrl, hz => by
  have hlen : A.length = done.length + 1 + a.length := by rw [he, hd]; simp; omega
  have hx : 0 ≤ x ∧ x < 4294967296 := by rw [he] at hA; exact hA.right.head
  have hrr := qif hx Bl r 0 a.length hB hr (by omega) (by simpa using hz)
  refine qi ?_
  simp only [qX.l0]
  refine qa (by omega) (qa (by omega) (qa (by omega) ?_))
  have h1 : rd A (done.length : Int) = x := by rw [he]; exact qaM (by omega)
  rw [h1]
  refine qlT A Bl done.length x hx hB hl hlb (by omega) _ Bl done r [] 0 rfl rfl (by simp at hrl; omega) hr (by omega) ?_
  obtain ⟨r0, r', e⟩ : ∃ r0 r', qaj x Bl r 0 = r0 :: r' := by
   cases h : qaj x Bl r 0 with
   | nil =>
    have hl := hrr.2.2.2
    rw [h] at hl
    simp at hrl hl; omega
   | cons r0 r' => exact ⟨r0, r', rfl⟩
  rw [e] at hrr
  have := qlU A Bl hA hB hl hlb a (done ++ [r0]) r' (pa ++ [x]) (by rw [he]; simp) (by simp [hd]) (hg.app (Dg.cons hrr.2.1.head.1 hrr.2.1.head.2 Dg.nil)) hrr.2.1.tail (by have := hrr.2.2.2; simp at this hrl; omega) (by simpa using hrr.2.2.1)
  rw [List.length_append, List.length_singleton, List.append_assoc] at this
  have e2 : done ++ qcy (x :: a) Bl r = done ++ [r0] ++ qcy a Bl r' := by simp [qcy, e]
  rw [e, e2]; simpa using this
theorem qiE {a b : List Int} (ha : Dg a) (hb : Dg b) (la : a.length < 1000000000) (lb : b.length < 1000000000) : Ev (fun k => qX.f k a b) (D (V a * V b)) := by
 unfold qX.f
 have e : wrap64 ((a.length : Int) + (b.length : Int)) = ((a.length + b.length : Nat) : Int) := by unfold wrap64; omega
 simp only [e]
 clear e
 refine qa (by omega) (qa (by omega) ?_)
 have := qlU a b ha hb la lb a [] (List.replicate (a.length + b.length) 0) [] rfl rfl Dg.nil (Dg.zeros _) (by simp; omega) (by simp)
 refine qq this ?_
 have h2 := qkD a b (List.replicate (a.length + b.length) 0) ha hb (Dg.zeros _) (by simp)
 simp [h2.1, qh7]
theorem qqg {a b : List Int} (ha : Nm a) (hb : Nm b) (la : a.length ≤ 4096) (lb : b.length ≤ 4096) : Ev (fun k => qc2.f k a b) (qaN (V a * V b)) := by
 have h1 : may a = true := qdN.2 ⟨la, ha⟩
 have h2 : may b = true := qdN.2 ⟨lb, hb⟩
 have tail : Ev (fun k => (qX.f k a b).bind fun t => (qa7.f t).bind fun bt => some (bt.1, bt.2)) (qaN (V a * V b)) := by
  refine Ev.bind (qiE ha.dg hb.dg (by omega) (by omega)) ?_
  exact qQ (qou _) (Ev.now _)
 unfold qc2.f
 refine Ev.bind (qot ha.dg hb.dg (by omega) (by omega)) ?_
 refine qd (by simp [h1, h2]) ?_
 by_cases c1 : a.length > 0
 ·refine qa (by omega) ?_
  by_cases c2 : b.length > 0
  ·refine qa (by omega) ?_
   have e : wrap64 (wrap64 ((a.length : Int) + (b.length : Int)) - 1) = ((a.length + b.length - 1 : Nat) : Int) := by unfold wrap64; omega
   rw [e]
   clear e
   by_cases c3 : a.length + b.length - 1 > 4096
   ·refine qa (by omega) (qq (Ev.now _) ?_)
    have p1 := qig ha (fun e => by subst e; simp at c1)
    have p2 := qig hb (fun e => by subst e; simp at c2)
    have p3 := Nat.mul_le_mul p1 p2
    rw [← Nat.pow_add] at p3
    have p4 : (D (V a * V b)).length > 4096 := by
     apply Nat.lt_of_not_le
     intro k
     have p5 := qfb (V a * V b)
     have p6 := Nat.pow_lt_pow_iff_right (a := 4294967296) (by omega) |>.1 (Nat.lt_of_le_of_lt p3 p5)
     omega
    unfold qaN; rw [if_pos p4]
   ·exact qd (by omega) tail
  ·exact qd (by omega) tail
 ·exact qd (by omega) tail
theorem qfq {n : Nat} (h : (D n).length ≤ 4096) : qaN n = (D n, 0) := by
 unfold qaN; rw [if_neg (by omega)]
theorem qg0 : D 1 = [1] := by
 have h2 : Nm [1] := by have := qgQ Dg.nil (d := 1) (by omega) (by omega); simpa using this
 exact h2
theorem qlV (n : Nat) (h : n < 9223372036854775808) : (BitVec.ofInt 64 (n : Int)).toNat = n := by
 rw [BitVec.ofInt_natCast, BitVec.toNat_ofNat]; exact Nat.mod_eq_of_lt (by omega)
theorem qqh (n : Nat) (h : n < 9223372036854775808) : Go.bits .and .i64 (n : Int) 1 = ((n % 2 : Nat) : Int) := by
 show IntKind.i64.wrap ((BitVec.ofInt 64 (n : Int) &&& BitVec.ofInt 64 ((1 : Nat) : Int)).toNat : Int) = _
 rw [BitVec.toNat_and, qlV n h, qlV 1 (by omega), Nat.and_one_is_mod, IntKind.wrap_i64]
 omega
theorem qqi (n i : Nat) (h : i ≤ 64) : shr .i64 (n : Int) (i : Int) = ((n / 2 ^ i : Nat) : Int) := by
 unfold shr
 have e : min (i : Int).toNat IntKind.i64.bits = i := by rw [Int.toNat_natCast]; exact Nat.min_eq_left h
 rw [e]; simp
theorem qiF {b n : Nat} (h : 1 ≤ b) : 1 ≤ b ^ n := Nat.one_le_pow _ _ h
theorem qg1 {b m n : Nat} (h : 1 ≤ b) (k : m ≤ n) : b ^ m ≤ b ^ n := Nat.pow_le_pow_right h k
theorem qqj (n i : Nat) : n / 2 ^ i = 2 * (n / 2 ^ (i + 1)) + n / 2 ^ i % 2 := by
 have : n / 2 ^ (i + 1) = n / 2 ^ i / 2 := by rw [Nat.pow_succ, Nat.div_div_eq_div_mul]
 rw [this]; omega
theorem qqk {m : Nat} (h : m ≠ 0) : 2 * (D m).length - 1 ≤ (D (m * m)).length := by
 have h1 := qkw h
 have h2 := Nat.mul_le_mul h1 h1
 rw [← Nat.pow_add] at h2
 apply Nat.le_of_not_lt
 intro k
 have h3 := qfb (m * m)
 have h4 : (4294967296 : Nat) ^ (D (m * m)).length ≤ 4294967296 ^ ((D m).length - 1 + ((D m).length - 1)) := Nat.pow_le_pow_right (by omega) (by omega)
 omega
theorem qql {L : Nat} (h : L ≤ 4096) : wrap64 (wrap64 (2 * (L : Int)) - 1) = 2 * (L : Int) - 1 := by unfold wrap64; omega
theorem qqm {p : Nat} (h : (D p).length ≤ 4096) : (D (p * p)).length ≤ 8192 := by
 have h1 := qfb p
 have h2 := Nat.mul_lt_mul'' h1 h1
 rw [← Nat.pow_add] at h2
 have := qfa h2
 omega
theorem qqn {x : Int} (h : 0 ≤ x ∧ x < 18446744073709551616) : Ev (fun k => qeb.f k x) ((bl x.toNat : Nat) : Int) := by
 unfold qeb.f
 exact Ev.bind (qoK h) (Ev.now _)
theorem qqo {b n i p q T t : Nat} (hbl : Dg [((b : Nat) : Int)]) (hi : i < 64) (hs : Go.bits .and .i64 (shr .i64 (n : Int) (i : Int)) 1 = ((t % 2 : Nat) : Int)) (hp : p ≠ 0) (hl : (D p).length ≤ 4096) (hpT : p * p ≤ T) (hqT : q ≤ T)
  (h1 : t % 2 = 1 → p * p * b = q) (h0 : t % 2 ≠ 1 → p * p = q) (ih : (D q).length ≤ 4096 → Ev (fun k => qP.l0 k (b : Int) (n : Int) (D q) ((i : Int) - 1)) (qaN T)) :
  Ev (fun k => qP.l0 k (b : Int) (n : Int) (D p) (i : Int)) (qaN T) := by
 have hsl := qqk hp
 have hss := qqm hl
 refine qi ?_
 simp only [qP.l0, qql hl, hs]
 clear hs
 refine qa (by omega) ?_
 by_cases c1 : 2 * (D p).length > 4097
 ·refine qa (by omega) (qq (Ev.now _) ?_)
  exact (qij (m := p * p) (by omega) hpT).symm
 ·refine qd (by omega) (Ev.bind (qiE (qbk _) (qbk _) (by omega) (by omega)) ?_)
  rw [V_D]
  refine qa (by omega) ?_
  have next : Ev (fun k => qP.j4 k (b : Int) (n : Int) (D q) (i : Int)) (qaN T) := by
   refine qi ?_
   simp only [qP.j4, qdh (n := i) (by omega)]
   by_cases c2 : (D q).length > 4096
   ·refine qa (by omega) (qq (Ev.now _) ?_)
    exact (qij c2 hqT).symm
   ·exact qd (by omega) (ih (by omega))
  by_cases c3 : t % 2 = 1
  ·refine qa (by omega) (Ev.bind (qiE (qbk _) hbl (by omega) (by simp)) ?_)
   have hv : V (D (p * p)) * V [((b : Nat) : Int)] = q := by
    rw [V_D, ← h1 c3]
    simp only [qad, qdM, Int.toNat_natCast, Nat.mul_zero, Nat.add_zero]
   rw [hv]; exact next
  ·refine qd (by omega) ?_
   rw [h0 c3]; exact next
theorem qlW {b : Nat} (hb : 1 ≤ b ∧ b < 4294967296) (hbl : Dg [((b : Nat) : Int)]) {n : Nat} (hn : n < 9223372036854775808) : ∀ (i : Nat), i ≤ 64 → (D (b ^ (n / 2 ^ i))).length ≤ 4096 → Ev (fun k => qP.l0 k (b : Int) (n : Int) (D (b ^ (n / 2 ^ i))) ((i : Int) - 1)) (qaN (b ^ n))
 | 0, hi, hl => by
  refine qi ?_
  simp only [qP.l0]
  refine qd (by decide) (qq (Ev.now _) ?_)
  rw [Nat.pow_zero, Nat.div_one] at hl ⊢
  exact (qfq hl).symm
 | i + 1, hi, hl => by
  have e0 : ((i + 1 : Nat) : Int) - 1 = (i : Int) := by rw [Int.natCast_add]; exact Int.add_sub_cancel _ _
  have hh := qqj n i
  have hle : n / 2 ^ i ≤ n := Nat.div_le_self _ _
  have hm : b ^ (n / 2 ^ (i + 1)) ≠ 0 := Nat.ne_of_gt (qiF hb.1)
  have hsq : b ^ (n / 2 ^ (i + 1)) * b ^ (n / 2 ^ (i + 1)) = b ^ (2 * (n / 2 ^ (i + 1))) := by rw [← Nat.pow_add, Nat.two_mul]
  have hle2 : 2 * (n / 2 ^ (i + 1)) ≤ n / 2 ^ i := by rw [hh]; exact Nat.le_add_right _ _
  have hbit : Go.bits .and .i64 (shr .i64 (n : Int) (i : Int)) 1 = ((n / 2 ^ i % 2 : Nat) : Int) := by
   rw [qqi n i (Nat.le_of_lt hi), qqh _ (Nat.lt_of_le_of_lt hle hn)]
  rw [e0]
  refine qqo (q := b ^ (n / 2 ^ i)) hbl hi hbit hm hl ?_ (qg1 hb.1 hle) ?_ ?_ (fun h => qlW hb hbl hn i (Nat.le_of_lt hi) h)
  ·rw [hsq]; exact qg1 hb.1 (Nat.le_trans hle2 hle)
  ·intro c; rw [hsq, ← Nat.pow_succ]; congr 1; rw [c] at hh; exact hh.symm
  ·intro c
   have c' : n / 2 ^ i % 2 = 0 := (Nat.mod_two_eq_zero_or_one _).resolve_right c
   rw [hsq]; congr 1; rw [c'] at hh; exact hh.symm
theorem qqp {b n : Nat} (hb : b < 4294967296) (hn : n < 9223372036854775808) : Ev (fun k => qP.f k (b : Int) (n : Int)) (qaN (b ^ n)) := by
 have h1 : Nm [1] := by rw [← qg0]; exact qb9 1
 have one : ∀ z, z = true → b ^ n = 1 → Ev (fun k => qP.j0 k (b : Int) (n : Int) z) (qaN (b ^ n)) := by
  rintro z rfl e
  refine qi ?_
  simp only [qP.j0]
  refine qa trivial (Ev.bind (qgR (by omega) (by omega)) (qq (Ev.now _) ?_))
  rw [e]
  exact (qfq (n := 1) (by rw [qg0]; simp)).symm
 unfold qP.f
 refine qd (by omega) ?_
 by_cases c0 : n = 0
 ·refine qa (by omega) (one true rfl (by subst c0; simp))
 ·refine qd (by omega) ?_
  by_cases c1 : b = 1
  ·refine one _ (by subst c1; rfl) (by subst c1; simp)
  ·have e : decide ((b : Int) = 1) = false := decide_eq_false (by omega)
   rw [e]
   refine qi ?_
   simp only [qP.j0]
   refine qd (by simp) ?_
   by_cases c2 : b = 0
   ·refine qa (by omega) (qq (Ev.now _) ?_)
    subst c2
    rw [Nat.zero_pow (by omega), qfq (by rw [qY]; simp), qY]
   ·refine qd (by omega) ?_
    by_cases c3 : n > 131072
    ·refine qa (by omega) (qq (Ev.now _) ?_)
     have p1 : 2 ^ n ≤ b ^ n := Nat.pow_le_pow_left (by omega) n
     exact (qoF (by omega) p1).symm
    ·refine qd (by omega) (Ev.bind (qgR (by omega) (by omega)) ?_)
     rw [u64 (by omega) (by omega)]
     refine Ev.bind (qqn (by omega)) ?_
     have hbl : bl n ≤ 63 := qbV (by omega)
     rw [Int.toNat_natCast, qdh (by omega)]
     have := qlW (b := b) (by omega) (Dg.cons (by omega) (by omega) Dg.nil) hn (bl n) (by omega)
     rw [Nat.div_eq_of_lt (qbE n), Nat.pow_zero] at this
     exact this (by rw [qg0]; simp)
theorem qlX (n : Nat) (h : n < 9223372036854775808) : wrap64 (Int.tdiv (n : Int) 2) = ((n / 2 : Nat) : Int) := by
 rw [Int.tdiv_eq_ediv_of_nonneg (by omega), qa9 (by omega) (by omega)]; omega
theorem qqq (n : Nat) : Int.tmod (n : Int) 2 = ((n % 2 : Nat) : Int) := by
 rw [Int.tmod_eq_emod_of_nonneg (by omega)]; omega
theorem qqr {M K : Nat} (hK : K < 100000000) (hM : M < 4294967296 ^ K) : ∀ (n : Nat), n < 9223372036854775808 → ∀ (out sq : Nat) (o s : Nat), out ≤ o → sq ≤ s → 1 ≤ o → 1 ≤ s → (0 < n → s ≤ M) → o * s ^ n ≤ M → s < 4294967296 ^ K →
  Ev (fun k => qat.l0 k (n : Int) (D out) (D sq)) (D (out * sq ^ n)) := by
 intro n
 induction n using Nat.strongRecOn with
 | _ n ih =>
  intro hn out sq o s ho hs h1 h2 hsM hT hs9
  have lenM : ∀ {x : Nat}, x ≤ M → (D x).length < 100000000 := by
   intro x hx
   have := qfa (Nat.lt_of_le_of_lt hx hM)
   omega
  have hoM : out ≤ M := by
   have : o * 1 ≤ o * s ^ n := Nat.mul_le_mul_left _ (qiF h2)
   omega
  have hls : (D sq).length < 100000000 := by have := qfa (Nat.lt_of_le_of_lt hs hs9); omega
  refine qi ?_
  simp only [qat.l0, qlX n hn, qqq]
  by_cases c : n = 0
  ·subst c
   refine qd (by omega) (qq (Ev.now _) ?_)
   simp
  ·refine qa (by omega) ?_
   have hsM' := hsM (by omega)
   have hsq : sq ^ n = (sq * sq) ^ (n / 2) * sq ^ (n % 2) := by
    rw [← Nat.pow_two, ← Nat.pow_mul, ← Nat.pow_add]; congr 1; omega
   have hsp : s ^ n = (s * s) ^ (n / 2) * s ^ (n % 2) := by
    rw [← Nat.pow_two, ← Nat.pow_mul, ← Nat.pow_add]; congr 1; omega
   have hss : 0 < n / 2 → s * s ≤ M := by
    intro h
    have h3 : s ^ 2 ≤ s ^ n := qg1 h2 (by omega)
    have h4 : 1 * s ^ n ≤ o * s ^ n := Nat.mul_le_mul_right _ h1
    rw [Nat.pow_two] at h3
    omega
   have go : ∀ (out' o' : Nat), out' ≤ o' → 1 ≤ o' → o' * (s * s) ^ (n / 2) ≤ M → out' * (sq * sq) ^ (n / 2) = out * sq ^ n → (D out').length < 100000000 →
     Ev (fun k => qat.j1 k (n : Int) (D out') (D sq)) (D (out * sq ^ n)) := by
    intro out' o' k1 k2 k3 k4 k5
    refine qi ?_
    simp only [qat.j1, qlX n hn]
    by_cases c2 : 0 < n / 2
    ·refine qa (by omega) (Ev.bind (qii (qbk _) (qbk _) hls hls) ?_)
     rw [V_D]
     have := ih (n / 2) (by omega) (by omega) out' (sq * sq) o' (s * s) k1 (Nat.mul_le_mul hs hs) k2 (Nat.mul_le_mul h2 h2) (fun _ => hss c2) k3 (Nat.lt_of_le_of_lt (hss c2) hM)
     rwa [k4] at this
    ·refine qd (by omega) ?_
     have e : n / 2 = 0 := by omega
     rw [e] at k3 k4 ⊢
     have := ih 0 (by omega) (by omega) out' sq o' s k1 hs k2 h2 (fun h => absurd h (by omega)) (by simpa using k3) hs9
     rwa [Nat.pow_zero, ← Nat.pow_zero (sq * sq), k4] at this
   by_cases c1 : n % 2 = 1
   ·refine qa (by omega) (Ev.bind (qii (qbk _) (qbk _) (lenM hoM) hls) ?_)
    rw [V_D, V_D]
    have k3 : o * s * (s * s) ^ (n / 2) ≤ M := by
     rw [hsp, c1, Nat.pow_one] at hT
     have : o * s * (s * s) ^ (n / 2) = o * ((s * s) ^ (n / 2) * s) := by rw [Nat.mul_assoc, Nat.mul_comm s]
     omega
    refine go (out * sq) (o * s) (Nat.mul_le_mul ho hs) (Nat.mul_le_mul h1 h2) k3 ?_ ?_
    ·rw [hsq, c1, Nat.pow_one, Nat.mul_assoc, Nat.mul_comm sq]
    ·apply lenM
     have : o * s * 1 ≤ o * s * (s * s) ^ (n / 2) := Nat.mul_le_mul_left _ (qiF (Nat.mul_le_mul h2 h2))
     have := Nat.mul_le_mul ho hs
     omega
   ·refine qd (by omega) ?_
    have c1' : n % 2 = 0 := by omega
    refine go out o ho h1 ?_ ?_ (lenM hoM)
    ·rw [hsp, c1', Nat.pow_zero, Nat.mul_one] at hT; exact hT
    ·rw [hsq, c1', Nat.pow_zero, Nat.mul_one]
theorem qqs {b n : Nat} (hb : b < 4294967296) (hn : n < 9223372036854775808) {K : Nat} (hK : K < 100000000) (hK1 : 1 ≤ K) (h : (max 1 b) ^ n < 4294967296 ^ K) : Ev (fun k => qat.f k (b : Int) (n : Int)) (D (b ^ n)) := by
 unfold qat.f
 rw [u64 (by omega) (by omega)]
 refine Ev.bind (qid (by omega) (by omega)) ?_
 rw [Int.toNat_natCast]
 have hs : max 1 b < 4294967296 ^ K := Nat.lt_of_lt_of_le (show max 1 b < 4294967296 ^ 1 by omega) (Nat.pow_le_pow_right (by omega) hK1)
 have := qqr (M := max 1 b ^ n) hK h n hn 1 b 1 (max 1 b) (by omega) (by omega) (by omega) (by omega) ?_ (by omega) hs
 ·rw [qg0, Nat.one_mul] at this; exact this
 ·intro h0
  have h1 : max 1 b ^ 1 ≤ max 1 b ^ n := qg1 (by omega) h0
  rwa [Nat.pow_one] at h1
theorem qqt (n : Nat) : 0 < 10 ^ n := Nat.pow_pos (by omega)
theorem qg2 (n : Nat) : bl (5 ^ n) ≤ 3 * n + 1 := by
 refine qbV ?_
 have h1 : 5 ^ n ≤ 8 ^ n := Nat.pow_le_pow_left (by omega) n
 rw [Nat.pow_succ, Nat.pow_mul]
 have : (2 : Nat) ^ 3 = 8 := rfl
 rw [this]
 have := Nat.pow_pos (n := n) (show 0 < 8 by omega)
 omega
def bx (l : List UInt8) : ByteArray := ⟨l.toArray⟩
theorem qg3 (l : List UInt8) : tl (bx l) = l := rfl
theorem qqu (s : ByteArray) : bx (tl s) = s := qfc.1 rfl
theorem qaP (l : List UInt8) : (bx l).size = l.length := by rw [qor, qg3]
theorem qlY {l : List UInt8} : bx l = (⟨#[]⟩ : ByteArray) ↔ l = [] := by rw [← qoq, qg3]
theorem qlZ {b : UInt8} : isD b = true ↔ 48 ≤ (b.toNat : Int) ∧ (b.toNat : Int) ≤ 57 := by unfold isD; rw [decide_eq_true_iff]; omega
section
variable {s : ByteArray} (hs : s.size ≤ 1000000)
include hs
end
theorem qfr (l : List UInt8) : qL (bx l) = l.map fun b => (b.toNat : Int) := rfl
theorem qiG : ∀ (l : List UInt8) (a : Nat), pvA a (l.map fun b => (b.toNat : Int)) = qdg l a
 | [], a => rfl
 | b :: l, a => by
  have e : ((b.toNat : Int) - 48).toNat = b.toNat - 48 := by omega
  rw [List.map_cons, pvA, e, qiG l]
  rfl
theorem ql0 (l : List UInt8) : pv (qL (bx l)) = qdg l 0 := qiG l 0
theorem ql1 {l : List UInt8} (h : l.all isD = true) : qdR (qL (bx l)) := by
 intro x hx
 rw [qfr, List.mem_map] at hx
 obtain ⟨b, hb, rfl⟩ := hx
 exact qlZ.1 (List.all_eq_true.1 h b hb)
def tz0 (l : List UInt8) : List UInt8 := l.dropWhile (· == 48)
theorem qiH (l : List UInt8) : qdg (tz0 l) 0 = qdg l 0 := by
 induction l with
 | nil => rfl
 | cons b l ih =>
  unfold tz0 at *
  by_cases c : b = 48
  ·subst c; rw [List.dropWhile_cons]; simp only [beq_self_eq_true, if_true]; rw [ih]; rfl
  ·rw [List.dropWhile_cons, if_neg (by simpa using c)]
theorem qiI {l : List UInt8} (h : l.all isD = true) : (tz0 l).all isD = true := by
 induction l with
 | nil => rfl
 | cons b l ih =>
  have h' := h
  simp only [List.all_cons, Bool.and_eq_true] at h
  unfold tz0 at *
  by_cases c : b = 48
  ·subst c; rw [List.dropWhile_cons]; simpa using ih h.2
  ·rw [List.dropWhile_cons, if_neg (by simpa using c)]; exact h'
theorem qiJ {l : List UInt8} {b : UInt8} {r : List UInt8} (h : tz0 l = b :: r) : b ≠ 48 := by
 have := qos _ l h
 simpa using this
theorem qqv {l : List UInt8} {b : UInt8} {r : List UInt8} (h : l.all isD = true) (e : tz0 l = b :: r) : isT (qL (bx (b :: r))) = true := by
 have h1 := qiI h
 rw [e] at h1
 have h2 := qiJ e
 have hd : decide (qdR (qL (bx (b :: r)))) = true := decide_eq_true (ql1 h1)
 unfold isT
 rw [hd, qfr]
 have h3 : (b.toNat : Int) ≠ 48 := fun c => h2 (UInt8.toNat_inj.1 (by show _ = 48; omega))
 cases r with
 | nil => rfl
 | cons c t => simp [h3]
theorem qqw {l : List UInt8} (h : l.all isD = true) : tz0 l = [] ↔ qdg l 0 = 0 := by
 constructor
 ·intro e; rw [← qiH, e]; rfl
 ·intro e
  cases ht : tz0 l with
  | nil => rfl
  | cons b r =>
   have h1 := qiI h
   have h2 := qiJ ht
   have h3 := qiH l
   rw [ht] at h1 h3
   have h4 := qiD (l := qL (bx (b :: r))) (ql1 h1) (by
    rw [qfr]; show ((b.toNat : Int)) ≠ 48
    exact fun c => h2 (UInt8.toNat_inj.1 (by show _ = 48; omega))) (by rw [qfr]; simp)
   rw [ql0] at h4
   have := qqt ((qL (bx (b :: r))).length - 1)
   omega
theorem qqx (k : Nat) : qaa.f (k + 140) 2 4591870180066957722 = some ((⟨#[48, 46, 49]⟩ : ByteArray), 0) := by kernel_rfl
theorem qqy (k : Nat) : qe8.f (k + 60) 1 1 (⟨#[49, 54, 55, 55, 55, 50, 49, 55]⟩ : ByteArray) = some (1266679808, 16, 0) := by kernel_rfl
theorem qqz : Ev (fun k => qdb.f k) true := by
 unfold qdb.f
 refine Ev.bind (qlF qqx) (Ev.bind (qlF qqy) ?_)
 exact qa rfl (qa rfl (qa rfl (qa rfl (qq (Ev.now _) (by simp)))))
theorem qiK : Ev (fun k => (qdb.f k).bind fun t => some t) true := Ev.bind qqz (Ev.now _)
theorem qqA {f m : Int} (h : fmE f m ≠ 0) (l : List Int) : Ev (fun k => qbg.f k f m l) (fmE f m) := by
 unfold qbg.f
 unfold fmE at *
 refine qQ (qiu f) ?_
 by_cases c : isF f
 ·rw [if_pos c] at h ⊢
  have hm : ¬ isM m := fun k => h (by rw [if_pos k])
  rw [if_neg hm, decide_eq_true c]
  refine qd (by simp) (qQ (qly m) ?_)
  rw [decide_eq_false hm]
  exact qa rfl (Ev.now _)
 ·rw [if_neg c, decide_eq_false c]
  exact qa rfl (Ev.now _)
def dx (n : Nat) : List UInt8 := tl (qaQ (txt n))
theorem qiL (n : Nat) : qaQ (txt n) = bx (dx n) := (qqu _).symm
theorem qg4 (n : Nat) : (dx n).map (fun b => (b.toNat : Int)) = txt n := qqe n
theorem ql2 (n : Nat) : (dx n).all isD = true := by
 rw [List.all_eq_true]
 intro b hb
 have : ((b.toNat : Int)) ∈ txt n := by rw [← qg4]; exact List.mem_map.2 ⟨b, hb, rfl⟩
 exact qlZ.2 (qix n _ this)
theorem ql3 (n : Nat) : qdg (dx n) 0 = n := by rw [← qiG, qg4]; exact qqc n
theorem qqB {a b : UInt8} (h : (a.toNat : Int) = (b.toNat : Int)) : a = b := UInt8.toNat_inj.1 (by omega)
theorem qqC {l r : List UInt8} {b : UInt8} (h : l.all isD = true) (e : l = b :: r) (hb : b ≠ 48) : dx (qdg l 0) = l := by
 have e1 : tz0 l = b :: r := by
  subst e
  unfold tz0
  rw [List.dropWhile_cons, if_neg (by simpa using hb)]
 have h1 := qqd (qqv h e1)
 rw [← e, ql0] at h1
 have h2 := (qg4 (qdg l 0)).trans h1
 rw [qfr] at h2
 exact (List.map_inj_right (fun x y hxy => qqB hxy)).1 h2
theorem qqD {n : Nat} (h : n ≠ 0) : ∃ b r, dx n = b :: r ∧ b ≠ 48 := by
 cases e : tz0 (dx n) with
 | nil => exact absurd ((qqw (ql2 n)).1 e) (by rw [ql3]; exact h)
 | cons b r =>
  have hb := qiJ e
  have h1 := qiI (ql2 n)
  have h2 := qiH (dx n)
  rw [e] at h1 h2
  rw [ql3] at h2
  have h3 := qqC h1 rfl hb
  rw [h2] at h3
  exact ⟨b, r, h3, hb⟩
theorem qqE {n : Nat} (h : n ≠ 0) : 0 < (dx n).length := by
 obtain ⟨b, r, e, _⟩ := qqD h
 rw [e]; simp
theorem qqF {n k : Nat} (h : n < 10 ^ k) (hk : 1 ≤ k) : (dx n).length ≤ k := by
 have := qqf h hk
 rw [← qg4, List.length_map] at this
 exact this
theorem qq9 {b : UInt8} {r : List UInt8} (h : (b :: r).all isD = true) : isD b = true ∧ r.all isD = true := by
 simpa only [List.all_cons, Bool.and_eq_true] using h
def exN (z : Nat) (e : Int) : Nat := z * 2 ^ e.toNat * 5 ^ (-e).toNat
def exG (e : Int) : Nat := (-e).toNat
theorem qqG {z : Nat} (h : z ≠ 0) (e : Int) : exN z e ≠ 0 := Nat.mul_ne_zero (Nat.mul_ne_zero h (Nat.ne_of_gt (qW _))) (Nat.ne_of_gt (Nat.pow_pos (by omega)))
def qav (g : Nat) (t : List UInt8) : List UInt8 := List.replicate (g + 1 - t.length) 48 ++ t
theorem qiM (g : Nat) (t : List UInt8) : g + 1 ≤ (qav g t).length ∧ (qav g t).length = max (g + 1) t.length := by
 unfold qav
 rw [List.length_append, List.length_replicate]; omega
def exW (z : Nat) (e : Int) : List UInt8 := if 0 ≤ e then dx (exN z e) else (qav (exG e) (dx (exN z e))).take ((qav (exG e) (dx (exN z e))).length - exG e)
def exP (z : Nat) (e : Int) : List UInt8 := if 0 ≤ e then [] else (qav (exG e) (dx (exN z e))).drop ((qav (exG e) (dx (exN z e))).length - exG e)
def exT (s : Bool) (z : Nat) (e : Int) : List UInt8 := sgT s ++ (exW z e ++ if exP z e = [] then [] else 46 :: exP z e)
theorem ql4 (z : Nat) (e : Int) : (exP z e).length = exG e := by
 unfold exP
 by_cases c : 0 ≤ e
 ·rw [if_pos c]; unfold exG; simp; omega
 ·rw [if_neg c, List.length_drop]
  have := (qiM (exG e) (dx (exN z e))).1
  omega
theorem qqH {z : Nat} (hz : z ≠ 0) (e : Int) : 0 < (exW z e).length ∧ (exW z e).length ≤ (dx (exN z e)).length + 1 := by
 unfold exW
 have := qqE (qqG hz e)
 by_cases c : 0 ≤ e
 ·rw [if_pos c]; omega
 ·rw [if_neg c, List.length_take]
  have := (qiM (exG e) (dx (exN z e)))
  omega
theorem qqI (n : Nat) : 5 ^ n ≤ 10 ^ (7 * (n / 10 + 1)) := by
 have h1 : 5 ^ n ≤ 5 ^ (10 * (n / 10 + 1)) := Nat.pow_le_pow_right (by omega) (by omega)
 have h2 : (5 ^ 10) ^ (n / 10 + 1) ≤ (10 ^ 7) ^ (n / 10 + 1) := Nat.pow_le_pow_left (by decide) _
 rw [← Nat.pow_mul, ← Nat.pow_mul] at h2
 omega
theorem qqJ (n : Nat) : 2 ^ n ≤ 10 ^ (3 * (n / 8 + 1)) := by
 have h1 : 2 ^ n ≤ 2 ^ (8 * (n / 8 + 1)) := Nat.pow_le_pow_right (by omega) (by omega)
 have h2 : (2 ^ 8) ^ (n / 8 + 1) ≤ (10 ^ 3) ^ (n / 8 + 1) := Nat.pow_le_pow_left (by decide) _
 rw [← Nat.pow_mul, ← Nat.pow_mul] at h2
 omega
theorem ql5 {z y p K : Nat} (hz : z < 10 ^ 16) (hy : y ≤ 10 ^ p) (hp : 16 + p ≤ K) : z * y < 10 ^ K := by
 have h5 : z * y ≤ z * 10 ^ p := Nat.mul_le_mul_left _ hy
 have h6 : z * 10 ^ p < 10 ^ 16 * 10 ^ p := Nat.mul_lt_mul_of_pos_right hz (Nat.pow_pos (by omega))
 rw [← Nat.pow_add] at h6
 exact Nat.lt_of_le_of_lt h5 (Nat.lt_of_lt_of_le h6 (Nat.pow_le_pow_right (by omega) hp))
theorem qiN {z : Nat} {e : Int} (hb : bl z ≤ 53) (h1 : -1074 ≤ e) (h2 : e ≤ 1024) : (dx (exN z e)).length ≤ 800 := by
 obtain ⟨K, hK⟩ : ∃ K : Nat, K = 800 := ⟨_, rfl⟩
 rw [← hK]
 apply qqF _ (by omega)
 unfold exN
 have hz : z < 2 ^ bl z := qbE z
 have hz2 : 2 ^ bl z ≤ 2 ^ 53 := Nat.pow_le_pow_right (by omega) hb
 have hz3 : z < 10 ^ 16 := Nat.lt_of_lt_of_le (Nat.lt_of_lt_of_le hz hz2) (by decide)
 by_cases c : 0 ≤ e
 ·rw [show (-e).toNat = 0 by omega, Nat.pow_zero, Nat.mul_one]
  exact ql5 hz3 (qqJ e.toNat) (by omega)
 ·rw [show e.toNat = 0 by omega, Nat.pow_zero, Nat.mul_one]
  exact ql5 hz3 (qqI (-e).toNat) (by omega)
theorem qbW (a b : List UInt8) : bx a ++ bx b = bx (a ++ b) := qfc.1 (by rw [qop]; rfl)
theorem ql6 (T : List UInt8) (n : Nat) : (bx T).extract 0 n = bx (T.take n) := qfc.1 (by rw [qkx]; rfl)
theorem ql7 (T : List UInt8) (n : Nat) : (bx T).extract n (bx T).size = bx (T.drop n) := qfc.1 (by rw [qkx, qaP, qg3, qg3, List.take_length])
theorem qqK {n : Int} (h0 : 0 ≤ n) (h1 : n ≤ 1000000) : qaB.f (⟨#[48]⟩ : ByteArray) n = some (bx (List.replicate n.toNat 48)) := by
 unfold qaB.f
 have hs : (⟨#[48]⟩ : ByteArray).size = 1 := rfl
 rw [if_pos ⟨h0, by rw [hs]; omega, by omega⟩]
 have : Lib.repeatL (⟨#[48]⟩ : ByteArray).data.toList n.toNat = List.replicate n.toNat 48 := qlE 48 _
 rw [this]; rfl
def nmT (f : Int) (w : Nat) : List UInt8 := if cls f w = 5 then [110, 97, 110] else if cls f w = 4 then sgT (qE f w) ++ [105, 110, 102] else if cls f w = 1 then sgT (qE f w) ++ [48] else []
def qbb (f : Int) (w : Nat) : Bool := decide (cls f w = 5 ∨ cls f w = 4 ∨ cls f w = 1)
theorem ql8 {f : Int} {w : Nat} (h : qbb f w = false) : cls f w ≠ 5 ∧ cls f w ≠ 4 ∧ cls f w ≠ 1 := by
 have := of_decide_eq_false h
 exact ⟨fun c => this (.inl c), fun c => this (.inr (.inl c)), fun c => this (.inr (.inr c))⟩
theorem nm5 {f : Int} {w : Nat} (c : cls f w = 5) : (bx (nmT f w), qbb f w) = (bx [110, 97, 110], true) := by unfold nmT qbb; rw [if_pos c, decide_eq_true (.inl c)]
theorem nm4 {f : Int} {w : Nat} (c : cls f w = 4) : (bx (nmT f w), qbb f w) = (bx (sgT (qE f w) ++ [105, 110, 102]), true) := by unfold nmT qbb; rw [if_neg (by omega), if_pos c, decide_eq_true (.inr (.inl c))]
theorem nm1 {f : Int} {w : Nat} (c : cls f w = 1) : (bx (nmT f w), qbb f w) = (bx (sgT (qE f w) ++ [48]), true) := by unfold nmT qbb; rw [if_neg (by omega), if_neg (by omega), if_pos c, decide_eq_true (.inr (.inr c))]
theorem nm0 {f : Int} {w : Nat} (c5 : ¬ cls f w = 5) (c4 : ¬ cls f w = 4) (c1 : ¬ cls f w = 1) : (bx (nmT f w), qbb f w) = (bx [], false) := by
 unfold nmT qbb; rw [if_neg c5, if_neg c4, if_neg c1, decide_eq_false (by rintro (c | c | c); exact c5 c; exact c4 c; exact c1 c)]
theorem ql9 (s : Bool) (a b : Int) {t : List UInt8} (ht : t.length ≤ 10) : Ev (fun k => qaC.j1 k s a b (bx t)) (bx (sgT s ++ t), true, 0) := by
 refine qi ?_; simp only [qaC.j1]
 have hs := qaP t
 cases s with
 | true => exact qa rfl (qa (show 1 + (bx t).size < 35184372088832 by omega) (qq (Ev.now _) (by rw [show (⟨#[45]⟩ : ByteArray) = bx [45] from rfl, qbW]; rfl)))
 | false => exact qd (by simp) (Ev.now _)
theorem qqL {f : Int} (h : isF f) {w : Nat} (hw : w < 2 * sg f) : Ev (fun k => qaC.f k f (w : Int)) (bx (nmT f w), qbb f w, 0) := by
 unfold qaC.f
 refine Ev.bind (qpA h hw) (qd (by simp) (Ev.bind (qpB h hw) ?_))
 unfold nmT qbb
 by_cases c5 : cls f w = 5
 ·rw [if_pos c5, decide_eq_true (.inl c5)]
  exact qa c5 (Ev.now _)
 rw [if_neg c5]
 by_cases c4 : cls f w = 4
 ·rw [if_pos c4, decide_eq_true (.inr (.inl c4))]
  exact qd c5 (qa c4 (ql9 (t := [105, 110, 102]) _ _ _ (by decide)))
 rw [if_neg c4]
 by_cases c1 : cls f w = 1
 ·rw [if_pos c1, decide_eq_true (.inr (.inr c1))]
  exact qd c5 (qd c4 (qa c1 (ql9 (t := [48]) _ _ _ (by decide))))
 ·rw [if_neg c1, decide_eq_false (by rintro (c | c | c); exact c5 c; exact c4 c; exact c1 c)]
  exact qd c5 (qd c4 (qd c1 (Ev.now _)))
theorem qqM {f : Int} (h : isF f) {w : Nat} (hw : ¬ w < 2 * sg f) : Ev (fun k => qaC.f k f (w : Int)) (⟨#[]⟩, false, 6) := by
 unfold qaC.f
 exact Ev.bind (qpQ h hw) (qa (by simp) (Ev.now _))
theorem qqN {f : Int} (h : ¬ isF f) (w : Int) : Ev (fun k => qaC.f k f w) (⟨#[]⟩, false, 4) := by
 unfold qaC.f
 exact Ev.bind (qpV h w) (qa (by simp) (Ev.now _))
theorem qqO {f : Int} (h : isF f) (w : Nat) : Ev (fun k => qbB.f k f (w : Int)) (bx (nmT f w), qbb f w) := by
 have hgo : ∀ {r}, Ev (fun k => qbB.j0 k f (w : Int) (bx (sgT (qE f w)))) r → Ev (fun k => qbB.f k f (w : Int)) r := by
  intro r hr
  unfold qbB.f
  refine qQ (qiv h w) ?_
  cases hn : qE f w with
  | true => rw [hn] at hr; exact qa rfl hr
  | false => rw [hn] at hr; exact qd (by simp) hr
 have hs := qaP (sgT (qE f w))
 have hl := qpW (qE f w)
 refine hgo ?_
 refine qi ?_; simp only [qbB.j0]
 refine qQ (qpJ h w) ?_
 by_cases c5 : cls f w = 5
 ·rw [nm5 c5]
  exact qa c5 (Ev.now _)
 by_cases c4 : cls f w = 4
 ·rw [nm4 c4, ← qbW]
  exact qd c5 (qa c4 (qa (show (bx (sgT (qE f w))).size + 3 < 35184372088832 by omega) (Ev.now _)))
 by_cases c1 : cls f w = 1
 ·rw [nm1 c1, ← qbW]
  exact qd c5 (qd c4 (qa c1 (qa (show (bx (sgT (qE f w))).size + 1 < 35184372088832 by omega) (Ev.now _))))
 ·rw [nm0 c5 c4 c1]
  exact qd c5 (qd c4 (qd c1 (Ev.now _)))
theorem qiO (z : Nat) {e : Int} (h : 0 ≤ e) : exN z e = z * 2 ^ e.toNat := by unfold exN; rw [show (-e).toNat = 0 by omega, Nat.pow_zero, Nat.mul_one]
theorem qiP (z : Nat) {e : Int} (h : e < 0) : exN z e = z * 5 ^ (-e).toNat := by unfold exN; rw [show e.toNat = 0 by omega, Nat.pow_zero, Nat.mul_one]
theorem qma {z : Nat} {e : Int} (hb : bl z ≤ 53) (h1 : -1074 ≤ e) (h2 : e ≤ 1024) : bl (exN z e) ≤ 3300 := by
 by_cases c : 0 ≤ e
 ·rw [qiO z c]
  have := qph z e.toNat
  omega
 ·rw [qiP z (by omega)]
  have := qpS z (5 ^ (-e).toNat)
  have := qg2 (-e).toNat
  omega
theorem qmb {n k : Nat} (hb : bl n ≤ 32 * k) : n < 4294967296 ^ k := by
 have h1 := qbE n
 have h2 : (4294967296 : Nat) ^ k = 2 ^ (32 * k) := by rw [Nat.pow_mul]
 rw [h2]
 exact Nat.lt_of_lt_of_le h1 (Nat.pow_le_pow_right (by omega) hb)
theorem qfs {n k : Nat} (hb : bl n ≤ 32 * k) : (D n).length ≤ k := qgV (qmb hb)
def dz (f : Int) (w : Nat) : Nat := V (wv f w).2.1
def we (f : Int) (w : Nat) : Int := (wv f w).2.2
structure Wd (f : Int) (w : Nat) : Prop where
 eq : wv f w = (qE f w, D (dz f w), we f w)
 my : My (qE f w) (D (dz f w)) (we f w)
 ne : dz f w ≠ 0
 b : bl (dz f w) ≤ 53
 lo : -1074 ≤ we f w
 hi : we f w + (bl (dz f w) : Nat) ≤ 1024
theorem qft {f : Int} (h : isF f) {w : Nat} (c1 : cls f w ≠ 1) (c4 : cls f w < 4) : Wd f w := by
 obtain ⟨my, ne, b, lo, hi, hs⟩ := qpX h c1 c4
 have hb := (qlD h c1 c4).b
 have hpr : pr f ≤ 53 := by rcases h with rfl | rfl <;> decide
 have e : wv f w = (qE f w, D (dz f w), we f w) := by
  have hn : D (V (wv f w).2.1) = (wv f w).2.1 := my.dy.nm
  unfold dz we
  rw [hn, ← hs]
 refine ⟨e, ?_, ne, ?_, lo, hi⟩
 ·rw [e] at my; exact my
 ·exact Nat.le_trans hb hpr
theorem qqP {f : Int} (h : isF f) {w : Nat} (hw : w < 2 * sg f) (c1 : cls f w ≠ 1) (c4 : cls f w < 4) : Ev (fun k => qbz.f k f (w : Int)) (qE f w, D (dz f w), we f w, 0) := by
 have hv := qpD h hw c4
 have hwv : mk (sv (qE f w) (qR f w)) (wex f w) = wv f w := rfl
 rw [hwv, (qft h c1 c4).eq] at hv
 exact hv
theorem qqQ {f : Int} (h : isF f) {w : Nat} (c1 : cls f w ≠ 1) (c4 : cls f w < 4) : Ev (fun k => qdL.f k f (w : Int)) (qE f w, D (dz f w), we f w) := by
 have hv := qpM h w
 have hwv : mk (sv (qE f w) (qR f w)) (wex f w) = wv f w := rfl
 rw [hwv, (qft h c1 c4).eq] at hv
 exact hv
theorem qmc (s : Bool) (l : List Int) {e : Int} {T : List UInt8} (h1 : -1074 ≤ e) (h2 : e < 0) (hT : (-e).toNat ≤ T.length) (hl : T.length ≤ 10000) :
  Ev (fun k => qbf.j1 k s l e (bx T)) (s, bx (T.take (T.length - (-e).toNat)), bx (T.drop (T.length - (-e).toNat))) := by
 have hs := qaP T
 have hw : wrap64 (((bx T).size : Int) + e) = ((T.length - (-e).toNat : Nat) : Int) := by rw [w64 (by omega) (by omega)]; omega
 refine qi ?_; simp only [qbf.j1]
 rw [hw, Int.toNat_natCast, ql6, ql7]
 exact qa (by omega) (qa (by omega) (qa (by omega) (qa (by omega) (Ev.now _))))
theorem qqR {f : Int} (h : isF f) {w : Nat} (hw : w < 2 * sg f) (c1 : cls f w ≠ 1) (c4 : cls f w < 4) :
  Ev (fun k => qbf.f k f (w : Int)) (qE f w, bx (exW (dz f w) (we f w)), bx (exP (dz f w) (we f w))) := by
 have W := qft h c1 c4
 have hv := qqP h hw c1 c4
 obtain ⟨_, my, ne, b, lo, hi⟩ := W
 have hbp := qgT ne
 revert hv my ne b lo hi hbp
 generalize qE f w = s
 generalize dz f w = z
 generalize we f w = e
 intro hv my ne b lo hi hbp
 have hN : (D (exN z e)).length ≤ 104 := qfs (by have := qma b lo (by omega); omega)
 have hx := qiN b lo (by omega)
 unfold qbf.f
 refine Ev.bind hv ?_
 by_cases c : 0 ≤ e
 ·have e1 : qcQ (V (D z)) e = (D (exN z e), false, 0) := by
   unfold qcQ
   rw [V_D, if_neg ne, if_neg (by omega), if_neg (by omega), if_neg (by omega), qiO z c]
  have hsh := qle my.dy.nm my.len e
  rw [e1] at hsh
  have ht := qlN (qb9 (exN z e)) (by omega)
  rw [V_D, qiL] at ht
  refine qa c (Ev.bind hsh (Ev.bind ht ?_))
  unfold exW exP
  rw [if_pos c, if_pos c]
  exact Ev.now _
 ·have c' : e < 0 := by omega
  have hg : exG e = (-e).toNat := rfl
  have e1 : wrap64 (-e) = (((-e).toNat : Nat) : Int) := by rw [w64 (by omega) (by omega)]; omega
  have h5 : (D (5 ^ (-e).toNat)).length ≤ 104 := qfs (by have := qg2 (-e).toNat; omega)
  have hp := qqp (b := 5) (n := (-e).toNat) (by omega) (by omega)
  rw [qfq (by omega)] at hp
  have hm := qqg (qb9 z) (qb9 (5 ^ (-e).toNat)) my.len (by omega)
  rw [V_D, V_D, ← qiP z c', qfq (by omega)] at hm
  have ht := qlN (qb9 (exN z e)) (by omega)
  rw [V_D, qiL] at ht
  have hsz := qaP (dx (exN z e))
  have hpd := qiM (exG e) (dx (exN z e))
  unfold exW exP
  rw [if_neg c, if_neg c]
  refine qd c ?_
  rw [e1]
  refine Ev.bind hp (Ev.bind hm (Ev.bind ht ?_))
  dsimp only
  have e2 : wrap64 ((((-e).toNat : Nat) : Int) - ((bx (dx (exN z e))).size : Int)) = (((-e).toNat : Nat) : Int) - ((dx (exN z e)).length : Int) := by rw [hsz, w64 (by omega) (by omega)]
  rw [e2]
  by_cases ck : (((-e).toNat : Nat) : Int) - ((dx (exN z e)).length : Int) ≥ 0
  ·have e3 : wrap64 ((((-e).toNat : Nat) : Int) - ((dx (exN z e)).length : Int) + 1) = ((exG e + 1 - (dx (exN z e)).length : Nat) : Int) := by rw [w64 (by omega) (by omega), hg]; omega
   rw [e3]
   refine qa ck (qQ (qqK (by omega) (by omega)) ?_)
   rw [Int.toNat_natCast, qbW]
   have hz : (bx (List.replicate (exG e + 1 - (dx (exN z e)).length) 48)).size = exG e + 1 - (dx (exN z e)).length := by rw [qaP, List.length_replicate]
   refine qa (by omega) ?_
   have := qmc s (D z) (T := qav (exG e) (dx (exN z e))) lo c' (by omega) (by omega)
   exact this
  ·refine qd ck ?_
   have hpt : qav (exG e) (dx (exN z e)) = dx (exN z e) := by
    unfold qav
    rw [show exG e + 1 - (dx (exN z e)).length = 0 by omega]; rfl
   rw [hpt, hg]
   exact qmc s (D z) (T := dx (exN z e)) lo c' (by omega) (by omega)
def exS (f : Int) (w : Nat) : List UInt8 := if qbb f w = true then nmT f w else exT (qE f w) (dz f w) (we f w)
theorem qmd {f : Int} (h : isF f) {w : Nat} (c5 : cls f w ≠ 5) (c4 : cls f w ≠ 4) : cls f w < 4 := by have := qpO h w; omega
theorem qme (s : Bool) {t : List UInt8} (ht : t.length ≤ 100000) : Ev (fun k => q6.j2 k s (bx t)) (bx (sgT s ++ t), 0) := by
 refine qi ?_; simp only [q6.j2]
 have hs := qaP t
 cases s with
 | true => exact qa rfl (qa (show 1 + (bx t).size < 35184372088832 by omega) (qq (Ev.now _) (by rw [show (⟨#[45]⟩ : ByteArray) = bx [45] from rfl, qbW]; rfl)))
 | false => exact qd (by simp) (Ev.now _)
theorem qqS {f : Int} (h : isF f) {w : Nat} (hw : w < 2 * sg f) : Ev (fun k => q6.f k f (w : Int)) (bx (exS f w), 0) := by
 unfold q6.f exS
 refine Ev.bind (qqL h hw) ?_
 by_cases hn : qbb f w = true
 ·rw [if_pos hn]
  refine qa hn ?_
  refine qi ?_; simp only [q6.j0]
  exact qa trivial (Ev.now _)
 ·rw [if_neg hn]
  obtain ⟨c5, c4, c1⟩ := ql8 (by simpa using hn)
  have hf := qmd h c5 c4
  have W := qft h c1 hf
  have h1 := qqH W.ne (we f w)
  have h2 := ql4 (dz f w) (we f w)
  have h3 := W.lo
  have h4 := W.hi
  have h5 := qgT W.ne
  have h6 := qiN W.b W.lo (by omega)
  have h7 : exG (we f w) ≤ 1074 := by unfold exG; omega
  refine qd hn ?_
  rw [show decide (¬ (0 : Int) = 0) = false from rfl]
  refine qi ?_; simp only [q6.j0]
  refine qd (by simp) (Ev.bind (qqR h hw c1 hf) ?_)
  unfold exT
  by_cases c0 : exP (dz f w) (we f w) = []
  ·rw [if_pos c0, List.append_nil, qlY.2 c0]
   exact qd (by simp) (qme _ (by omega))
  ·rw [if_neg c0]
   have s1 := qaP (exP (dz f w) (we f w))
   have s2 := qaP (exW (dz f w) (we f w))
   refine qa (fun c => c0 (qlY.1 c)) (qa (show 1 + (bx (exP (dz f w) (we f w))).size < 35184372088832 by omega) ?_)
   rw [show (⟨#[46]⟩ : ByteArray) = bx [46] from rfl, qbW]
   have s3 := qaP ([46] ++ exP (dz f w) (we f w))
   rw [List.length_append, List.length_singleton] at s3
   refine qa (show (bx (exW (dz f w) (we f w))).size + (bx ([46] ++ exP (dz f w) (we f w))).size < 35184372088832 by omega) ?_
   dsimp only
   rw [qbW]
   exact qme _ (by rw [List.length_append, List.length_append, List.length_singleton]; omega)
theorem qmf (s : Bool) (l : List Int) {e : Int} {g : Nat} (he : e = -(g : Int)) (hg : 0 < g) (hg2 : g ≤ 1100) {S : List UInt8} (hS : S.length ≤ 1) : ∀ (j : Nat) (T : List UInt8), j = g + 1 - T.length → T.length ≤ 2000 →
  Ev (fun k => qau.l0 k s l e (bx S) (bx T)) (bx (S ++ ((qav g T).take ((qav g T).length - g) ++ 46 :: (qav g T).drop ((qav g T).length - g))))
 | 0, T, hj, hT => by
  have hs := qaP T
  have hs2 := qaP S
  have e0 : qav g T = T := by unfold qav; rw [← hj]; rfl
  have e1 : wrap64 (-e) = (g : Int) := by rw [w64 (by omega) (by omega)]; omega
  have hw : wrap64 (((bx T).size : Int) + e) = ((T.length - g : Nat) : Int) := by rw [w64 (by omega) (by omega)]; omega
  have s1 : (bx (T.take (T.length - g))).size ≤ 2000 := by rw [qaP, List.length_take]; omega
  have s2 : (bx (T.drop (T.length - g))).size ≤ 2000 := by rw [qaP, List.length_drop]; omega
  have s3 : (bx S ++ bx (T.take (T.length - g))).size = (bx S).size + (bx (T.take (T.length - g))).size := ByteArray.size_append
  have s4 : (bx S ++ bx (T.take (T.length - g)) ++ (⟨#[46]⟩ : ByteArray)).size = (bx S).size + (bx (T.take (T.length - g))).size + 1 := by rw [ByteArray.size_append, s3]; rfl
  rw [e0]
  refine qi ?_; simp only [qau.l0]
  rw [e1, hw, Int.toNat_natCast, ql6, ql7]
  refine qd (by omega) (qa (by omega) (qa (by omega) (qa (by omega) (qa (by rw [s3]; show _ + 1 < _; omega) (qa (by omega) (qa (by omega) (qa (by rw [s4]; omega) ?_)))))))
  rw [show (⟨#[46]⟩ : ByteArray) = bx [46] from rfl, qbW, qbW, qbW]
  exact qq (Ev.now _) (by simp)
 | j + 1, T, hj, hT => by
  have hs := qaP T
  have e1 : wrap64 (-e) = (g : Int) := by rw [w64 (by omega) (by omega)]; omega
  have e0 : qav g T = qav g (48 :: T) := by
   unfold qav
   rw [← hj, List.length_cons, show g + 1 - (T.length + 1) = j by omega, List.replicate_succ', List.append_assoc]; rfl
  have ih := qmf s l he hg hg2 hS j (48 :: T) (by rw [List.length_cons]; omega) (by rw [List.length_cons]; omega)
  rw [e0]
  refine qi ?_; simp only [qau.l0]
  rw [e1, show (⟨#[48]⟩ : ByteArray) = bx [48] from rfl, qbW]
  exact qa (by omega) (qa (show 1 + (bx T).size < 35184372088832 by omega) ih)
theorem qmg {s : Bool} {z : Nat} {e : Int} (ne : z ≠ 0) (b : bl z ≤ 53) (lo : -1074 ≤ e) (hi : e ≤ 1024) {S : List UInt8} (hS : S.length ≤ 1) :
  Ev (fun k => qau.j0 k s (D z) e (bx S)) (bx (S ++ (exW z e ++ if exP z e = [] then [] else 46 :: exP z e))) := by
 have hN : (D (exN z e)).length ≤ 104 := qfs (by have := qma b lo hi; omega)
 have hz2 : (D z).length ≤ 2 := qfs (by omega)
 have hx := qiN b lo hi
 have hP := ql4 z e
 have hs2 := qaP S
 have ht := qp8 (qb9 (exN z e)) (by omega)
 rw [V_D, qiL] at ht
 have hsz := qaP (dx (exN z e))
 refine qi ?_; simp only [qau.j0]
 by_cases c : 0 ≤ e
 ·have hu := qoV (qbk z) (by omega) e.toNat (by omega)
  rw [V_D, ← qiO z c, Int.toNat_of_nonneg c] at hu
  refine qa c (Ev.bind hu (Ev.bind ht (qa (by omega) ?_)))
  unfold exW exP
  rw [if_pos c, if_pos c, if_pos rfl, List.append_nil, qbW]
  exact Ev.now _
 ·have c' : e < 0 := by omega
  have hg : exG e = (-e).toNat := rfl
  have e1 : wrap64 (-e) = (((-e).toNat : Nat) : Int) := by rw [w64 (by omega) (by omega)]; omega
  have hp := qqs (b := 5) (n := (-e).toNat) (by omega) (by omega) (K := 104) (by omega) (by omega) (by
   have h2 := qg2 (-e).toNat
   exact qmb (n := 5 ^ (-e).toNat) (by omega))
  have h5 : (D (5 ^ (-e).toNat)).length ≤ 104 := qfs (by have := qg2 (-e).toNat; omega)
  have hm := qii (qbk z) (qbk (5 ^ (-e).toNat)) (by omega) (by omega)
  rw [V_D, V_D, ← qiP z c'] at hm
  have hne : exP z e ≠ [] := fun hh => by rw [hh] at hP; unfold exG at hP; simp at hP; omega
  refine qd c ?_
  rw [e1]
  refine Ev.bind hp (Ev.bind hm (Ev.bind ht ?_))
  rw [if_neg hne]
  unfold exW exP
  rw [if_neg c, if_neg c, hg]
  exact qmf s (D z) (g := (-e).toNat) (by omega) (by omega) (by omega) hS _ _ rfl (by omega)
theorem qqT {s : Bool} {z : Nat} {e : Int} (ne : z ≠ 0) (b : bl z ≤ 53) (lo : -1074 ≤ e) (hi : e ≤ 1024) : Ev (fun k => qau.f k s (D z) e) (bx (exT s z e)) := by
 unfold qau.f exT
 cases s with
 | true => exact qa rfl (qmg (S := [45]) ne b lo hi (by simp))
 | false => exact qd (by simp) (qmg (S := []) ne b lo hi (by simp))
theorem qqU {f : Int} (h : isF f) (w : Nat) : Ev (fun k => qep.f k f (w : Int)) (bx (exS f w)) := by
 unfold qep.f exS
 refine Ev.bind (qqO h w) ?_
 by_cases hn : qbb f w = true
 ·rw [if_pos hn]
  exact qa hn (Ev.now _)
 ·rw [if_neg hn]
  obtain ⟨c5, c4, c1⟩ := ql8 (by simpa using hn)
  have hf := qmd h c5 c4
  have W := qft h c1 hf
  have h4 := W.hi
  have h5 : we f w ≤ 1024 := by omega
  exact qd hn (Ev.bind (qqQ h c1 hf) (Ev.bind (qqT W.ne W.b W.lo h5) (Ev.now _)))
theorem qqV {f : Int} (h : isF f) {w : Nat} (hw : ¬ w < 2 * sg f) : Ev (fun k => q6.f k f (w : Int)) (⟨#[]⟩, 6) := by
 unfold q6.f
 refine Ev.bind (qqM h hw) (qd (by simp) ?_)
 refine qi ?_; simp only [q6.j0]
 exact qa rfl (Ev.now _)
theorem qqW {f : Int} (h : ¬ isF f) (w : Int) : Ev (fun k => q6.f k f w) (⟨#[]⟩, 4) := by
 unfold q6.f
 refine Ev.bind (qqN h w) (qd (by simp) ?_)
 refine qi ?_; simp only [q6.j0]
 exact qa rfl (Ev.now _)
theorem qqX {f m : Int} (h : isF f) (hm : isM m) {w : Nat} (hlt : w < 18446744073709551616) : Ev (fun k => qbg.f k f m [(w : Int)]) (if w < 2 * sg f then 0 else 6) := by
 unfold qbg.f
 refine qQ (qiu f) ?_
 rw [decide_eq_true h]
 refine qd (by simp) (qQ (qly m) ?_)
 rw [decide_eq_true hm]
 refine qd (by simp) ?_
 refine qi ?_; simp only [qbg.l0]
 refine qa (by simp) (qa (by omega) (qa (by simp) ?_))
 rw [show rd [(w : Int)] 0 = (w : Int) from rfl]
 refine qQ (qpF h hlt) ?_
 unfold qcR
 by_cases hg : w < 2 * sg f
 ·simp only [if_pos hg]
  refine qd (by simp) ?_
  refine qi ?_; simp only [qbg.l0]
  exact qd (show ¬ wrap64 (0 + 1) < 1 by decide) (Ev.now _)
 ·simp only [if_neg hg]
  exact qa (by simp) (Ev.now _)
theorem qmh {f m : Int} (h : ¬ isF f) : fmE f m = 4 := by unfold fmE; rw [if_neg h]
theorem qqY (f w : Int) (hw : IntKind.u64.min ≤ w ∧ w ≤ IntKind.u64.max) : Ev (fun k => qe9.f k f w) true := by
 obtain ⟨w, rfl, hlt⟩ := qpU hw
 unfold qe9.f
 by_cases h : isF f
 rotate_left
 ·have ho := qqA (f := f) (m := 1) (by rw [qmh h]; decide) [(w : Int)]
  rw [qmh h] at ho
  refine Ev.bind (qqW h _) (Ev.bind ho ?_)
  exact qa (by simp) (qa rfl (qa rfl qiK))
 have ho := qqX h (m := 1) (by decide) hlt
 by_cases hg : w < 2 * sg f
 ·rw [if_pos hg] at ho
  exact Ev.bind (qqS h hg) (Ev.bind ho (qd (by simp) (Ev.bind (qqU h w) (qa rfl (qa rfl qiK)))))
 ·rw [if_neg hg] at ho
  exact Ev.bind (qqV h hg) (Ev.bind ho (qa (by simp) (qa rfl (qa rfl qiK))))
end Go.Proofs.YtnkpmjhlkmlmbaaGreatDoor.Eng.K
