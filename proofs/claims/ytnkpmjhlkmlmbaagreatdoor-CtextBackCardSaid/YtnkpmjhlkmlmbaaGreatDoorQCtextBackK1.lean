import Derived.Test.YtnkpmjhlkmlmbaaGreatDoorQCtextBackF1
import Derived.Lib.Strings
import Derived.Laws.RangeString
import Derived.Laws.BitsAllLaws
import Derived.Lib.Bytes
import Derived.KernelRfl
set_option linter.unusedVariables false
set_option linter.unusedSimpArgs false
namespace Go.Proofs.YtnkpmjhlkmlmbaaGreatDoor.Eng
def Ev {α : Type} (g : Nat → Option α) (r : α) : Prop := ∃ n, ∀ k, n ≤ k → g k = some r
theorem Ev.now {α : Type} (r : α) : Ev (fun _ => some r) r := ⟨0, fun _ _ => rfl⟩
theorem Ev.bind {α β : Type} {g : Nat → Option α} {f : Nat → α → Option β} {a : α} {r : β} (h : Ev g a) (k : Ev (fun n => f n a) r) : Ev (fun n => (g n).bind (f n)) r := by
 obtain ⟨n, hn⟩ := h
 obtain ⟨m, hm⟩ := k
 exact ⟨n + m, fun i hi => by show (g i).bind (f i) = some r; rw [hn i (by omega), Option.bind_some]; exact hm i (by omega)⟩
theorem Ev.step {α : Type} {g f : Nat → Option α} {r : α} (h : ∀ k, g (k + 1) = f k) (k : Ev f r) : Ev g r := by
 obtain ⟨n, hn⟩ := k
 refine ⟨n + 1, fun i hi => ?_⟩
 obtain ⟨i, rfl⟩ : ∃ j, i = j + 1 := ⟨i - 1, by omega⟩
 rw [h]; exact hn i (by omega)
end Go.Proofs.YtnkpmjhlkmlmbaaGreatDoor.Eng
namespace Go.Proofs.YtnkpmjhlkmlmbaaGreatDoor.Eng.K
open Go.RowKit
theorem w64 {n : Int} (h0 : -9223372036854775808 ≤ n) (h1 : n < 9223372036854775808) : wrap64 n = n := by unfold wrap64; omega
theorem zaq {n : Int} (h0 : 0 ≤ n) (h1 : n < 9223372036854775808) : wrap64 n = n := by unfold wrap64; omega
theorem u64 {n : Int} (h0 : 0 ≤ n) (h1 : n < 18446744073709551616) : IntKind.u64.wrap n = n := by
 simp [IntKind.wrap, IntKind.bits, IntKind.signed]; omega
theorem zc5 (n : Int) : IntKind.u64.wrap n = n % 18446744073709551616 := by
 simp [IntKind.wrap, IntKind.bits, IntKind.signed]
theorem rdn (xs : List Int) (n : Nat) : rd xs (n : Int) = xs.getD n 0 := by simp [rd]
theorem zZ {xs ys : List Int} {y : Int} {i : Int} (h : i = (xs.length : Int)) : rd (xs ++ y :: ys) i = y := by
 subst h; simp [rd]
theorem za9 {xs ys : List Int} {y z : Int} {i : Int} (h : i = (xs.length : Int)) : (xs ++ y :: ys).set i.toNat z = (xs ++ [z]) ++ ys := by
 subst h; simp
theorem zi {α : Type} {g : Nat → Option α} {r s : α} (h : Ev g r) (e : r = s) : Ev g s := e ▸ h
theorem zl8 {α : Type} {x : Option α} {r : α} (h : x = some r) : Ev (fun _ => x) r := by subst h; exact Ev.now r
theorem zd {α : Type} {c : Prop} {_ : Decidable c} {g f : Nat → Option α} {r : α} (h : c) (k : Ev g r) : Ev (fun n => if c then g n else f n) r := by
 simpa [h] using k
theorem ze {α : Type} {c : Prop} {_ : Decidable c} {g f : Nat → Option α} {r : α} (h : ¬ c) (k : Ev f r) : Ev (fun n => if c then g n else f n) r := by
 simpa [h] using k
theorem ep {α : Type} {c : Prop} {_ : Decidable c} {g f : Nat → Option α} {r : α} (k : Ev g r) (h : c := by (first | omega | assumption | (simp; done) | (simp; omega))) : Ev (fun n => if c then g n else f n) r := zd h k
theorem en {α : Type} {c : Prop} {_ : Decidable c} {g f : Nat → Option α} {r : α} (k : Ev f r) (h : ¬ c := by (first | omega | assumption | (simp; done) | (simp; omega))) : Ev (fun n => if c then g n else f n) r := ze h k
theorem zk {α β : Type} {x : Option α} {f : Nat → α → Option β} {a : α} {r : β} (h : x = some a) (k : Ev (fun n => f n a) r) : Ev (fun n => x.bind (f n)) r := by
 subst h; exact k
theorem zf {α : Type} {g : Nat → Option α} {r : α} (k : Ev (fun n => g (n + 1)) r) : Ev g r := Ev.step (fun _ => rfl) k
theorem Ev.unique {α : Type} {g : Nat → Option α} {r s : α} (h : Ev g r) (k : Ev g s) : r = s := by
 obtain ⟨a, ha⟩ := h; obtain ⟨b, hb⟩ := k
 have h1 := ha (max a b) (Nat.le_max_left _ _); have h2 := hb (max a b) (Nat.le_max_right _ _)
 rw [h1] at h2; exact Option.some.inj h2
def Dg (l : List Int) : Prop := ∀ x ∈ l, 0 ≤ x ∧ x < 4294967296
def V : List Int → Nat
 | [] => 0
 | d :: l => d.toNat + 4294967296 * V l
def D (n : Nat) : List Int := if h : n = 0 then [] else ((n % 4294967296 : Nat) : Int) :: D (n / 4294967296)
termination_by n
decreasing_by omega
theorem Dg.nil : Dg [] := fun _ h => by simp at h
theorem Dg.cons {d : Int} {l : List Int} (h0 : 0 ≤ d) (h1 : d < 4294967296) (h : Dg l) : Dg (d :: l) := fun x hx => by
 rcases List.mem_cons.1 hx with rfl | hx
 ·exact ⟨h0, h1⟩
 ·exact h x hx
theorem Dg.head {d : Int} {l : List Int} (h : Dg (d :: l)) : 0 ≤ d ∧ d < 4294967296 := h d (by simp)
theorem Dg.tail {d : Int} {l : List Int} (h : Dg (d :: l)) : Dg l := fun x hx => h x (by simp [hx])
theorem Dg.app {a b : List Int} (h : Dg a) (k : Dg b) : Dg (a ++ b) := fun x hx => by
 rcases List.mem_append.1 hx with hx | hx
 ·exact h x hx
 ·exact k x hx
theorem Dg.left {a b : List Int} (h : Dg (a ++ b)) : Dg a := fun x hx => h x (by simp [hx])
theorem Dg.right {a b : List Int} (h : Dg (a ++ b)) : Dg b := fun x hx => h x (by simp [hx])
theorem Dg.take {a : List Int} (h : Dg a) (n : Nat) : Dg (a.take n) := fun x hx => h x (List.mem_of_mem_take hx)
theorem Dg.drop {a : List Int} (h : Dg a) (n : Nat) : Dg (a.drop n) := fun x hx => h x (List.mem_of_mem_drop hx)
theorem Dg.zeros (n : Nat) : Dg (List.replicate n 0) := fun x hx => by
 obtain ⟨_, rfl⟩ := List.mem_replicate.1 hx; omega
theorem Dg.getD {a : List Int} (h : Dg a) (n : Nat) : 0 ≤ a.getD n 0 ∧ a.getD n 0 < 4294967296 := by
 rw [List.getD_eq_getElem?_getD]
 cases e : a[n]? with
 | none => simp
 | some x => simpa using h x (List.mem_of_getElem? e)
theorem Dg.set {a : List Int} (h : Dg a) (n : Nat) {x : Int} (h0 : 0 ≤ x) (h1 : x < 4294967296) : Dg (a.set n x) := fun y hy => by
 rcases List.mem_or_eq_of_mem_set hy with hy | rfl
 ·exact h y hy
 ·exact ⟨h0, h1⟩
@[simp] theorem zbg : V [] = 0 := rfl
@[simp] theorem zF (d : Int) (l : List Int) : V (d :: l) = d.toNat + 4294967296 * V l := rfl
theorem zaR (a b : List Int) : V (a ++ b) = V a + 4294967296 ^ a.length * V b := by
 induction a with
 | nil => simp
 | cons d a ih => simp [ih, Nat.pow_succ]; grind
theorem zeQ (n : Nat) : V (List.replicate n 0) = 0 := by
 induction n with
 | zero => rfl
 | succ n ih => simp [List.replicate_succ, ih]
theorem zaA {l : List Int} (h : Dg l) : V l < 4294967296 ^ l.length := by
 induction l with
 | nil => simp
 | cons d l ih =>
  have := ih h.tail; have := h.head
  simp only [zF, List.length_cons, Nat.pow_succ]
  omega
theorem zP : D 0 = [] := by unfold D; simp
theorem zcM {n : Nat} (h : n ≠ 0) : D n = ((n % 4294967296 : Nat) : Int) :: D (n / 4294967296) := by
 conv => lhs; unfold D
 simp [h]
theorem V_D (n : Nat) : V (D n) = n := by
 induction n using Nat.strongRecOn with
 | _ n ih =>
  by_cases h : n = 0
  ·subst h; simp [zP]
  ·rw [zcM h, zF, ih _ (by omega)]; omega
theorem zaK (n : Nat) : Dg (D n) := by
 induction n using Nat.strongRecOn with
 | _ n ih =>
  by_cases h : n = 0
  ·subst h; rw [zP]; exact Dg.nil
  ·rw [zcM h]; exact Dg.cons (by omega) (by omega) (ih _ (by omega))
theorem zfz {d : Int} {n : Nat} (h0 : 0 ≤ d) (h1 : d < 4294967296) (h : d ≠ 0 ∨ n ≠ 0) : D (d.toNat + 4294967296 * n) = d :: D n := by
 rw [zcM (by omega)]
 congr 1
 ·omega
 ·congr 1; omega
theorem zku {a b : Nat} (h : D a = D b) : a = b := by rw [← V_D a, h, V_D]
def Nm (l : List Int) : Prop := D (V l) = l
instance (l : List Int) : Decidable (Nm l) := inferInstanceAs (Decidable (D (V l) = l))
theorem Nm.dg {l : List Int} (h : Nm l) : Dg l := h ▸ zaK _
theorem zae (n : Nat) : Nm (D n) := by unfold Nm; rw [V_D]
theorem zcN : Nm [] := by unfold Nm; exact zP
theorem Nm.inj {a b : List Int} (h : Nm a) (k : Nm b) (e : V a = V b) : a = b := by rw [← h, e, k]
theorem zdS {l : List Int} (h : Nm l) : V l = 0 ↔ l = [] := by
 constructor
 ·intro e; rw [← h, e, zP]
 ·rintro rfl; rfl
theorem zeM {l : List Int} {d : Int} (h : Dg l) (h0 : 0 < d) (h1 : d < 4294967296) : Nm (l ++ [d]) := by
 unfold Nm
 induction l with
 | nil =>
  have := zfz (d := d) (n := 0) (by omega) h1 (by omega)
  simpa [zP] using this
 | cons x l ih =>
  have hx := h.head
  rw [List.cons_append, zF, zfz hx.1 hx.2, ih h.tail]
  right; rw [zaR]
  have : 0 < 4294967296 ^ l.length := Nat.pow_pos (by omega)
  have : 0 < 4294967296 ^ l.length * V [d] := Nat.mul_pos this (by simp; omega)
  omega
theorem zfI (l : List Int) : V (l ++ [0]) = V l := by rw [zaR]; simp
theorem zkv {l : List Int} (h : Dg l) : (D (V l)).length ≤ l.length := by
 induction l with
 | nil => simp [zP]
 | cons x l ih =>
  have hx := h.head
  by_cases e : x ≠ 0 ∨ V l ≠ 0
  ·rw [zF, zfz hx.1 hx.2 e]; simpa using ih h.tail
  ·have h1 : x = 0 := by omega
   have h2 : V l = 0 := by omega
   simp [h1, h2, zP]
theorem zfF {l : List Int} {d : Int} (h : Nm (l ++ [d])) : d ≠ 0 := by
 intro e; subst e
 have h2 := zkv h.dg.left
 have h3 : D (V (l ++ [0])) = l ++ [0] := h
 rw [zfI] at h3
 rw [h3] at h2
 simp at h2
 omega
theorem zhg {l : List Int} (h : Dg l) : Nm l ↔ l = [] ∨ l.getD (l.length - 1) 0 ≠ 0 := by
 rcases List.eq_nil_or_concat l with rfl | ⟨a, d, rfl⟩
 ·simp [zcN]
 ·rw [List.concat_eq_append] at h ⊢
  have : (a ++ [d]).getD ((a ++ [d]).length - 1) 0 = d := by simp
  rw [this]
  constructor
  ·intro k; exact .inr (zfF k)
  ·rintro (k | k)
   ·simp at k
   ·have := h d (by simp)
    exact zeM h.left (by omega) this.2
theorem zdQ {n k : Nat} (h : n < 4294967296 ^ k) : (D n).length ≤ k := by
  induction k generalizing n with
  | zero => have : n = 0 := by simpa using h
            subst this; simp [zP]
  | succ k ih =>
    by_cases e : n = 0
    · subst e; simp [zP]
    · rw [zcM e, List.length_cons]
      have := ih (n := n / 4294967296) (by rw [Nat.pow_succ] at h; omega)
      omega
theorem zdq (n : Nat) : n < 4294967296 ^ (D n).length := by
 have := zaA (zaK n); rwa [V_D] at this
theorem zfA {n : Nat} (h : n ≠ 0) : 4294967296 ^ ((D n).length - 1) ≤ n := by
 apply Nat.le_of_not_lt
 intro k
 have := zdQ k
 have : (D n).length ≠ 0 := by rw [zcM h]; simp
 omega
theorem zeK {a b : Nat} (h : a ≤ b) : (D a).length ≤ (D b).length :=
 zdQ (Nat.lt_of_le_of_lt h (zdq b))
theorem zm0 {a b : Nat} (h : (D a).length < (D b).length) : a < b := by
 apply Nat.lt_of_not_le
 intro k
 have := zeK k
 omega
theorem Nm.len {l : List Int} (h : Nm l) : (D (V l)).length = l.length := by rw [h]
theorem Nm.lt_of_len {a b : List Int} (h : Nm a) (k : Nm b) (e : a.length < b.length) : V a < V b := by
 apply zm0; rw [h, k]; exact e
open Go.RowKit Go.Proofs Go.Proofs.YtnkpmjhlkmlmbaaGreatDoor.Eng
def tl (s : ByteArray) : List UInt8 := s.data.toList
theorem zfr (s : ByteArray) : (tl s).length = s.size := by simp [tl]
theorem za1 {a b : ByteArray} : tl a = tl b ↔ a = b := ⟨fun h => by
 cases a; cases b
 congr
 exact Array.toList_inj.1 h, fun h => by rw [h]⟩
theorem zjX (a b : ByteArray) : tl (a ++ b) = tl a ++ tl b := by simp [tl]
theorem zev (s : ByteArray) (i j : Nat) : tl (s.extract i j) = ((tl s).take j).drop i := by
 simp only [tl, ByteArray.data_extract, Array.toList_extract, List.extract_eq_take_drop]
 rw [List.take_drop, List.drop_take, List.drop_take]
 congr 1
 omega
theorem zjY {s : ByteArray} : tl s = [] ↔ s = ⟨#[]⟩ := by
 rw [← za1]
 simp [tl]
theorem zoP (l : List Int) : tl (qfU l) = l.map fun n => UInt8.ofNat n.toNat := rfl
theorem zew (s : ByteArray) : s.size = (tl s).length := (zfr s).symm
theorem zfQ (s : ByteArray) (i : Int) : bt s i = (((tl s).getD i.toNat 0).toNat : Int) := by
 unfold bt tl
 split
 ·rename_i h
  have : i.toNat < s.data.toList.length := by simpa using h
  simp [List.getD, List.getElem?_eq_getElem this]
  rfl
 ·rename_i h
  have : ¬ i.toNat < s.data.toList.length := by simpa using h
  simp [List.getD, List.getElem?_eq_none (by omega : s.data.toList.length ≤ i.toNat)]
def hx (b : UInt8) : Option Nat := if 48 ≤ b.toNat ∧ b.toNat ≤ 57 then some (b.toNat - 48) else if 97 ≤ b.toNat ∧ b.toNat ≤ 102 then some (b.toNat - 87) else none
def isD (b : UInt8) : Bool := decide (48 ≤ b.toNat ∧ b.toNat ≤ 57)
def zg (l : List UInt8) (a : Nat) : Nat := l.foldl (fun a b => 10 * a + (b.toNat - 48)) a
def zcv : List UInt8 → Bool
 | 45 :: _ => true
 | _ => false
def zv : List UInt8 → List UInt8
 | 45 :: r => r
 | 43 :: r => r
 | r => r
def zah (E : List UInt8) : Bool := decide (zv E ≠ []) && decide ((zv E).length ≤ 6) && (zv E).all isD
def zcw (E : List UInt8) : Int := if zcv E = true then -(zg (zv E) 0 : Int) else zg (zv E) 0
theorem zdF {α : Type} (p : α → Bool) (l : List α) : (l.takeWhile p).all p = true := by
 induction l with
 | nil => rfl
 | cons a l ih => by_cases h : p a = true <;> simp [h]
theorem zcg {α : Type} (p : α → Bool) (l : List α) : l.takeWhile p ++ l.dropWhile p = l := List.takeWhile_append_dropWhile
theorem zhZ {α : Type} (p : α → Bool) (l : List α) {c : α} {r : List α} (h : l.dropWhile p = c :: r) : p c = false := by
 induction l with
 | nil => simp at h
 | cons a l ih =>
  by_cases ha : p a = true
  ·simp [ha] at h; exact ih h
  ·simp [ha] at h; rw [← h.1]; simpa using ha
theorem zlV (l : List UInt8) (hl : l.all isD = true) (n : Nat) : zg l n < (n + 1) * 10 ^ l.length := by
 induction l generalizing n with
 | nil => simp [zg]
 | cons a l ih =>
  simp only [List.all_cons, Bool.and_eq_true] at hl
  have h : zg (a :: l) n = zg l (10 * n + (a.toNat - 48)) := rfl
  have h1 := hl.1
  simp only [isD, decide_eq_true_eq] at h1
  have := ih hl.2 (10 * n + (a.toNat - 48))
  rw [h, List.length_cons, Nat.pow_succ]
  have h2 : (10 * n + (a.toNat - 48) + 1) * 10 ^ l.length ≤ ((n + 1) * 10) * 10 ^ l.length := Nat.mul_le_mul_right _ (by omega)
  have h3 : (n + 1) * (10 ^ l.length * 10) = ((n + 1) * 10) * 10 ^ l.length := by rw [Nat.mul_assoc, Nat.mul_comm 10]
  omega
def zij (d : Nat) : UInt8 := UInt8.ofNat (if d < 10 then 48 + d else 87 + d)
theorem zbJ {n : Nat} (h : n < 4611686018427387904) : wrap64 ((n : Int) + 1) = ((n + 1 : Nat) : Int) := by unfold wrap64; omega
theorem zkj {n : Nat} (h : n < 4611686018427387904) : wrap64 (((n + 1 : Nat) : Int) - 1) = (n : Int) := by unfold wrap64; omega
theorem zj9 : ∀ (n : Nat) (l : List Int), l.length = n → Dg l → n < 4611686018427387904 → Ev (fun k => zq.f k l) (D (V l))
 | 0, l, hn, hd, hb => by
  have : l = [] := List.eq_nil_of_length_eq_zero hn
  subst this
  refine zf (zl8 ?_)
  simp [zq.f, zq.l0, zP]
 | n + 1, l, hn, hd, hb => by
  rcases List.eq_nil_or_concat l with rfl | ⟨a, d, rfl⟩
  ·simp at hn
  rw [List.concat_eq_append] at hn hd ⊢
  have hl : (a ++ [d]).length = n + 1 := hn
  have ha : a.length = n := by simpa using hn
  refine zf ?_
  show Ev (fun k => zq.l0 (k + 1) (a ++ [d])) _
  simp only [zq.l0, hl, zkj (n := n) (by omega)]
  refine zd (by omega) (zd (by omega) (zd (by omega) ?_))
  rw [zZ (by omega)]
  by_cases h0 : d = 0
  ·subst h0
   refine zd rfl (zd (by omega) ?_)
   rw [zfI]
   have : (a ++ [(0 : Int)]).take (n : Int).toNat = a := by simp [← ha]
   rw [this]
   exact zd (by omega) (zj9 n a ha hd.left (by omega))
  ·refine ze h0 ?_
   have := hd d (by simp)
   rw [zeM hd.left (by omega) this.2]
   exact Ev.now _
theorem zcb {l : List Int} (hd : Dg l) (hb : l.length < 4611686018427387904) : Ev (fun k => zq.f k l) (D (V l)) := zj9 _ l rfl hd hb
theorem zkP (n : Int) (h0 : 0 ≤ n) (h1 : n < 18446744073709551616) : V [n % 4294967296, (n / 4294967296) % 4294967296] = n.toNat := by
 simp; omega
theorem zkw (n : Int) : Dg [n % 4294967296, (n / 4294967296) % 4294967296] := Dg.cons (by omega) (by omega) (Dg.cons (by omega) (by omega) Dg.nil)
theorem zee {n : Int} (h0 : 0 ≤ n) (h1 : n < 18446744073709551616) : Ev (fun k => za7.f k n) (D n.toNat) := by
 unfold za7.f
 refine Ev.bind (zcb (zkw n) (by simp)) ?_
 rw [zkP n h0 h1]; exact Ev.now _
def may (l : List Int) : Bool := decide (l.length ≤ 4096) && decide (Nm l)
theorem zbF {l : List Int} : may l = true ↔ l.length ≤ 4096 ∧ Nm l := by simp [may]
theorem zca {l : List Int} (h : Dg l) (hb : l.length < 4611686018427387904) : zab.f l = some (may l) := by
 unfold zab.f may
 by_cases h1 : l.length ≤ 4096
 ·rw [if_pos (by omega)]
  by_cases h2 : l.length = 0
  ·have : l = [] := List.eq_nil_of_length_eq_zero h2
   subst this; simp [zcN]
  ·rw [if_neg (by omega)]
   have e : wrap64 ((l.length : Int) - 1) = ((l.length - 1 : Nat) : Int) := by unfold wrap64; omega
   rw [e, if_pos (by omega), if_pos (by omega), rdn]
   have h3 : l ≠ [] := fun e => h2 (by rw [e]; rfl)
   have h4 := zhg h
   by_cases h5 : l.getD (l.length - 1) 0 = 0
   ·have : ¬ Nm l := fun k => by rcases h4.1 k with k | k <;> contradiction
    rw [h5]; simp [this]
   ·have : Nm l := h4.2 (.inr h5)
    simp only [h5, not_false_eq_true, decide_true]; simp [h1, this]
 ·rw [if_neg (by omega)]; simp [h1]
theorem zho {a b : List Int} (ha : Dg a) (hb : Dg b) (la : a.length < 4611686018427387904) (lb : b.length < 4611686018427387904) : Ev (fun k => zX.f k [a, b]) (may a && may b) := by
 unfold zX.f
 refine zf ?_
 simp only [zX.l0]
 refine zd (by simp) (zd (by omega) (zd (by simp) ?_))
 have e0 : rdT [.is .u32] [a, b] 0 = a := rfl
 have e1 : rdT [.is .u32] [a, b] 1 = b := rfl
 rw [e0]
 refine zk (zca ha la) ?_
 cases may a with
 | false => exact zd (by simp) (Ev.now _)
 | true =>
  refine ze (by simp) ?_
  have w1 : wrap64 (0 + 1) = 1 := by unfold wrap64; omega
  have w2 : wrap64 (1 + 1) = 2 := by unfold wrap64; omega
  rw [w1]
  refine zf ?_
  simp only [zX.l0]
  refine zd (by simp) (zd (by omega) (zd (by simp) ?_))
  rw [e1]
  refine zk (zca hb lb) ?_
  cases may b with
  | false => exact zd (by simp) (Ev.now _)
  | true =>
   refine ze (by simp) ?_
   rw [w2]
   refine zf ?_
   simp only [zX.l0]
   exact ze (by simp) (Ev.now _)
def zJ (n : Nat) : List Int × Int := if (D n).length > 4096 then ([], 3) else (D n, 0)
theorem znj (n : Nat) : zaO.f (D n) = some (zJ n) := by
 unfold zaO.f zJ
 by_cases h : (D n).length > 4096
 ·rw [if_pos (by omega), if_pos h]
 ·rw [if_neg (by omega), if_neg h]
theorem zkQ {x y c : Int} (hx : 0 ≤ x ∧ x < 4294967296) (hy : 0 ≤ y ∧ y < 4294967296) (hc : 0 ≤ c ∧ c < 4294967296) : zck.f x y c = some ((x + y + c) % 4294967296, (x + y + c) / 4294967296) := by
 unfold zck.f
 rw [u64 hx.1 (by omega), u64 hy.1 (by omega), u64 hc.1 (by omega), u64 (n := x + y) (by omega) (by omega), u64 (by omega) (by omega)]
 have : (x + y + c) / 4294967296 % 4294967296 = (x + y + c) / 4294967296 := by omega
 rw [this]
theorem Dg.headD {b : List Int} (h : Dg b) : 0 ≤ b.headD 0 ∧ b.headD 0 < 4294967296 := by
 cases b with
 | nil => simp
 | cons y b => exact h.head
theorem zkN (b : List Int) : V b = (b.headD 0).toNat + 4294967296 * V b.tail := by
 cases b <;> simp
theorem zlT (b : List Int) (n : Nat) : (b.drop n).headD 0 = b.getD n 0 := by
 rw [List.headD_eq_head?_getD, List.head?_drop, List.getD_eq_getElem?_getD]
def zbk (m n : Nat) : Int := if m < n then -1 else if n < m then 1 else 0
theorem zeP {l : List Int} {n : Nat} (h : n < l.length) : V (l.take (n + 1)) = V (l.take n) + 4294967296 ^ n * (l.getD n 0).toNat := by
 rw [List.take_succ_eq_append_getElem h, zaR]
 simp [Nat.min_eq_left (Nat.le_of_lt h), h]
theorem zj4 {p q P d e : Nat} (hp : p < P) (h : d < e) : p + P * d < q + P * e := by
 have : P * (d + 1) ≤ P * e := Nat.mul_le_mul_left _ h
 rw [Nat.mul_add] at this
 omega
theorem zdT {l : List Int} (h : Dg l) {n : Nat} (hn : n ≤ l.length) : V (l.take n) < 4294967296 ^ n := by
 have := zaA (h.take n); rwa [List.length_take, Nat.min_eq_left hn] at this
theorem zlm {x y : List Int} (hx : Dg x) (hy : Dg y) {n : Nat} (h1 : n < x.length) (h2 : n < y.length) :
  zbk (V (x.take (n + 1))) (V (y.take (n + 1))) = if x.getD n 0 = y.getD n 0 then zbk (V (x.take n)) (V (y.take n)) else if x.getD n 0 < y.getD n 0 then -1 else 1 := by
 rw [zeP h1, zeP h2]
 have a := hx.getD n
 have b := hy.getD n
 have p := zdT hx (Nat.le_of_lt h1)
 have q := zdT hy (Nat.le_of_lt h2)
 by_cases e : x.getD n 0 = y.getD n 0
 ·rw [if_pos e, e]; unfold zbk; simp
 ·rw [if_neg e]
  by_cases c : x.getD n 0 < y.getD n 0
  ·rw [if_pos c]
   have := zj4 (q := V (y.take n)) p (show (x.getD n 0).toNat < (y.getD n 0).toNat by omega)
   unfold zbk; rw [if_pos this]
  ·rw [if_neg c]
   have := zj4 (q := V (x.take n)) q (show (y.getD n 0).toNat < (x.getD n 0).toNat by omega)
   unfold zbk; rw [if_neg (by omega), if_pos this]
theorem zch {n : Nat} (h : n < 4611686018427387904) : wrap64 ((n : Int) - 1) = (n : Int) - 1 := by unfold wrap64; omega
theorem zhB {x y : List Int} (hx : Dg x) (hy : Dg y) (hb : x.length < 4611686018427387904) : ∀ (n : Nat), n ≤ x.length → n ≤ y.length → Ev (fun k => zaw.l0 k x y ((n : Int) - 1)) (zbk (V (x.take n)) (V (y.take n)))
 | 0, _, _ => by
  refine zf ?_
  simp only [zaw.l0]
  (repeat (first | with_reducible refine ep ?_ | with_reducible refine en ?_)); exact Ev.now _
 | n + 1, h1, h2 => by
  refine zf ?_
  simp only [zaw.l0]
  have e : ((n + 1 : Nat) : Int) - 1 = (n : Int) := by omega
  rw [e, zch (n := n) (by omega)]
  (repeat (first | with_reducible refine ep ?_ | with_reducible refine en ?_))
  rw [zlm hx hy (by omega) (by omega), rdn, rdn]
  by_cases c : x.getD n 0 = y.getD n 0
  ·(repeat (first | with_reducible refine ep ?_ | with_reducible refine en ?_))
   rw [if_pos c]
   exact zhB hx hy hb n (by omega) (by omega)
  ·(repeat (first | with_reducible refine ep ?_ | with_reducible refine en ?_))
   rw [if_neg c]
   by_cases c2 : x.getD n 0 < y.getD n 0
   ·(repeat (first | with_reducible refine ep ?_ | with_reducible refine en ?_))
    rw [if_pos c2]; exact Ev.now _
   ·(repeat (first | with_reducible refine ep ?_ | with_reducible refine en ?_))
    rw [if_neg c2]; exact Ev.now _
theorem znk {x y : List Int} (hx : Nm x) (hy : Nm y) (hb : x.length < 4611686018427387904) : Ev (fun k => zaw.f k x y) (zbk (V x) (V y)) := by
 unfold zaw.f
 by_cases c : x.length < y.length
 ·(repeat (first | with_reducible refine ep ?_ | with_reducible refine en ?_))
  unfold zbk; rw [if_pos (hx.lt_of_len hy c)]; exact Ev.now _
 ·(repeat (first | with_reducible refine ep ?_ | with_reducible refine en ?_))
  by_cases c2 : y.length < x.length
  ·(repeat (first | with_reducible refine ep ?_ | with_reducible refine en ?_))
   have := hy.lt_of_len hx c2
   unfold zbk; rw [if_neg (by omega), if_pos this]; exact Ev.now _
  ·(repeat (first | with_reducible refine ep ?_ | with_reducible refine en ?_))
   have e : x.length = y.length := by omega
   rw [zch (by omega)]
   have := zhB hx.dg hy.dg hb x.length (by omega) (by omega)
   rwa [List.take_length, e, List.take_length, ← e] at this
theorem zT (n : Nat) : n >>> 31 = n / 2147483648 := by rw [Nat.shiftRight_eq_div_pow]
theorem zfM {n : Nat} (h : n < 4294967296) : n / 2147483648 = 0 ∨ n / 2147483648 = 1 := by omega
theorem zk7 {x y d : Nat} (hx : x < 4294967296) (hy : y < 4294967296) (hd : d < 4294967296) :
  ((((4294967295 ^^^ x) &&& y) ||| ((4294967295 ^^^ (x ^^^ y)) &&& d)) / 2147483648 : Nat) =
   if x / 2147483648 = 0 then (if y / 2147483648 = 0 then d / 2147483648 else 1) else (if y / 2147483648 = 0 then 0 else d / 2147483648) := by
 rw [← zT, ← zT, ← zT, ← zT, Nat.shiftRight_or_distrib, Nat.shiftRight_and_distrib, Nat.shiftRight_and_distrib, Nat.shiftRight_xor_distrib, Nat.shiftRight_xor_distrib, Nat.shiftRight_xor_distrib]
 simp only [zT]
 have e : 4294967295 / 2147483648 = 1 := by decide
 rw [e]
 rcases zfM hx with h1 | h1 <;> rcases zfM hy with h2 | h2 <;> rcases zfM hd with h3 | h3 <;> rw [h1, h2, h3] <;> decide
theorem zjN {x y c : Int} (hx : 0 ≤ x ∧ x < 4294967296) (hy : 0 ≤ y ∧ y < 4294967296) (hc : 0 ≤ c ∧ c ≤ 1) : zb1.f x y c = some ((x - y - c) % 4294967296, if x < y + c then 1 else 0) := by
 unfold zb1.f
 have hd : ((x - y) % 4294967296 - c) % 4294967296 = (x - y - c) % 4294967296 := by omega
 rw [hd]
 obtain ⟨X, rfl⟩ := Int.eq_ofNat_of_zero_le hx.1
 obtain ⟨Y, rfl⟩ := Int.eq_ofNat_of_zero_le hy.1
 obtain ⟨Z, hZ⟩ := Int.eq_ofNat_of_zero_le (show 0 ≤ ((X : Int) - Y - c) % 4294967296 by omega)
 have hZl : Z < 4294967296 := by omega
 have h1 : 4294967295 ^^^ X < 4294967296 := Nat.xor_lt_two_pow (n := 32) (by omega) (by omega)
 have h2 : X ^^^ Y < 4294967296 := Nat.xor_lt_two_pow (n := 32) (by omega) (by omega)
 have h3 : 4294967295 ^^^ (X ^^^ Y) < 4294967296 := Nat.xor_lt_two_pow (n := 32) (by omega) (by omega)
 have h4 : (4294967295 ^^^ X) &&& Y < 4294967296 := Nat.and_lt_two_pow (n := 32) _ (by omega)
 have h5 : (4294967295 ^^^ (X ^^^ Y)) &&& Z < 4294967296 := Nat.and_lt_two_pow (n := 32) _ (by omega)
 have e : (4294967295 : Int) = ((4294967295 : Nat) : Int) := rfl
 rw [hZ, e, u32_xor_nat _ _ (by omega) (by omega), u32_and_nat _ _ h1 (by omega), u32_xor_nat _ _ (by omega) (by omega), u32_xor_nat _ _ (by omega) h2, u32_and_nat _ _ h3 hZl, u32_or_nat _ _ h4 h5]
 have b := zk7 (x := X) (y := Y) (d := Z) (by omega) (by omega) hZl
 have : (((((4294967295 ^^^ X) &&& Y ||| (4294967295 ^^^ (X ^^^ Y)) &&& Z : Nat) : Int)) / 2147483648) = (((((4294967295 ^^^ X) &&& Y ||| (4294967295 ^^^ (X ^^^ Y)) &&& Z) / 2147483648 : Nat)) : Int) := by omega
 rw [this, b]
 congr 2
 by_cases c1 : X / 2147483648 = 0 <;> by_cases c2 : Y / 2147483648 = 0 <;> simp only [c1, c2, if_true, if_false] <;> by_cases c3 : (X : Int) < Y + c <;> simp only [c3, if_true, if_false] <;> omega
theorem zgj {x y : Int} (hx : 0 ≤ x ∧ x < 4294967296) (hy : 0 ≤ y ∧ y < 4294967296) : 0 ≤ x * y ∧ x * y ≤ 18446744065119617025 := by
 constructor
 ·exact Int.mul_nonneg hx.1 hy.1
 ·have h1 : x * y ≤ 4294967295 * y := Int.mul_le_mul_of_nonneg_right (by omega) hy.1
  have h2 : 4294967295 * y ≤ 4294967295 * 4294967295 := Int.mul_le_mul_of_nonneg_left (by omega) (by omega)
  omega
def z6 : Int → List Int → List Int → Int → List Int
 | _, [], o, c => c :: o.tail
 | x, y :: b, o, c => ((x * y + o.headD 0 + c) % 4294967296) :: z6 x b o.tail ((x * y + o.headD 0 + c) / 4294967296)
theorem zoR {x y : Int} (hx : 0 ≤ x) (hy : 0 ≤ y) : (x * y).toNat = x.toNat * y.toNat := Int.toNat_mul hx hy
theorem zgK {x : Int} (hx : 0 ≤ x ∧ x < 4294967296) : ∀ (b o : List Int) (c : Int) (m : Nat), Dg b → Dg o → 0 ≤ c ∧ c < 4294967296 → o.drop b.length = List.replicate (m + 1) 0 →
  V (z6 x b o c) = V o + x.toNat * V b + c.toNat ∧ Dg (z6 x b o c) ∧ (z6 x b o c).tail.drop b.length = List.replicate m 0 ∧ (z6 x b o c).length = o.length
 | [], o, c, m, hb, ho, hc, hz => by
  have hz' : o = 0 :: List.replicate m 0 := by simpa [List.replicate_succ] using hz
  subst hz'
  refine ⟨?_, ?_, ?_, ?_⟩
  ·simp [z6, zeQ]
  ·exact Dg.cons hc.1 hc.2 (Dg.zeros m)
  ·simp [z6]
  ·simp [z6]
 | y :: b, o, c, m, hb, ho, hc, hz => by
  obtain ⟨o0, o, rfl⟩ : ∃ o0 o', o = o0 :: o' := by
   cases o with
   | nil => simp at hz
   | cons o0 o' => exact ⟨o0, o', rfl⟩
  have hy := hb.head
  have h0 := ho.head
  have hp := zgj hx hy
  have hz2 : o.drop b.length = List.replicate (m + 1) 0 := by simpa using hz
  have := zgK hx b o ((x * y + o0 + c) / 4294967296) m hb.tail ho.tail (by omega) hz2
  simp only [z6, List.headD_cons, List.tail_cons]
  refine ⟨?_, Dg.cons (by omega) (by omega) this.2.1, ?_, by simp [this.2.2.2]⟩
  ·have e1 : x.toNat * (y.toNat + 4294967296 * V b) = (x * y).toNat + 4294967296 * (x.toNat * V b) := by
    rw [Nat.mul_add, Nat.mul_left_comm, zoR hx.1 hy.1]
   rw [zF, this.1, zF, zF, e1]
   omega
  ·obtain ⟨r0, r, hr⟩ : ∃ r0 r', z6 x b o ((x * y + o0 + c) / 4294967296) = r0 :: r' := by
    cases h : z6 x b o ((x * y + o0 + c) / 4294967296) with
    | nil =>
     have hl := this.2.2.2
     rw [h] at hl
     have : o = [] := List.eq_nil_of_length_eq_zero (by simpa using hl.symm)
     subst this; simp at hz2
    | cons r0 r' => exact ⟨r0, r', rfl⟩
   have h3 := this.2.2.1
   rw [hr] at h3 ⊢
   simpa using h3
def zbU : List Int → List Int → List Int → List Int
 | [], _, o => o
 | x :: a, b, o => (z6 x b o 0).headD 0 :: zbU a b (z6 x b o 0).tail
theorem ziG : ∀ (a b o : List Int), Dg a → Dg b → Dg o → o.drop b.length = List.replicate a.length 0 → V (zbU a b o) = V o + V a * V b ∧ Dg (zbU a b o) ∧ (zbU a b o).length = o.length
 | [], b, o, ha, hb, ho, hz => by simp [zbU, ho]
 | x :: a, b, o, ha, hb, ho, hz => by
  have hr := zgK ha.head b o 0 a.length hb ho (by omega) (by simpa using hz)
  obtain ⟨r0, r, he⟩ : ∃ r0 r', z6 x b o 0 = r0 :: r' := by
   cases h : z6 x b o 0 with
   | nil =>
    have hl := hr.2.2.2
    rw [h] at hl
    have : o = [] := List.eq_nil_of_length_eq_zero (by simpa using hl.symm)
    subst this; simp at hz
   | cons r0 r' => exact ⟨r0, r', rfl⟩
  rw [he] at hr
  have := ziG a b r ha.tail hb hr.2.1.tail (by simpa using hr.2.2.1)
  simp only [zbU, he, List.headD_cons, List.tail_cons]
  refine ⟨?_, Dg.cons hr.2.1.head.1 hr.2.1.head.2 this.2.1, ?_⟩
  ·have h1 := hr.1
   rw [zF] at h1
   rw [zF, this.1, zF, Nat.add_mul, Nat.mul_add, Nat.mul_assoc]
   simp at h1
   omega
  ·have := hr.2.2.2
   simp at this ⊢; omega
theorem zfB {l : List Int} (h : Nm l) (h0 : l ≠ []) : 4294967296 ^ (l.length - 1) ≤ V l := by
 have h1 : V l ≠ 0 := fun e => h0 ((zdS h).1 e)
 have := zfA h1
 rwa [h.len] at this
def conv : List Int → List Int → Nat → Nat
 | [], _, _ => 0
 | x :: _, b, 0 => x.toNat * (b.getD 0 0).toNat
 | x :: a, b, k + 1 => x.toNat * (b.getD (k + 1) 0).toNat + conv a b k
theorem zkL {l : List Int} (h : Dg l) {n : Nat} (hn : l.length ≤ n) : V l < 4294967296 ^ n := Nat.lt_of_lt_of_le (zaA h) (Nat.pow_le_pow_right (by omega) hn)
theorem znB {x y : Int} (h0 : 0 ≤ x ∧ x < 4294967296) (h1 : 0 ≤ y ∧ y < 4294967296) : Go.bits .or .u64 x (y * 4294967296) = x + y * 4294967296 := by
 obtain ⟨X, rfl⟩ := Int.eq_ofNat_of_zero_le h0.1
 obtain ⟨Y, rfl⟩ := Int.eq_ofNat_of_zero_le h1.1
 have e : (Y : Int) * 4294967296 = ((2 ^ 32 * Y : Nat) : Int) := by omega
 rw [e, u64_or_nat _ _ (by omega) (by omega), Nat.or_comm, ← Nat.two_pow_add_eq_or_of_lt (by omega)]
 omega
theorem zju {d : Int} (h : 0 ≤ d ∧ d < 4294967296) : shl .u64 d 0 = d := by
 unfold shl; simp; exact u64 h.1 (by omega)
theorem zor {d : Int} (h : 0 ≤ d ∧ d < 4294967296) : shl .u64 d 32 = d * 4294967296 := by
 unfold shl
 have e : min (32 : Int).toNat IntKind.u64.bits = 32 := by decide
 rw [e, show (2 : Int) ^ 32 = 4294967296 from rfl, u64 (by omega) (by omega)]
def zbr (l : List Int) : Bool := may l && decide (l.length ≤ 2)
theorem zgm {l : List Int} (h : Dg l) (hb : l.length < 4611686018427387904) : Ev (fun k => zan.f k l) (if zbr l then ((V l : Nat) : Int) else 0, zbr l) := by
 unfold zan.f
 refine zk (zca h hb) ?_
 have no : zbr l = false → Ev (fun _ : Nat => some ((0 : Int), false)) (if zbr l then ((V l : Nat) : Int) else 0, zbr l) := by
  intro e
  rw [e]
  exact Ev.now _
 by_cases c1 : may l = true
 ·rw [c1]
  (repeat (first | with_reducible refine ep ?_ | with_reducible refine en ?_))
  by_cases c2 : l.length > 2
  ·(repeat (first | with_reducible refine ep ?_ | with_reducible refine en ?_))
   exact no (by unfold zbr; rw [decide_eq_false (by omega)]; simp)
  ·(repeat (first | with_reducible refine ep ?_ | with_reducible refine en ?_))
   have e : zbr l = true := by unfold zbr; rw [c1, decide_eq_true (by omega)]; rfl
   rw [e]
   have w0 : wrap64 (32 * 0) = 0 := by unfold wrap64; omega
   have w1 : wrap64 (0 + 1) = 1 := by unfold wrap64; omega
   have w2 : wrap64 (32 * 1) = 32 := by unfold wrap64; omega
   have w3 : wrap64 (1 + 1) = 2 := by unfold wrap64; omega
   match l, h with
   | [], h =>
    refine zf ?_
    simp only [zan.l0]
    (repeat (first | with_reducible refine ep ?_ | with_reducible refine en ?_)); exact Ev.now _
   | [x], h =>
    have hx := h.head
    refine zf ?_
    simp only [zan.l0, w0, w1]
    (repeat (first | with_reducible refine ep ?_ | with_reducible refine en ?_))
    have r0 : rd [x] 0 = x := rfl
    rw [r0, u64 hx.1 (by omega), zju hx, u64_or _ _ (by omega) (by omega) (by omega) (by omega)]
    refine zf ?_
    simp only [zan.l0]
    (repeat (first | with_reducible refine ep ?_ | with_reducible refine en ?_))
    refine zi (Ev.now _) ?_
    simp
   | [x, y], h =>
    have hx := h.head
    have hy := h.tail.head
    refine zf ?_
    simp only [zan.l0, w0, w1]
    (repeat (first | with_reducible refine ep ?_ | with_reducible refine en ?_))
    have r0 : rd [x, y] 0 = x := rfl
    have r1 : rd [x, y] 1 = y := rfl
    rw [r0, u64 hx.1 (by omega), zju hx, u64_or _ _ (by omega) (by omega) (by omega) (by omega)]
    have z : (((0 : Int).toNat ||| x.toNat : Nat) : Int) = x := by simp; omega
    rw [z]
    refine zf ?_
    simp only [zan.l0, w2, w3]
    (repeat (first | with_reducible refine ep ?_ | with_reducible refine en ?_))
    rw [r1, u64 (n := y) hy.1 (by omega), zor hy, znB hx hy]
    refine zf ?_
    simp only [zan.l0]
    (repeat (first | with_reducible refine ep ?_ | with_reducible refine en ?_))
    refine zi (Ev.now _) ?_
    simp; omega
   | x :: y :: z :: l, h => simp at c2
 ·have c1 : may l = false := by simpa using c1
  rw [c1]
  (repeat (first | with_reducible refine ep ?_ | with_reducible refine en ?_)); exact no (by unfold zbr; simp [c1])
theorem zfP {m n : Nat} (h : (D m).length > 4096) (k : m ≤ n) : zJ n = ([], 3) := by
 have := zeK k
 unfold zJ; rw [if_pos (by omega)]
theorem zmW {m e : Nat} (he : 4096 = e) (h : 4294967296 ^ e ≤ m) : (D m).length > 4096 := by
 apply Nat.lt_of_not_le
 rw [he]
 intro k
 exact absurd (Nat.lt_of_lt_of_le (zdq m) (Nat.le_trans (Nat.pow_le_pow_right (by decide) k) h)) (Nat.lt_irrefl _)
theorem zoZ {m e k : Nat} (he : 32 * k ≤ e) (h : 2 ^ e ≤ m) : 4294967296 ^ k ≤ m := by
 have e1 : (4294967296 : Nat) ^ k = 2 ^ (32 * k) := by rw [Nat.pow_mul]
 rw [e1]
 exact Nat.le_trans (Nat.pow_le_pow_right (by decide) he) h
theorem zoY {m e : Nat} (he : 131072 ≤ e) (h : 2 ^ e ≤ m) : zJ m = ([], 3) :=
 have key : ∀ k, 4096 = k → zJ m = ([], 3) := fun k hk => zfP (zmW hk (zoZ (by omega) h)) (Nat.le_refl _)
 key 4096 rfl
def bl (n : Nat) : Nat := if n = 0 then 0 else n.log2 + 1
theorem zbj : bl 0 = 0 := rfl
theorem zcO {n : Nat} (h : n ≠ 0) : 2 ^ (bl n - 1) ≤ n := by
 unfold bl; rw [if_neg h]; exact Nat.log2_self_le h
theorem zL (n : Nat) : n < 2 ^ bl n := by
 unfold bl
 split
 ·subst n; simp
 ·exact Nat.lt_log2_self
theorem zbi {n : Nat} (h : n ≠ 0) : 0 < bl n := by unfold bl; rw [if_neg h]; omega
theorem zG {n k : Nat} (h : n < 2 ^ k) : bl n ≤ k := by
 by_cases e : n = 0
 ·subst e; simp [zbj]
 ·have h1 := zcO e
  have h2 := zbi e
  have : bl n - 1 < k := (Nat.pow_lt_pow_iff_right (a := 2) (by omega)).1 (Nat.lt_of_le_of_lt h1 h)
  omega
theorem zk6 {n k : Nat} (h1 : 2 ^ k ≤ n) (h2 : n < 2 ^ (k + 1)) : bl n = k + 1 := by
 have := zG h2
 have h3 : 2 ^ k < 2 ^ bl n := Nat.lt_of_le_of_lt h1 (zL n)
 have := (Nat.pow_lt_pow_iff_right (a := 2) (by omega)).1 h3
 omega
theorem zb2 {n k : Nat} (h : 2 ^ k ≤ n) : bl n = k + bl (n / 2 ^ k) := by
 have hp : 0 < 2 ^ k := Nat.pow_pos (by omega)
 have h0 : n / 2 ^ k ≠ 0 := by
  have := (Nat.le_div_iff_mul_le hp (x := 1) (y := n)).2 (by omega)
  omega
 have h1 := zcO h0
 have h2 := zL (n / 2 ^ k)
 have h3 := zbi h0
 have e : k + bl (n / 2 ^ k) = (k + (bl (n / 2 ^ k) - 1)) + 1 := by omega
 rw [e]
 apply zk6
 ·rw [Nat.pow_add]
  have := (Nat.le_div_iff_mul_le hp).1 h1
  rw [Nat.mul_comm]; exact this
 ·have := (Nat.div_lt_iff_lt_mul hp).1 h2
  rw [show k + (bl (n / 2 ^ k) - 1) + 1 = bl (n / 2 ^ k) + k by omega, Nat.pow_add]
  exact this
theorem zk4 {n : Nat} (h : n ≠ 0) : bl n = bl (n / 2) + 1 := by
 by_cases h1 : n = 1
 ·subst h1; rfl
 ·have := zb2 (n := n) (k := 1) (by omega)
  simp at this; omega
theorem zaf {a b : Nat} (h : a ≤ b) : bl a ≤ bl b := zG (Nat.lt_of_le_of_lt h (zL b))
def zjR : ByteArray := ⟨#[0, 1, 2, 2, 3, 3, 3, 3, 4, 4, 4, 4, 4, 4, 4, 4, 5, 5, 5, 5, 5, 5, 5, 5, 5, 5, 5, 5, 5, 5, 5, 5, 6, 6, 6, 6, 6, 6, 6, 6, 6, 6, 6, 6, 6, 6, 6, 6, 6, 6, 6, 6, 6, 6, 6, 6, 6, 6, 6, 6, 6, 6, 6, 6, 7, 7, 7, 7, 7, 7, 7, 7, 7, 7, 7, 7, 7, 7, 7, 7, 7, 7, 7, 7, 7, 7, 7, 7, 7, 7, 7, 7, 7, 7, 7, 7, 7, 7, 7, 7, 7, 7, 7, 7, 7, 7, 7, 7, 7, 7, 7, 7, 7, 7, 7, 7, 7, 7, 7, 7, 7, 7, 7, 7, 7, 7, 7, 7, 8, 8, 8, 8, 8, 8, 8, 8, 8, 8, 8, 8, 8, 8, 8, 8, 8, 8, 8, 8, 8, 8, 8, 8, 8, 8, 8, 8, 8, 8, 8, 8, 8, 8, 8, 8, 8, 8, 8, 8, 8, 8, 8, 8, 8, 8, 8, 8, 8, 8, 8, 8, 8, 8, 8, 8, 8, 8, 8, 8, 8, 8, 8, 8, 8, 8, 8, 8, 8, 8, 8, 8, 8, 8, 8, 8, 8, 8, 8, 8, 8, 8, 8, 8, 8, 8, 8, 8, 8, 8, 8, 8, 8, 8, 8, 8, 8, 8, 8, 8, 8, 8, 8, 8, 8, 8, 8, 8, 8, 8, 8, 8, 8, 8, 8, 8, 8, 8, 8, 8, 8, 8, 8, 8, 8, 8, 8, 8]⟩
theorem zoG : (List.range 256).all (fun i => bt zjR (i : Int) == (bl i : Int)) = true := by decide +kernel
theorem bt8 {t : ByteArray} {n : Nat} (h : n < 256) (ht : t = zjR) : bt t (n : Int) = (bl n : Int) := by
 subst ht
 have := List.all_eq_true.1 zoG n (List.mem_range.2 h)
 exact eq_of_beq this
theorem zhu {n : Nat} (h : n < 256) : bl n ≤ 8 := zG h
theorem ziw : zex.size = 256 := by decide +kernel
theorem zis {n : Nat} (h : n < 256) {m : Int} (hm : 0 ≤ m ∧ m ≤ 64) : Ev (fun k => z7.j1 k (n : Int) m) (m + (bl n : Nat)) := by
 refine zf ?_
 simp only [z7.j1]
 have e : (n : Int) % 256 = n := by omega
 have l := zhu h
 rw [e, ziw]
 (repeat (first | with_reducible refine ep ?_ | with_reducible refine en ?_))
 rw [bt8 h (by rfl), zaq (n := ((bl n : Nat) : Int)) (by omega) (by omega), zaq (by omega) (by omega)]
 exact Ev.now _
theorem zir {n : Nat} (h : n < 65536) {m : Int} (hm : 0 ≤ m ∧ m ≤ 32) : Ev (fun k => z7.j0 k (n : Int) m) (m + (bl n : Nat)) := by
 refine zf ?_
 simp only [z7.j0]
 by_cases c : n ≥ 256
 ·(repeat (first | with_reducible refine ep ?_ | with_reducible refine en ?_))
  have e2 : bl n = 8 + bl (n / 256) := zb2 (k := 8) c
  have := zis (n := n / 256) (by omega) (m := m + 8) (by omega)
  rw [zaq (by omega) (by omega), show (n : Int) / 256 = ((n / 256 : Nat) : Int) by omega]
  exact zi this (by rw [e2]; omega)
 ·(repeat (first | with_reducible refine ep ?_ | with_reducible refine en ?_))
  exact zis (by omega) (by omega)
theorem ziq {x : Int} (h : 0 ≤ x ∧ x < 4294967296) : Ev (fun k => z7.f k x) ((bl x.toNat : Nat) : Int) := by
 obtain ⟨n, rfl⟩ := Int.eq_ofNat_of_zero_le h.1
 unfold z7.f
 rw [Int.toNat_natCast]
 by_cases c : n ≥ 65536
 ·(repeat (first | with_reducible refine ep ?_ | with_reducible refine en ?_))
  have e1 : bl n = 16 + bl (n / 65536) := zb2 (k := 16) c
  rw [show (n : Int) / 65536 = ((n / 65536 : Nat) : Int) by omega]
  exact zi (zir (by omega) (by omega)) (by rw [e1]; omega)
 ·(repeat (first | with_reducible refine ep ?_ | with_reducible refine en ?_))
  exact zi (zir (by omega) (by omega)) (by omega)
theorem ziv {n : Nat} (h : n < 256) {m : Int} (hm : 0 ≤ m ∧ m ≤ 128) : Ev (fun k => zD.j2 k (n : Int) m) (m + (bl n : Nat)) := by
 refine zf ?_
 simp only [zD.j2]
 have e : (n : Int) % 256 = n := by omega
 have l := zhu h
 rw [e, ziw]
 (repeat (first | with_reducible refine ep ?_ | with_reducible refine en ?_))
 rw [bt8 h (by rfl), zaq (n := ((bl n : Nat) : Int)) (by omega) (by omega), zaq (by omega) (by omega)]
 exact Ev.now _
theorem ziu {n : Nat} (h : n < 65536) {m : Int} (hm : 0 ≤ m ∧ m ≤ 100) : Ev (fun k => zD.j1 k (n : Int) m) (m + (bl n : Nat)) := by
 refine zf ?_
 simp only [zD.j1]
 by_cases c : n ≥ 256
 ·(repeat (first | with_reducible refine ep ?_ | with_reducible refine en ?_))
  have e2 : bl n = 8 + bl (n / 256) := zb2 (k := 8) c
  have := ziv (n := n / 256) (by omega) (m := m + 8) (by omega)
  rw [zaq (by omega) (by omega), show (n : Int) / 256 = ((n / 256 : Nat) : Int) by omega]
  exact zi this (by rw [e2]; omega)
 ·(repeat (first | with_reducible refine ep ?_ | with_reducible refine en ?_))
  exact ziv (by omega) (by omega)
theorem zit {n : Nat} (h : n < 4294967296) {m : Int} (hm : 0 ≤ m ∧ m ≤ 64) : Ev (fun k => zD.j0 k n m) (m + (bl n : Nat)) := by
 refine zf ?_
 simp only [zD.j0]
 by_cases c : n ≥ 65536
 ·(repeat (first | with_reducible refine ep ?_ | with_reducible refine en ?_))
  have e2 : bl n = 16 + bl (n / 65536) := zb2 (k := 16) c
  have := ziu (n := n / 65536) (by omega) (m := m + 16) (by omega)
  rw [zaq (by omega) (by omega), show (n : Int) / 65536 = ((n / 65536 : Nat) : Int) by omega]
  exact zi this (by rw [e2]; omega)
 ·(repeat (first | with_reducible refine ep ?_ | with_reducible refine en ?_))
  exact ziu (by omega) (by omega)
theorem zd9 {x : Int} (h : 0 ≤ x ∧ x < 18446744073709551616) : Ev (fun k => zD.f k x) ((bl x.toNat : Nat) : Int) := by
 obtain ⟨n, rfl⟩ := Int.eq_ofNat_of_zero_le h.1
 rw [Int.toNat_natCast]
 unfold zD.f
 by_cases c : n ≥ 4294967296
 ·(repeat (first | with_reducible refine ep ?_ | with_reducible refine en ?_))
  have e : bl n = 32 + bl (n / 4294967296) := zb2 (k := 32) c
  have := zit (n := n / 4294967296) (by omega) (m := 32) (by omega)
  refine zi this ?_
  omega
 ·(repeat (first | with_reducible refine ep ?_ | with_reducible refine en ?_))
  have := zit (n := n) (by omega) (m := 0) (by omega)
  exact zi this (by omega)
theorem zk2 {l : List Int} (h : Nm l) (h0 : l ≠ []) : bl (V l) = 32 * (l.length - 1) + bl (l.getD (l.length - 1) 0).toNat := by
 rcases List.eq_nil_or_concat l with rfl | ⟨a, d, rfl⟩
 ·exact absurd rfl h0
 rw [List.concat_eq_append] at h ⊢
 have hd := h.dg d (by simp)
 have hn := zfF h
 have e : (a ++ [d]).getD ((a ++ [d]).length - 1) 0 = d := by simp
 rw [e]
 have hl : (a ++ [d]).length - 1 = a.length := by simp
 rw [hl, zaR]
 simp only [zF, zbg, Nat.mul_zero, Nat.add_zero]
 have hv := zaA h.dg.left
 have hp : (4294967296 : Nat) ^ a.length = 2 ^ (32 * a.length) := by rw [Nat.pow_mul]
 rw [hp] at hv ⊢
 have hpos : 0 < 2 ^ (32 * a.length) := Nat.pow_pos (by omega)
 have hd1 : 2 ^ (32 * a.length) * 1 ≤ 2 ^ (32 * a.length) * d.toNat := Nat.mul_le_mul_left _ (by omega)
 rw [zb2 (n := V a + 2 ^ (32 * a.length) * d.toNat) (k := 32 * a.length) (by omega)]
 rw [Nat.add_mul_div_left _ _ hpos, Nat.div_eq_of_lt hv, Nat.zero_add]
theorem ziY {x y : Int} (h0 : 0 ≤ x ∧ x < 4294967296) (h1 : 0 ≤ y ∧ y < 4294967296) : Go.bits .or .u64 (x * 4294967296) y = x * 4294967296 + y := by
 obtain ⟨X, rfl⟩ := Int.eq_ofNat_of_zero_le h0.1
 obtain ⟨Y, rfl⟩ := Int.eq_ofNat_of_zero_le h1.1
 have e : (X : Int) * 4294967296 = ((2 ^ 32 * X : Nat) : Int) := by omega
 rw [e, u64_or_nat _ _ (by omega) (by omega), ← Nat.two_pow_add_eq_or_of_lt (by omega)]
 omega
theorem zj3 {r x d : Int} (hr : 0 ≤ r ∧ r < d) (hx : 0 ≤ x ∧ x < 4294967296) (hd : d < 4294967296) : 0 ≤ (r * 4294967296 + x) / d ∧ (r * 4294967296 + x) / d < 4294967296 := by
 constructor
 ·exact Int.ediv_nonneg (by omega) (by omega)
 ·apply Int.ediv_lt_of_lt_mul (by omega)
  have : r * 4294967296 + 4294967296 ≤ d * 4294967296 := by omega
  rw [Int.mul_comm]; omega
theorem zlP {r x d : Int} (hr : 0 ≤ r ∧ r < d) (hx : 0 ≤ x ∧ x < 4294967296) (hd : d < 4294967296) : zda.f r x d = some ((r * 4294967296 + x) / d, (r * 4294967296 + x) % d) := by
 have hn : 0 ≤ r * 4294967296 + x := by omega
 have hd0 : d ≠ 0 := by omega
 have hr0 : ¬ d ≤ r := by omega
 have ur := u64 (n := r) (by omega) (by omega)
 have ur2 := u64 (n := r * 4294967296) (by omega) (by omega)
 have ux := u64 (n := x) (by omega) (by omega)
 have ud := u64 (n := d) (by omega) (by omega)
 have ho := ziY (x := r) (by omega) hx
 have h1 := zj3 hr hx hd
 have h2 : 0 ≤ (r * 4294967296 + x) % d := Int.emod_nonneg _ hd0
 have h3 : (r * 4294967296 + x) % d < d := Int.emod_lt_of_pos _ (by omega)
 unfold zda.f
 rw [if_pos hd0, if_neg hr0, ud, if_neg hd0, if_neg hd0, ur, ur2, ux, ho, Int.tdiv_eq_ediv_of_nonneg hn, Int.tmod_eq_emod_of_nonneg hn]
 clear ur ur2 ux ud ho
 generalize (r * 4294967296 + x) / d = q at *
 generalize (r * 4294967296 + x) % d = m at *
 rw [u64 h1.1 (by omega), Int.emod_eq_of_lt h1.1 h1.2, Int.emod_eq_of_lt h2 (by omega)]
theorem zks (n : Nat) (l : List Int) : List.replicate (n + 1) (0 : Int) ++ l = List.replicate n 0 ++ 0 :: l := by
 rw [List.replicate_succ', List.append_assoc]; rfl
theorem zov (t P X R E w : Nat) (hE : 0 < E) :
  (t + P * X + P * 4294967296 * R) / E + P * 4294967296 * w = (t + P * ((R * 4294967296 + X) % E)) / E + P * ((R * 4294967296 + X) / E + 4294967296 * w) ∧
  (t + P * X + P * 4294967296 * R) % E = (t + P * ((R * 4294967296 + X) % E)) % E := by
 have h := Nat.div_add_mod (R * 4294967296 + X) E
 have e4 : P * (R * 4294967296 + X) = P * 4294967296 * R + P * X := by rw [Nat.mul_add, Nat.mul_comm R, Nat.mul_assoc]
 generalize (R * 4294967296 + X) / E = q at *
 generalize (R * 4294967296 + X) % E = m at *
 have e3 : P * (E * q + m) = E * (P * q) + P * m := by rw [Nat.mul_add, Nat.mul_left_comm]
 rw [h, e4] at e3
 have key : t + P * X + P * 4294967296 * R = t + P * m + E * (P * q) := by
  rw [Nat.add_assoc, Nat.add_comm (P * X), e3, Nat.add_assoc, Nat.add_comm (P * m)]
 rw [key, Nat.add_mul_div_left _ _ hE, Nat.add_mul_mod_self_left, Nat.mul_add, Nat.mul_assoc P, Nat.add_assoc]
 exact ⟨rfl, rfl⟩
theorem zow {a : List Int} (ha : Dg a) {i : Nat} (hi : i < a.length) {r d : Int} (hr : 0 ≤ r ∧ r < d) (w : Nat) :
  (V (a.take (i + 1)) + 4294967296 ^ (i + 1) * r.toNat) / d.toNat + 4294967296 ^ (i + 1) * w =
   (V (a.take i) + 4294967296 ^ i * ((r * 4294967296 + a.getD i 0) % d).toNat) / d.toNat + 4294967296 ^ i * (((r * 4294967296 + a.getD i 0) / d).toNat + 4294967296 * w) ∧
  (V (a.take (i + 1)) + 4294967296 ^ (i + 1) * r.toNat) % d.toNat = (V (a.take i) + 4294967296 ^ i * ((r * 4294967296 + a.getD i 0) % d).toNat) % d.toNat := by
 have hx := ha.getD i
 rw [zeP hi]
 obtain ⟨R, rfl⟩ := Int.eq_ofNat_of_zero_le hr.1
 obtain ⟨E, rfl⟩ := Int.eq_ofNat_of_zero_le (show 0 ≤ d by omega)
 obtain ⟨X, hX⟩ := Int.eq_ofNat_of_zero_le hx.1
 rw [hX]
 have hE : 0 < E := by omega
 clear hx hX hr ha hi
 have e1 : ((R : Int) * 4294967296 + X) % E = (((R * 4294967296 + X) % E : Nat) : Int) := by
  rw [Int.natCast_emod, Int.natCast_add, Int.natCast_mul, Int.cast_ofNat_Int]
 have e2 : ((R : Int) * 4294967296 + X) / E = (((R * 4294967296 + X) / E : Nat) : Int) := by
  rw [Int.natCast_ediv, Int.natCast_add, Int.natCast_mul, Int.cast_ofNat_Int]
 rw [e1, e2]
 rw [Int.toNat_natCast, Int.toNat_natCast, Int.toNat_natCast, Int.toNat_natCast, Int.toNat_natCast, Nat.pow_succ]
 exact zov _ _ _ _ _ _ hE
theorem zjy {a : List Int} (ha : Dg a) (hl : a.length < 1000000000) {d : Int} (hd : 0 < d ∧ d < 4294967296) : ∀ (i : Nat) (r : Int) (done : List Int), i + done.length = a.length → 0 ≤ r ∧ r < d → Dg done →
  Ev (fun k => zaP.l0 k a d (List.replicate i 0 ++ done) r ((i : Int) - 1)) (D ((V (a.take i) + 4294967296 ^ i * r.toNat) / d.toNat + 4294967296 ^ i * V done), (((V (a.take i) + 4294967296 ^ i * r.toNat) % d.toNat : Nat) : Int))
 | 0, r, done, hi, hr, hg => by
  refine zf ?_
  simp only [zaP.l0]
  (repeat (first | with_reducible refine ep ?_ | with_reducible refine en ?_))
  refine Ev.bind (zcb (l := List.replicate 0 0 ++ done) (by simpa using hg) (by simp; omega)) (zi (Ev.now _) ?_)
  have h1 : r.toNat / d.toNat = 0 := Nat.div_eq_of_lt (by omega)
  have h2 : r.toNat % d.toNat = r.toNat := Nat.mod_eq_of_lt (by omega)
  simp [h1, h2]; omega
 | i + 1, r, done, hi, hr, hg => by
  have e0 : ((i + 1 : Nat) : Int) - 1 = (i : Int) := by omega
  have hx := ha.getD i
  have ht := zj3 hr hx hd.2
  have st := zow ha (i := i) (by omega) hr (V done)
  have hm0 : 0 ≤ (r * 4294967296 + a.getD i 0) % d := Int.emod_nonneg _ (by omega)
  have hm1 : (r * 4294967296 + a.getD i 0) % d < d := Int.emod_lt_of_pos _ (by omega)
  have ih := zjy ha hl hd i ((r * 4294967296 + a.getD i 0) % d) (((r * 4294967296 + a.getD i 0) / d) :: done) (by simp; omega) ⟨hm0, hm1⟩ (Dg.cons ht.1 ht.2 hg)
  rw [e0]
  refine zf ?_
  simp only [zaP.l0, zch (n := i) (by omega)]
  (repeat (first | with_reducible refine ep ?_ | with_reducible refine en ?_))
  rw [rdn]
  refine zk (zlP hr hx hd.2) ?_
  refine zd (by omega) (zd (by simp; omega) ?_)
  have hs : (List.replicate (i + 1) (0 : Int) ++ done).set ((i : Int)).toNat ((r * 4294967296 + a.getD i 0) / d) = List.replicate i 0 ++ ((r * 4294967296 + a.getD i 0) / d) :: done := by
   rw [zks, za9 (by simp)]; simp
  rw [hs]
  refine zi ih ?_
  rw [zF, st.1, st.2]
theorem ziS {a : List Int} (ha : Dg a) (hl : a.length < 1000000000) {d : Int} (hd : 0 < d ∧ d < 4294967296) : Ev (fun k => zaP.f k a d) (D (V a / d.toNat), ((V a % d.toNat : Nat) : Int)) := by
 unfold zaP.f
 (repeat (first | with_reducible refine ep ?_ | with_reducible refine en ?_))
 have := zjy ha hl hd a.length 0 [] (by simp) (by omega) Dg.nil
 rw [zch (by omega)]
 simpa using this
theorem pw {s : Nat} (h : s ≤ 32) : 2 ^ s * 2 ^ (32 - s) = 4294967296 := by
 rw [← Nat.pow_add]; have : s + (32 - s) = 32 := by omega
 rw [this]
theorem zh (s : Nat) : 0 < 2 ^ s := Nat.pow_pos (by omega)
theorem zdB {X P Q c : Nat} (hP : 0 < P) (hc : c < P) : (X * P + c) / (P * Q) = X / Q ∧ (X * P + c) % (P * Q) = P * (X % Q) + c := by
 have h1 : (X * P + c) / P = X := by rw [Nat.mul_comm, Nat.mul_add_div hP, Nat.div_eq_of_lt hc, Nat.add_zero]
 have h2 : (X * P + c) % P = c := by rw [Nat.mul_comm, Nat.mul_add_mod, Nat.mod_eq_of_lt hc]
 exact ⟨by rw [← Nat.div_div_eq_div_mul, h1], by rw [Nat.mod_mul, h1, h2, Nat.add_comm]⟩
theorem zfn (s : Nat) : ((2 : Int) ^ s) = ((2 ^ s : Nat) : Int) := by simp
theorem zop (X s : Nat) (hs : s < 32) : shl .u32 (X : Int) (s : Int) = ((X * 2 ^ s % 4294967296 : Nat) : Int) := by
 unfold shl
 rw [Int.toNat_natCast, Nat.min_eq_left (by simp [IntKind.bits]; omega), zfn, ← Int.natCast_mul]
 simp [IntKind.wrap, IntKind.bits, IntKind.signed]
theorem zoq (X s : Nat) (hs : s ≤ 32) (hX : X < 4294967296) : shl .u64 (X : Int) (s : Int) = ((X * 2 ^ s : Nat) : Int) := by
 unfold shl
 rw [Int.toNat_natCast, Nat.min_eq_left (by simp [IntKind.bits]; omega), zfn, ← Int.natCast_mul]
 have h1 : 2 ^ s ≤ 2 ^ 32 := Nat.pow_le_pow_right (by omega) hs
 have h2 : X * 2 ^ s ≤ 4294967295 * 2 ^ 32 := Nat.mul_le_mul (by omega) h1
 exact u64 (by omega) (by omega)
theorem zdD {k : IntKind} (X s : Nat) (hs : s ≤ k.bits) : shr k (X : Int) (s : Int) = ((X / 2 ^ s : Nat) : Int) := by
 unfold shr
 rw [Int.toNat_natCast, Nat.min_eq_left hs, zfn, ← Int.natCast_ediv]
theorem zkp (X : Nat) (hX : X < 4294967296) : IntKind.u64.wrap (X : Int) = (X : Int) := u64 (by omega) (by omega)
theorem zki {s : Nat} (hs : s ≤ 32) : wrap64 (32 - (s : Int)) = ((32 - s : Nat) : Int) := by unfold wrap64; omega
theorem zeZ {X s : Nat} (hs : s ≤ 32) (hX : X < 4294967296) : X / 2 ^ s < 2 ^ (32 - s) := by
 rw [Nat.div_lt_iff_lt_mul (zh _), Nat.mul_comm, pw hs]; exact hX
theorem zpf (X s c : Nat) (hs : s < 32) (hX : X < 4294967296) (hc : c < 2 ^ s) : Go.bits .or .u32 (shl .u32 (X : Int) (s : Int)) (c : Int) = (((X * 2 ^ s + c) % 4294967296 : Nat) : Int) := by
 have h1 := (zdB (X := X) (Q := 2 ^ (32 - s)) (zh s) hc).2
 have h0 := (zdB (X := X) (Q := 2 ^ (32 - s)) (c := 0) (zh s) (zh s)).2
 have hle : 2 ^ s ≤ 2 ^ 31 := Nat.pow_le_pow_right (by omega) (by omega)
 rw [pw (by omega)] at h1 h0
 rw [zop _ _ hs, u32_or_nat _ _ (by omega) (by omega), h1]
 rw [Nat.add_zero, Nat.add_zero] at h0
 rw [h0, ← Nat.two_pow_add_eq_or_of_lt hc]
theorem zpe (X s c : Nat) (hs : s < 32) (hX : X < 4294967296) (hc : c < 2 ^ s) : (shr .u64 (IntKind.u64.wrap (X : Int)) (wrap64 (32 - (s : Int)))) % 4294967296 = (((X * 2 ^ s + c) / 4294967296 : Nat) : Int) := by
 have h1 := (zdB (X := X) (Q := 2 ^ (32 - s)) (zh s) hc).1
 rw [pw (by omega)] at h1
 rw [zkp _ hX, zki (by omega), zdD _ _ (by simp [IntKind.bits]; omega), h1]
 have := zeZ (s := 32 - s) (by omega) hX
 have h3 : X / 2 ^ (32 - s) ≤ X := Nat.div_le_self _ _
 omega
theorem zkf (X s c : Nat) (hs : s < 32) (hX : X < 4294967296) (hc : c < 2 ^ s) : (X * 2 ^ s + c) / 4294967296 < 2 ^ s := by
 have h1 := (zdB (X := X) (Q := 2 ^ (32 - s)) (zh s) hc).1
 rw [pw (by omega)] at h1
 rw [h1]
 have := zeZ (s := 32 - s) (by omega) hX
 have e : 32 - (32 - s) = s := by omega
 rwa [e] at this
def zcI (P : Nat) : List Int → Nat → List Int
 | [], c => [(c : Int)]
 | d :: l, c => (((d.toNat * P + c) % 4294967296 : Nat) : Int) :: zcI P l ((d.toNat * P + c) / 4294967296)
theorem zke {s : Nat} (hs : s < 32) : ∀ (l : List Int) (c : Nat), Dg l → c < 2 ^ s → V (zcI (2 ^ s) l c) = V l * 2 ^ s + c ∧ Dg (zcI (2 ^ s) l c)
 | [], c, _, hc => by
  have hle : 2 ^ s ≤ 2 ^ 31 := Nat.pow_le_pow_right (by omega) (by omega)
  simp only [zcI, zF, zbg]
  exact ⟨by omega, Dg.cons (by omega) (by omega) Dg.nil⟩
 | d :: l, c, hg, hc => by
  have hd := hg.head
  have hX : d.toNat < 4294967296 := by omega
  have ih := zke hs l _ hg.tail (zkf d.toNat s c hs hX hc)
  simp only [zcI, zF, ih.1]
  refine ⟨?_, Dg.cons (by omega) (by omega) ih.2⟩
  generalize hm : d.toNat * 2 ^ s + c = m
  rw [Nat.add_mul, Nat.mul_assoc]
  generalize V l * 2 ^ s = z
  omega
theorem nn {i : Nat} : 0 ≤ (i : Int) := Int.natCast_nonneg i
theorem zkh (A : List Int) (hA : Dg A) (hl : A.length < 1000000000) {s : Nat} (hs : s < 32) : ∀ (a done pa : List Int) (c : Nat), A = pa ++ a → c < 2 ^ s → Dg done → done.length + a.length < 2000000000 →
  Ev (fun k => zaJ.l0 k done s c A A.length pa.length) (D (V (done ++ zcI (2 ^ s) a c)))
 | [], done, pa, c, he, hc, hg, hb => by
  have hlen : A.length = pa.length := by rw [he]; simp
  have hle : 2 ^ s ≤ 2 ^ 31 := Nat.pow_le_pow_right (by omega) (by omega)
  refine zf ?_
  simp only [zaJ.l0]
  (repeat (first | with_reducible refine ep ?_ | with_reducible refine en ?_))
  exact Ev.bind (zcb (hg.app (Dg.cons (by omega) (by omega) Dg.nil)) (by simp at hb ⊢; omega)) (Ev.now _)
 | d :: a, done, pa, c, he, hc, hg, hb => by
  have hlen : A.length = pa.length + 1 + a.length := by rw [he]; simp; omega
  have hd : 0 ≤ d ∧ d < 4294967296 := by rw [he] at hA; exact hA.right.head
  obtain ⟨X, rfl⟩ := Int.eq_ofNat_of_zero_le hd.1
  have hX : X < 4294967296 := by omega
  have h1 : rd A (pa.length : Int) = (X : Int) := by rw [he]; exact zZ rfl
  refine zf ?_
  simp only [zaJ.l0, h1, zbJ (n := pa.length) (by omega), zpf X s c hs hX hc, zpe X s c hs hX hc]
  have w32 : wrap64 (32 - (s : Int)) = 32 - (s : Int) := by unfold wrap64; omega
  (repeat (first | with_reducible refine ep ?_ | with_reducible refine en ?_))
  have := zkh A hA hl hs a (done ++ [(((X * 2 ^ s + c) % 4294967296 : Nat) : Int)]) (pa ++ [(X : Int)]) ((X * 2 ^ s + c) / 4294967296) (by rw [he]; simp) (zkf X s c hs hX hc) (hg.app (Dg.cons (by omega) (by omega) Dg.nil)) (by simp at hb ⊢; omega)
  rw [List.length_append, List.length_singleton] at this
  refine zi this ?_
  simp [zcI]
theorem t32 {n : Nat} (h : n < 4611686018427387904) : wrap64 (Int.tdiv (n : Int) 32) = ((n / 32 : Nat) : Int) := by
 rw [Int.tdiv_eq_ediv_of_nonneg (by omega)]; unfold wrap64; omega
theorem m32 (n : Nat) : Int.tmod (n : Int) 32 = ((n % 32 : Nat) : Int) := by
 rw [Int.tmod_eq_emod_of_nonneg (by omega)]; omega
theorem zgB (n : Nat) : 2 ^ n = 4294967296 ^ (n / 32) * 2 ^ (n % 32) := by
 have h : (4294967296 : Nat) = 2 ^ 32 := by decide
 rw [h, ← Nat.pow_mul, ← Nat.pow_add]; congr 1; omega
theorem zpd {a : List Int} (ha : Dg a) (n : Nat) : V (List.replicate (n / 32) 0 ++ zcI (2 ^ (n % 32)) a 0) = V a * 2 ^ n := by
 have h := (zke (s := n % 32) (by omega) a 0 ha (zh _)).1
 rw [zaR, zeQ, List.length_replicate, h, Nat.zero_add, Nat.add_zero, zgB n, Nat.mul_left_comm]
theorem zgp {a : List Int} (ha : Dg a) (la : a.length < 1000000000) (n : Nat) (hn : n < 1000000000) : Ev (fun k => zaJ.f k a n) (D (V a * 2 ^ n)) := by
 unfold zaJ.f
 have e1 : wrap64 (wrap64 (((n / 32 : Nat) : Int) + (a.length : Int)) + 1) = ((n / 32 + a.length + 1 : Nat) : Int) := by unfold wrap64; omega
 simp only [t32 (n := n) (by omega), m32, e1]
 clear e1
 by_cases h0 : a = []
 ·subst h0
  (repeat (first | with_reducible refine ep ?_ | with_reducible refine en ?_))
  exact zi (Ev.now _) (by simp [zP])
 ·have : 0 < a.length := List.length_pos_iff.2 h0
  (repeat (first | with_reducible refine ep ?_ | with_reducible refine en ?_))
  have h := zkh a ha la (s := n % 32) (by omega) a (List.replicate (n / 32) 0) [] 0 rfl (zh _) (Dg.zeros _) (by simp; omega)
  rw [zpd ha] at h
  simp only [Int.toNat_natCast]
  simpa using h
theorem pw' {s : Nat} (h : s ≤ 32) : 2 ^ (32 - s) * 2 ^ s = 4294967296 := by rw [Nat.mul_comm]; exact pw h
theorem zdR {l : List Int} (h : Dg l) (q : Nat) : V (l.drop q) = V l / 4294967296 ^ q := by
 by_cases hq : q ≤ l.length
 ·have e : V l = V (l.take q) + 4294967296 ^ q * V (l.drop q) := by
   conv => lhs; rw [← List.take_append_drop q l, zaR, List.length_take, Nat.min_eq_left hq]
  have hlt : V (l.take q) < 4294967296 ^ q := by
   have := zaA (h.take q); rwa [List.length_take, Nat.min_eq_left hq] at this
  rw [e, Nat.add_mul_div_left _ _ (Nat.pow_pos (by omega)), Nat.div_eq_of_lt hlt, Nat.zero_add]
 ·rw [List.drop_eq_nil_of_le (by omega), zbg, Nat.div_eq_of_lt]
  exact Nat.lt_of_lt_of_le (zaA h) (Nat.pow_le_pow_right (by omega) (by omega))
theorem zfc {m : Nat} (h : m < 4294967296) : (m : Int) < 4294967296 := by omega
theorem zlS (Y s : Nat) (hs : s < 32) (hY : Y < 4294967296) : (shl .u64 (IntKind.u64.wrap (Y : Int)) (wrap64 (32 - (s : Int)))) % 4294967296 = ((2 ^ (32 - s) * (Y % 2 ^ s) : Nat) : Int) := by
 rw [zkp _ hY, zki (by omega), zoq _ _ (by omega) hY]
 have h := (zdB (X := Y) (P := 2 ^ (32 - s)) (Q := 2 ^ s) (c := 0) (zh _) (zh _)).2
 rw [pw' (by omega), Nat.add_zero, Nat.add_zero] at h
 rw [← h]; omega
theorem zf1 (X Y s : Nat) (hs : s < 32) (hX : X < 4294967296) : X / 2 ^ s + 2 ^ (32 - s) * (Y % 2 ^ s) < 4294967296 := by
 have h1 := zeZ (s := s) (by omega) hX
 have h2 : Y % 2 ^ s + 1 ≤ 2 ^ s := Nat.mod_lt _ (zh _)
 have h3 := Nat.mul_le_mul_left (2 ^ (32 - s)) h2
 rw [pw' (by omega), Nat.mul_add] at h3
 omega
theorem zlR (X Y s : Nat) (hs : s < 32) (hX : X < 4294967296) (hY : Y < 4294967296) : Go.bits .or .u32 ((X / 2 ^ s : Nat) : Int) ((shl .u64 (IntKind.u64.wrap (Y : Int)) (wrap64 (32 - (s : Int)))) % 4294967296) = ((X / 2 ^ s + 2 ^ (32 - s) * (Y % 2 ^ s) : Nat) : Int) := by
 have hl := zf1 X Y s hs hX
 rw [zlS Y s hs hY, u32_or_nat _ _ (Nat.lt_of_le_of_lt (Nat.le_add_right _ _) hl) (Nat.lt_of_le_of_lt (Nat.le_add_left _ _) hl), Nat.or_comm, ← Nat.two_pow_add_eq_or_of_lt (zeZ (by omega) hX), Nat.add_comm]
def zbz (s : Nat) : List Int → List Int
 | [] => []
 | d :: l => ((d.toNat / 2 ^ s + 2 ^ (32 - s) * ((l.headD 0).toNat % 2 ^ s) : Nat) : Int) :: zbz s l
theorem zkO {l : List Int} {s : Nat} (hs : s ≤ 32) : V l % 2 ^ s = (l.headD 0).toNat % 2 ^ s := by
 cases l with
 | nil => simp
 | cons d l =>
  have h := pw (s := s) hs
  simp only [zF, List.headD_cons]
  rw [← h, Nat.mul_assoc, Nat.add_mul_mod_self_left]
theorem zhU {s : Nat} (hs : s < 32) : ∀ (l : List Int), Dg l → V (zbz s l) = V l / 2 ^ s ∧ Dg (zbz s l)
 | [], _ => by simp [zbz, Dg.nil]
 | d :: l, hg => by
  have hd := hg.head
  have ih := zhU hs l hg.tail
  have hl := zf1 d.toNat (l.headD 0).toNat s hs (by omega)
  simp only [zbz, zF, ih.1]
  refine ⟨?_, Dg.cons nn (zfc hl) ih.2⟩
  rw [← zkO (l := l) (by omega), Int.toNat_natCast]
  have h := pw (s := s) (by omega)
  have h' := pw' (s := s) (by omega)
  have e1 : (d.toNat + 4294967296 * V l) / 2 ^ s = d.toNat / 2 ^ s + 2 ^ (32 - s) * V l := by
   rw [← h, Nat.mul_assoc, Nat.add_mul_div_left _ _ (zh _)]
  have e2 : 2 ^ (32 - s) * V l = 2 ^ (32 - s) * (V l % 2 ^ s) + 4294967296 * (V l / 2 ^ s) := by
   rw [← h', Nat.mul_assoc, ← Nat.mul_add, Nat.mod_add_div]
  rw [e1, e2, Nat.add_assoc]
theorem zlQ {a : List Int} (ha : Dg a) (n : Nat) : V (zbz (n % 32) (a.drop (n / 32))) = V a / 2 ^ n := by
 rw [(zhU (by omega) _ (ha.drop _)).1, zdR ha, Nat.div_div_eq_div_mul, ← zgB]
theorem zhV (A : List Int) (hA : Dg A) (hl : A.length < 1000000000) {s : Nat} (hs : s < 32) : ∀ (a done pa : List Int), A = pa ++ a → done.length = pa.length → Dg done →
  Ev (fun k => zaI.l0 k A s (done ++ List.replicate a.length 0) A A.length pa.length) (D (V (done ++ zbz s a)))
 | [], done, pa, he, hd, hg => by
  have hlen : A.length = pa.length := by rw [he]; simp
  refine zf ?_
  simp only [zaI.l0]
  (repeat (first | with_reducible refine ep ?_ | with_reducible refine en ?_))
  simp only [List.length_nil, List.replicate_zero, zbz]
  exact Ev.bind (zcb (l := done ++ []) (by simpa using hg) (by simp; omega)) (Ev.now _)
 | d :: a, done, pa, he, hd, hg => by
  have hlen : A.length = pa.length + 1 + a.length := by rw [he]; simp; omega
  have hdd : 0 ≤ d ∧ d < 4294967296 := by rw [he] at hA; exact hA.right.head
  obtain ⟨X, rfl⟩ := Int.eq_ofNat_of_zero_le hdd.1
  have hX : X < 4294967296 := by omega
  have h1 : rd A (pa.length : Int) = (X : Int) := by rw [he]; exact zZ rfl
  have hg2 : Dg (a) := by rw [he] at hA; exact hA.right.tail
  have hy := hg2.headD
  have ih := zhV A hA hl hs a (done ++ [((X / 2 ^ s + 2 ^ (32 - s) * ((a.headD 0).toNat % 2 ^ s) : Nat) : Int)]) (pa ++ [(X : Int)]) (by rw [he]; simp) (by simp [hd])
   (hg.app (Dg.cons nn (zfc (zf1 X (a.headD 0).toNat s hs hX)) Dg.nil))
  rw [@List.length_append _ pa, List.length_singleton] at ih
  refine zf ?_
  have hset : (done ++ List.replicate ((X : Int) :: a).length 0).set ((pa.length : Int)).toNat ((X / 2 ^ s : Nat) : Int) = (done ++ [((X / 2 ^ s : Nat) : Int)]) ++ List.replicate a.length 0 := by
   rw [List.length_cons, List.replicate_succ, za9 (by omega)]
  simp only [zaI.l0, h1, zbJ (n := pa.length) (by omega), zdD (k := .u32) X s (by simp [IntKind.bits]; omega), hset, Option.bind_some]
  have w32 : wrap64 (32 - (s : Int)) = 32 - (s : Int) := by unfold wrap64; omega
  (repeat (first | with_reducible refine ep ?_ | with_reducible refine en ?_))
  by_cases hn : a = []
  ·subst hn
   simp only [List.length_nil, Nat.add_zero] at hlen
   (repeat (first | with_reducible refine ep ?_ | with_reducible refine en ?_))
   refine zi (by simpa [zbz] using ih) ?_
   simp [zbz]
  ·obtain ⟨y, a', rfl⟩ := List.exists_cons_of_ne_nil hn
   obtain ⟨Y, rfl⟩ := Int.eq_ofNat_of_zero_le hy.1
   simp only [List.headD_cons] at hy ih
   have hlen' := hlen
   simp only [List.length_cons] at hlen'
   have h2 : rd A ((pa.length + 1 : Nat) : Int) = (Y : Int) := by rw [he, show pa ++ (X : Int) :: (Y : Int) :: a' = (pa ++ [(X : Int)]) ++ (Y : Int) :: a' by simp]; exact zZ (by simp)
   have h3 : rd (done ++ [((X / 2 ^ s : Nat) : Int)] ++ List.replicate ((Y : Int) :: a').length 0) (pa.length : Int) = ((X / 2 ^ s : Nat) : Int) := by rw [List.append_assoc, List.singleton_append]; exact zZ (by omega)
   have hset2 : (done ++ [((X / 2 ^ s : Nat) : Int)] ++ List.replicate ((Y : Int) :: a').length 0).set ((pa.length : Int)).toNat ((X / 2 ^ s + 2 ^ (32 - s) * (Y % 2 ^ s) : Nat) : Int) = done ++ [((X / 2 ^ s + 2 ^ (32 - s) * (Y % 2 ^ s) : Nat) : Int)] ++ List.replicate ((Y : Int) :: a').length 0 := by
    rw [List.append_assoc, List.singleton_append, za9 (by omega)]
   simp only [h2, h3, zlR X Y s hs hX (by omega), hset2]
   (repeat (first | with_reducible refine ep ?_ | with_reducible refine en ?_))
   rw [Int.toNat_natCast] at ih
   refine zi ih ?_
   simp [zbz]
theorem ziQ {a : List Int} (ha : Dg a) (la : a.length < 1000000000) (n : Nat) (hn : n < 100000000000) : Ev (fun k => zaI.f k a n) (D (V a / 2 ^ n)) := by
 unfold zaI.f
 simp only [t32 (n := n) (by omega), m32]
 by_cases h : n / 32 ≥ a.length
 ·(repeat (first | with_reducible refine ep ?_ | with_reducible refine en ?_))
  have : V a / 2 ^ n = 0 := by
   rw [zgB, ← Nat.div_div_eq_div_mul, ← zdR ha, List.drop_eq_nil_of_le h]; simp
  rw [this, zP]; exact Ev.now _
 ·(repeat (first | with_reducible refine ep ?_ | with_reducible refine en ?_))
  have h := zhV (a.drop (n / 32)) (ha.drop _) (by simp; omega) (s := n % 32) (by omega) (a.drop (n / 32)) [] [] rfl rfl Dg.nil
  simp only [List.nil_append, zlQ ha] at h
  simp only [Int.toNat_natCast]
  simpa using h
theorem zdV {l : List Int} (h : Dg l) : bl (V l) ≤ 32 * l.length := by
 apply zG
 have := zaA h
 rwa [show (4294967296 : Nat) = 2 ^ 32 from rfl, ← Nat.pow_mul] at this
theorem zbK {n k : Nat} (h : n < 4294967296 ^ k) : (D n).length ≤ k := by
 rcases Nat.lt_or_ge k (D n).length with h1 | h1
 ·have h2 := zfB (zae n) (by intro e; rw [e] at h1; simp at h1)
  rw [V_D] at h2
  have h3 : 4294967296 ^ k ≤ 4294967296 ^ ((D n).length - 1) := Nat.pow_le_pow_right (by omega) (by omega)
  omega
 ·exact h1
theorem zhm {l : List Int} (h : Nm l) (h0 : l ≠ []) : V l ≠ 0 := fun e => h0 ((zdS h).1 e)
theorem zll {m n : Nat} : (zbk m n ≥ 0) ↔ n ≤ m := by
 unfold zbk; split
 ·constructor <;> intro h <;> omega
 ·split <;> constructor <;> intro h <;> omega
theorem zmo {U3 V2 P ul vl Q : Nat} (hP : 0 < P) (hul : ul < P) (hQ : Q * (V2 * P + vl) ≤ U3 * P + ul) : Q * V2 ≤ U3 := by
 have h1 : Q * V2 * P ≤ Q * (V2 * P + vl) := by rw [Nat.mul_add, Nat.mul_assoc]; omega
 have h2 : Q * V2 * P < (U3 + 1) * P := by rw [Nat.add_mul, Nat.one_mul]; omega
 have := Nat.lt_of_mul_lt_mul_right h2
 omega
theorem zmn {U3 V2 P ul vl g B : Nat} (hP : 0 < P) (hg : g * V2 ≤ U3) (hB : g < B) (hvl : vl < P) (hv : B * P ≤ V2 * P + vl) : g * (V2 * P + vl) < (U3 * P + ul) + (V2 * P + vl) := by
 have h1 : g * V2 * P ≤ U3 * P := Nat.mul_le_mul_right _ hg
 have h2 : g * vl ≤ g * P := Nat.mul_le_mul_left _ (by omega)
 have h3 : g * P < B * P := Nat.mul_lt_mul_of_pos_right hB hP
 rw [Nat.mul_add, ← Nat.mul_assoc]
 omega
theorem zga {g left v1 v2 top u2 B : Nat} (h : left + g * v1 = top) : g * (v1 * B + v2) ≤ top * B + u2 ↔ g * v2 ≤ left * B + u2 := by
 rw [← h, Nat.mul_add, Nat.add_mul, ← Nat.mul_assoc]; omega
theorem zmm {g left v1 v2 top u2 B : Nat} (h : left + g * v1 = top) (ht : top < v1 * B + B) (hl : B ≤ left) (hv : v2 < B) : g < B ∧ g * (v1 * B + v2) ≤ top * B + u2 := by
 have hg : g < B := by
  rcases Nat.lt_or_ge g B with h1 | h1
  ·exact h1
  ·have := Nat.mul_le_mul_right v1 h1
   rw [Nat.mul_comm B] at this
   omega
 refine ⟨hg, (zga h).2 ?_⟩
 have h1 : g * v2 ≤ B * B := Nat.mul_le_mul (by omega) (by omega)
 have h2 : B * B ≤ left * B := Nat.mul_le_mul_right _ hl
 omega
theorem zay {n : Nat} (h : n < 18446744073709551616) : IntKind.u64.wrap (n : Int) = (n : Int) := u64 (by omega) (by omega)
theorem zgk {a b : Nat} (ha : a < 4294967296) (hb : b < 4294967296) : a * b ≤ 18446744065119617025 := by
 have := Nat.mul_le_mul (show a ≤ 4294967295 by omega) (show b ≤ 4294967295 by omega)
 omega
theorem ziZ (a b : Nat) (ha : a < 4294967296) (hb : b < 4294967296) : Go.bits .or .u64 (IntKind.u64.wrap ((a : Int) * 4294967296)) (b : Int) = ((a * 4294967296 + b : Nat) : Int) := by
 have e : (a : Int) * 4294967296 = ((a * 4294967296 : Nat) : Int) := by omega
 rw [e, zay (by omega), ← e, ziY (by omega) (by omega)]; omega
theorem zjJ {u v : List Int} {n v1 v2 u2 top Q : Nat} (hn : 2 ≤ n) (hnb : n < 1000000000) (hv : v.length = n) (hu : u.length = n + 1)
  (h1 : rd v ((n - 1 : Nat) : Int) = (v1 : Int)) (h2 : rd v ((n - 2 : Nat) : Int) = (v2 : Int)) (h3 : rd u ((n - 2 : Nat) : Int) = (u2 : Int))
  (b1 : v1 < 4294967296) (b2 : v2 < 4294967296) (b3 : u2 < 4294967296) (ht : top < v1 * 4294967296 + 4294967296)
  (hQ : Q * (v1 * 4294967296 + v2) ≤ top * 4294967296 + u2) (hQB : Q < 4294967296) {res : Int × List Int}
  (H : ∀ G : Nat, G < 4294967296 → Q ≤ G → G * (v1 * 4294967296 + v2) ≤ top * 4294967296 + u2 → Ev (fun k => zB.l1 k u v n G 0 0 v (v.length : Int) 0) res) :
  ∀ (g left : Nat), Q ≤ g → left + g * v1 = top → left < 4294967296 → g < 18446744073709551616 → Ev (fun k => zB.l0 k u v n g left) res
 | g, left, hg, hl, hlb, hgb => by
  have e1 : wrap64 ((n : Int) - 1) = ((n - 1 : Nat) : Int) := by unfold wrap64; omega
  have e2 : wrap64 ((n : Int) - 2) = ((n - 2 : Nat) : Int) := by unfold wrap64; omega
  have tru : Q < g → Ev (fun k => if 0 ≤ ((n - 1 : Nat) : Int) then (if ((n - 1 : Nat) : Int) < (v.length : Int) then (if (IntKind.u64.wrap ((left : Int) + (v1 : Int))) ≥ 4294967296 then (zB.l1 k u v n (IntKind.u64.wrap ((g : Int) - 1)) 0 0 v (v.length : Int) 0) else (zB.l0 k u v n (IntKind.u64.wrap ((g : Int) - 1)) (IntKind.u64.wrap ((left : Int) + (v1 : Int))))) else none) else none) res := by
   intro hlt
   obtain ⟨g', rfl⟩ : ∃ g', g = g' + 1 := ⟨g - 1, by omega⟩
   have e3 : IntKind.u64.wrap (((g' + 1 : Nat) : Int) - 1) = (g' : Int) := by
    rw [show ((g' + 1 : Nat) : Int) - 1 = (g' : Int) by omega]; exact zay (by omega)
   have e4 : IntKind.u64.wrap ((left : Int) + (v1 : Int)) = ((left + v1 : Nat) : Int) := by
    rw [← Int.natCast_add]; exact zay (by omega)
   have hl2 : (left + v1) + g' * v1 = top := by rw [← hl, Nat.add_mul, Nat.one_mul]; omega
   simp only [e3, e4]
   refine zd nn (zd (by omega) ?_)
   by_cases hb : 4294967296 ≤ left + v1
   ·obtain ⟨k1, k2⟩ := zmm (u2 := u2) hl2 ht hb b2
    (repeat (first | with_reducible refine ep ?_ | with_reducible refine en ?_)); exact H g' k1 (by omega) k2
   ·(repeat (first | with_reducible refine ep ?_ | with_reducible refine en ?_)); exact zjJ hn hnb hv hu h1 h2 h3 b1 b2 b3 ht hQ hQB H g' (left + v1) (by omega) hl2 (by omega) (by omega)
  refine zf ?_
  simp only [zB.l0, e1, h1, zay (n := v1) (by omega)]
  by_cases hB : 4294967296 ≤ g
  ·exact zd (by omega) (tru (by omega))
  ·have hm := zgk (a := g) (b := v2) (by omega) b2
   have e5 : IntKind.u64.wrap ((g : Int) * (v2 : Int)) = ((g * v2 : Nat) : Int) := by
    rw [← Int.natCast_mul]; exact zay (by omega)
   refine ze (by omega) ?_
   simp only [e2, h2, h3, zay (n := v2) (by omega), zay (n := u2) (by omega), e5, ziZ left u2 hlb b3]
   refine zd nn (zd (by omega) (zd nn (zd (by omega) ?_)))
   by_cases hc : g * v2 ≤ left * 4294967296 + u2
   ·exact ze (by have := Int.ofNat_le.2 hc; omega) (H g (by omega) hg ((zga hl).2 hc))
   ·refine zd (by have := Int.ofNat_lt.2 (Nat.lt_of_not_le hc); omega) (tru ?_)
    rcases Nat.lt_or_ge Q g with h | h
    ·exact h
    ·have : g = Q := by omega
     subst this
     exact absurd ((zga hl).1 hQ) hc
termination_by g => g
theorem zcZ (n : Nat) : (4294967296 : Nat) ^ (n + 1) = 4294967296 ^ n * 4294967296 := Nat.pow_succ ..
def bw (x y : Nat) : Nat := if x < y then 1 else 0
def zam (g : Nat) : List Int → List Int → Nat → Nat → List Int × Nat
 | d :: v, x :: u, c, b =>
  let r := zam g v u ((c + g * d.toNat) / 4294967296) (bw x.toNat ((c + g * d.toNat) % 4294967296 + b))
  ((x - (((c + g * d.toNat) % 4294967296 : Nat) : Int) - (b : Int)) % 4294967296 :: r.1, r.2)
 | [], x :: u, c, b => ((x - (c : Int) - (b : Int)) % 4294967296 :: u, bw x.toNat (c + b))
 | _, [], c, b => ([], b)
theorem zhS {x t b : Nat} (hx : x < 4294967296) (ht : t < 4294967296) (hb : b ≤ 1) : (((x : Int) - (t : Int) - (b : Int)) % 4294967296).toNat + t + b = x + bw x (t + b) * 4294967296 := by
 unfold bw; split <;> omega
theorem zhz {g d c : Nat} (hg : g < 4294967296) (hd : d < 4294967296) (hc : c < 4294967296) : (c + g * d) / 4294967296 < 4294967296 := by
 have := zgk hg hd; omega
theorem zfS (x y : Nat) : bw x y ≤ 1 := by unfold bw; split <;> omega
theorem zgi {g : Nat} (hg : g < 4294967296) : ∀ (v u : List Int) (c b : Nat), Dg v → Dg u → u.length = v.length + 1 → c < 4294967296 → b ≤ 1 →
  V (zam g v u c b).1 + g * V v + c + b = V u + (zam g v u c b).2 * 4294967296 ^ (v.length + 1) ∧ Dg (zam g v u c b).1 ∧ (zam g v u c b).1.length = u.length ∧ (zam g v u c b).2 ≤ 1
 | [], x :: u, c, b, hv, hu, hl, hc, hb => by
  have hx := hu.head
  have : u = [] := List.eq_nil_of_length_eq_zero (by simpa using hl)
  subst this
  obtain ⟨X, rfl⟩ := Int.eq_ofNat_of_zero_le hx.1
  have h := zhS (x := X) (t := c) (b := b) (by omega) hc hb
  simp only [zam, zF, zbg, List.length_nil, Int.toNat_natCast, Nat.zero_add, Nat.pow_one]
  refine ⟨by omega, Dg.cons (by omega) (by omega) Dg.nil, rfl, zfS _ _⟩
 | d :: v, x :: u, c, b, hv, hu, hl, hc, hb => by
  have hx := hu.head; have hd := hv.head
  obtain ⟨X, rfl⟩ := Int.eq_ofNat_of_zero_le hx.1
  obtain ⟨Y, rfl⟩ := Int.eq_ofNat_of_zero_le hd.1
  have hcl := zhz (d := Y) hg (by omega) hc
  have h := zhS (x := X) (t := (c + g * Y) % 4294967296) (b := b) (by omega) (by omega) hb
  have ih := zgi hg v u _ _ hv.tail hu.tail (by simpa using hl) hcl (zfS X ((c + g * Y) % 4294967296 + b))
  have hdm := Nat.div_add_mod (c + g * Y) 4294967296
  simp only [zam, zF, List.length_cons, Int.toNat_natCast]
  generalize zam g v u ((c + g * Y) / 4294967296) (bw X ((c + g * Y) % 4294967296 + b)) = r at *
  refine ⟨?_, Dg.cons (by omega) (by omega) ih.2.1, by rw [ih.2.2.1], ih.2.2.2⟩
  have e1 := ih.1
  rw [zcZ (v.length + 1), Nat.mul_add g, Nat.mul_left_comm g]
  generalize 4294967296 ^ (v.length + 1) = p at *
  rw [← Nat.mul_assoc r.2]
  generalize r.2 * p = rp at *
  generalize g * V v = gv at *
  generalize g * Y = gy at *
  generalize bw X ((c + gy) % 4294967296 + b) = o at *
  omega
def zbh : List Int → List Int → Nat → List Int
 | d :: v, x :: u, c => (x + d + (c : Int)) % 4294967296 :: zbh v u ((x.toNat + d.toNat + c) / 4294967296)
 | [], x :: u, c => (x + (c : Int)) % 4294967296 :: u
 | _, [], c => []
theorem zhn : ∀ (v u : List Int) (c : Nat), Dg v → Dg u → u.length = v.length + 1 → c ≤ 1 →
  (∃ o : Nat, V (zbh v u c) + o * 4294967296 ^ (v.length + 1) = V u + V v + c) ∧ Dg (zbh v u c) ∧ (zbh v u c).length = u.length
 | [], x :: u, c, hv, hu, hl, hc => by
  have hx := hu.head
  have : u = [] := List.eq_nil_of_length_eq_zero (by simpa using hl)
  subst this
  obtain ⟨X, rfl⟩ := Int.eq_ofNat_of_zero_le hx.1
  simp only [zbh, zF, zbg, List.length_nil, Int.toNat_natCast, Nat.zero_add, Nat.pow_one]
  refine ⟨⟨(X + c) / 4294967296, by omega⟩, Dg.cons (by omega) (by omega) Dg.nil, rfl⟩
 | d :: v, x :: u, c, hv, hu, hl, hc => by
  have hx := hu.head; have hd := hv.head
  obtain ⟨X, rfl⟩ := Int.eq_ofNat_of_zero_le hx.1
  obtain ⟨Y, rfl⟩ := Int.eq_ofNat_of_zero_le hd.1
  have ih := zhn v u ((X + Y + c) / 4294967296) hv.tail hu.tail (by simpa using hl) (by omega)
  simp only [zbh, zF, List.length_cons, Int.toNat_natCast]
  generalize zbh v u ((X + Y + c) / 4294967296) = r at *
  obtain ⟨⟨o, e1⟩, e2, e3⟩ := ih
  refine ⟨⟨o, ?_⟩, Dg.cons (by omega) (by omega) e2, by rw [e3]⟩
  rw [zcZ (v.length + 1)]
  generalize 4294967296 ^ (v.length + 1) = p at *
  rw [← Nat.mul_assoc o]
  generalize o * p = rp at *
  omega
theorem zjL (Vl : List Int) (hV : Dg Vl) (hl : Vl.length < 1000000000) (G : Nat) (hG0 : 0 < G) (hG : G < 4294967297) : ∀ (v pv done u : List Int) (c : Nat), Vl = pv ++ v → done.length = pv.length → u.length = v.length + 1 → Dg u → c ≤ 1 →
  Ev (fun k => zB.l2 k (done ++ u) Vl.length G c Vl Vl.length pv.length) (((G - 1 : Nat) : Int), done ++ zbh v u c)
 | [], pv, done, u, c, he, hd, hlu, hu, hc => by
  have hlen : Vl.length = pv.length := by rw [he]; simp
  obtain ⟨x, rfl⟩ := List.length_eq_one_iff.1 (show u.length = 1 by simpa using hlu)
  have hx := hu.head
  refine zf ?_
  simp only [zB.l2]
  (repeat (first | with_reducible refine ep ?_ | with_reducible refine en ?_))
  refine zi (Ev.now _) ?_
  have e3 : IntKind.u64.wrap ((G : Int) - 1) = ((G - 1 : Nat) : Int) := by
   rw [show (G : Int) - 1 = ((G - 1 : Nat) : Int) by omega]; exact zay (by omega)
  rw [e3, zZ (xs := done) (ys := []) (y := x) (by omega), za9 (by omega)]
  simp [zbh]; omega
 | d :: v, pv, done, u, c, he, hd, hlu, hu, hc => by
  have hlen : Vl.length = pv.length + 1 + v.length := by rw [he]; simp; omega
  obtain ⟨x, u, rfl⟩ := List.exists_cons_of_ne_nil (show u ≠ [] by intro e; rw [e] at hlu; simp at hlu)
  have hx := hu.head
  have hdd : 0 ≤ d ∧ d < 4294967296 := by rw [he] at hV; exact hV.right.head
  refine zf ?_
  simp only [zB.l2, zbJ (n := pv.length) (by omega)]
  have h1 : rd Vl (pv.length : Int) = d := by rw [he]; exact zZ rfl
  have h2 : rd (done ++ x :: u) (pv.length : Int) = x := zZ (by omega)
  rw [h1, h2]
  (repeat (first | with_reducible refine ep ?_ | with_reducible refine en ?_))
  refine zk (zkQ hx hdd (by omega)) ?_
  rw [za9 (by omega)]
  have := zjL Vl hV hl G hG0 hG v (pv ++ [d]) (done ++ [(x + d + (c : Int)) % 4294967296]) u ((x.toNat + d.toNat + c) / 4294967296) (by rw [he]; simp) (by simp [hd]) (by simpa using hlu) hu.tail (by omega)
  rw [List.length_append, List.length_singleton] at this
  have e4 : (x + d + (c : Int)) / 4294967296 = (((x.toNat + d.toNat + c) / 4294967296 : Nat) : Int) := by omega
  simp only [e4]
  (repeat (first | with_reducible refine ep ?_ | with_reducible refine en ?_))
  refine zi this ?_
  simp [zbh]
theorem zhl : ∀ (a b : List Int), Dg a → Dg b → a.length = b.length → V a = V b → a = b
 | [], [], _, _, _, _ => rfl
 | [], y :: b, _, _, h, _ => by simp at h
 | x :: a, [], _, _, h, _ => by simp at h
 | x :: a, y :: b, ha, hb, h, e => by
  have h1 := ha.head; have h2 := hb.head
  simp only [zF] at e
  have h3 : x = y := by omega
  subst h3
  rw [zhl a b ha.tail hb.tail (by simpa using h) (by omega)]
def Dk (k n : Nat) : List Int := D n ++ List.replicate (k - (D n).length) 0
theorem zfE (k n : Nat) : V (Dk k n) = n := by unfold Dk; rw [zaR, zeQ, V_D]; simp
theorem zhd (k n : Nat) : Dg (Dk k n) := (zaK n).app (Dg.zeros _)
theorem zhf {k n : Nat} (h : n < 4294967296 ^ k) : (Dk k n).length = k := by
 have := zbK h
 unfold Dk; simp; omega
theorem zhe {k n : Nat} {l : List Int} (h : Dg l) (hl : l.length = k) (hv : V l = n) : l = Dk k n := by
 have hk : n < 4294967296 ^ k := by rw [← hv, ← hl]; exact zaA h
 exact zhl _ _ h (zhd k n) (by rw [hl, zhf hk]) (by rw [hv, zfE])
theorem zhw {X Y : Nat} : (if (X : Int) < (Y : Int) then (1 : Int) else 0) = ((bw X Y : Nat) : Int) := by
 unfold bw; split <;> split <;> omega
theorem zjK (Vl : List Int) (hV : Dg Vl) (hl : Vl.length < 1000000000) (G : Nat) (hG : G < 4294967296) : ∀ (v pv done u : List Int) (c b : Nat), Vl = pv ++ v → done.length = pv.length → Dg done → u.length = v.length + 1 → Dg u → c < 4294967296 → b ≤ 1 → ((zam G v u c b).2 ≠ 0 → 0 < G) →
  Ev (fun k => zB.l1 k (done ++ u) Vl Vl.length G b c Vl Vl.length pv.length) (if (zam G v u c b).2 = 0 then ((G : Int), done ++ (zam G v u c b).1) else (((G - 1 : Nat) : Int), zbh Vl (done ++ (zam G v u c b).1) 0))
 | [], pv, done, u, c, b, he, hd, hdg, hlu, hu, hc, hb, hG0 => by
  have hlen : Vl.length = pv.length := by rw [he]; simp
  have hms := zgi hG [] u c b Dg.nil hu hlu hc hb
  obtain ⟨x, rfl⟩ := List.length_eq_one_iff.1 (show u.length = 1 by simpa using hlu)
  have hx := hu.head
  obtain ⟨X, rfl⟩ := Int.eq_ofNat_of_zero_le hx.1
  have e0 : (c : Int) % 4294967296 = (c : Int) := by omega
  have e1 : (X : Int) - (c : Int) - (b : Int) = (X : Int) - (c : Int) - (b : Int) := rfl
  have e2 : (G : Int) % 4294967296 = (G : Int) := by omega
  refine zf ?_
  simp only [zB.l1, e0]
  (repeat (first | with_reducible refine ep ?_ | with_reducible refine en ?_))
  rw [zZ (xs := done) (ys := []) (y := (X : Int)) (by omega)]
  refine zk (zjN hx (by omega) (by omega)) ?_
  rw [za9 (by omega), ← Int.natCast_add, zhw]
  simp only [Option.bind_some, e2]
  have hm : zam G [] [(X : Int)] c b = ([((X : Int) - (c : Int) - (b : Int)) % 4294967296], bw X (c + b)) := by simp [zam]
  rw [hm] at hms hG0 ⊢
  have hap : done ++ [((X : Int) - (c : Int) - (b : Int)) % 4294967296] ++ [] = done ++ [((X : Int) - (c : Int) - (b : Int)) % 4294967296] := List.append_nil _
  rw [hap]
  by_cases h0 : bw X (c + b) = 0
  ·simp only [h0]
   (repeat (first | with_reducible refine ep ?_ | with_reducible refine en ?_))
   exact zi (Ev.now _) (by simp)
  ·simp only [if_neg h0]
   (repeat (first | with_reducible refine ep ?_ | with_reducible refine en ?_))
   have := zjL Vl hV hl G (hG0 h0) (by omega) Vl [] [] (done ++ [((X : Int) - (c : Int) - (b : Int)) % 4294967296]) 0 rfl rfl (by simp; omega) (hdg.app hms.2.1) (by omega)
   simpa using this
 | d :: v, pv, done, u, c, b, he, hd, hdg, hlu, hu, hc, hb, hG0 => by
  have hlen : Vl.length = pv.length + 1 + v.length := by rw [he]; simp; omega
  obtain ⟨x, u, rfl⟩ := List.exists_cons_of_ne_nil (show u ≠ [] by intro e; rw [e] at hlu; simp at hlu)
  have hx := hu.head
  have hdd : 0 ≤ d ∧ d < 4294967296 := by rw [he] at hV; exact hV.right.head
  obtain ⟨X, rfl⟩ := Int.eq_ofNat_of_zero_le hx.1
  obtain ⟨Y, rfl⟩ := Int.eq_ofNat_of_zero_le hdd.1
  have hcl := zhz (d := Y) hG (by omega) hc
  have hm64 := zgk (a := G) (b := Y) hG (by omega)
  have h1 : rd Vl (pv.length : Int) = (Y : Int) := by rw [he]; exact zZ rfl
  have h2 : rd (done ++ (X : Int) :: u) (pv.length : Int) = (X : Int) := zZ (by omega)
  have e5 : IntKind.u64.wrap ((c : Int) + (IntKind.u64.wrap ((G : Int) * (IntKind.u64.wrap (Y : Int))))) = ((c + G * Y : Nat) : Int) := by
   rw [zay (n := Y) (by omega), ← Int.natCast_mul, zay (by omega), ← Int.natCast_add]
   exact zay (by omega)
  have e6 : ((c + G * Y : Nat) : Int) % 4294967296 = (((c + G * Y) % 4294967296 : Nat) : Int) := by generalize c + G * Y = t; omega
  have e7 : ((c + G * Y : Nat) : Int) / 4294967296 = (((c + G * Y) / 4294967296 : Nat) : Int) := by generalize c + G * Y = t; omega
  refine zf ?_
  simp only [zB.l1, h1, h2, e5, e6, e7, zbJ (n := pv.length) (by omega)]
  (repeat (first | with_reducible refine ep ?_ | with_reducible refine en ?_))
  refine zk (zjN hx (by omega) (by omega)) ?_
  rw [za9 (by omega), ← Int.natCast_add, zhw]
  have hbd : 0 ≤ ((X : Int) - (((c + G * Y) % 4294967296 : Nat) : Int) - (b : Int)) % 4294967296 ∧ ((X : Int) - (((c + G * Y) % 4294967296 : Nat) : Int) - (b : Int)) % 4294967296 < 4294967296 := by omega
  have := zjK Vl hV hl G hG v (pv ++ [(Y : Int)]) (done ++ [((X : Int) - (((c + G * Y) % 4294967296 : Nat) : Int) - (b : Int)) % 4294967296]) u ((c + G * Y) / 4294967296) (bw X ((c + G * Y) % 4294967296 + b)) (by rw [he]; simp) (by simp [hd]) (hdg.app (Dg.cons hbd.1 hbd.2 Dg.nil)) (by simpa using hlu) hu.tail hcl (zfS _ _) (by simpa [zam] using hG0)
  rw [List.length_append, List.length_singleton] at this
  (repeat (first | with_reducible refine ep ?_ | with_reducible refine en ?_))
  refine zi this ?_
  simp only [zam, Int.toNat_natCast, List.append_assoc, List.singleton_append]
  rfl
theorem zoS (T U2 P w : Nat) : T * (P * 4294967296) ≤ (T * 4294967296 + U2) * P + w := by
 rw [Nat.mul_comm P, ← Nat.mul_assoc, Nat.add_mul, Nat.add_assoc]; exact Nat.le_add_right _ _
theorem dm1 (Q a b c : Nat) : Q * a * c ≤ Q * (a * c + b) := by rw [Nat.mul_add, ← Nat.mul_assoc]; exact Nat.le_add_right _ _
theorem zoM (a b : Nat) : Int.tdiv (a : Int) (b : Int) = ((a / b : Nat) : Int) := rfl
theorem zfs (a b : Nat) : Int.tmod (a : Int) (b : Int) = ((a % b : Nat) : Int) := rfl
theorem zgX {v : List Int} {n : Nat} (h : v.length = n + 2) : ∃ vl v2 v1, v = vl ++ [v2, v1] ∧ vl.length = n := by
 rcases List.eq_nil_or_concat v with rfl | ⟨a, d, rfl⟩
 ·simp at h
 rcases List.eq_nil_or_concat a with rfl | ⟨b, e, rfl⟩
 ·simp at h
 exact ⟨b, e, d, by simp, by simp at h; omega⟩
theorem zoz {u : List Int} {n : Nat} (h : u.length = n + 3) : ∃ ul u2 u1 u0, u = ul ++ [u2, u1, u0] ∧ ul.length = n := by
 rcases List.eq_nil_or_concat u with rfl | ⟨a, d, rfl⟩
 ·simp at h
 obtain ⟨ul, u2, u1, rfl, h2⟩ := zgX (v := a) (n := n) (by simp at h; omega)
 exact ⟨ul, u2, u1, d, by simp, h2⟩
theorem zej {l : List Int} {n : Nat} {pre post : List Int} {y : Int} (h : l = pre ++ y :: post) (hn : pre.length = n) : rd l (n : Int) = y := by
 rw [h]; exact zZ (by omega)
theorem znm {u v : List Int} {m : Nat} (hv : Dg v) (hu : Dg u) (lv : v.length = m + 2) (lu : u.length = m + 3) (hm : m < 100000000) (htop : 4294967296 ^ (m + 1) ≤ V v) (hlt : V u < V v * 4294967296) :
  Ev (fun k => zB.f k u v) (((V u / V v : Nat) : Int), Dk (m + 3) (V u % V v)) := by
 obtain ⟨vl, v2, v1, rfl, lvl⟩ := zgX lv
 obtain ⟨ul, u2, u1, u0, rfl, lul⟩ := zoz lu
 have d2 := hv v2 (by simp); have d1 := hv v1 (by simp)
 have c2 := hu u2 (by simp); have c1 := hu u1 (by simp); have c0 := hu u0 (by simp)
 obtain ⟨V1, rfl⟩ := Int.eq_ofNat_of_zero_le d1.1
 obtain ⟨V2, rfl⟩ := Int.eq_ofNat_of_zero_le d2.1
 obtain ⟨U2, rfl⟩ := Int.eq_ofNat_of_zero_le c2.1
 obtain ⟨U1, rfl⟩ := Int.eq_ofNat_of_zero_le c1.1
 obtain ⟨U0, rfl⟩ := Int.eq_ofNat_of_zero_le c0.1
 have hP : 0 < 4294967296 ^ m := Nat.pow_pos (by omega)
 have hvl := zaA hv.left; rw [lvl] at hvl
 have hul := zaA hu.left; rw [lul] at hul
 have eV : V (vl ++ [(V2 : Int), (V1 : Int)]) = (V1 * 4294967296 + V2) * 4294967296 ^ m + V vl := by
  rw [zaR, lvl]; simp only [zF, zbg, Int.toNat_natCast]
  rw [Nat.mul_comm (4294967296 ^ m), Nat.add_comm, show V2 + 4294967296 * (V1 + 4294967296 * 0) = V1 * 4294967296 + V2 by omega]
 have eU : V (ul ++ [(U2 : Int), (U1 : Int), (U0 : Int)]) = ((U0 * 4294967296 + U1) * 4294967296 + U2) * 4294967296 ^ m + V ul := by
  rw [zaR, lul]; simp only [zF, zbg, Int.toNat_natCast]
  rw [Nat.mul_comm (4294967296 ^ m), Nat.add_comm, show U2 + 4294967296 * (U1 + 4294967296 * (U0 + 4294967296 * 0)) = (U0 * 4294967296 + U1) * 4294967296 + U2 by omega]
 have hpm := zcZ m
 have hvv := zaA hv; rw [lv] at hvv
 have hvpos : 0 < V (vl ++ [(V2 : Int), (V1 : Int)]) := Nat.lt_of_lt_of_le (by rw [hpm]; omega) htop
 have hms0 := fun G (hG : G < 4294967296) => zgi (g := G) hG (vl ++ [(V2 : Int), (V1 : Int)]) (ul ++ [(U2 : Int), (U1 : Int), (U0 : Int)]) 0 0 hv hu (by rw [lv, lu]) (by omega) (by omega)
 have hab0 := fun r (hr : Dg r) (hl : r.length = m + 3) => zhn (vl ++ [(V2 : Int), (V1 : Int)]) r 0 hv hr (by rw [lv, hl]) (by omega)
 have hl1 := fun G (hG : G < 4294967296) => zjK (vl ++ [(V2 : Int), (V1 : Int)]) hv (by omega) G hG (vl ++ [(V2 : Int), (V1 : Int)]) [] [] (ul ++ [(U2 : Int), (U1 : Int), (U0 : Int)]) 0 0 rfl rfl Dg.nil (by rw [lv, lu]) hu (by omega) (by omega)
 have r1 : rd (vl ++ [(V2 : Int), (V1 : Int)]) ((m + 1 : Nat) : Int) = (V1 : Int) := zej (pre := vl ++ [(V2 : Int)]) (post := []) (by simp) (by simp [lvl])
 have r2 : rd (vl ++ [(V2 : Int), (V1 : Int)]) ((m : Nat) : Int) = (V2 : Int) := zej (pre := vl) (post := [(V1 : Int)]) rfl lvl
 have s2 : rd (ul ++ [(U2 : Int), (U1 : Int), (U0 : Int)]) ((m : Nat) : Int) = (U2 : Int) := zej (pre := ul) (post := [(U1 : Int), (U0 : Int)]) rfl lul
 have s1 : rd (ul ++ [(U2 : Int), (U1 : Int), (U0 : Int)]) ((m + 1 : Nat) : Int) = (U1 : Int) := zej (pre := ul ++ [(U2 : Int)]) (post := [(U0 : Int)]) (by simp) (by simp [lul])
 have s0 : rd (ul ++ [(U2 : Int), (U1 : Int), (U0 : Int)]) ((m + 2 : Nat) : Int) = (U0 : Int) := zej (pre := ul ++ [(U2 : Int), (U1 : Int)]) (post := []) (by simp) (by simp [lul])
 generalize hvE : vl ++ [(V2 : Int), (V1 : Int)] = v at *
 generalize huE : ul ++ [(U2 : Int), (U1 : Int), (U0 : Int)] = u at *
 have hv1 : 0 < V1 := by
  rcases Nat.eq_zero_or_pos V1 with h | h
  ·exfalso
   subst h
   have h3 : (0 * 4294967296 + V2) * 4294967296 ^ m + V vl < 4294967296 * 4294967296 ^ m := by
    have h4 : (V2 + 1) * 4294967296 ^ m ≤ 4294967296 * 4294967296 ^ m := Nat.mul_le_mul_right _ (by omega)
    rw [Nat.add_mul] at h4
    rw [Nat.zero_mul, Nat.zero_add]; omega
   rw [← eV, Nat.mul_comm, ← hpm] at h3
   omega
  ·exact h
 have hQB : V u / V v < 4294967296 := by rw [Nat.div_lt_iff_lt_mul hvpos, Nat.mul_comm]; exact hlt
 have hQ0 : V u / V v * V v ≤ V u := Nat.div_mul_le_self _ _
 have hR : V u % V v < V v := Nat.mod_lt _ hvpos
 have hdm : V v * (V u / V v) + V u % V v = V u := Nat.div_add_mod _ _
 have hdl0 : ∀ g, g * V v ≤ V u → g ≤ V u / V v := fun g h => (Nat.le_div_iff_mul_le hvpos).2 h
 generalize V u / V v = Qq at *
 generalize V u % V v = Rr at *
 have hQ2 : Qq * (V1 * 4294967296 + V2) ≤ (U0 * 4294967296 + U1) * 4294967296 + U2 := by
  refine zmo (vl := V vl) hP hul ?_
  rw [← eV, ← eU]; exact hQ0
 have htl : U0 * 4294967296 + U1 < V1 * 4294967296 + 4294967296 := by
  have h1 : (U0 * 4294967296 + U1) * (4294967296 ^ m * 4294967296) < (V1 * 4294967296 + 4294967296) * (4294967296 ^ m * 4294967296) := by
   have h2 : (U0 * 4294967296 + U1) * (4294967296 ^ m * 4294967296) ≤ V u := by
    rw [eU]; exact zoS _ _ _ _
   have h3 : V v * 4294967296 ≤ (V1 * 4294967296 + 4294967296) * (4294967296 ^ m * 4294967296) := by
    rw [← Nat.mul_assoc]
    refine Nat.mul_le_mul_right _ ?_
    rw [eV]
    have h4 : (V1 * 4294967296 + V2 + 1) * 4294967296 ^ m ≤ (V1 * 4294967296 + 4294967296) * 4294967296 ^ m := Nat.mul_le_mul_right _ (by omega)
    rw [Nat.add_mul _ 1, Nat.one_mul] at h4
    omega
   omega
  exact Nat.lt_of_mul_lt_mul_right h1
 have H : ∀ G : Nat, G < 4294967296 → Qq ≤ G → G * (V1 * 4294967296 + V2) ≤ (U0 * 4294967296 + U1) * 4294967296 + U2 → Ev (fun k => zB.l1 k u v ((m + 2 : Nat) : Int) G 0 0 v (v.length : Int) 0) (((Qq : Nat) : Int), Dk (m + 3) (Rr)) := by
  intro G hG hge hg2
  have hlow : G * V v < V u + V v := by
   have := zmn (ul := V ul) (B := 4294967296) hP hg2 hG hvl (by rw [← eV, Nat.mul_comm, ← hpm]; exact htop)
   rwa [← eV, ← eU] at this
  have hGQ : G = Qq ∨ G = Qq + 1 := by
   have h1 : (G - 1) * V v ≤ V u := by
    rcases Nat.eq_zero_or_pos G with h | h
    ·subst h; simp
    ·obtain ⟨g, rfl⟩ : ∃ g, G = g + 1 := ⟨G - 1, by omega⟩
     rw [Nat.add_mul, Nat.one_mul] at hlow
     simp; omega
   have := hdl0 _ h1
   omega
  obtain ⟨m1, m2, m3, m4⟩ := hms0 G hG
  have hl := hl1 G hG
  rw [lv] at m1
  rw [lu] at m3
  have m5 := zaA m2; rw [m3] at m5
  have ab := hab0 _ m2 m3
  rw [lv] at ab
  generalize zam G v u 0 0 = r at *
  obtain ⟨⟨o, ab1⟩, ab2, ab3⟩ := ab
  have ab4 := zaA ab2; rw [ab3, m3] at ab4
  rw [show m + 2 + 1 = m + 3 from rfl] at m1 ab1
  have hvM : V v < 4294967296 ^ (m + 3) := by
   rw [zcZ (m + 2)]; omega
  generalize hM : 4294967296 ^ (m + 3) = M at *
  have hgv : ∀ q, q * V v = V v * q := fun q => Nat.mul_comm _ _
  have key : (if r.2 = 0 then ((G : Int), [] ++ r.1) else (((G - 1 : Nat) : Int), zbh v ([] ++ r.1) 0)) = (((Qq : Nat) : Int), Dk (m + 3) (Rr)) ∧ (r.2 ≠ 0 → 0 < G) := by
   have hmul : G = Qq + 1 → G * V v = V v * (Qq) + V v := fun h => by rw [h, Nat.mul_comm, Nat.mul_add, Nat.mul_one]
   have hmul0 : G = Qq → G * V v = V v * (Qq) := fun h => by rw [Nat.mul_comm, h]
   by_cases h0 : r.2 = 0
   ·rw [h0, Nat.zero_mul] at m1
    have hG2 : G = Qq := by
     rcases hGQ with h | h
     ·exact h
     ·have := hmul h; omega
    refine ⟨?_, fun h => absurd h0 h⟩
    rw [if_pos h0, List.nil_append, zhe m2 m3 (n := Rr) (by have := hmul0 hG2; omega), ← hG2]
   ·have hr1 : r.2 = 1 := by omega
    rw [hr1, Nat.one_mul] at m1
    have hG2 : G = Qq + 1 := by
     rcases hGQ with h | h
     ·exfalso; have := hmul0 h; omega
     ·exact h
    have hmm := hmul hG2
    refine ⟨?_, fun _ => by omega⟩
    have ho : o = 1 := by
     rcases Nat.lt_or_ge o 1 with h | h
     ·have : o = 0 := by omega
      subst this; omega
     ·rcases Nat.lt_or_ge 1 o with h2 | h2
      ·have := Nat.mul_le_mul_right M h2; omega
      ·omega
    subst ho
    rw [if_neg h0, List.nil_append, zhe ab2 (by rw [ab3, m3]) (n := Rr) (by omega)]
    congr 2; omega
  have hl2 := hl key.2
  rw [key.1] at hl2
  rw [lv] at hl2 ⊢
  simpa using hl2
 unfold zB.f
 have e1 : wrap64 (((m + 2 : Nat) : Int) - 1) = ((m + 1 : Nat) : Int) := by unfold wrap64; omega
 simp only [lv, lu, e1, r1, s1, s0]
 clear e1
 rw [zay (n := U0) (by omega), zay (n := U1) (by omega), zay (n := V1) (by omega), ziZ U0 U1 (by omega) (by omega)]
 (repeat (first | with_reducible refine ep ?_ | with_reducible refine en ?_))
 have hdl : (U0 * 4294967296 + U1) / V1 ≤ U0 * 4294967296 + U1 := Nat.div_le_self _ _
 rw [zoM, zfs, zay (n := (U0 * 4294967296 + U1) / V1) (by omega)]
 have hml : (U0 * 4294967296 + U1) % V1 < V1 := Nat.mod_lt _ hv1
 have hdm2 := Nat.mod_add_div (U0 * 4294967296 + U1) V1
 refine zjJ (n := m + 2) (top := U0 * 4294967296 + U1) (Q := Qq) (by omega) (by omega) lv lu r1 r2 s2 (by omega) (by omega) (by omega) htl hQ2 hQB H _ _ ?_ ?_ (by omega) (by omega)
 ·rw [Nat.le_div_iff_mul_le hv1]
  have h1 : Qq * V1 * 4294967296 ≤ Qq * (V1 * 4294967296 + V2) := dm1 _ _ _ _
  have h2 := Nat.le_trans h1 hQ2
  generalize Qq * V1 = z at *
  omega
 ·rw [Nat.mul_comm _ V1]; exact hdm2
theorem zfJ {l : List Int} (h : Dg l) {n : Nat} (hn : n ≤ l.length) : V (l.take n) = V l % 4294967296 ^ n := by
 have e : V l = V (l.take n) + 4294967296 ^ n * V (l.drop n) := by
  conv => lhs; rw [← List.take_append_drop n l, zaR, List.length_take, Nat.min_eq_left hn]
 rw [e, Nat.add_mul_mod_self_left, Nat.mod_eq_of_lt (zdT h hn)]
theorem zm3 {x : Int} (h : 0 ≤ x ∧ x < 4294967296) : Ev (fun k => zdb.f k x) ((32 - bl x.toNat : Nat) : Int) := by
 have hb : bl x.toNat ≤ 32 := zG (by omega)
 unfold zdb.f
 refine Ev.bind (ziq h) (zi (Ev.now _) ?_)
 unfold wrap64; omega
theorem ziz {a v : List Int} (s : Int) (ha : a.length < 10000000) {res : List Int × List Int} : ∀ (d : Nat) (u : List Int), u.length + d = a.length + 1 → v.length ≤ a.length →
  Ev (fun k => zY.l1 k s v (u ++ List.replicate d 0) v.length (List.replicate (a.length + 1 - v.length) 0) (((a.length + 1 - v.length : Nat) : Int) - 1)) res →
  Ev (fun k => zY.l0 k a s v u) res
 | 0, u, hu, hv, H => by
  refine zf ?_
  have e1 : wrap64 ((u.length : Int) - (v.length : Int)) = ((a.length + 1 - v.length : Nat) : Int) := by unfold wrap64; omega
  have e2 : wrap64 ((((List.replicate (a.length + 1 - v.length) (0 : Int)).length : Nat) : Int) - 1) = ((a.length + 1 - v.length : Nat) : Int) - 1 := by rw [List.length_replicate]; unfold wrap64; omega
  simp only [zY.l0, e1, Int.toNat_natCast, Option.bind_some, e2]
  (repeat (first | with_reducible refine ep ?_ | with_reducible refine en ?_))
  simpa using H
 | d + 1, u, hu, hv, H => by
  refine zf ?_
  simp only [zY.l0]
  (repeat (first | with_reducible refine ep ?_ | with_reducible refine en ?_))
  refine ziz s ha d (u ++ [0]) (by simp; omega) hv ?_
  have e : u ++ [0] ++ List.replicate d 0 = u ++ List.replicate (d + 1) 0 := by rw [List.append_assoc, List.replicate_succ]; rfl
  rw [e]; exact H
theorem zhT (w p : Nat) : w = p * (w / p) + w % p := (Nat.div_add_mod w p).symm
theorem zmV {B W Y T t R p Vu X L : Nat} (hW : W = T * (Y * (p * B)) + Vu) (hVu : Vu = p * X + L) (hX : X = Y * t + R) : W = (t + B * T) * (Y * p) + (L + p * R) := by
 rw [hW, hVu, hX, Nat.mul_add, Nat.add_mul]
 have e1 : T * (Y * (p * B)) = B * T * (Y * p) := by ac_rfl
 have e2 : p * (Y * t) = t * (Y * p) := by ac_rfl
 rw [e1, e2]; omega
def Pw (n M : Nat) : Prop := M = 4294967296 ^ n
theorem Pw.up {n M x : Nat} (hM : Pw n M) (h : x < M * 4294967296) : x < 4294967296 ^ (n + 1) := by rw [zcZ, ← hM]; exact h
theorem Pw.at {n M x : Nat} (hM : Pw n M) (h : x < M) : x < 4294967296 ^ n := by rw [← hM]; exact h
def Top (v : List Int) (m : Nat) : Prop := 4294967296 ^ (m + 1) ≤ V v
theorem Top.pos {v : List Int} {m : Nat} (h : Top v m) : 0 < V v := Nat.lt_of_lt_of_le (Nat.pow_pos (by omega)) h
theorem zmU {R Y p L : Nat} (hR : R < Y) (hL : L < p) : L + p * R < Y * p := by
 have := Nat.mul_le_mul_left p (Nat.succ_le_of_lt hR)
 rw [Nat.mul_succ, Nat.mul_comm p Y] at this
 omega
theorem w3 {i m : Nat} (h1 : i < 100000000) (h2 : m < 100000000) : wrap64 (wrap64 ((i : Int) + ((m + 2 : Nat) : Int)) + 1) = ((i + (m + 3) : Nat) : Int) := by unfold wrap64; omega
def Inv (W T Y p Vu : Nat) : Prop := W = T * (Y * p) + Vu ∧ Vu < Y * p
theorem Inv.next {B W T Y p Vu X t R L : Nat} (h : Inv W T Y (p * B) Vu) (h1 : Vu = p * X + L) (h2 : X = Y * t + R) (h3 : R < Y) (h4 : L < p) : Inv W (t + B * T) Y p (L + p * R) :=
 ⟨zmV h.1 h1 h2, zmU h3 h4⟩
theorem Inv.quo {W T Y p B Vu : Nat} (h : Inv W T Y (p * B) Vu) (hp : 0 < p) : Vu / p < Y * B := by
 rw [Nat.div_lt_iff_lt_mul hp, Nat.mul_assoc, Nat.mul_comm B p]; exact h.2
theorem Inv.succ {W T Y i Vu : Nat} (h : Inv W T Y (4294967296 ^ (i + 1)) Vu) : Inv W T Y (4294967296 ^ i * 4294967296) Vu := by rw [← zcZ]; exact h
theorem Inv.end {W T Y Vu : Nat} (h : Inv W T Y (4294967296 ^ 0) Vu) (hp : 0 < Y) : W / Y = T ∧ W % Y = Vu ∧ Vu < Y := by
 obtain ⟨h1, h2⟩ := h
 rw [Nat.pow_zero, Nat.mul_one] at h1 h2
 exact ⟨by rw [h1, Nat.mul_comm, Nat.mul_add_div hp, Nat.div_eq_of_lt h2, Nat.add_zero], by rw [h1, Nat.mul_comm, Nat.mul_add_mod, Nat.mod_eq_of_lt h2], h2⟩
theorem znK {u : List Int} {i m N : Nat} (hu : Dg u) (lu : u.length = N) (hi : i + (m + 3) ≤ N) (hX : V u / 4294967296 ^ i < 4294967296 ^ (m + 3)) : V ((u.take (i + (m + 3))).drop i) = V u / 4294967296 ^ i ∧ V (u.drop (i + (m + 3))) = 0 := by
 have e : i + (m + 3) - i = m + 3 := Nat.add_sub_cancel_left ..
 constructor
 ·rw [List.drop_take, e, zfJ (hu.drop i) (by rw [List.length_drop, lu]; clear hX; omega), zdR hu, Nat.mod_eq_of_lt hX]
 ·rw [zdR hu, Nat.pow_add, ← Nat.div_div_eq_div_mul, Nat.div_eq_of_lt hX]
theorem zpm {u w : List Int} {i j R : Nat} (hi : i ≤ u.length) (hw : V w = R) (h0 : V (u.drop j) = 0) : V (u.take i ++ w ++ u.drop j) = V (u.take i) + 4294967296 ^ i * R := by
 rw [zaR, h0, zaR, List.length_take, Nat.min_eq_left hi, hw, Nat.mul_zero, Nat.add_zero]
theorem zoK {u : List Int} (hu : Dg u) {i : Nat} (hi : i ≤ u.length) : V u = 4294967296 ^ i * (V u / 4294967296 ^ i) + V (u.take i) := by rw [zfJ hu hi]; exact zhT _ _
theorem ziA {v : List Int} {m N s W : Nat} (hv : Dg v) (lv : v.length = m + 2) (hm : m < 10000000) (hN : N < 10000000) (hs : s < 1000000000) (htop : Top v m) {M : Nat} (hM : Pw (m + 2) M) (hvl : V v < M) : ∀ (i T : Nat) (u done : List Int), i + (m + 2) ≤ N → u.length = N → Dg u → Dg done → i + done.length + (m + 2) = N → V done = T → Inv W T (V v) (4294967296 ^ i) (V u) →
  Ev (fun k => zY.l1 k s v u ((m + 2 : Nat) : Int) (List.replicate i 0 ++ done) ((i : Int) - 1)) (D (W / V v), D (W % V v / 2 ^ s))
 | 0, T, u, done, hi, lu, hu, hdn, hdl, hT, hI => by
  obtain ⟨h1, h2, hlt⟩ := hI.end htop.pos
  have l1 : (D (V u)).length ≤ m + 2 := zbK (hM.at (Nat.lt_trans hlt hvl))
  have l2 : (D (V u / 2 ^ s)).length ≤ m + 2 := zbK (hM.at (Nat.lt_of_le_of_lt (Nat.div_le_self (V u) (2 ^ s)) (Nat.lt_trans hlt hvl)))
  have et : V (u.take (m + 2)) = V u := by rw [zfJ hu (by omega), Nat.mod_eq_of_lt (hM.at (Nat.lt_trans hlt hvl))]
  rw [h1, h2]
  clear h1 h2 hlt hI
  refine zf ?_
  simp only [zY.l1]
  (repeat (first | with_reducible refine ep ?_ | with_reducible refine en ?_))
  refine Ev.bind (zcb (l := List.replicate 0 0 ++ done) (by simpa using hdn) (by simp; omega)) ?_
  (repeat (first | with_reducible refine ep ?_ | with_reducible refine en ?_))
  refine Ev.bind (zcb (hu.take _) (by simp; omega)) ?_
  rw [Int.toNat_natCast, et]
  refine Ev.bind (ziQ (zaK _) (by omega) s (by omega)) ?_
  rw [V_D]
  refine Ev.bind (zcb (zaK _) (by omega)) (zi (Ev.now _) ?_)
  rw [V_D]; simp [hT]
 | i + 1, T, u, done, hi, lu, hu, hdn, hdl, hT, hI => by
  have hp : 0 < 4294967296 ^ i := Nat.pow_pos (Nat.zero_lt_succ _)
  have hI2 := hI.succ
  have hX := hI2.quo hp
  have hXM : V u / 4294967296 ^ i < M * 4294967296 := Nat.lt_trans hX (Nat.mul_lt_mul_of_pos_right hvl (Nat.zero_lt_succ _))
  obtain ⟨hpc, hdd⟩ := znK (i := i) (m := m) hu lu (by omega) (hM.up hXM)
  have hlen : ((u.take (i + (m + 3))).drop i).length = m + 3 := by rw [List.length_drop, List.length_take]; omega
  have hst := znm (u := (u.take (i + (m + 3))).drop i) hv ((hu.take _).drop _) lv hlen (by omega) htop (by rw [hpc]; exact hX)
  rw [hpc] at hst
  have hsp := zoK hu (i := i) (by omega)
  have hLt : V (u.take i) < 4294967296 ^ i := zdT hu (by omega)
  clear hI hp hpc
  generalize V u / 4294967296 ^ i = X at *
  have hR : X % V v < V v := Nat.mod_lt _ htop.pos
  have htB : X / V v < 4294967296 := by rw [Nat.div_lt_iff_lt_mul htop.pos, Nat.mul_comm]; exact hX
  have hdk : (Dk (m + 3) (X % V v)).length = m + 3 := zhf (hM.up (Nat.lt_of_le_of_lt (Nat.mod_le _ _) hXM))
  have hI3 := hI2.next hsp (zhT X (V v)) hR hLt
  rw [← zpm (u := u) (w := Dk (m + 3) (X % V v)) (by omega) (zfE _ _) hdd] at hI3
  clear hI2 hsp hLt hdd hX hXM hR
  have ih := ziA hv lv hm hN hs htop hM hvl i (X / V v + 4294967296 * T) (u.take i ++ Dk (m + 3) (X % V v) ++ u.drop (i + (m + 3))) (((X / V v : Nat) : Int) :: done) (by omega) (by simp [hdk]; omega) (((hu.take _).app (zhd _ _)).app (hu.drop _)) (Dg.cons nn (zfc htB) hdn) (by simp; omega) (by rw [zF, hT, Int.toNat_natCast]) hI3
  clear hI3 htB
  have e0 : ((i + 1 : Nat) : Int) - 1 = (i : Int) := by omega
  have e2 : wrap64 ((i : Int) - 1) = (i : Int) - 1 := zch (by omega)
  have hs2 : (List.replicate (i + 1) (0 : Int) ++ done).set ((i : Int)).toNat ((X / V v : Nat) : Int) = List.replicate i 0 ++ ((X / V v : Nat) : Int) :: done := by
   rw [zks, za9 (by simp)]; simp
  rw [e0]
  refine zf ?_
  simp only [zY.l1, w3 (i := i) (m := m) (by omega) (by omega), e2]
  clear e2 e0
  (repeat (first | with_reducible refine ep ?_ | with_reducible refine en ?_))
  simp only [Int.toNat_natCast]
  refine Ev.bind hst ?_
  (repeat (first | with_reducible refine ep ?_ | with_reducible refine en ?_))
  rw [Int.toNat_natCast] at hs2
  rw [hs2]
  exact ih
theorem zpg {b : List Int} {m d : Nat} (hb : Nm b) (lb : b.length = m + 2) (hd : (b.getD (m + 1) 0).toNat = d) : 0 < d ∧ d < 4294967296 ∧ 4294967296 ^ (m + 1) * d ≤ V b ∧ V b < 4294967296 ^ (m + 1) * (d + 1) := by
 obtain ⟨bl0, x2, x1, rfl, hl⟩ := zgX lb
 have e : bl0 ++ [x2, x1] = (bl0 ++ [x2]) ++ [x1] := by simp
 rw [e] at hb hd ⊢
 have hlen : (bl0 ++ [x2]).length = m + 1 := by simp [hl]
 have h1 := zfF hb
 have h2 := hb.dg x1 (by simp)
 have hv := zaA hb.dg.left
 rw [hlen] at hv
 have hx : ((bl0 ++ [x2]) ++ [x1]).getD (m + 1) 0 = x1 := by rw [← hlen]; simp
 rw [hx] at hd
 rw [zaR, hlen]
 simp only [zF, zbg, Nat.mul_zero, Nat.add_zero, hd]
 rw [Nat.mul_add, Nat.mul_one]
 generalize 4294967296 ^ (m + 1) = p at *
 refine ⟨by omega, by omega, by omega, by omega⟩
theorem zns {Va Vb p d s B pi Ba : Nat} (hs : (d + 1) * 2 ^ s ≤ B) (h1 : p * d ≤ Vb) (h2 : Vb < p * (d + 1)) (hd : 0 < d) (hp : 0 < p) (ha : Va < Ba) (hB : Ba = p * pi) (hpi : 0 < pi) : Vb * 2 ^ s < p * B ∧ p ≤ Vb * 2 ^ s ∧ Va * 2 ^ s < Ba * B ∧ Va * 2 ^ s < Vb * 2 ^ s * pi := by
 have hz : 0 < 2 ^ s := zh s
 have e1 : p ≤ Vb := Nat.le_trans (by have := Nat.mul_le_mul_left p hd; omega) h1
 have hsB : 2 ^ s ≤ B := Nat.le_trans (by have := Nat.mul_le_mul_right (2 ^ s) (show 1 ≤ d + 1 by omega); omega) hs
 generalize 2 ^ s = z at *
 refine ⟨?_, ?_, ?_, ?_⟩
 ·refine Nat.lt_of_lt_of_le (Nat.mul_lt_mul_of_pos_right h2 hz) ?_
  rw [Nat.mul_assoc]; exact Nat.mul_le_mul_left _ hs
 ·exact Nat.le_trans e1 (Nat.le_mul_of_pos_right _ hz)
 ·exact Nat.lt_of_lt_of_le (Nat.mul_lt_mul_of_pos_right ha hz) (Nat.mul_le_mul_left _ hsB)
 ·refine Nat.lt_of_lt_of_le (Nat.mul_lt_mul_of_pos_right ha hz) ?_
  rw [hB, Nat.mul_right_comm]
  exact Nat.mul_le_mul_right _ (Nat.mul_le_mul_right _ e1)
theorem znl {a b : List Int} (ha : Nm a) (hb : Nm b) (la : a.length ≤ 4096) (lb : b.length ≤ a.length) (h2 : 2 ≤ b.length) : Ev (fun k => zY.f k a b) (D (V a / V b), D (V a % V b)) := by
 obtain ⟨m, lm⟩ : ∃ m, b.length = m + 2 := ⟨b.length - 2, by omega⟩
 obtain ⟨hd0, hdB, hlo, hhi⟩ := zpg hb lm rfl
 have hrd : rd b ((m + 1 : Nat) : Int) = b.getD (m + 1) 0 := rdn _ _
 have zij := hb.dg.getD (m + 1)
 have hlz := zm3 zij
 generalize (b.getD (m + 1) 0).toNat = d at *
 have hbl : bl d ≤ 32 := zG (by omega)
 have hblp : 0 < bl d := zbi (by omega)
 obtain ⟨s, hs⟩ : ∃ s, s = 32 - bl d := ⟨_, rfl⟩
 have hs32 : (d + 1) * 2 ^ s ≤ 4294967296 := by
  have h1 := Nat.mul_le_mul_right (2 ^ s) (Nat.succ_le_of_lt (zL d))
  rw [hs, pw hbl] at h1
  rw [hs]; exact h1
 have hi : m + 1 + (a.length - (m + 1)) = a.length := by omega
 have hnn := zns (Va := V a) (Vb := V b) (s := s) (B := 4294967296) (pi := 4294967296 ^ (a.length - (m + 1))) (Ba := 4294967296 ^ a.length) hs32 hlo hhi hd0 (Nat.pow_pos (Nat.zero_lt_succ _)) (zaA ha.dg) (by rw [← Nat.pow_add, hi]) (Nat.pow_pos (Nat.zero_lt_succ _))
 obtain ⟨n1, n2, n3, n4⟩ := hnn
 rw [← zcZ] at n1 n3
 have hup1 := zgp hb.dg (by omega) s (by omega)
 have hup2 := zgp ha.dg (by omega) s (by omega)
 have lY : (D (V b * 2 ^ s)).length = m + 2 := by
  have h3 := zbK n1
  rcases Nat.lt_or_ge (D (V b * 2 ^ s)).length (m + 2) with h4 | h4
  ·exfalso
   have h5 := zkL (zaK (V b * 2 ^ s)) (n := m + 1) (by omega)
   rw [V_D] at h5
   exact Nat.not_lt.2 n2 h5
  ·omega
 have lW : (D (V a * 2 ^ s)).length ≤ a.length + 1 := zbK n3
 have hT : Top (D (V b * 2 ^ s)) m := by unfold Top; rw [V_D]; exact n2
 have e1 : V a * 2 ^ s / (V b * 2 ^ s) = V a / V b := Nat.mul_div_mul_right _ _ (zh s)
 have e2 : V a * 2 ^ s % (V b * 2 ^ s) / 2 ^ s = V a % V b := by rw [Nat.mul_mod_mul_right, Nat.mul_div_cancel _ (zh s)]
 have hu : V (D (V a * 2 ^ s) ++ List.replicate (a.length + 1 - (D (V a * 2 ^ s)).length) 0) = V a * 2 ^ s := zfE (a.length + 1) (V a * 2 ^ s)
 have main := ziA (v := D (V b * 2 ^ s)) (m := m) (N := a.length + 1) (s := s) (W := V a * 2 ^ s) (zaK _) lY (by omega) (by omega) (by omega) hT (M := 4294967296 ^ (m + 2)) rfl (by rw [V_D]; exact n1) (a.length - (m + 1)) 0 (D (V a * 2 ^ s) ++ List.replicate (a.length + 1 - (D (V a * 2 ^ s)).length) 0) [] (by omega) (by rw [List.length_append, List.length_replicate]; omega) ((zaK _).app (Dg.zeros _)) Dg.nil (by rw [List.length_nil]; omega) rfl ⟨by rw [hu]; omega, by rw [hu, V_D]; exact n4⟩
 rw [V_D, e1, e2, List.append_nil] at main
 clear n1 n2 n3 n4 hlo hhi hT e1 e2 hu hs32
 unfold zY.f
 have e3 : wrap64 ((b.length : Int) - 1) = ((m + 1 : Nat) : Int) := by unfold wrap64; omega
 simp only [e3, hrd]
 clear e3
 (repeat (first | with_reducible refine ep ?_ | with_reducible refine en ?_))
 refine Ev.bind hlz ?_
 rw [← hs]
 refine Ev.bind hup1 (Ev.bind hup2 ?_)
 refine ziz (s : Int) (by omega) (a.length + 1 - (D (V a * 2 ^ s)).length) _ (by omega) (by omega) ?_
 have e4 : a.length + 1 - (m + 2) = a.length - (m + 1) := by omega
 rw [lY, e4]
 exact main
def zgD (m n : Nat) : List Int × List Int × Int := if n = 0 then ([], [], 11) else (D (m / n), D (m % n), 0)
theorem zhA {m n : Nat} : (zbk m n < 0) ↔ m < n := by
 have := zll (m := m) (n := n)
 constructor <;> intro h <;> omega
theorem zkz {a b : List Int} (ha : Nm a) (hb : Nm b) (h : V b ≤ V a) : b.length ≤ a.length := by
 have h1 := zbK (Nat.lt_of_le_of_lt h (zaA ha.dg))
 rwa [hb] at h1
theorem zni {a b : List Int} (ha : Nm a) (hb : Nm b) (la : a.length ≤ 4096) (lb : b.length ≤ 4096) : Ev (fun k => zcB.f k a b) (zgD (V a) (V b)) := by
 have hall := zho ha.dg hb.dg (by omega) (by omega)
 rw [zbF.2 ⟨la, ha⟩, zbF.2 ⟨lb, hb⟩] at hall
 unfold zcB.f zgD
 refine Ev.bind hall ?_
 (repeat (first | with_reducible refine ep ?_ | with_reducible refine en ?_))
 by_cases h0 : b = []
 ·subst h0
  (repeat (first | with_reducible refine ep ?_ | with_reducible refine en ?_))
  exact zi (Ev.now _) (by simp)
 have hb0 := zhm hb h0
 have hlp : 0 < b.length := List.length_pos_iff.2 h0
 rw [if_neg hb0]
 (repeat (first | with_reducible refine ep ?_ | with_reducible refine en ?_))
 refine Ev.bind (znk ha hb (by omega)) ?_
 (repeat (first | with_reducible refine ep ?_ | with_reducible refine en ?_))
 by_cases hc : V a < V b
 ·refine zd (zhA.2 hc) ?_
  (repeat (first | with_reducible refine ep ?_ | with_reducible refine en ?_))
  refine zi (Ev.now _) ?_
  rw [Nat.div_eq_of_lt hc, Nat.mod_eq_of_lt hc, zP, ha]
 refine ze (fun h => hc (zhA.1 h)) ?_
 by_cases h1 : b.length = 1
 ·obtain ⟨d, rfl⟩ := List.length_eq_one_iff.1 h1
  have hd := hb.dg.head
  have hdne : d ≠ 0 := by simp at hb0; omega
  have h4 : rd [d] 0 = d := by simp [rd]
  have h5 : V [d] = d.toNat := by simp
  rw [h4, h5]
  (repeat (first | with_reducible refine ep ?_ | with_reducible refine en ?_))
  refine Ev.bind (ziS ha.dg (by omega) (d := d) (by omega)) ?_
  (repeat (first | with_reducible refine ep ?_ | with_reducible refine en ?_))
  have hm : V a % d.toNat < d.toNat := Nat.mod_lt _ (by omega)
  refine Ev.bind (zcb (Dg.cons nn (zfc (by omega)) Dg.nil) (by simp)) ?_
  (repeat (first | with_reducible refine ep ?_ | with_reducible refine en ?_))
  refine zi (Ev.now _) ?_
  simp only [zF, zbg, Int.toNat_natCast, Nat.mul_zero, Nat.add_zero]
 ·(repeat (first | with_reducible refine ep ?_ | with_reducible refine en ?_))
  refine Ev.bind (znl ha hb la (zkz ha hb (by omega)) (by omega)) ?_
  (repeat (first | with_reducible refine ep ?_ | with_reducible refine en ?_))
  refine Ev.now _
theorem zne (a b : Nat) : mx (a : Int) (b : Int) = ((max a b : Nat) : Int) := by unfold mx; split <;> omega
theorem zfe (a b : Int) : mx a b = max a b := by unfold mx; split <;> omega
theorem zdt {l : List Int} (h : Nm l) (hb : l.length ≤ 4096) : Ev (fun k => zau.f k l) ((bl (V l) : Nat) : Int) := by
 unfold zau.f
 refine zk (zca h.dg (by omega)) ?_
 rw [zbF.2 ⟨hb, h⟩]
 (repeat (first | with_reducible refine ep ?_ | with_reducible refine en ?_))
 by_cases c : l.length = 0
 ·have : l = [] := List.eq_nil_of_length_eq_zero c
  subst this
  (repeat (first | with_reducible refine ep ?_ | with_reducible refine en ?_))
  exact zi (Ev.now _) rfl
 ·have e : wrap64 ((l.length : Int) - 1) = ((l.length - 1 : Nat) : Int) := by unfold wrap64; omega
  rw [e]
  clear e
  have hd := h.dg.getD (l.length - 1)
  have hne : l ≠ [] := fun e => c (by rw [e]; rfl)
  rw [rdn]
  (repeat (first | with_reducible refine ep ?_ | with_reducible refine en ?_))
  refine Ev.bind (ziq hd) (zi (Ev.now _) ?_)
  rw [zk2 h hne]
  generalize l.getD (l.length - 1) 0 = x at hd
  have hbn : bl x.toNat ≤ 32 := zG (by omega)
  unfold wrap64
  omega
def zaz (n b : Nat) : Prop := ∃ m, n = 2 ^ b * (2 * m + 1)
theorem zaz.ne {n b : Nat} (h : zaz n b) : n ≠ 0 := by
 obtain ⟨m, h⟩ := h
 have := Nat.mul_pos (zh b) (show 0 < 2 * m + 1 by omega)
 omega
theorem zaz.le {n b : Nat} (h : zaz n b) : 2 ^ b ≤ n := by
 obtain ⟨m, h⟩ := h
 rw [h]; exact Nat.le_mul_of_pos_right _ (by omega)
theorem zaz.mod {n b k : Nat} (h : zaz n b) : n % 2 ^ k = 0 ↔ k ≤ b := by
 obtain ⟨m, h⟩ := h
 constructor
 ·intro hk
  rcases Nat.lt_or_ge b k with h1 | h1
  ·exfalso
   obtain ⟨d, rfl⟩ := Nat.exists_eq_add_of_lt h1
   have hd : 2 ^ (b + d + 1) ∣ 2 ^ b * (2 * m + 1) := by rw [← h]; exact Nat.dvd_of_mod_eq_zero hk
   rw [Nat.add_assoc, Nat.pow_add] at hd
   have h2 := Nat.dvd_of_mul_dvd_mul_left (zh b) hd
   rw [Nat.pow_succ] at h2
   have h3 : 2 ∣ 2 * m + 1 := Nat.dvd_trans (Nat.dvd_mul_left 2 _) h2
   omega
  ·exact h1
 ·intro hk
  obtain ⟨d, rfl⟩ := Nat.exists_eq_add_of_le hk
  rw [h, Nat.pow_add, Nat.mul_assoc]
  exact Nat.mul_mod_right _ _
theorem zaz.unique {n b c : Nat} (h : zaz n b) (k : zaz n c) : b = c := by
 have h1 := (h.mod (k := b)).2 (Nat.le_refl _)
 have h2 := (k.mod (k := c)).2 (Nat.le_refl _)
 have h3 := k.mod.1 h1
 have h4 := h.mod.1 h2
 omega
theorem zin {n b k : Nat} (h : zaz n b) : zaz (n * 2 ^ k) (b + k) := by
 obtain ⟨m, h⟩ := h
 exact ⟨m, by rw [h, Nat.pow_add, Nat.mul_assoc, Nat.mul_comm (2 * m + 1), ← Nat.mul_assoc]⟩
theorem zmB {x : Nat} (h : x ≠ 0) (hx : x < 4294967296) : zaz x (Lib.ctz 32 x) ∧ Lib.ctz 32 x < 32 := by
 obtain ⟨m, h1, h2⟩ := Lib.ctzFrom_spec 32 x (by omega) hx
 unfold Lib.ctz
 rw [if_neg h]
 exact ⟨⟨m, h1⟩, h2⟩
theorem zmA {x r b : Nat} (h : zaz x b) (hb : b < 32) : zaz (x + 4294967296 * r) b := by
 obtain ⟨m, h⟩ := h
 obtain ⟨d, hd⟩ : ∃ d, 32 = b + (d + 1) := ⟨31 - b, by omega⟩
 have e : 4294967296 = 2 ^ b * (2 ^ d * 2) := by
  rw [← Nat.pow_succ, ← Nat.pow_add, Nat.succ_eq_add_one, ← hd]
 have e2 : 2 ^ b * (2 ^ d * 2) * r = 2 ^ b * (2 * (2 ^ d * r)) := by
  rw [Nat.mul_assoc, Nat.mul_comm (2 ^ d) 2, Nat.mul_assoc]
 refine ⟨m + 2 ^ d * r, ?_⟩
 rw [h, e, e2, ← Nat.mul_add]
 congr 1
 omega
def lw (n : Nat) : Nat := if n = 0 then 0 else Lib.ctzFrom n n
theorem zbT {n : Nat} (h : n ≠ 0) : zaz n (lw n) := by
 obtain ⟨m, h1, _⟩ := Lib.ctzFrom_spec n n (by omega) Nat.lt_two_pow_self
 unfold lw
 rw [if_neg h]
 exact ⟨m, h1⟩
theorem zge {n b : Nat} (h : zaz n b) : lw n = b := (zbT h.ne).unique h
theorem zo5 {x : Int} (h : 0 ≤ x ∧ x < 4294967296) : zaS.f x = some ((Lib.ctz 32 x.toNat : Nat) : Int) := by
 unfold zaS.f
 rw [if_pos h]
theorem zpi {i b : Nat} (hi : i < 1000000) (hb : b < 32) : wrap64 (wrap64 (32 * (i : Int)) + (b : Int)) = ((b + 32 * i : Nat) : Int) := by unfold wrap64; omega
theorem ziU (A : List Int) (hA : Dg A) (hl : A.length < 1000000) : ∀ (a pa : List Int), A = pa ++ a → V pa = 0 → Ev (fun k => zaN.l0 k A A.length pa.length) ((lw (V A) : Nat) : Int)
 | [], pa, he, hv => by
  have hlen : A.length = pa.length := by rw [he]; simp
  refine zf ?_
  simp only [zaN.l0]
  (repeat (first | with_reducible refine ep ?_ | with_reducible refine en ?_))
  refine zi (Ev.now _) ?_
  have : V A = 0 := by rw [he, List.append_nil, hv]
  rw [this]; rfl
 | d :: a, pa, he, hv => by
  have hlen : A.length = pa.length + 1 + a.length := by rw [he]; simp; omega
  have hdd : 0 ≤ d ∧ d < 4294967296 := by rw [he] at hA; exact hA.right.head
  have h1 : rd A (pa.length : Int) = d := by rw [he]; exact zZ rfl
  refine zf ?_
  simp only [zaN.l0, h1, zbJ (n := pa.length) (by omega)]
  (repeat (first | with_reducible refine ep ?_ | with_reducible refine en ?_))
  by_cases h0 : d = 0
  ·refine ze (fun h => h h0) ?_
   have := ziU A hA hl a (pa ++ [0]) (by rw [he, h0]; simp) (by rw [zfI, hv])
   rwa [@List.length_append _ pa, List.length_singleton] at this
  ·refine zd h0 ?_
   refine zk (zo5 hdd) ?_
   (repeat (first | with_reducible refine ep ?_ | with_reducible refine en ?_))
   refine zi (Ev.now _) ?_
   have hz := zmB (x := d.toNat) (by omega) (by omega)
   have e : V A = (d.toNat + 4294967296 * V a) * 2 ^ (32 * pa.length) := by
    rw [he, zaR, hv, zF, Nat.zero_add, Nat.mul_comm, Nat.pow_mul]
   rw [e, zge (zin (zmA hz.1 hz.2)), zpi (by omega) hz.2]
theorem ziM {a : List Int} (ha : Nm a) (la : a.length ≤ 4096) : Ev (fun k => zaN.f k a) ((lw (V a) : Nat) : Int) := by
 unfold zaN.f
 refine zk (zca ha.dg (by omega)) ?_
 rw [zbF.2 ⟨la, ha⟩]
 (repeat (first | with_reducible refine ep ?_ | with_reducible refine en ?_))
 exact ziU a ha.dg (by omega) a [] rfl rfl
theorem zkM {l : List Int} (h : Dg l) (q : Nat) : V l / 4294967296 ^ q % 4294967296 = (l.getD q 0).toNat := by
 have h1 := zkN (l.drop q)
 rw [zlT, zdR h] at h1
 have h2 := h.getD q
 rw [h1, Nat.add_mul_mod_self_left, Nat.mod_eq_of_lt (by omega)]
theorem zm1 {n k : Nat} (h : n ≠ 0) : k > lw n ↔ n % 2 ^ k ≠ 0 := by
 have := (zbT h).mod (k := k)
 constructor
 ·intro h1 h2; have := this.1 h2; omega
 ·intro h1; rcases Nat.lt_or_ge (lw n) k with h2 | h2
  ·exact h2
  ·exact absurd (this.2 h2) h1
def zbW (v : Nat) (n : Int) : List Int × Bool × Int :=
 if v = 0 then ([], false, 0) else if n < -131072 then ([], true, 0) else if n < 0 then (D (v / 2 ^ (-n).toNat), decide (v % 2 ^ (-n).toNat ≠ 0), 0) else if n > 131072 - (bl v : Int) then ([], false, 3) else (D (v * 2 ^ n.toNat), false, 0)
theorem zef {a : List Int} (ha : Nm a) (la : a.length ≤ 4096) (n : Int) : Ev (fun k => zav.f k a n) (zbW (V a) n) := by
 unfold zav.f zbW
 refine zk (zca ha.dg (by omega)) ?_
 rw [zbF.2 ⟨la, ha⟩]
 (repeat (first | with_reducible refine ep ?_ | with_reducible refine en ?_))
 by_cases c : a = []
 ·subst c
  (repeat (first | with_reducible refine ep ?_ | with_reducible refine en ?_))
  exact zi (Ev.now _) (by simp)
 have h0 : V a ≠ 0 := fun h => c ((zdS ha).1 h)
 have hl : a.length ≠ 0 := fun h => c (List.eq_nil_of_length_eq_zero h)
 have hbl := zdV ha.dg
 rw [if_neg h0]
 (repeat (first | with_reducible refine ep ?_ | with_reducible refine en ?_))
 by_cases h1 : n < -131072
 ·rw [if_pos h1]; exact zd h1 (Ev.now _)
 rw [if_neg h1]
 refine ze h1 ?_
 by_cases h2 : n < 0
 ·rw [if_pos h2]
  have e : wrap64 (-n) = (((-n).toNat : Nat) : Int) := by unfold wrap64; omega
  rw [e]
  clear e
  have hm : (-n).toNat ≤ 131072 := by omega
  generalize (-n).toNat = m at *
  refine zd h2 ?_
  refine Ev.bind (ziQ ha.dg (by omega) m (by omega)) ?_
  (repeat (first | with_reducible refine ep ?_ | with_reducible refine en ?_))
  refine Ev.bind (ziM ha la) ?_
  (repeat (first | with_reducible refine ep ?_ | with_reducible refine en ?_))
  refine zi (Ev.now _) ?_
  congr 2
  exact decide_eq_decide.2 (by rw [← zm1 h0]; omega)
 ·rw [if_neg h2]
  have e : wrap64 (131072 - ((bl (V a) : Nat) : Int)) = 131072 - ((bl (V a) : Nat) : Int) := by unfold wrap64; omega
  refine ze h2 ?_
  refine Ev.bind (zdt ha la) ?_
  (repeat (first | with_reducible refine ep ?_ | with_reducible refine en ?_))
  rw [e]
  clear e
  by_cases h3 : n > 131072 - ((bl (V a) : Nat) : Int)
  ·rw [if_pos h3]; exact zd h3 (Ev.now _)
  ·rw [if_neg h3]
   obtain ⟨m, rfl⟩ := Int.eq_ofNat_of_zero_le (show 0 ≤ n by omega)
   refine ze h3 ?_
   refine Ev.bind (zgp ha.dg (by omega) m (by omega)) ?_
   (repeat (first | with_reducible refine ep ?_ | with_reducible refine en ?_))
   refine zi (Ev.now _) ?_
   rw [Int.toNat_natCast]
theorem zaW {x k : Nat} (h : bl x ≤ 32 * k) : (D x).length ≤ k := by
 refine zbK ?_
 have e : 4294967296 ^ k = 2 ^ (32 * k) := by rw [Nat.pow_mul]
 rw [e]
 exact Nat.lt_of_lt_of_le (zL x) (Nat.pow_le_pow_right (by omega) h)
theorem zfO (v m : Nat) : bl (v * 2 ^ m) ≤ bl v + m := by
 refine zG ?_
 rw [Nat.pow_add]
 exact Nat.mul_lt_mul_of_pos_right (zL v) (zh m)
theorem zar {v : Nat} (h : v ≠ 0) (m : Nat) : bl (v * 2 ^ m) = bl v + m := by
 rw [zb2 (n := v * 2 ^ m) (k := m) (Nat.le_mul_of_pos_left _ (by omega)), Nat.mul_div_cancel _ (zh m), Nat.add_comm]
theorem zbM (v m : Nat) : bl (v / 2 ^ m) = bl v - m := by
 rcases Nat.lt_or_ge v (2 ^ m) with h | h
 ·rw [Nat.div_eq_of_lt h, zbj]
  have := zG h
  omega
 ·rw [zb2 h]; omega
theorem zgU {v m : Nat} (h : bl v + m ≤ 131072) : zbW v (m : Int) = (D (v * 2 ^ m), false, 0) := by
 unfold zbW
 by_cases hv : v = 0
 ·rw [if_pos hv, hv, Nat.zero_mul, zP]
 ·rw [if_neg hv, if_neg (by omega), if_neg (by omega), if_neg (by omega), Int.toNat_natCast]
theorem zgT {v m : Nat} (h : bl v ≤ 131072) (hm : m ≤ 131072) : zbW v (-(m : Int)) = (D (v / 2 ^ m), decide (v % 2 ^ m ≠ 0), 0) := by
 by_cases hv : v = 0
 ·unfold zbW
  rw [if_pos hv, hv, Nat.zero_div, Nat.zero_mod, zP]; rfl
 rcases Nat.eq_zero_or_pos m with h0 | h0
 ·subst h0
  have e := zgU (v := v) (m := 0) (by omega)
  rw [Nat.pow_zero, Nat.mul_one] at e
  rw [Nat.pow_zero, Nat.div_one, Nat.mod_one]
  exact e
 ·unfold zbW
  have e : (-(-(m : Int))).toNat = m := by omega
  rw [if_neg hv, if_neg (by omega), if_pos (by omega), e]
def sv (s : Bool) (n : Nat) : Int := if s = true then -(n : Int) else n
theorem za0 (s : Bool) (n : Nat) : (sv s n).natAbs = n := by unfold sv; split <;> simp
theorem zc3 {s : Bool} {n : Nat} : sv s n = 0 ↔ n = 0 := by unfold sv; split <;> omega
theorem zes {s : Bool} {n : Nat} (h : n ≠ 0) : decide (sv s n < 0) = s := by
 unfold sv
 cases s
 ·exact decide_eq_false (by simp)
 ·exact decide_eq_true (by simp; omega)
theorem zfq (s : Bool) : sv s 0 = 0 := by unfold sv; split <;> rfl
def mk (z e : Int) : Bool × List Int × Int := if z = 0 then (false, [], 0) else (decide (z < 0), D (z.natAbs / 2 ^ lw z.natAbs), e + (lw z.natAbs : Nat))
theorem ziE (e : Int) : mk 0 e = (false, [], 0) := rfl
theorem ziB {n : Nat} (h : n ≠ 0) (k : Nat) : lw (n * 2 ^ k) = lw n + k := zge (zin (zbT h))
theorem zgg (z e : Int) (k : Nat) : mk (z * 2 ^ k) e = mk z (e + k) := by
 unfold mk
 by_cases h : z = 0
 ·subst h; simp
 ·have hp : (0 : Int) < 2 ^ k := Int.pow_pos (by omega)
  have h1 : z * 2 ^ k ≠ 0 := Int.mul_ne_zero h (by omega)
  have hn : z.natAbs ≠ 0 := by omega
  have h2 : (z * 2 ^ k).natAbs = z.natAbs * 2 ^ k := by rw [Int.natAbs_mul, Int.natAbs_pow]; rfl
  have h3 : decide (z * 2 ^ k < 0) = decide (z < 0) := decide_eq_decide.2 (by
   constructor
   ·intro h4
    rcases (show z < 0 ∨ 0 ≤ z by omega) with h5 | h5
    ·exact h5
    ·have := Int.mul_nonneg h5 (Int.le_of_lt hp); omega
   ·intro h4; exact Int.mul_neg_of_neg_of_pos h4 hp)
  rw [if_neg h, if_neg h1, h2, h3, ziB hn]
  have h4 : z.natAbs * 2 ^ k / 2 ^ (lw z.natAbs + k) = z.natAbs / 2 ^ lw z.natAbs := by
   rw [Nat.pow_add]; exact Nat.mul_div_mul_right _ _ (zh k)
  rw [h4]
  congr 2
  omega
structure Dy (s : Bool) (l : List Int) (e : Int) : Prop where
 nm : Nm l
 none : l = [] → s = false ∧ e = 0
 odd : l ≠ [] → V l % 2 = 1
theorem zeL (z e : Int) : Dy (mk z e).1 (mk z e).2.1 (mk z e).2.2 := by
 unfold mk
 by_cases h : z = 0
 ·rw [if_pos h]; exact ⟨zcN, fun _ => ⟨rfl, rfl⟩, fun h => absurd rfl h⟩
 ·rw [if_neg h]
  obtain ⟨m, hm⟩ := zbT (n := z.natAbs) (by omega)
  have h1 : z.natAbs / 2 ^ lw z.natAbs = 2 * m + 1 := by
   have : z.natAbs / 2 ^ lw z.natAbs = 2 ^ lw z.natAbs * (2 * m + 1) / 2 ^ lw z.natAbs := by rw [← hm]
   rw [this, Nat.mul_div_cancel_left _ (zh _)]
  have h2 : D (z.natAbs / 2 ^ lw z.natAbs) ≠ [] := by rw [h1, zcM (by omega)]; simp
  exact ⟨zae _, fun h => absurd h h2, fun _ => by show V (D _) % 2 = 1; rw [V_D, h1]; omega⟩
theorem zfd (s : Bool) {n : Nat} (h : n ≠ 0) (e : Int) : mk (sv s n) e = (s, D (n / 2 ^ lw n), e + (lw n : Nat)) := by
 unfold mk
 rw [if_neg (fun h2 => h (zc3.1 h2)), za0, zes h]
theorem zea {n : Nat} (h : n ≠ 0) : lw n < bl n := by
 have h1 := (zbT h).le
 rcases Nat.lt_or_ge (lw n) (bl n) with h2 | h2
 ·exact h2
 ·have h3 := zL n
  have h4 : 2 ^ bl n ≤ 2 ^ lw n := Nat.pow_le_pow_right (by omega) h2
  omega
theorem zfh {l : List Int} : (l.length : Int) = 0 ↔ l = [] := by
 constructor
 ·intro h; exact List.eq_nil_of_length_eq_zero (by omega)
 ·intro h; rw [h]; rfl
theorem zpl {e : Int} {b : Nat} (h1 : -1000000000000000 ≤ e) (h2 : e ≤ 1000000000000000) (hb : b < 100000000000) : wrap64 (e + (b : Int)) = e + (b : Int) := by unfold wrap64; omega
def zeb (s : Bool) (n : Nat) (e : Int) : Bool × List Int × Int × Int :=
 if n = 0 then (false, [], 0, 0) else if e > 16777216 - (lw n : Nat) then (false, [], 0, 20) else if e < -16777216 - (lw n : Nat) then (false, [], 0, 20) else ((mk (sv s n) e).1, (mk (sv s n) e).2.1, (mk (sv s n) e).2.2, 0)
theorem zct (s : Bool) {l : List Int} (hl : Nm l) (ll : l.length ≤ 4096) (e : Int) : Ev (fun k => zaE.f k s l e) (zeb s (V l) e) := by
 unfold zaE.f zeb
 refine zk (zca hl.dg (by omega)) ?_
 rw [zbF.2 ⟨ll, hl⟩]
 (repeat (first | with_reducible refine ep ?_ | with_reducible refine en ?_))
 by_cases c : l = []
 ·subst c
  (repeat (first | with_reducible refine ep ?_ | with_reducible refine en ?_))
  exact zi (Ev.now _) (by rw [zbg, if_pos rfl])
 ·have h0 : V l ≠ 0 := fun h => c ((zdS hl).1 h)
  have hb := zdV hl.dg
  have hw := zea h0
  rw [if_neg h0]
  refine ze (fun h => c (zfh.1 h)) ?_
  refine Ev.bind (ziM hl ll) ?_
  (repeat (first | with_reducible refine ep ?_ | with_reducible refine en ?_))
  have e1 : wrap64 (16777216 - ((lw (V l) : Nat) : Int)) = 16777216 - ((lw (V l) : Nat) : Int) := by unfold wrap64; omega
  have e2 : wrap64 (-16777216 - ((lw (V l) : Nat) : Int)) = -16777216 - ((lw (V l) : Nat) : Int) := by unfold wrap64; omega
  have e3 : wrap64 (-((lw (V l) : Nat) : Int)) = -((lw (V l) : Nat) : Int) := by unfold wrap64; omega
  rw [e1, e2, e3]
  clear e1 e2 e3
  by_cases h1 : e > 16777216 - ((lw (V l) : Nat) : Int)
  ·rw [if_pos h1]; exact zd h1 (Ev.now _)
  rw [if_neg h1]
  refine ze h1 ?_
  by_cases h2 : e < -16777216 - ((lw (V l) : Nat) : Int)
  ·rw [if_pos h2]; exact zd h2 (Ev.now _)
  rw [if_neg h2]
  have hs := zef hl ll (-((lw (V l) : Nat) : Int))
  rw [zgT (by omega) (by omega)] at hs
  refine ze h2 ?_
  refine Ev.bind hs ?_
  (repeat (first | with_reducible refine ep ?_ | with_reducible refine en ?_))
  refine zi (Ev.now _) ?_
  rw [zfd s h0, zpl (by omega) (by omega) (by omega)]
def al (z e m : Int) : Int := z * 2 ^ (e - m).toNat
theorem zkR (s : Bool) (n : Nat) (e m : Int) : al (sv s n) e m = sv s (n * 2 ^ (e - m).toNat) := by
 unfold al sv
 split
 ·rw [Int.neg_mul, Int.natCast_mul, Int.natCast_pow]; rfl
 ·rw [Int.natCast_mul, Int.natCast_pow]; rfl
theorem ziy {l : List Int} (c : l ≠ []) : (l.length : Int) > 0 := by
 have := List.length_pos_iff.2 c
 omega
theorem zm9 {z e : Int} : (mk z e).2.1 = D (z.natAbs / 2 ^ lw z.natAbs) := by
 unfold mk
 by_cases h : z = 0
 ·subst h; rw [if_pos rfl]; simp [zP]
 ·rw [if_neg h]
theorem zfp {s : Bool} {n : Nat} (h : n ≠ 0) : (sv s n).sign = if s = true then -1 else 1 := by
 unfold sv
 split
 ·exact Int.sign_eq_neg_one_of_neg (by omega)
 ·exact Int.sign_eq_one_of_pos (by omega)
def top (z e : Int) : Int := if z = 0 then 0 else e + (bl z.natAbs : Nat)
theorem zjO (s t : Bool) (x y : Nat) : sv s x * sv t y = sv (s != t) (x * y) := by
 unfold sv
 cases s <;> cases t <;> simp [Int.mul_neg, Int.neg_mul]
theorem zkV (X : Nat) (hX : X < 4294967296) : Go.bits .and .u32 (X : Int) 1 = ((X % 2 : Nat) : Int) := by
 have h1 : (BitVec.ofInt 32 (X : Int)).toNat = X := by
  rw [BitVec.ofInt_natCast, BitVec.toNat_ofNat]; exact Nat.mod_eq_of_lt (by omega)
 show IntKind.u32.wrap ((BitVec.ofInt 32 (X : Int) &&& BitVec.ofInt 32 1).toNat : Int) = _
 have h2 : (BitVec.ofInt 32 (1 : Int)).toNat = 1 := by decide
 have h3 : ∀ n : Int, IntKind.u32.wrap n = n % 4294967296 := fun n => by simp [IntKind.wrap, IntKind.signed, IntKind.bits]
 rw [BitVec.toNat_and, h1, h2, h3, Nat.and_one_is_mod]
 omega
theorem zmY {l : List Int} (h : Dg l) : Go.bits .and .u32 (rd l 0) 1 = ((V l % 2 : Nat) : Int) := by
 have h1 := h.getD 0
 have h2 := zkM h 0
 rw [Nat.pow_zero, Nat.div_one] at h2
 have h3 : rd l 0 = l.getD 0 0 := rdn l 0
 rw [h3]
 obtain ⟨x, hx⟩ := Int.eq_ofNat_of_zero_le h1.1
 rw [hx] at h1 h2 ⊢
 rw [zkV x (by omega)]
 rw [Int.toNat_natCast] at h2
 omega
structure My (s : Bool) (l : List Int) (e : Int) : Prop where
 dy : Dy s l e
 len : l.length ≤ 4096
 lo : -16777216 ≤ e
 hi : e ≤ 16777216
theorem zcu {s : Bool} {l : List Int} {e : Int} (h : My s l e) : zbp.f s l e = some true := by
 obtain ⟨hd, hl, h1, h2⟩ := h
 unfold zbp.f
 rw [zca hd.nm.dg (by omega), Option.bind_some, zbF.2 ⟨hl, hd.nm⟩, if_neg (by simp)]
 by_cases c : l = []
 ·obtain ⟨h3, h4⟩ := hd.none c
  subst c; subst h3; subst h4
  rfl
 ·have ho := hd.odd c
  rw [if_neg (fun h => c (zfh.1 h)), if_pos (ziy c), zmY hd.nm.dg, if_pos (by omega)]
  unfold zd7.f
  rw [if_pos h1, decide_eq_true h2]; rfl
theorem zf4 {s : Bool} {l : List Int} {e : Int} (h : My s l e) : Ev (fun k => zaU.f k s l e) (sv s (V l)).sign := by
 unfold zaU.f
 refine zk (zcu h) ?_
 (repeat (first | with_reducible refine ep ?_ | with_reducible refine en ?_))
 refine zf ?_
 simp only [zaU.j0]
 by_cases c : l = []
 ·subst c
  (repeat (first | with_reducible refine ep ?_ | with_reducible refine en ?_))
  exact zi (Ev.now _) (by rw [zbg, zfq]; rfl)
 ·have h1 := h.dy.odd c
  have h0 : V l ≠ 0 := by omega
  refine ze (by simpa using fun e => c e) ?_
  rw [zfp h0]
  by_cases hs : s = true
  ·refine zd hs ?_
   exact zi (Ev.now _) (if_pos hs).symm
  ·refine ze hs ?_
   exact zi (Ev.now _) (if_neg hs).symm
theorem zm7 {s : Bool} {n : Nat} {e : Int} (h1 : -16777216 ≤ e) (h2 : e + (bl n : Nat) ≤ 16777216) : zeb s n e = ((mk (sv s n) e).1, (mk (sv s n) e).2.1, (mk (sv s n) e).2.2, 0) := by
 unfold zeb
 by_cases h0 : n = 0
 ·rw [if_pos h0, h0, zfq]; rfl
 ·have := zea h0
  rw [if_neg h0, if_neg (by omega), if_neg (by omega)]
theorem zh6 {sa sb : Bool} {la lb : List Int} {ea eb : Int} (ha : My sa la ea) (hb : My sb lb eb) : Ev (fun k => zaM.f k [(sa, la, ea), (sb, lb, eb)]) true := by
 unfold zaM.f
 have e1 : wrap64 (0 + 1) = 1 := by rw [zaq (by omega) (by omega)]; rfl
 have e2 : wrap64 (1 + 1) = 2 := by rw [zaq (by omega) (by omega)]; rfl
 have el : (([(sa, la, ea), (sb, lb, eb)] : List (Bool × List Int × Int)).length : Int) = 2 := rfl
 have r0 : rdT [.b, .is .u32, .i .i64] [(sa, la, ea), (sb, lb, eb)] 0 = ⟨sa, la, ea⟩ := rfl
 have r1 : rdT [.b, .is .u32, .i .i64] [(sa, la, ea), (sb, lb, eb)] 1 = ⟨sb, lb, eb⟩ := rfl
 refine zf ?_
 simp only [zaM.l0, el, e1, e2, r0]
 (repeat (first | with_reducible refine ep ?_ | with_reducible refine en ?_))
 refine zk (zcu ha) ?_
 (repeat (first | with_reducible refine ep ?_ | with_reducible refine en ?_))
 refine zf ?_
 simp only [zaM.l0, el, e1, e2, r1]
 (repeat (first | with_reducible refine ep ?_ | with_reducible refine en ?_))
 refine zk (zcu hb) ?_
 (repeat (first | with_reducible refine ep ?_ | with_reducible refine en ?_))
 refine zf ?_
 simp only [zaM.l0, el, e1, e2]
 (repeat (first | with_reducible refine ep ?_ | with_reducible refine en ?_))
 exact Ev.now _
def ok3 (d : Bool × List Int × Int) : Bool × List Int × Int × Int := (d.1, d.2.1, d.2.2, 0)
theorem zcz {s : Bool} {n : Nat} {e : Int} (h1 : -16777216 ≤ e) (h2 : e + (bl n : Nat) ≤ 16777216) : zeb s n e = ok3 (mk (sv s n) e) := zm7 h1 h2
theorem zdX {n : Nat} (h : bl n ≤ 131072) : zJ n = (D n, 0) := by
 have : (D n).length ≤ 4096 := zaW (by omega)
 unfold zJ
 rw [if_neg (by omega)]
theorem zdd (n : Nat) (h : n < 18446744073709551616) : (BitVec.ofInt 64 (n : Int)).toNat = n := by
 rw [BitVec.ofInt_natCast, BitVec.toNat_ofNat]; exact Nat.mod_eq_of_lt (by omega)
theorem zhs (a b : Nat) (ha : a < 18446744073709551616) (hb : b < 18446744073709551616) : Go.bits .and .u64 (a : Int) (b : Int) = ((a &&& b : Nat) : Int) := by
 show IntKind.u64.wrap ((BitVec.ofInt 64 (a : Int) &&& BitVec.ofInt 64 (b : Int)).toNat : Int) = _
 have hx : a &&& b < 2 ^ 64 := Nat.and_lt_two_pow _ (by omega)
 rw [BitVec.toNat_and, zdd a ha, zdd b hb, zc5]
 omega
theorem zdu (a b : Nat) (ha : a < 18446744073709551616) (hb : b < 18446744073709551616) : Go.bits .or .u64 (a : Int) (b : Int) = ((a ||| b : Nat) : Int) := by
 show IntKind.u64.wrap ((BitVec.ofInt 64 (a : Int) ||| BitVec.ofInt 64 (b : Int)).toNat : Int) = _
 have hx : a ||| b < 2 ^ 64 := Nat.or_lt_two_pow (by omega) (by omega)
 rw [BitVec.toNat_or, zdd a ha, zdd b hb, zc5]
 omega
theorem zkS (a b : Nat) (ha : a < 18446744073709551616) (hb : b < 18446744073709551616) : Go.bits .andNot .u64 (a : Int) (b : Int) = ((a &&& (18446744073709551616 - 1 - b) : Nat) : Int) := by
 show IntKind.u64.wrap ((BitVec.ofInt 64 (a : Int) &&& ~~~(BitVec.ofInt 64 (b : Int))).toNat : Int) = _
 have hx : a &&& (18446744073709551616 - 1 - b) < 2 ^ 64 := Nat.and_lt_two_pow _ (by omega)
 rw [BitVec.toNat_and, BitVec.toNat_not, zdd a ha, zdd b hb, zc5]
 have e : 2 ^ 64 - 1 - b = 18446744073709551616 - 1 - b := by omega
 rw [e]
 omega
theorem zfL (a k : Nat) (ha : a < 18446744073709551616) (hk : k ≤ 63) : Go.bits .and .u64 (a : Int) ((2 ^ k - 1 : Nat) : Int) = ((a % 2 ^ k : Nat) : Int) := by
 have h1 : 2 ^ k ≤ 2 ^ 63 := Nat.pow_le_pow_right (by omega) hk
 rw [zhs a _ ha (by omega), Nat.and_two_pow_sub_one_eq_mod]
theorem zkT (w k : Nat) (hk : k ≤ 63) (hw : w < 2 ^ (k + 1)) : Go.bits .andNot .u64 (w : Int) ((2 ^ k : Nat) : Int) = ((w % 2 ^ k : Nat) : Int) := by
 have h1 : 2 ^ k ≤ 2 ^ 63 := Nat.pow_le_pow_right (by omega) hk
 have h2 : 2 ^ (k + 1) ≤ 2 ^ 64 := Nat.pow_le_pow_right (by omega) (by omega)
 rw [zkS w _ (by omega) (by omega)]
 congr 1
 apply Nat.eq_of_testBit_eq
 intro i
 have e : 18446744073709551616 - 1 - 2 ^ k = 2 ^ 64 - (2 ^ k + 1) := by omega
 rw [Nat.testBit_and, Nat.testBit_mod_two_pow, e, Nat.testBit_two_pow_sub_succ (by omega), Nat.testBit_two_pow]
 rcases Nat.lt_trichotomy i k with h | h | h
 ·have h3 : i < 64 := by omega
  have h4 : ¬ k = i := by omega
  simp [h, h3, h4]
 ·subst h; simp
 ·have h3 : w.testBit i = false := Nat.testBit_lt_two_pow (Nat.lt_of_lt_of_le hw (Nat.pow_le_pow_right (by omega) (by omega)))
  have h4 : ¬ i < k := by omega
  simp [h3, h4]
theorem zkW (w k : Nat) (hk : k ≤ 63) (hw : w < 2 ^ (k + 1)) : Go.bits .and .u64 (w : Int) ((2 ^ k : Nat) : Int) = ((w / 2 ^ k * 2 ^ k : Nat) : Int) := by
 have h1 : 2 ^ k ≤ 2 ^ 63 := Nat.pow_le_pow_right (by omega) hk
 have h2 : 2 ^ (k + 1) ≤ 2 ^ 64 := Nat.pow_le_pow_right (by omega) (by omega)
 rw [zhs w _ (by omega) (by omega)]
 congr 1
 apply Nat.eq_of_testBit_eq
 intro i
 rw [Nat.testBit_and, Nat.testBit_two_pow, Nat.testBit_mul_two_pow, Nat.testBit_div_two_pow]
 rcases Nat.lt_trichotomy i k with h | h | h
 ·have h3 : ¬ k = i := by omega
  have h4 : ¬ k ≤ i := by omega
  simp [h3, h4]
 ·subst h; simp
 ·have h3 : w.testBit i = false := Nat.testBit_lt_two_pow (Nat.lt_of_lt_of_le hw (Nat.pow_le_pow_right (by omega) (by omega)))
  have h4 : ¬ k = i := by omega
  have h5 : i - k + k = i := by omega
  simp [h3, h4, h5]
theorem zi1 (a b k : Nat) (hb : b < 2 ^ k) (h : a * 2 ^ k + b < 18446744073709551616) : Go.bits .or .u64 ((a * 2 ^ k : Nat) : Int) (b : Int) = ((a * 2 ^ k + b : Nat) : Int) := by
 rw [zdu _ _ (by omega) (by omega)]
 congr 1
 rw [Nat.mul_comm]
 exact (Nat.two_pow_add_eq_or_of_lt hb a).symm
theorem ziX (a b : Nat) (ha : a < 18446744073709551616) (hb : b < 18446744073709551616) : Go.bits .or .u64 (a : Int) (b : Int) = Go.bits .or .u64 (b : Int) (a : Int) := by
 rw [zdu a b ha hb, zdu b a hb ha, Nat.or_comm]
def isF (f : Int) : Prop := f = 1 ∨ f = 2
def fb (f : Int) : Nat := if f = 1 then 23 else 52
def mo (f : Int) : Nat := if f = 1 then 255 else 2047
def sk (f : Int) : Nat := if f = 1 then 31 else 63
def sg (f : Int) : Nat := if f = 1 then 2147483648 else 9223372036854775808
theorem zjt {f : Int} (h : isF f) : zeJ.f f = some ((fb f : Int), (mo f : Int), (sg f : Int), true) := by
 rcases h with rfl | rfl <;> rfl
theorem zdN {f : Int} (h : isF f) : Ev (fun k => zC.f k f []) ((fb f : Int), (mo f : Int), (sg f : Int), 0) := by
 unfold zC.f
 refine zk (zjt h) ?_
 (repeat (first | with_reducible refine ep ?_ | with_reducible refine en ?_))
 refine zf ?_
 simp only [zC.l0]
 (repeat (first | with_reducible refine ep ?_ | with_reducible refine en ?_))
 exact Ev.now _
theorem znd {f : Int} (h : isF f) : Go.bits .or .u64 (sg f : Int) (IntKind.u64.wrap ((sg f : Int) - 1)) = ((2 * sg f - 1 : Nat) : Int) := by
 rcases h with rfl | rfl
 ·have e : IntKind.u64.wrap (((sg 1 : Nat) : Int) - 1) = ((2147483647 : Nat) : Int) := by rw [zc5]; rfl
  rw [e, zdu _ _ (by decide) (by decide)]; rfl
 ·have e : IntKind.u64.wrap (((sg 2 : Nat) : Int) - 1) = ((9223372036854775807 : Nat) : Int) := by rw [zc5]; rfl
  rw [e, zdu _ _ (by decide) (by decide)]; rfl
theorem zba {f : Int} (h : isF f) : 0 < sg f ∧ 2 * sg f ≤ 18446744073709551616 := by rcases h with rfl | rfl <;> decide
theorem zdA {f : Int} (h : isF f) : sg f = 2 ^ sk f := by rcases h with rfl | rfl <;> decide
theorem zjx {f : Int} (h : isF f) : sk f ≤ 63 := by rcases h with rfl | rfl <;> decide
def zaV (f : Int) (w : Nat) : Int := if w < 2 * sg f then 0 else 6
theorem zeI {f : Int} (h : isF f) (w : Nat) : Ev (fun k => zC.f k f [(w : Int)]) ((fb f : Int), (mo f : Int), (sg f : Int), zaV f w) := by
 have hp := zba h
 unfold zC.f zaV
 have e1 : wrap64 (0 + 1) = 1 := by rw [zaq (by omega) (by omega)]; rfl
 have el : (([(w : Int)] : List Int).length : Int) = 1 := rfl
 have er : rd [(w : Int)] 0 = (w : Int) := rfl
 refine zk (zjt h) ?_
 (repeat (first | with_reducible refine ep ?_ | with_reducible refine en ?_))
 refine zf ?_
 simp only [zC.l0, el, e1, er, znd h]
 (repeat (first | with_reducible refine ep ?_ | with_reducible refine en ?_))
 by_cases c : w < 2 * sg f
 ·rw [if_pos c]
  (repeat (first | with_reducible refine ep ?_ | with_reducible refine en ?_))
  refine zf ?_
  simp only [zC.l0, el]
  (repeat (first | with_reducible refine ep ?_ | with_reducible refine en ?_))
  exact Ev.now _
 ·rw [if_neg c]
  (repeat (first | with_reducible refine ep ?_ | with_reducible refine en ?_))
  exact Ev.now _
theorem zos {f : Int} (h : isF f) : shl .u64 ((mo f : Nat) : Int) ((fb f : Nat) : Int) = ((mo f * 2 ^ fb f : Nat) : Int) := by
 rcases h with rfl | rfl <;> decide
theorem zgb {f : Int} (h : isF f) : zbf.f (fb f : Int) (mo f : Int) (sg f : Int) = some ((mo f * 2 ^ fb f : Nat) : Int) := by
 unfold zbf.f
 have hm : mo f < 10000 := by rcases h with rfl | rfl <;> decide
 rw [if_pos (by omega), u64 (by omega) (by omega), zos h]
def cls (f : Int) (w : Nat) : Int :=
 if w % sg f = 0 then 1 else if w % sg f < 2 ^ fb f then 2 else if w % sg f < mo f * 2 ^ fb f then 3 else if w % sg f = mo f * 2 ^ fb f then 4 else 5
theorem zjw {f : Int} (h : isF f) {w : Nat} (hw : w < 2 * sg f) : Go.bits .andNot .u64 (w : Int) (sg f : Int) = ((w % sg f : Nat) : Int) := by
 rw [zdA h] at hw ⊢
 exact zkT w (sk f) (zjx h) (by rw [Nat.pow_succ, Nat.mul_comm]; exact hw)
theorem zfj {f : Int} (h : isF f) : shl .u64 1 ((fb f : Nat) : Int) = ((2 ^ fb f : Nat) : Int) := by rcases h with rfl | rfl <;> decide
theorem zfW {f : Int} (h : isF f) {w : Nat} (hw : w < 2 * sg f) : zb0.f (fb f : Int) (mo f : Int) (sg f : Int) (w : Int) = some (cls f w) := by
 unfold zb0.f cls
 rw [zjw h hw, zfj h]
 generalize w % sg f = z
 by_cases c1 : z = 0
 ·rw [if_pos (by omega), if_pos c1]
 rw [if_neg (by omega), if_neg c1, if_pos (by omega)]
 by_cases c2 : z < 2 ^ fb f
 ·rw [if_pos (by omega), if_pos c2]
 rw [if_neg (by omega), if_neg c2, zgb h, Option.bind_some]
 by_cases c3 : z < mo f * 2 ^ fb f
 ·rw [if_pos (by omega), if_pos c3]
 rw [if_neg (by omega), if_neg c3, Option.bind_some]
 by_cases c4 : z = mo f * 2 ^ fb f
 ·rw [if_pos (by omega), if_pos c4]
 ·rw [if_neg (by omega), if_neg c4]
theorem zpo {f : Int} (h : isF f) {w : Nat} (hw : w < 2 * sg f) : Ev (fun k => zdG.f k f (w : Int)) (cls f w, 0) := by
 have ho := zeI h w
 unfold zaV at ho
 rw [if_pos hw] at ho
 unfold zdG.f
 refine Ev.bind ho ?_
 (repeat (first | with_reducible refine ep ?_ | with_reducible refine en ?_))
 refine zk (zfW h hw) ?_
 (repeat (first | with_reducible refine ep ?_ | with_reducible refine en ?_))
 exact Ev.now _
def zj (f : Int) (w : Nat) : Bool := decide (sg f ≤ w)
def zw (f : Int) (w : Nat) : Nat := w % sg f / 2 ^ fb f
def zO (f : Int) (w : Nat) : Nat := w % sg f % 2 ^ fb f
theorem zaj {f : Int} (h : isF f) : fb f ≤ 52 := by rcases h with rfl | rfl <;> decide
theorem zgS {f : Int} (h : isF f) : sg f = 2 ^ fb f * (mo f + 1) := by rcases h with rfl | rfl <;> decide
theorem pfb {f : Int} (h : isF f) : 2 ^ fb f ≤ 4503599627370496 := by rcases h with rfl | rfl <;> decide
theorem zds {f : Int} (h : isF f) : mo f ≤ 2047 := by rcases h with rfl | rfl <;> decide
theorem zjD {f : Int} (h : isF f) {w : Nat} (hw : w < 2 * sg f) : zcL.f (fb f : Int) (mo f : Int) (sg f : Int) (w : Int) = some (zj f w, (zw f w : Int), (zO f w : Int)) := by
 have hp := zba h
 have hk := zjx h
 have h52 := zaj h
 have hpw := pfb h
 have hpp := zh (fb f)
 unfold zcL.f
 rw [zjw h hw, zfj h]
 have h1 : Go.bits .and .u64 (w : Int) (sg f : Int) = ((w / sg f * sg f : Nat) : Int) := by
  rw [zdA h] at hw ⊢
  exact zkW w (sk f) hk (by rw [Nat.pow_succ, Nat.mul_comm]; exact hw)
 have hz : w % sg f < sg f := Nat.mod_lt _ hp.1
 have h2 : IntKind.u64.wrap (((2 ^ fb f : Nat) : Int) - 1) = ((2 ^ fb f - 1 : Nat) : Int) := by rw [zc5]; omega
 have h3 := zfL (w % sg f) (fb f) (by omega) (by omega)
 have h4 : shr .u64 ((w % sg f : Nat) : Int) ((fb f : Nat) : Int) = ((w % sg f / 2 ^ fb f : Nat) : Int) := zdD _ _ (by show fb f ≤ 64; omega)
 have h5 : wrap64 ((w % sg f / 2 ^ fb f : Nat) : Int) = ((w % sg f / 2 ^ fb f : Nat) : Int) := by
  have hq : w % sg f / 2 ^ fb f < mo f + 1 := Nat.div_lt_of_lt_mul (by rw [← zgS h]; exact hz)
  have hm := zds h
  clear h1 h2 h3 h4
  generalize w % sg f / 2 ^ fb f = q at hq ⊢
  exact zaq (by omega) (by omega)
 rw [h1, h2, h3, h4, h5]
 have h6 : (decide (¬ (((w / sg f * sg f : Nat) : Int) = 0))) = zj f w := by
  unfold zj
  by_cases c : sg f ≤ w
  ·have : w / sg f = 1 := Nat.div_eq_of_lt_le (by omega) (by omega)
   rw [this, decide_eq_true c]
   exact decide_eq_true (by omega)
  ·rw [Nat.div_eq_of_lt (by omega), decide_eq_false c]
   simp
 rw [h6, if_pos (by omega)]
 rfl
theorem zpt {f : Int} (h : isF f) {w : Nat} (hw : w < 2 * sg f) : Ev (fun k => zdL.f k f (w : Int)) (zj f w, (zw f w : Int), (zO f w : Int), 0) := by
 have ho := zeI h w
 unfold zaV at ho
 rw [if_pos hw] at ho
 unfold zdL.f
 refine Ev.bind ho ?_
 (repeat (first | with_reducible refine ep ?_ | with_reducible refine en ?_))
 refine zk (zjD h hw) ?_
 (repeat (first | with_reducible refine ep ?_ | with_reducible refine en ?_))
 exact Ev.now _
def lo (f : Int) : Int := if f = 1 then -149 else -1074
theorem zgd {f : Int} (h : isF f) : zbv.f (fb f : Int) (mo f : Int) (sg f : Int) = some (lo f) := by
 unfold zbv.f
 have e : wrap64 (Int.tdiv ((mo f : Nat) : Int) 2) = ((mo f / 2 : Nat) : Int) := by
  have := zds h
  exact zaq (by show (0 : Int) ≤ ((mo f / 2 : Nat) : Int); omega) (by show ((mo f / 2 : Nat) : Int) < _; omega)
 have hm := zds h
 have hb := zaj h
 rw [e]
 have e2 : wrap64 (1 - ((mo f / 2 : Nat) : Int)) = 1 - ((mo f / 2 : Nat) : Int) := by unfold wrap64; omega
 rw [e2]
 have e3 : wrap64 (1 - ((mo f / 2 : Nat) : Int) - ((fb f : Nat) : Int)) = 1 - ((mo f / 2 : Nat) : Int) - ((fb f : Nat) : Int) := by unfold wrap64; omega
 rw [e3]
 rcases h with rfl | rfl <;> rfl
def zn (f : Int) (w : Nat) : Nat := if zw f w = 0 then zO f w else 2 ^ fb f + zO f w
def wex (f : Int) (w : Nat) : Int := (if zw f w = 0 then 0 else (zw f w : Int) - 1) + lo f
theorem zmh {f : Int} (h : isF f) {w : Nat} (hw : w < 2 * sg f) : Ev (fun k => zdM.f k f (w : Int)) ((fb f : Int), (mo f : Int), (sg f : Int), if cls f w ≥ 4 then 7 else 0) := by
 have ho := zeI h w
 unfold zaV at ho
 rw [if_pos hw] at ho
 unfold zdM.f
 refine Ev.bind ho ?_
 (repeat (first | with_reducible refine ep ?_ | with_reducible refine en ?_))
 refine zk (zfW h hw) ?_
 (repeat (first | with_reducible refine ep ?_ | with_reducible refine en ?_))
 by_cases c : cls f w ≥ 4
 ·refine zd c ?_
  exact zi (Ev.now _) (by rw [if_pos c])
 ·refine ze c ?_
  exact zi (Ev.now _) (by rw [if_neg c])
theorem mx1 (n : Nat) : (wrap64 ((mx (n : Int) 1) - 1) = if n = 0 then 0 else (n : Int) - 1) ∨ 4611686018427387904 ≤ n := by
 by_cases hb : n < 4611686018427387904
 ·left
  have e : mx (n : Int) 1 = ((max n 1 : Nat) : Int) := zne n 1
  rw [e, zaq (by omega) (by omega)]
  split <;> omega
 ·right; omega
theorem zpu {f : Int} (h : isF f) {w : Nat} (hw : w < 2 * sg f) (hc : cls f w < 4) : Ev (fun k => zbe.f k f (w : Int)) (ok3 (mk (sv (zj f w) (zn f w)) (wex f w))) := by
 have hf := zmh h hw
 rw [if_neg (by omega)] at hf
 have hp := zba h
 have hz : w % sg f < sg f := Nat.mod_lt _ hp.1
 have he : zw f w < mo f + 1 := Nat.div_lt_of_lt_mul (by rw [← zgS h]; exact hz)
 have hm := zds h
 have hfr : zO f w < 2 ^ fb f := Nat.mod_lt _ (zh _)
 have hpw := pfb h
 have h52 := zaj h
 have hlo : -1074 ≤ lo f ∧ lo f ≤ -149 := by rcases h with rfl | rfl <;> decide
 have hmx := (mx1 (zw f w)).resolve_right (by omega)
 have hbl : ∀ m : Nat, m < 18446744073709551616 → bl m ≤ 64 := fun m hm => zG (by omega)
 unfold zbe.f
 refine Ev.bind hf ?_
 (repeat (first | with_reducible refine ep ?_ | with_reducible refine en ?_))
 refine zk (zjD h hw) ?_
 (repeat (first | with_reducible refine ep ?_ | with_reducible refine en ?_))
 have hex : wrap64 (wrap64 ((mx (zw f w : Int) 1) - 1) + lo f) = wex f w := by
  rw [hmx]
  unfold wex wrap64
  split <;> omega
 have hwx : -1074 ≤ wex f w ∧ wex f w ≤ 3000 := by unfold wex; split <;> omega
 by_cases c : zw f w = 0
 ·have hm0 : zn f w = zO f w := by unfold zn; rw [if_pos c]
  have o1 := zee (n := (zO f w : Int)) (by omega) (by omega)
  rw [Int.toNat_natCast] at o1
  have hb := hbl (zO f w) (by omega)
  have m1 := zct (zj f w) (zae (zO f w)) (zaW (by omega)) (wex f w)
  rw [V_D, zcz (by omega) (by omega)] at m1
  dsimp only
  (repeat (first | with_reducible refine ep ?_ | with_reducible refine en ?_))
  refine zf ?_; simp only [zbe.j1]
  refine Ev.bind (o1) ?_; try dsimp only
  refine zk (zgd h) ?_; try dsimp only
  rw [hex, hm0]
  refine Ev.bind m1 ?_
  (repeat (first | with_reducible refine ep ?_ | with_reducible refine en ?_))
  exact Ev.now _
 ·have hm0 : zn f w = 1 * 2 ^ fb f + zO f w := by unfold zn; rw [if_neg c, Nat.one_mul]
  have eo : Go.bits .or .u64 (zO f w : Int) (shl .u64 1 ((fb f : Nat) : Int)) = ((zn f w : Nat) : Int) := by
   rw [zfj h, ziX _ _ (by omega) (by omega), hm0]
   have := zi1 1 (zO f w) (fb f) hfr (by omega)
   rw [Nat.one_mul] at this
   rw [this, Nat.one_mul]
  have hlt : zn f w < 18446744073709551616 := by omega
  have o1 := zee (n := (zn f w : Int)) (by omega) (by omega)
  rw [Int.toNat_natCast] at o1
  have hb := hbl (zn f w) hlt
  have m1 := zct (zj f w) (zae (zn f w)) (zaW (by omega)) (wex f w)
  rw [V_D, zcz (by omega) (by omega)] at m1
  dsimp only
  (repeat (first | with_reducible refine ep ?_ | with_reducible refine en ?_))
  refine zf ?_; simp only [zbe.j1]
  rw [eo]
  refine Ev.bind (o1) ?_; try dsimp only
  refine zk (zgd h) ?_; try dsimp only
  rw [hex]
  refine Ev.bind m1 ?_
  (repeat (first | with_reducible refine ep ?_ | with_reducible refine en ?_))
  exact Ev.now _
def pr (f : Int) : Nat := if f = 1 then 24 else 53
def wd (f : Int) : Int := if f = 1 then 128 else 1024
def sgn (f : Int) (s : Bool) : Nat := if s = true then sg f else 0
def zr (f : Int) (n : Nat) (e : Int) : Int := max (e + (bl n : Nat) - (pr f : Nat)) (lo f)
def enc (f : Int) (n : Nat) (e : Int) : Nat := (zr f n e - lo f).toNat * 2 ^ fb f + n * 2 ^ (e - zr f n e).toNat
theorem zM {f : Int} (h : isF f) : pr f = fb f + 1 := by rcases h with rfl | rfl <;> rfl
theorem zpk {f : Int} (h : isF f) : wd f = ((mo f / 2 : Nat) : Int) + 1 := by rcases h with rfl | rfl <;> rfl
theorem zbE {f : Int} (h : isF f) : -1074 ≤ lo f ∧ lo f ≤ -149 := by rcases h with rfl | rfl <;> decide
theorem zc6 {f : Int} (h : isF f) : 128 ≤ wd f ∧ wd f ≤ 1024 := by rcases h with rfl | rfl <;> decide
theorem zf8 {f : Int} (h : isF f) : wd f - (pr f : Nat) - lo f = ((mo f - 2 : Nat) : Int) := by rcases h with rfl | rfl <;> rfl
theorem zdr {f : Int} (h : isF f) : 255 ≤ mo f := by rcases h with rfl | rfl <;> decide
theorem zo8 (f : Int) (n : Nat) (e : Int) : lo f ≤ zr f n e := by unfold zr; omega
theorem zi6 {f : Int} {n : Nat} {e : Int} (hn : bl n ≤ pr f) (he : lo f ≤ e) : n * 2 ^ (e - zr f n e).toNat < 2 ^ pr f := by
 have h1 := zL n
 have h2 : n * 2 ^ (e - zr f n e).toNat < 2 ^ bl n * 2 ^ (e - zr f n e).toNat := Nat.mul_lt_mul_of_pos_right h1 (zh _)
 rw [← Nat.pow_add] at h2
 exact Nat.lt_of_lt_of_le h2 (Nat.pow_le_pow_right (by omega) (by unfold zr; omega))
theorem zo9 {f : Int} {n : Nat} {e : Int} (hn : bl n ≤ pr f) (he : lo f ≤ e) : zr f n e ≤ e := by unfold zr; omega
theorem zl6 {f : Int} (h : isF f) {n : Nat} {e : Int} (hn : bl n ≤ pr f) (he : lo f ≤ e) (hw : e + (bl n : Nat) ≤ wd f) : enc f n e < mo f * 2 ^ fb f ∧ (zr f n e - lo f).toNat ≤ mo f - 2 := by
 have h1 := zi6 hn he
 have h2 := zf8 h
 have h3 := zdr h
 have h4 : (zr f n e - lo f).toNat ≤ mo f - 2 := by unfold zr; omega
 refine ⟨?_, h4⟩
 unfold enc
 rw [zM h, Nat.pow_succ] at h1
 have h5 : (zr f n e - lo f).toNat * 2 ^ fb f ≤ (mo f - 2) * 2 ^ fb f := Nat.mul_le_mul_right _ h4
 have h6 : (mo f - 2) * 2 ^ fb f + 2 ^ fb f * 2 = mo f * 2 ^ fb f := by
  rw [Nat.mul_comm (2 ^ fb f) 2, ← Nat.add_mul]; congr 1; omega
 omega
theorem ze4 {f : Int} (h : isF f) : mo f * 2 ^ fb f + 2 ^ fb f = sg f := by rcases h with rfl | rfl <;> decide
theorem zgV {X s : Nat} (h : X * 2 ^ s < 18446744073709551616) (hs : s ≤ 64) : shl .u64 (X : Int) (s : Int) = ((X * 2 ^ s : Nat) : Int) := by
 unfold shl
 have e : min (s : Int).toNat IntKind.u64.bits = s := by
  have : IntKind.u64.bits = 64 := rfl
  omega
 rw [e, zfn, ← Int.natCast_mul]
 exact u64 (by omega) (by omega)
theorem zi0 {f : Int} (h : isF f) {x : Nat} (hx : x < sg f) : Go.bits .or .u64 (x : Int) (sg f : Int) = ((x + sg f : Nat) : Int) := by
 have hp := zba h
 rw [ziX _ _ (by omega) (by omega)]
 have h1 := zi1 1 x (sk f) (by rw [← zdA h]; exact hx) (by rw [← zdA h]; omega)
 rw [Nat.one_mul, ← zdA h] at h1
 rw [h1, Nat.add_comm]
theorem znC {x : Nat} (h : x < 18446744073709551616) : Go.bits .or .u64 0 (x : Int) = (x : Int) := by
 have := zdu 0 x (by omega) h
 rw [Nat.zero_or] at this
 exact this
theorem zmN {f : Int} (h : isF f) {x : Nat} (hx : x < sg f) (s : Bool) : zc8.f (fb f : Int) (mo f : Int) (sg f : Int) s 0 (x : Int) = some ((x + sgn f s : Nat) : Int) := by
 have hp := zba h
 have e0 : shl .u64 (IntKind.u64.wrap 0) ((fb f : Nat) : Int) = 0 := by rcases h with rfl | rfl <;> decide
 unfold zc8.f sgn
 rw [if_pos (by omega), e0, znC (by omega)]
 cases s
 ·rfl
 ·rw [if_pos rfl, if_pos rfl, zi0 h hx]
theorem zdP {a b : Int} (h1 : -100000000000 ≤ a) (h2 : a ≤ 100000000000) (h3 : -100000000000 ≤ b) (h4 : b ≤ 100000000000) : wrap64 (a - b) = a - b := by unfold wrap64; omega
theorem zbZ {a b : Int} (h1 : -100000000000 ≤ a) (h2 : a ≤ 100000000000) (h3 : -100000000000 ≤ b) (h4 : b ≤ 100000000000) : wrap64 (a + b) = a + b := by unfold wrap64; omega
theorem zgq {l : List Int} (h : Nm l) (hb : V l < 18446744073709551616) : zbr l = true := by
 have h1 : l.length ≤ 2 := by
  have : (D (V l)).length ≤ 2 := zdQ (by omega)
  rwa [h] at this
 unfold zbr
 rw [zbF.2 ⟨by omega, h⟩, decide_eq_true h1]
 rfl
theorem zg6 {f : Int} (h : isF f) : 2 ^ pr f ≤ 9007199254740992 := by rcases h with rfl | rfl <;> decide
theorem zpb {f : Int} (h : isF f) {n : Nat} {e : Int} (he : lo f ≤ e) (hw : e + (bl n : Nat) ≤ wd f) (hn : bl n ≤ 100) : mx (wrap64 (wrap64 (e + ((bl n : Nat) : Int) - ((fb f : Nat) : Int)) - 1)) (lo f) = zr f n e := by
 have hl := zbE h
 have hwb := zc6 h
 have hpr := zM h
 have hfb := zaj h
 have e1 : wrap64 (e + ((bl n : Nat) : Int) - ((fb f : Nat) : Int)) = e + ((bl n : Nat) : Int) - ((fb f : Nat) : Int) := by unfold wrap64; omega
 have e2 : wrap64 (e + ((bl n : Nat) : Int) - ((fb f : Nat) : Int) - 1) = e + ((bl n : Nat) : Int) - ((fb f : Nat) : Int) - 1 := by unfold wrap64; omega
 rw [e1, e2, zfe]
 unfold zr
 omega
theorem znJ {n k : Nat} (h : n ≠ 0) (hb : n * 2 ^ k < 18446744073709551616) : k ≤ 64 := by
 rcases Nat.lt_or_ge 64 k with c | c
 ·have h1 : 2 ^ 64 ≤ 2 ^ k := Nat.pow_le_pow_right (by omega) (by omega)
  have h2 : 2 ^ k ≤ n * 2 ^ k := Nat.le_mul_of_pos_left _ (by omega)
  have h3 : (2 : Nat) ^ 64 = 18446744073709551616 := by decide
  omega
 ·exact c
theorem zpr {f : Int} (h : isF f) {s : Bool} {l : List Int} {e : Int} (hd : My s l e) (h0 : l ≠ []) (hn : bl (V l) ≤ pr f) (he : lo f ≤ e) (hw : e + (bl (V l) : Nat) ≤ wd f) :
  Ev (fun k => zci.f k f s l e) (((enc f (V l) e + sgn f s : Nat) : Int), 0) := by
 have hV : V l ≠ 0 := fun c => h0 ((zdS hd.dy.nm).1 c)
 have hl := zbE h
 have hwb := zc6 h
 have hpr := zM h
 have hfb := zaj h
 have h2 := zg6 h
 have hbig : V l < 2 ^ pr f := Nat.lt_of_lt_of_le (zL _) (Nat.pow_le_pow_right (by omega) hn)
 have hnum := zgm hd.dy.nm.dg (by have := hd.len; omega)
 rw [zgq hd.dy.nm (by omega), if_pos rfl] at hnum
 obtain ⟨e1, e2⟩ := zl6 h hn he hw
 have hil := ze4 h
 have hsp := zba h
 have hplt := zi6 hn he
 have hu := zo9 hn he
 have hul := zo8 f (V l) e
 have hpf := zh (fb f)
 have hub : zr f (V l) e ≤ 1100 := by omega
 have hA : (zr f (V l) e - lo f).toNat * 2 ^ fb f < 18446744073709551616 := by unfold enc at e1; omega
 have hB : V l * 2 ^ (e - zr f (V l) e).toNat < 18446744073709551616 := by omega
 have hsm : (e - zr f (V l) e).toNat ≤ 64 := by
  have := znJ (n := V l) (k := (e - zr f (V l) e).toNat) (by omega) hB
  exact this
 have hE : enc f (V l) e < 18446744073709551616 := by omega
 have t7 : IntKind.u64.wrap (((zr f (V l) e - lo f).toNat * 2 ^ fb f + V l * 2 ^ (e - zr f (V l) e).toNat : Nat) : Int) = ((enc f (V l) e : Nat) : Int) := u64 (by omega) (by unfold enc at hE; omega)
 have t8 := u64 (n := (((zr f (V l) e - lo f).toNat : Nat) : Int)) (by omega) (by omega)
 have t9 := zgV hA (by omega)
 have t10 := zgV hB hsm
 have hj := zmN h (x := enc f (V l) e) (by omega) s
 have hVi : ¬ ((V l : Nat) : Int) = 0 := by omega
 have c1 : ¬ ((bl (V l) : Nat) : Int) > ((fb f : Nat) : Int) + 1 := by omega
 have c2 : ¬ e < lo f := by omega
 have c3 : ¬ e + ((bl (V l) : Nat) : Int) > wd f := by omega
 have c4 : (0 : Int) ≤ (((e - zr f (V l) e).toNat : Nat) : Int) := by omega
 have c5 : (0 : Int) ≤ ((fb f : Nat) : Int) := by omega
 have hm := zds h
 have hL := zd9 (x := ((V l : Nat) : Int)) ⟨by omega, by omega⟩
 rw [Int.toNat_natCast] at hL
 have t1 : wrap64 (e + ((bl (V l) : Nat) : Int)) = e + ((bl (V l) : Nat) : Int) := zbZ (by omega) (by omega) (by omega) (by omega)
 have t2 : wrap64 (((fb f : Nat) : Int) + 1) = ((fb f : Nat) : Int) + 1 := by clear t1; exact zbZ (by omega) (by omega) (by omega) (by omega)
 have t3 : wrap64 (wrap64 (Int.tdiv ((mo f : Nat) : Int) 2) + 1) = wd f := by
  clear t1 t2
  have e3 : wrap64 (Int.tdiv ((mo f : Nat) : Int) 2) = ((mo f / 2 : Nat) : Int) := zaq (by show (0 : Int) ≤ ((mo f / 2 : Nat) : Int); omega) (by show ((mo f / 2 : Nat) : Int) < _; omega)
  rw [e3, zbZ (by clear e3; omega) (by clear e3; omega) (by clear e3; omega) (by clear e3; omega), zpk h]
 have t4 := zpb h he hw (by clear t1 t2 t3; omega : bl (V l) ≤ 100)
 have t5 : wrap64 (e - zr f (V l) e) = (((e - zr f (V l) e).toNat : Nat) : Int) := by clear t1 t2 t3 t4; rw [zdP (by omega) (by omega) (by omega) (by omega)]; omega
 have t6 : wrap64 (zr f (V l) e - lo f) = (((zr f (V l) e - lo f).toNat : Nat) : Int) := by clear t1 t2 t3 t4 t5; rw [zdP (by omega) (by omega) (by omega) (by omega)]; omega
 have hN := zcu hd
 have hlow := zgd h
 have hop := zdN h
 clear e1 e2 hA hB hE hplt hbig h2 hil hsp hm hub hu hul he hw hn hpf hsm
 unfold zci.f
 refine Ev.bind (hop) ?_; try dsimp only
 refine ze (fun h => h rfl) ?_
 refine zk (hN) ?_; try dsimp only
 refine ze (by simp) ?_
 refine Ev.bind (hnum) ?_; try dsimp only
 refine Ev.bind (hL) ?_; try dsimp only
 rw [t2]
 refine ze (by simp) (ze c1 (zd hVi ?_))
 refine zk (hlow) ?_; try dsimp only
 refine ze c2 ?_
 rw [t3, t1]
 refine ze c3 (ze hVi ?_)
 refine zk (hlow) ?_; try dsimp only
 rw [t4, t5]
 refine zd c4 ?_
 refine zk (hlow) ?_; try dsimp only
 refine zd c5 ?_
 rw [t6, t8, t9, t10, ← Int.natCast_add, t7]
 refine zk (hj) ?_; try dsimp only
 exact Ev.now _
theorem zgl {f : Int} (h : isF f) (s : Bool) {x : Nat} (hx : x < sg f) : Ev (fun _ => if s = true then (some (Go.bits .or .u64 (x : Int) (sg f : Int), (0 : Int))) else (some ((x : Int), 0))) (((x + sgn f s : Nat) : Int), 0) := by
 unfold sgn
 cases s
 ·(repeat (first | with_reducible refine ep ?_ | with_reducible refine en ?_))
  exact Ev.now _
 ·(repeat (first | with_reducible refine ep ?_ | with_reducible refine en ?_))
  rw [zi0 h hx, if_pos rfl]
  exact Ev.now _
theorem zkn {f : Int} (h : isF f) (s : Bool) : Ev (fun k => zcK.f k f s) (((sgn f s : Nat) : Int), 0) := by
 have hp := zba h
 have hn := zgl h s (x := 0) hp.1
 rw [Nat.zero_add] at hn
 unfold zcK.f zeF.f
 refine Ev.bind (a := (((sgn f s : Nat) : Int), 0)) ?_ (Ev.now _)
 refine Ev.bind (zdN h) ?_; try dsimp only
 (repeat (first | with_reducible refine ep ?_ | with_reducible refine en ?_))
 exact zk rfl hn
theorem zkm {f : Int} (h : isF f) (s : Bool) : Ev (fun k => zcJ.f k f s) (((mo f * 2 ^ fb f + sgn f s : Nat) : Int), 0) := by
 have hil := ze4 h
 have hp := zh (fb f)
 have hn := zgl h s (x := mo f * 2 ^ fb f) (by omega)
 unfold zcJ.f zeG.f
 refine Ev.bind (a := (((mo f * 2 ^ fb f + sgn f s : Nat) : Int), 0)) ?_ (Ev.now _)
 refine Ev.bind (zdN h) ?_; try dsimp only
 (repeat (first | with_reducible refine ep ?_ | with_reducible refine en ?_))
 exact zk (zgb h) hn
theorem zpp {f : Int} (h : isF f) (s : Bool) : Ev (fun k => zdH.f k f s) (((mo f * 2 ^ fb f - 1 + sgn f s : Nat) : Int), 0) := by
 have hil := ze4 h
 have hp := zh (fb f)
 have hsp := zba h
 have hm := zdr h
 have hq : 1 ≤ mo f * 2 ^ fb f := Nat.mul_pos (by omega) hp
 have hl : zdI.f ((fb f : Nat) : Int) ((mo f : Nat) : Int) ((sg f : Nat) : Int) = some ((mo f * 2 ^ fb f - 1 : Nat) : Int) := by
  unfold zdI.f
  rw [zgb h, Option.bind_some, zc5]
  congr 1
  omega
 have hn := zgl h s (x := mo f * 2 ^ fb f - 1) (by omega)
 unfold zdH.f zeE.f
 refine Ev.bind (a := (((mo f * 2 ^ fb f - 1 + sgn f s : Nat) : Int), 0)) ?_ (Ev.now _)
 refine Ev.bind (zdN h) ?_; try dsimp only
 (repeat (first | with_reducible refine ep ?_ | with_reducible refine en ?_))
 exact zk hl hn
def zb9 (f : Int) : Nat := mo f * 2 ^ fb f + 2 ^ (fb f - 1)
theorem zpq {f : Int} (h : isF f) : Ev (fun k => zdK.f k f) (((zb9 f : Nat) : Int), 0) := by
 have hl : zc9.f ((fb f : Nat) : Int) ((mo f : Nat) : Int) ((sg f : Nat) : Int) = some ((zb9 f : Nat) : Int) := by
  rcases h with rfl | rfl <;> decide +kernel
 unfold zdK.f zeH.f
 refine Ev.bind (a := (((zb9 f : Nat) : Int), 0)) ?_ (Ev.now _)
 refine Ev.bind (zdN h) ?_; try dsimp only
 (repeat (first | with_reducible refine ep ?_ | with_reducible refine en ?_))
 refine zk (hl) ?_; try dsimp only
 (repeat (first | with_reducible refine ep ?_ | with_reducible refine en ?_))
 exact Ev.now _
instance (f : Int) : Decidable (isF f) := inferInstanceAs (Decidable (f = 1 ∨ f = 2))
theorem zgE (f : Int) : zco.f f = some (decide (isF f)) := by
 unfold zco.f isF
 by_cases h : f = 1
 ·rw [if_pos h]; simp [h]
 ·rw [if_neg h]; simp [h]
def isM (m : Int) : Prop := 1 ≤ m ∧ m ≤ 5
instance (m : Int) : Decidable (isM m) := inferInstanceAs (Decidable (1 ≤ m ∧ m ≤ 5))
theorem zjh {f : Int} (h : isF f) {w : Nat} (hw : w < 18446744073709551616) : zcR.f f (w : Int) = some (zaV f w) := by
 unfold zcR.f zaV
 rw [zgE, decide_eq_true h, Option.bind_some, if_neg (by simp)]
 rcases h with rfl | rfl
 ·rw [if_pos rfl]
  by_cases c : w < 2 * sg 1
  ·rw [if_neg (by simp [sg] at c; omega), if_pos c]
  ·rw [if_pos (by simp [sg] at c; omega), if_neg c]
 ·rw [if_neg (by omega), if_pos (by simp [sg]; omega)]
theorem zn3 {f : Int} (h : isF f) : zcq.f f = some (sg f : Int) := by rcases h with rfl | rfl <;> rfl
theorem zn0 {f : Int} (h : isF f) : zbO.f f = some (fb f : Int) := by rcases h with rfl | rfl <;> rfl
theorem zn1 {f : Int} (h : isF f) : zcp.f f = some (mo f : Int) := by rcases h with rfl | rfl <;> rfl
theorem zha {f : Int} (h : isF f) (w : Nat) : zw f w ≤ mo f := by
 have hz : w % sg f < sg f := Nat.mod_lt _ (zba h).1
 have : zw f w < mo f + 1 := Nat.div_lt_of_lt_mul (by rw [← zgS h]; exact hz)
 omega
theorem zeB (f : Int) (w : Nat) : zO f w < 2 ^ fb f := Nat.mod_lt _ (zh _)
theorem zkl (f : Int) (w : Nat) : w % sg f = zw f w * 2 ^ fb f + zO f w := by
 unfold zw zO
 have := Nat.div_add_mod (w % sg f) (2 ^ fb f)
 rw [Nat.mul_comm] at this
 exact this.symm
theorem zn4 {f : Int} (h : isF f) (w : Nat) : zdh.f f (w : Int) = some (zj f w, (zw f w : Int), (zO f w : Int)) := by
 have hp := zba h
 have hpp := zh (fb f)
 have hm := zds h
 have hx := zha h w
 have h52 := zaj h
 unfold zdh.f
 rw [zn3 h, Option.bind_some, Option.bind_some, if_neg (by omega), zn0 h, Option.bind_some, if_pos (by omega), zfj h, if_neg (by omega), Option.bind_some, if_pos (by omega), zfs, zfs, zdD _ _ (by show fb f ≤ 64; omega)]
 have e : wrap64 ((w % sg f / 2 ^ fb f : Nat) : Int) = (zw f w : Int) := by
  show wrap64 ((zw f w : Nat) : Int) = _
  exact zaq (by omega) (by omega)
 rw [e]
 have e2 : decide ((w : Int) ≥ (sg f : Int)) = zj f w := decide_eq_decide.2 (by omega)
 rw [e2]
 rfl
theorem zeV {f : Int} (h : isF f) (w : Nat) : cls f w = if zw f w = 0 then (if zO f w = 0 then 1 else 2) else if zw f w < mo f then 3 else if zO f w = 0 then 4 else 5 := by
 have h1 := zkl f w
 have h2 := zeB f w
 have h3 := zha h w
 have hpp := zh (fb f)
 have hm := zdr h
 unfold cls
 rw [h1]
 generalize zO f w = r at *
 generalize zw f w = q at *
 generalize 2 ^ fb f = p at *
 by_cases c : q = 0
 ·subst c
  simp only [Nat.zero_mul, Nat.zero_add, if_true]
  by_cases c2 : r = 0
  ·simp [c2]
  ·rw [if_neg c2, if_pos h2, if_neg c2]
 ·have h4 : p ≤ q * p := Nat.le_mul_of_pos_left _ (by omega)
  rw [if_neg (by omega), if_neg (by omega), if_neg c]
  by_cases c2 : q < mo f
  ·have h5 : (q + 1) * p ≤ mo f * p := Nat.mul_le_mul_right _ c2
   rw [Nat.add_mul, Nat.one_mul] at h5
   rw [if_pos (by omega), if_pos c2]
  ·have h5 : q = mo f := by omega
   rw [h5, if_neg (by omega), if_neg (Nat.lt_irrefl _)]
   by_cases c3 : r = 0
   ·rw [if_pos (by omega), if_pos c3]
   ·rw [if_neg (by omega), if_neg c3]
theorem znZ {f : Int} (h : isF f) (w : Nat) : zdg.f f (w : Int) = some (cls f w) := by
 unfold zdg.f
 rw [zn4 h, Option.bind_some, zeV h, zn1 h]
 generalize zO f w = r
 generalize zw f w = q
 generalize mo f = m
 simp only [Option.bind_some]
 by_cases c : q = 0
 ·rw [if_pos (by omega), if_pos c]
  by_cases c2 : r = 0
  ·rw [if_pos (by omega), if_pos c2]
  ·rw [if_neg (by omega), if_pos (by omega), if_neg c2]
 ·rw [if_neg (by omega), if_neg (by omega), if_neg c]
  by_cases c2 : q < m
  ·rw [if_pos (by omega), if_pos c2]
  ·rw [if_neg (by omega), if_neg c2]
   by_cases c3 : r = 0
   ·rw [if_pos (by omega), if_pos c3]
   ·rw [if_neg (by omega), if_neg c3]
theorem zn2 {f : Int} (h : isF f) : zd1.f f = some (zb9 f : Int) := by
 rcases h with rfl | rfl <;> decide +kernel
def mz (z e : Int) : Int := sv (mk z e).1 (V (mk z e).2.1)
def me (z e : Int) : Int := (mk z e).2.2
theorem ziJ (e : Int) : mz 0 e = 0 := rfl
theorem zgY (z : Int) : sv (decide (z < 0)) z.natAbs = z := by
 unfold sv
 by_cases h : z < 0
 ·rw [decide_eq_true h, if_pos rfl]; omega
 ·rw [decide_eq_false h, if_neg (by simp)]; omega
theorem zec {z : Int} (h : z ≠ 0) (e : Int) : ∃ j : Nat, z = mz z e * 2 ^ j ∧ me z e = e + (j : Int) ∧ mz z e ≠ 0 ∧ bl (mz z e).natAbs + j = bl z.natAbs := by
 have hn : z.natAbs ≠ 0 := by omega
 have hw := zea hn
 obtain ⟨q, hq⟩ := zbT hn
 have hd : z.natAbs / 2 ^ lw z.natAbs = 2 * q + 1 := by
  have : z.natAbs / 2 ^ lw z.natAbs = 2 ^ lw z.natAbs * (2 * q + 1) / 2 ^ lw z.natAbs := by rw [← hq]
  rw [this, Nat.mul_div_cancel_left _ (zh _)]
 have hm : mz z e = sv (decide (z < 0)) (z.natAbs / 2 ^ lw z.natAbs) := by
  unfold mz mk; rw [if_neg h]; show sv _ (V (D _)) = _; rw [V_D]
 have he : me z e = e + (lw z.natAbs : Nat) := by unfold me mk; rw [if_neg h]
 refine ⟨lw z.natAbs, ?_, he, ?_, ?_⟩
 ·rw [hm, hd]
  have h1 : sv (decide (z < 0)) (2 * q + 1) * 2 ^ lw z.natAbs = sv (decide (z < 0)) ((2 * q + 1) * 2 ^ lw z.natAbs) := by
   unfold sv
   split
   ·rw [Int.neg_mul, Int.natCast_mul, Int.natCast_pow]; rfl
   ·rw [Int.natCast_mul, Int.natCast_pow]; rfl
  rw [h1, Nat.mul_comm, ← hq, zgY]
 ·rw [hm, hd]; intro h2; have := zc3.1 h2; omega
 ·rw [hm, za0, zbM]; omega
theorem zna (z e : Int) : (mk z e).2.1.length ≤ (bl z.natAbs + 31) / 32 := by
 rw [zm9]
 refine zaW ?_
 rw [zbM]; omega
theorem zgf (z e : Int) : me z e = 0 ∧ z = 0 ∨ e ≤ me z e ∧ me z e ≤ e + (bl z.natAbs : Nat) := by
 by_cases h : z = 0
 ·exact .inl ⟨by rw [h]; rfl, h⟩
 ·obtain ⟨j, _, h2, _, h4⟩ := zec h e
  exact .inr (by omega)
theorem znf {z : Int} (h : z ≠ 0) (e : Int) : mz z e ≠ 0 := by obtain ⟨j, _, _, h3, _⟩ := zec h e; exact h3
theorem zj5 (z e : Int) : top (mz z e) (me z e) = top z e := by
 by_cases h : z = 0
 ·subst h; rfl
 ·obtain ⟨j, h1, h2, h3, h4⟩ := zec h e
  unfold top
  rw [if_neg h, if_neg h3, h2]; omega
def upB (m : Int) (s odd zT more : Bool) : Bool :=
 if m = 1 then zT && (more || odd) else if m = 2 then zT else if m = 4 then !s && (zT || more) else if m = 5 then s && (zT || more) else false
def rnd (m : Int) (s : Bool) (n k : Nat) : Nat :=
 n / 2 ^ k + (if upB m s (decide (n / 2 ^ k % 2 = 1)) (decide (2 ^ k ≤ 2 * (n % 2 ^ k))) (decide (2 * (n % 2 ^ k) % 2 ^ k ≠ 0)) = true then 1 else 0)
theorem zjk {m : Int} {s : Bool} {n k : Nat} (h : n % 2 ^ k = 0) : rnd m s n k = n / 2 ^ k := by
 have hp := zh k
 unfold rnd
 rw [h]
 have e1 : decide (2 ^ k ≤ 2 * 0) = false := decide_eq_false (by omega)
 have e2 : decide (2 * 0 % 2 ^ k ≠ 0) = false := decide_eq_false (by simp)
 rw [e1, e2]
 unfold upB
 simp
theorem zc0 (m : Int) (s : Bool) (n : Nat) : rnd m s n 0 = n := by
 rw [zjk (by rw [Nat.pow_zero, Nat.mod_one]), Nat.pow_zero, Nat.div_one]
theorem zgH (m : Int) (s : Bool) (n k j : Nat) : rnd m s (n * 2 ^ j) (k + j) = rnd m s n k := by
 have hj := zh j
 have hk := zh k
 have e1 : n * 2 ^ j / 2 ^ (k + j) = n / 2 ^ k := by rw [Nat.pow_add, Nat.mul_div_mul_right _ _ hj]
 have e2 : n * 2 ^ j % 2 ^ (k + j) = n % 2 ^ k * 2 ^ j := by rw [Nat.pow_add, Nat.mul_mod_mul_right]
 unfold rnd
 rw [e1, e2]
 have e3 : decide (2 ^ (k + j) ≤ 2 * (n % 2 ^ k * 2 ^ j)) = decide (2 ^ k ≤ 2 * (n % 2 ^ k)) := decide_eq_decide.2 (by
  rw [Nat.pow_add, ← Nat.mul_assoc]
  exact ⟨fun h => Nat.le_of_mul_le_mul_right h hj, fun h => Nat.mul_le_mul_right _ h⟩)
 have e4 : decide (2 * (n % 2 ^ k * 2 ^ j) % 2 ^ (k + j) ≠ 0) = decide (2 * (n % 2 ^ k) % 2 ^ k ≠ 0) := decide_eq_decide.2 (by
  rw [Nat.pow_add, ← Nat.mul_assoc, Nat.mul_mod_mul_right]
  constructor
  ·intro h h2; exact h (by rw [h2, Nat.zero_mul])
  ·intro h h2
   rcases Nat.mul_eq_zero.1 h2 with h3 | h3
   ·exact h h3
   ·omega)
 rw [e3, e4]
def R (m : Int) (s : Bool) (n : Nat) (e E : Int) : Nat := rnd m s (n * 2 ^ (e - E).toNat) (E - e).toNat
theorem zhh (m : Int) (s : Bool) (n : Nat) (e E : Int) (j : Nat) : R m s (n * 2 ^ j) e E = R m s n (e + j) E := by
 unfold R
 by_cases h : E ≤ e
 ·have e1 : (E - e).toNat = 0 := by omega
  have e2 : (E - (e + (j : Int))).toNat = 0 := by omega
  rw [e1, e2, zc0, zc0, Nat.mul_assoc, ← Nat.pow_add]
  congr 2; omega
 ·by_cases h2 : E ≤ e + (j : Int)
  ·have e1 : (e - E).toNat = 0 := by omega
   have e2 : (E - (e + (j : Int))).toNat = 0 := by omega
   rw [e1, e2, zc0, Nat.pow_zero, Nat.mul_one]
   have e3 : n * 2 ^ j = n * 2 ^ (e + (j : Int) - E).toNat * 2 ^ (E - e).toNat := by
    rw [Nat.mul_assoc, ← Nat.pow_add]; congr 2; omega
   rw [e3]
   have := zgH m s (n * 2 ^ (e + (j : Int) - E).toNat) 0 (E - e).toNat
   rw [Nat.zero_add, zc0] at this
   exact this
  ·have e1 : (e - E).toNat = 0 := by omega
   have e2 : (e + (j : Int) - E).toNat = 0 := by omega
   have e3 : (E - e).toNat = (E - (e + (j : Int))).toNat + j := by omega
   rw [e1, e2, e3, Nat.pow_zero, Nat.mul_one, Nat.mul_one, zgH]
def exR (n : Nat) (e E : Int) : Bool := decide (n % 2 ^ (E - e).toNat = 0)
theorem zic (n : Nat) (e E : Int) (j : Nat) : exR (n * 2 ^ j) e E = exR n (e + j) E := by
 unfold exR
 apply decide_eq_decide.2
 by_cases h2 : E ≤ e + (j : Int)
 ·have e2 : (E - (e + (j : Int))).toNat = 0 := by omega
  rw [e2, Nat.pow_zero, Nat.mod_one]
  have e3 : n * 2 ^ j = n * 2 ^ (j - (E - e).toNat) * 2 ^ (E - e).toNat := by
   rw [Nat.mul_assoc, ← Nat.pow_add]; congr 2; omega
  rw [e3, Nat.mul_mod_left]
 ·have e3 : (E - e).toNat = (E - (e + (j : Int))).toNat + j := by omega
  rw [e3, Nat.pow_add, Nat.mul_mod_mul_right]
  constructor
  ·intro h
   rcases Nat.mul_eq_zero.1 h with h3 | h3
   ·exact h3
   ·have := zh j; omega
  ·intro h; rw [h, Nat.zero_mul]
theorem zk5 (q : Nat) : bl (q + 1) ≤ bl q + 1 := by
 refine zG ?_
 have := zL q
 rw [Nat.pow_succ]
 have := zh (bl q)
 omega
theorem zkD {m : Int} {s : Bool} {n : Nat} {e E : Int} (hn : n ≠ 0) : (bl (R m s n e E) : Int) ≤ max 1 (e + (bl n : Nat) - E + 1) := by
 have h0 : rnd m s (n * 2 ^ (e - E).toNat) (E - e).toNat ≤ n * 2 ^ (e - E).toNat / 2 ^ (E - e).toNat + 1 := by unfold rnd; split <;> omega
 have h1 := zaf h0
 have h2 := zk5 (n * 2 ^ (e - E).toNat / 2 ^ (E - e).toNat)
 rw [zbM, zar hn] at h2
 unfold R
 by_cases c : E ≤ e
 ·have e1 : (E - e).toNat = 0 := by omega
  rw [e1, zc0, zar hn]; omega
 ·omega
theorem zfH {m : Int} {s : Bool} {n : Nat} {e E : Int} (hn : n ≠ 0) (h : E ≤ e + (bl n : Nat) - 1) : e + (bl n : Nat) ≤ (bl (R m s n e E) : Int) + E ∧ (bl (R m s n e E) : Int) + E ≤ e + (bl n : Nat) + 1 := by
 have h3 := zkD (m := m) (s := s) (e := e) (E := E) hn
 refine ⟨?_, by omega⟩
 have h0 : n * 2 ^ (e - E).toNat / 2 ^ (E - e).toNat ≤ rnd m s (n * 2 ^ (e - E).toNat) (E - e).toNat := by unfold rnd; split <;> omega
 have h1 := zaf h0
 rw [zbM, zar hn] at h1
 unfold R; omega
def TK (m : Int) (z e E : Int) : Int := sv (decide (z < 0)) (R m (decide (z < 0)) z.natAbs e E)
theorem zkH {m z e E : Int} (h : exR z.natAbs e E = true) : mk (TK m z e E) E = mk z e := by
 unfold TK R
 unfold exR at h
 have h := of_decide_eq_true h
 by_cases c : E ≤ e
 ·have e1 : (E - e).toNat = 0 := by omega
  rw [e1, zc0]
  have e2 : sv (decide (z < 0)) (z.natAbs * 2 ^ (e - E).toNat) = z * 2 ^ (e - E).toNat := by
   have := zkR (decide (z < 0)) z.natAbs e E
   rw [zgY] at this
   exact this.symm
  rw [e2, zgg]; congr 1; omega
 ·have e1 : (e - E).toNat = 0 := by omega
  rw [e1, Nat.pow_zero, Nat.mul_one, zjk h]
  generalize hk : (E - e).toNat = k at *
  have hE : E = e + (k : Int) := by omega
  rw [hE, ← zgg]
  congr 1
  have e2 : sv (decide (z < 0)) (z.natAbs / 2 ^ k) * 2 ^ k = sv (decide (z < 0)) (z.natAbs / 2 ^ k * 2 ^ k) := by
   unfold sv; split
   ·rw [Int.neg_mul, Int.natCast_mul, Int.natCast_pow]; rfl
   ·rw [Int.natCast_mul, Int.natCast_pow]; rfl
  rw [e2, Nat.div_mul_cancel (Nat.dvd_of_mod_eq_zero h), zgY]
theorem zfx {E : Int} (h1 : -1000000000 ≤ E) (h2 : E ≤ 1000000000) : wrap64 (-E) = -E := by unfold wrap64; omega
def inw (m : Int) (s : Bool) : Bool := decide (m = 3) || (decide (m = 4) && s) || (decide (m = 5) && !s)
def zcY (f m : Int) (s : Bool) : Nat := (if inw m s = true then mo f * 2 ^ fb f - 1 else mo f * 2 ^ fb f) + sgn f s
def zaG (f : Int) (n : Nat) (e : Int) : Nat := enc f (n / 2 ^ lw n) (e + (lw n : Nat))
def zl (f : Int) (n : Nat) (e : Int) : Int := max (e + (bl n : Nat) - (pr f : Nat)) (lo f)
def zt (f m : Int) (s : Bool) (n : Nat) (e : Int) : Int × Int :=
 let q := R m s n e (zl f n e)
 if (bl q : Int) + zl f n e > wd f then ((zcY f m s : Int), 20)
 else ((((if q = 0 then 0 else zaG f q (zl f n e)) + sgn f s : Nat) : Int),
  if exR n e (zl f n e) = true then 0
  else if (bl (R m s n e (e + (bl n : Nat) - (pr f : Nat))) : Int) + (e + (bl n : Nat) - (pr f : Nat)) < lo f + (pr f : Nat) then 24 else 16)
theorem zkE {m : Int} {s : Bool} {n : Nat} {e E : Int} {p : Nat} (h : e + (bl n : Nat) - (p : Nat) ≤ E) : R m s n e E ≤ 2 ^ p := by
 have h1 := zL n
 unfold R
 by_cases c : E ≤ e
 ·have e1 : (E - e).toNat = 0 := by omega
  rw [e1, zc0]
  have h2 : n * 2 ^ (e - E).toNat < 2 ^ bl n * 2 ^ (e - E).toNat := Nat.mul_lt_mul_of_pos_right h1 (zh _)
  rw [← Nat.pow_add] at h2
  exact Nat.le_trans (Nat.le_of_lt h2) (Nat.pow_le_pow_right (by omega) (by omega))
 ·have e1 : (e - E).toNat = 0 := by omega
  rw [e1, Nat.pow_zero, Nat.mul_one]
  have h3 : n / 2 ^ (E - e).toNat < 2 ^ p := by
   rw [Nat.div_lt_iff_lt_mul (zh _), ← Nat.pow_add]
   exact Nat.lt_of_lt_of_le h1 (Nat.pow_le_pow_right (by omega) (by omega))
  unfold rnd
  split <;> omega
theorem znt {q p : Nat} (h0 : q ≠ 0) (h : q ≤ 2 ^ p) : bl (q / 2 ^ lw q) ≤ p ∨ p = 0 := by
 rcases Nat.eq_zero_or_pos p with hp | hp
 ·exact .inr hp
 left
 rcases Nat.lt_or_ge q (2 ^ p) with c | c
 ·exact zG (Nat.lt_of_le_of_lt (Nat.div_le_self _ _) c)
 ·have e : q = 2 ^ p := by omega
  have hw : lw q = p := zge ⟨0, by rw [e]; omega⟩
  rw [hw, e, Nat.div_self (zh p)]
  have : bl 1 = 1 := by decide
  omega
theorem zgZ {n : Nat} (h : n ≠ 0) : bl (n / 2 ^ lw n) + lw n = bl n := by
 have := zea h
 rw [zbM]; omega
def bN (b : Bool) : Nat := if b = true then 1 else 0
theorem zn9 {m : Int} {s : Bool} {n k n' k' : Nat} (h1 : n / 2 ^ k = n' / 2 ^ k') (h2 : 2 ^ k ≤ 2 * (n % 2 ^ k) ↔ 2 ^ k' ≤ 2 * (n' % 2 ^ k')) (h3 : 2 * (n % 2 ^ k) % 2 ^ k = 0 ↔ 2 * (n' % 2 ^ k') % 2 ^ k' = 0) : rnd m s n k = rnd m s n' k' := by
 unfold rnd
 rw [h1, decide_eq_decide.2 h2, decide_eq_decide.2 (show 2 * (n % 2 ^ k) % 2 ^ k ≠ 0 ↔ 2 * (n' % 2 ^ k') % 2 ^ k' ≠ 0 from not_congr h3)]
theorem zfY {x M : Nat} (h : x < M) : 2 * x % M = 0 ↔ x = 0 ∨ 2 * x = M := by
 by_cases c : 2 * x < M
 ·rw [Nat.mod_eq_of_lt c]; omega
 ·have : 2 * x % M = 2 * x - M := by rw [Nat.mod_eq_sub_mod (by omega), Nat.mod_eq_of_lt (by omega)]
  rw [this]; omega
theorem zer {H j r d : Nat} (hr : r < 2 ^ j) : (H * 2 ^ j + r) / 2 ^ (d + j) = H / 2 ^ d ∧ (H * 2 ^ j + r) % 2 ^ (d + j) = H % 2 ^ d * 2 ^ j + r := by
 have := zdB (X := H) (P := 2 ^ j) (Q := 2 ^ d) (c := r) (zh j) hr
 rw [Nat.pow_add, Nat.mul_comm (2 ^ d)]
 exact ⟨this.1, by rw [this.2, Nat.mul_comm]⟩
theorem zjm (m : Int) (s : Bool) {H j r d : Nat} (hr : r < 2 ^ j) (hd : 1 ≤ d) : rnd m s (H * 2 ^ j + r) (d + j) = rnd m s (2 * H + bN (decide (r ≠ 0))) (d + 1) := by
 have hb : bN (decide (r ≠ 0)) < 2 ^ 1 := by unfold bN; split <;> omega
 have hb0 : bN (decide (r ≠ 0)) = 0 ↔ r = 0 := by
  unfold bN
  by_cases c : r = 0
  ·simp [c]
  ·simp [c]
 have e0 : 2 * H + bN (decide (r ≠ 0)) = H * 2 ^ 1 + bN (decide (r ≠ 0)) := by omega
 rw [e0]
 generalize bN (decide (r ≠ 0)) = b at *
 obtain ⟨a1, a2⟩ := zer (H := H) (d := d) hr
 obtain ⟨b1, b2⟩ := zer (H := H) (d := d) hb
 have hh := Nat.mod_lt H (zh d)
 have hj := zh j
 obtain ⟨d', rfl⟩ : ∃ d', d = d' + 1 := ⟨d - 1, by omega⟩
 have he : 2 ^ (d' + 1) = 2 * 2 ^ d' := by rw [Nat.pow_succ, Nat.mul_comm]
 refine zn9 (by rw [a1, b1]) ?_ ?_
 ·rw [a2, b2, Nat.pow_add 2 (d' + 1) j, Nat.pow_add 2 (d' + 1) 1, he]
  rw [he] at hh
  generalize H % (2 * 2 ^ d') = h at *
  generalize 2 ^ d' = p at *
  generalize 2 ^ j = q at *
  constructor
  ·intro h1
   rcases Nat.lt_or_ge h p with c | c
   ·exfalso
    have h2 : (h + 1) * q ≤ p * q := Nat.mul_le_mul_right _ c
    rw [Nat.add_mul, Nat.one_mul] at h2
    rw [Nat.mul_assoc] at h1
    omega
   ·omega
  ·intro h1
   have h2 : p * q ≤ h * q := Nat.mul_le_mul_right _ (by omega)
   rw [Nat.mul_assoc]; omega
 ·have l1 : H % 2 ^ (d' + 1) * 2 ^ j + r < 2 ^ (d' + 1 + j) := by
   rw [Nat.pow_add 2 (d' + 1) j]
   have h2 : (H % 2 ^ (d' + 1) + 1) * 2 ^ j ≤ 2 ^ (d' + 1) * 2 ^ j := Nat.mul_le_mul_right _ hh
   rw [Nat.add_mul, Nat.one_mul] at h2
   omega
  have l2 : H % 2 ^ (d' + 1) * 2 ^ 1 + b < 2 ^ (d' + 1 + 1) := by rw [Nat.pow_add 2 (d' + 1) 1]; omega
  rw [a2, b2, zfY l1, zfY l2, Nat.pow_add 2 (d' + 1) j, Nat.pow_add 2 (d' + 1) 1, he]
  rw [he] at hh
  generalize H % (2 * 2 ^ d') = h at *
  generalize 2 ^ d' = p at *
  generalize 2 ^ j = q at *
  constructor
  ·rintro (h1 | h1)
   ·have h2 : h * q = 0 := by omega
    rcases Nat.mul_eq_zero.1 h2 with h3 | h3
    ·left; have := hb0.2 (by omega); omega
    ·omega
   ·right
    rw [Nat.mul_assoc] at h1
    rcases Nat.lt_trichotomy h p with c | c | c
    ·have h2 : (h + 1) * q ≤ p * q := Nat.mul_le_mul_right _ c
     rw [Nat.add_mul, Nat.one_mul] at h2
     omega
    ·subst c
     have := hb0.2 (by omega)
     omega
    ·have h2 : (p + 1) * q ≤ h * q := Nat.mul_le_mul_right _ c
     rw [Nat.add_mul, Nat.one_mul] at h2
     omega
  ·rintro (h1 | h1)
   ·left
    have h2 : h = 0 := by omega
    have h3 := hb0.1 (by omega)
    rw [h2, h3]; omega
   ·right
    have h2 : h = p := by omega
    have h3 := hb0.1 (by omega)
    rw [h2, h3, Nat.mul_assoc]; omega
theorem zie {H j r d : Nat} (hr : r < 2 ^ j) : (H * 2 ^ j + r) % 2 ^ (d + j) = 0 ↔ (2 * H + bN (decide (r ≠ 0))) % 2 ^ (d + 1) = 0 := by
 have hb : bN (decide (r ≠ 0)) < 2 ^ 1 := by unfold bN; split <;> omega
 have hb0 : bN (decide (r ≠ 0)) = 0 ↔ r = 0 := by
  unfold bN
  by_cases c : r = 0
  ·simp [c]
  ·simp [c]
 have e0 : 2 * H + bN (decide (r ≠ 0)) = H * 2 ^ 1 + bN (decide (r ≠ 0)) := by omega
 rw [e0]
 generalize bN (decide (r ≠ 0)) = b at *
 rw [(zer (H := H) (d := d) hr).2, (zer (H := H) (d := d) hb).2]
 have hj := zh j
 constructor
 ·intro h
  have h2 : H % 2 ^ d * 2 ^ j = 0 := by omega
  rcases Nat.mul_eq_zero.1 h2 with h3 | h3
  ·have := hb0.2 (by omega); omega
  ·omega
 ·intro h
  have h2 : H % 2 ^ d = 0 := by omega
  have h3 := hb0.1 (by omega)
  rw [h2, h3]; omega
def UP (m : Int) (s : Bool) (H : Nat) (T : Int) (b : Bool) (E : Int) : Nat := rnd m s (2 * H + bN b) ((E - T + 64).toNat + 1)
def XP (H : Nat) (T : Int) (b : Bool) (E : Int) : Bool := decide ((2 * H + bN b) % 2 ^ ((E - T + 64).toNat + 1) = 0)
def zN (n : Nat) : Nat := n * 2 ^ (64 - bl n) / 2 ^ (bl n - 64)
def zaX (n : Nat) : Bool := decide (n % 2 ^ (bl n - 64) ≠ 0)
theorem zii {n : Nat} (h : n ≠ 0) : 2 ^ 63 ≤ zN n ∧ zN n < 2 ^ 64 := by
 have h1 := zL n
 have h2 := zcO h
 have hp := zbi h
 unfold zN
 by_cases c : bl n ≤ 64
 ·have e1 : bl n - 64 = 0 := by omega
  rw [e1, Nat.pow_zero, Nat.div_one]
  have h3 : 2 ^ (bl n - 1) * 2 ^ (64 - bl n) ≤ n * 2 ^ (64 - bl n) := Nat.mul_le_mul_right _ h2
  have h4 : n * 2 ^ (64 - bl n) < 2 ^ bl n * 2 ^ (64 - bl n) := Nat.mul_lt_mul_of_pos_right h1 (zh _)
  rw [← Nat.pow_add] at h3 h4
  rw [show bl n - 1 + (64 - bl n) = 63 by omega] at h3
  rw [show bl n + (64 - bl n) = 64 by omega] at h4
  exact ⟨h3, h4⟩
 ·have e1 : 64 - bl n = 0 := by omega
  rw [e1, Nat.pow_zero, Nat.mul_one]
  constructor
  ·rw [Nat.le_div_iff_mul_le (zh _), ← Nat.pow_add, show 63 + (bl n - 64) = bl n - 1 by omega]; exact h2
  ·rw [Nat.div_lt_iff_lt_mul (zh _), ← Nat.pow_add, show 64 + (bl n - 64) = bl n by omega]; exact h1
theorem zkJ (m : Int) (s : Bool) {n : Nat} (hn : n ≠ 0) {e E : Int} (h : 1 ≤ E - (e + (bl n : Nat)) + 64) : UP m s (zN n) (e + (bl n : Nat)) (zaX n) E = R m s n e E ∧ XP (zN n) (e + (bl n : Nat)) (zaX n) E = exR n e E := by
 have hp := zbi hn
 generalize hd : (E - (e + (bl n : Nat)) + 64).toNat = d
 by_cases c : 64 ≤ bl n
 ·have e1 : 64 - bl n = 0 := by omega
  have hH : zN n = n / 2 ^ (bl n - 64) := by unfold zN; rw [e1, Nat.pow_zero, Nat.mul_one]
  have hsp : n = zN n * 2 ^ (bl n - 64) + n % 2 ^ (bl n - 64) := by
   rw [hH]
   have := Nat.div_add_mod n (2 ^ (bl n - 64))
   rw [Nat.mul_comm] at this
   exact this.symm
  have hr := Nat.mod_lt n (zh (bl n - 64))
  have hk : (E - e).toNat = d + (bl n - 64) := by omega
  have hz : (e - E).toNat = 0 := by omega
  have st := zjm m s (H := zN n) (d := d) hr (by omega)
  have ex := zie (H := zN n) (d := d) hr
  rw [← hsp] at st ex
  unfold UP XP R exR zaX
  rw [hd, hk, hz, Nat.pow_zero, Nat.mul_one]
  exact ⟨st.symm, decide_eq_decide.2 ex.symm⟩
 ·have e1 : bl n - 64 = 0 := by omega
  have hH : zN n = n * 2 ^ (64 - bl n) := by unfold zN; rw [e1, Nat.pow_zero, Nat.div_one]
  have hm : zaX n = false := by unfold zaX; rw [e1, Nat.pow_zero, Nat.mod_one]; rfl
  have hR := zhh m s n (e - (64 - bl n : Nat)) E (64 - bl n)
  have hX := zic n (e - (64 - bl n : Nat)) E (64 - bl n)
  rw [show e - ((64 - bl n : Nat) : Int) + ((64 - bl n : Nat) : Int) = e by omega, ← hH] at hR hX
  rw [← hR, ← hX, hm]
  unfold UP XP R exR bN
  rw [if_neg (by simp), Nat.add_zero, hd, show (e - ((64 - bl n : Nat) : Int) - E).toNat = 0 by omega, show (E - (e - ((64 - bl n : Nat) : Int))).toNat = d by omega, Nat.pow_zero, Nat.mul_one]
  have := zgH m s (zN n) d 1
  rw [Nat.pow_one, Nat.mul_comm] at this
  refine ⟨this, ?_⟩
  apply decide_eq_decide.2
  rw [Nat.pow_succ, Nat.mul_comm 2, Nat.mul_mod_mul_right]
  omega
theorem zkg (m : Int) (s odd zT more : Bool) : zc2.f m s odd zT more = some (upB m s odd zT more) := by
 unfold zc2.f upB
 by_cases c1 : m = 1
 ·rw [if_pos c1, if_pos c1]; cases more <;> cases odd <;> cases zT <;> rfl
 rw [if_neg c1, if_neg c1]
 by_cases c2 : m = 2
 ·rw [if_pos c2, if_pos c2]
 rw [if_neg c2, if_neg c2]
 by_cases c4 : m = 4
 ·rw [if_pos c4, if_pos c4]; cases s <;> cases zT <;> cases more <;> rfl
 rw [if_neg c4, if_neg c4]
 by_cases c5 : m = 5
 ·rw [if_pos c5, if_pos c5]; cases s <;> cases zT <;> cases more <;> rfl
 ·rw [if_neg c5, if_neg c5]
theorem zhv (b : Bool) : zdy.f b = some (bN b : Int) := by cases b <;> rfl
theorem zhr (a : Nat) (ha : a < 18446744073709551616) : Go.bits .and .u64 (a : Int) 1 = ((a % 2 : Nat) : Int) := zfL a 1 ha (by omega)
theorem zkd (m : Int) (s : Bool) {W : Nat} (hW : W < 9223372036854775808) (zT more : Bool) : Ev (fun k => zad.j2 k m s (W : Int) zT more) (((W + bN (upB m s (decide (W % 2 = 1)) zT more) : Nat) : Int), !zT && !more) := by
 have hb : bN (upB m s (decide (W % 2 = 1)) zT more) ≤ 1 := by unfold bN; split <;> omega
 refine zf ?_
 simp only [zad.j2]
 rw [zhr W (by omega)]
 have e1 : decide (((W % 2 : Nat) : Int) = 1) = decide (W % 2 = 1) := decide_eq_decide.2 (by omega)
 rw [e1]
 refine zk (zkg _ _ _ _ _) ?_; try dsimp only
 refine zk (zhv _) ?_; try dsimp only
 rw [← Int.natCast_add, zay (by omega)]
 cases zT
 ·exact zd rfl (Ev.now _)
 ·exact ze (by simp) (Ev.now _)
theorem zk0 {H d : Nat} (b : Bool) (hd : 1 ≤ d) : (2 * H + bN b) / 2 ^ (d + 1) = H / 2 ^ d ∧
  decide (2 ^ (d + 1) ≤ 2 * ((2 * H + bN b) % 2 ^ (d + 1))) = decide (H / 2 ^ (d - 1) % 2 = 1) ∧
  decide (2 * ((2 * H + bN b) % 2 ^ (d + 1)) % 2 ^ (d + 1) ≠ 0) = (b || decide (H % 2 ^ (d - 1) ≠ 0)) ∧
  decide ((2 * H + bN b) % 2 ^ (d + 1) = 0) = (!decide (H / 2 ^ (d - 1) % 2 = 1) && !(b || decide (H % 2 ^ (d - 1) ≠ 0))) := by
 have hb : bN b < 2 ^ 1 := by unfold bN; split <;> omega
 have hb0 : bN b = 0 ↔ b = false := by unfold bN; cases b <;> simp
 have hb1 : bN b ≤ 1 := by unfold bN; split <;> omega
 obtain ⟨d', rfl⟩ : ∃ d', d = d' + 1 := ⟨d - 1, by omega⟩
 have hs := zer (H := H) (d := d' + 1) hb
 have e0 : H * 2 ^ 1 + bN b = 2 * H + bN b := by omega
 rw [e0] at hs
 have hm : H % 2 ^ (d' + 1) = H % 2 ^ d' + 2 ^ d' * (H / 2 ^ d' % 2) := by rw [Nat.pow_succ, Nat.mod_mul]
 have hl := Nat.mod_lt H (zh d')
 have h2 : H / 2 ^ d' % 2 = 0 ∨ H / 2 ^ d' % 2 = 1 := by omega
 have hp : 2 ^ (d' + 1 + 1) = 4 * 2 ^ d' := by rw [Nat.pow_succ, Nat.pow_succ]; omega
 have hx : H % 2 ^ (d' + 1) * 2 ^ 1 + bN b < 4 * 2 ^ d' := by
  rw [hm]; rcases h2 with h | h <;> rw [h] <;> omega
 rw [hs.1, hs.2, hp]
 rw [show d' + 1 - 1 = d' from rfl]
 refine ⟨rfl, ?_, ?_, ?_⟩
 ·apply decide_eq_decide.2
  rw [hm]; rcases h2 with h | h <;> rw [h] <;> constructor <;> intro h3 <;> omega
 ·have e3 : (b || decide (H % 2 ^ d' ≠ 0)) = decide (¬ (bN b = 0 ∧ H % 2 ^ d' = 0)) := by
   by_cases c : H % 2 ^ d' = 0
   ·cases b <;> simp [c, bN]
   ·cases b <;> simp [c, bN]
  rw [e3]
  apply decide_eq_decide.2
  apply not_congr
  rw [zfY hx, hm]
  rcases h2 with h | h <;> rw [h] <;> constructor
  ·rintro (h3 | h3) <;> omega
  ·rintro ⟨h3, h4⟩; left; omega
  ·rintro (h3 | h3) <;> omega
  ·rintro ⟨h3, h4⟩; right; omega
 ·have e3 : (!decide (H / 2 ^ d' % 2 = 1) && !(b || decide (H % 2 ^ d' ≠ 0))) = decide (¬ (H / 2 ^ d' % 2 = 1) ∧ (bN b = 0 ∧ H % 2 ^ d' = 0)) := by
   by_cases c : H % 2 ^ d' = 0
   ·rcases h2 with h | h <;> cases b <;> simp [c, h, bN]
   ·rcases h2 with h | h <;> cases b <;> simp [c, h, bN]
  rw [e3]
  apply decide_eq_decide.2
  rw [hm]
  rcases h2 with h | h <;> rw [h] <;> constructor <;> intro h3 <;> omega
theorem zkc (m : Int) (s : Bool) {H : Nat} (hH : 2 ^ 63 ≤ H ∧ H < 2 ^ 64) {T E : Int} (b : Bool) (hd : 1 ≤ E - T + 64) (h1 : -1000000000 ≤ T) (h2 : T ≤ 1000000000) (h3 : -1000000000 ≤ E) (h4 : E ≤ 1000000000) :
  Ev (fun k => zad.f k (H : Int) T b m s E) ((UP m s H T b E : Int), XP H T b E) := by
 have ew : wrap64 (wrap64 (E - T) + 64) = E - T + 64 := by unfold wrap64; omega
 unfold zad.f
 rw [ew]
 clear ew
 obtain ⟨d, hdd⟩ := Int.eq_ofNat_of_zero_le (show 0 ≤ E - T + 64 by omega)
 have hdn : (E - T + 64).toNat = d := by omega
 unfold UP XP
 rw [hdn, hdd]
 rw [hdd] at hd
 clear hdn hdd
 have hd1 : 1 ≤ d := by omega
 have hbb : bN b ≤ 1 := by unfold bN; split <;> omega
 by_cases c : d > 64
 ·have hp : 2 ^ 66 ≤ 2 ^ (d + 1) := Nat.pow_le_pow_right (by omega) (by omega)
  have e1 : rnd m s (2 * H + bN b) (d + 1) = bN (upB m s false false true) := by
   unfold rnd
   rw [Nat.div_eq_of_lt (by omega), Nat.mod_eq_of_lt (a := 2 * H + bN b) (by omega), Nat.mod_eq_of_lt (a := 2 * (2 * H + bN b)) (by omega)]
   rw [decide_eq_false (by omega : ¬ (0 % 2 = 1)), decide_eq_false (by omega : ¬ (2 ^ (d + 1) ≤ 2 * (2 * H + bN b))), decide_eq_true (by omega : 2 * (2 * H + bN b) ≠ 0), Nat.zero_add]
   rfl
  have e2 : decide ((2 * H + bN b) % 2 ^ (d + 1) = 0) = false := decide_eq_false (by rw [Nat.mod_eq_of_lt (by omega)]; omega)
  rw [e1, e2]
  refine zd (by omega) ?_
  refine zk (zkg _ _ _ _ _) ?_; try dsimp only
  refine zk (zhv _) ?_; try dsimp only
  exact Ev.now _
 refine ze (by omega) ?_
 obtain ⟨a1, a2, a3, a4⟩ := zk0 (H := H) b hd1
 have e1 : rnd m s (2 * H + bN b) (d + 1) = H / 2 ^ d + bN (upB m s (decide (H / 2 ^ d % 2 = 1)) (decide (H / 2 ^ (d - 1) % 2 = 1)) (b || decide (H % 2 ^ (d - 1) ≠ 0))) := by
  unfold rnd
  rw [a1, a2, a3]; rfl
 rw [e1, a4]
 clear a1 a2 a3 a4 e1
 have hW : H / 2 ^ d < 9223372036854775808 := by
  rw [Nat.div_lt_iff_lt_mul (zh d)]
  have : 2 ^ 1 ≤ 2 ^ d := Nat.pow_le_pow_right (by omega) hd1
  have := Nat.mul_le_mul_left 9223372036854775808 this
  omega
 have last : Ev (fun k => zad.j1 k m s (H : Int) T b (d : Int) ((H / 2 ^ d : Nat) : Int) false b) (((H / 2 ^ d + bN (upB m s (decide (H / 2 ^ d % 2 = 1)) (decide (H / 2 ^ (d - 1) % 2 = 1)) (b || decide (H % 2 ^ (d - 1) ≠ 0))) : Nat) : Int), (!decide (H / 2 ^ (d - 1) % 2 = 1) && !(b || decide (H % 2 ^ (d - 1) ≠ 0)))) := by
  have ew : wrap64 ((d : Int) - 1) = ((d - 1 : Nat) : Int) := by unfold wrap64; omega
  have hp64 : 2 ^ (d - 1) ≤ 2 ^ 63 := Nat.pow_le_pow_right (by omega) (by omega)
  have hpp := zh (d - 1)
  have hq : H / 2 ^ (d - 1) ≤ H := Nat.div_le_self _ _
  refine zf ?_
  simp only [zad.j1]
  rw [ew]
  clear ew
  rw [zdD H (d - 1) (by show d - 1 ≤ 64; omega), zhr _ (by omega)]
  have e2 : decide (((H / 2 ^ (d - 1) % 2 : Nat) : Int) = 1) = decide (H / 2 ^ (d - 1) % 2 = 1) := decide_eq_decide.2 (by omega)
  have e3 : shl .u64 1 ((d - 1 : Nat) : Int) = ((2 ^ (d - 1) : Nat) : Int) := by
   have := zgV (X := 1) (s := d - 1) (by omega) (by omega)
   rw [Nat.one_mul] at this
   exact this
  have e4 : IntKind.u64.wrap (((2 ^ (d - 1) : Nat) : Int) - 1) = ((2 ^ (d - 1) - 1 : Nat) : Int) := by
   rw [show ((2 ^ (d - 1) : Nat) : Int) - 1 = ((2 ^ (d - 1) - 1 : Nat) : Int) by omega]
   exact zay (by omega)
  have e5 : decide (¬ (((H % 2 ^ (d - 1) : Nat) : Int) = 0)) = decide (H % 2 ^ (d - 1) ≠ 0) := decide_eq_decide.2 (by omega)
  rw [e2, e3, e4, zfL H (d - 1) (by omega) (by omega), e5]
  refine zd (by omega) (zd (by omega) ?_)
  cases b
  ·refine ze (by simp) (zd (by omega) ?_)
   exact zkd m s hW _ _
  ·refine zd rfl ?_
   exact zkd m s hW _ _
 by_cases c2 : d < 64
 ·refine zd (by omega) (zd (by omega) ?_)
  rw [zdD H d (by show d ≤ 64; omega)]
  exact last
 ·have zN : d = 64 := by omega
  have e0 : H / 2 ^ d = 0 := Nat.div_eq_of_lt (by rw [zN]; exact hH.2)
  refine ze (by omega) ?_
  rw [e0] at last ⊢
  exact last
def zcd (f m : Int) (s : Bool) (T : Int) (U : Int → Nat) (X : Int → Bool) : Int × Int :=
 if (bl (U (max (T - (pr f : Nat)) (lo f))) : Int) + max (T - (pr f : Nat)) (lo f) > wd f then ((zcY f m s : Int), 20)
 else ((((if U (max (T - (pr f : Nat)) (lo f)) = 0 then 0 else zaG f (U (max (T - (pr f : Nat)) (lo f))) (max (T - (pr f : Nat)) (lo f))) + sgn f s : Nat) : Int),
  if X (max (T - (pr f : Nat)) (lo f)) = true then 0
  else if (bl (U (T - (pr f : Nat))) : Int) + (T - (pr f : Nat)) < lo f + (pr f : Nat) then 24 else 16)
theorem zfo (f m : Int) (s : Bool) (n : Nat) (e : Int) : zcd f m s (e + (bl n : Nat)) (R m s n e) (exR n e) = zt f m s n e := rfl
theorem zgI {f m : Int} {s : Bool} {T : Int} {U U' : Int → Nat} {X X' : Int → Bool} (h : ∀ E, T - (pr f : Nat) ≤ E → U E = U' E ∧ X E = X' E) : zcd f m s T U X = zcd f m s T U' X' := by
 unfold zcd
 rw [(h (max (T - (pr f : Nat)) (lo f)) (by omega)).1, (h (max (T - (pr f : Nat)) (lo f)) (by omega)).2, (h (T - (pr f : Nat)) (by omega)).1]
theorem zf9 {f : Int} (h : isF f) : zek.f f = some ((pr f : Int), lo f, wd f, true) := by rcases h with rfl | rfl <;> rfl
theorem zny {f m : Int} (h : isF f) (hm : isM m) : Ev (fun k => zS.f k f m []) ((pr f : Int), lo f, wd f, 0) := by
 unfold zS.f
 unfold isM at hm
 refine zk (zf9 h) ?_; try dsimp only
 refine ze (by simp) (ze (by omega) (ze (by omega) ?_))
 refine zf ?_
 simp only [zS.l0]
 exact ze (by simp) (Ev.now _)
theorem znz {f m : Int} (h : isF f) (hm : isM m) {s : Bool} {l : List Int} {e : Int} (hd : My s l e) : Ev (fun k => zS.f k f m [(s, l, e)]) ((pr f : Int), lo f, wd f, 0) := by
 unfold zS.f
 unfold isM at hm
 refine zk (zf9 h) ?_; try dsimp only
 refine ze (by simp) (ze (by omega) (ze (by omega) ?_))
 have e1 : wrap64 (0 + 1) = 1 := by rw [zaq (by omega) (by omega)]; rfl
 have el : (([(s, l, e)] : List (Bool × List Int × Int)).length : Int) = 1 := rfl
 have r0 : rdT [.b, .is .u32, .i .i64] [(s, l, e)] 0 = (s, l, e) := rfl
 refine zf ?_
 simp only [zS.l0, el, e1, r0]
 clear e1
 refine zd (by omega) (zd (by omega) (zd (by omega) ?_))
 refine zk (zcu hd) ?_; try dsimp only
 refine ze (by simp) (zf ?_)
 simp only [zS.l0]
 exact ze (by omega) (Ev.now _)
theorem zkB {f : Int} (h : isF f) (s b : Bool) : Ev (fun k => zac.j1 k f s b) ((((if b = true then mo f * 2 ^ fb f - 1 else mo f * 2 ^ fb f) + sgn f s : Nat) : Int), 0) := by
 refine zf ?_
 simp only [zac.j1]
 cases b
 ·refine ze (by simp) ?_
  refine Ev.bind (zkm h s) ?_; try dsimp only
  exact Ev.now _
 ·refine zd rfl ?_
  refine Ev.bind (zpp h s) ?_; try dsimp only
  exact Ev.now _
theorem zfG {f m : Int} (h : isF f) (hm : isM m) (s : Bool) : Ev (fun k => zac.f k f m s) ((zcY f m s : Int), 0) := by
 have j := fun b => zkB h s b
 unfold zac.f zcY
 refine Ev.bind (zny h hm) ?_; try dsimp only
 refine ze (by simp) ?_
 by_cases c3 : m = 3
 ·refine zd c3 ?_
  have e : inw m s = true := by unfold inw; simp [c3]
  rw [e]; exact j true
 refine ze c3 ?_
 by_cases c4 : m = 4
 ·refine zd c4 ?_
  have e : inw m s = s := by unfold inw; simp [c4]
  rw [e]
  cases s
  ·exact ze (by simp) (ze (by omega) (j false))
  ·exact zd rfl (j true)
 refine ze c4 ?_
 by_cases c5 : m = 5
 ·refine zd c5 ?_
  have e : inw m s = !s := by unfold inw; simp [c5]
  rw [e]; exact j (!s)
 ·refine ze c5 ?_
  have e : inw m s = false := by unfold inw; simp [c3, c4, c5]
  rw [e]; exact j false
theorem zps {f : Int} (h : isF f) : Ev (fun k => zci.f k f false [] 0) (0, 0) := by
 have hm : My false [] 0 := ⟨⟨zcN, fun _ => ⟨rfl, rfl⟩, fun h => absurd rfl h⟩, by simp, by omega, by omega⟩
 have hn := zgm Dg.nil (by simp)
 have e1 : zbr [] = true := zgq zcN (by simp)
 rw [e1, if_pos rfl] at hn
 have hl := zd9 (x := 0) (by omega)
 have b0 : bl (Int.toNat 0) = 0 := zbj
 rw [b0] at hl
 have hfb := zaj h
 have w1 : wrap64 ((fb f : Int) + 1) = (fb f : Int) + 1 := by unfold wrap64; omega
 unfold zci.f
 refine Ev.bind (zdN h) ?_; try dsimp only
 refine ze (fun h => h rfl) ?_
 refine zk (zcu hm) ?_; try dsimp only
 refine ze (by simp) ?_
 refine Ev.bind (hn) ?_; try dsimp only
 refine Ev.bind (hl) ?_; try dsimp only
 rw [w1]
 clear w1
 refine ze (by simp) (ze (by omega) (ze (by simp) ?_))
 exact zd rfl (Ev.now _)
theorem zhk {m : Int} {s : Bool} {H : Nat} (hH : H < 2 ^ 64) {T E : Int} {b : Bool} {p : Nat} (hp : p ≤ 64) (h : T - (p : Nat) ≤ E) : UP m s H T b E ≤ 2 ^ p := by
 have hb : bN b ≤ 1 := by unfold bN; split <;> omega
 have h1 : (2 * H + bN b) / 2 ^ ((E - T + 64).toNat + 1) < 2 ^ p := by
  rw [Nat.div_lt_iff_lt_mul (zh _), ← Nat.pow_add]
  have : 2 ^ 65 ≤ 2 ^ (p + ((E - T + 64).toNat + 1)) := Nat.pow_le_pow_right (by omega) (by omega)
  omega
 unfold UP rnd
 split <;> omega
theorem zpv {f : Int} (h : isF f) (s : Bool) {q : Nat} {E : Int} (hq : q ≤ 2 ^ pr f) (hE : lo f ≤ E) (hw : (bl q : Int) + E ≤ wd f) (h0 : q ≠ 0) : Ev (fun k => zci.f k f (mk (sv s q) E).1 (mk (sv s q) E).2.1 (mk (sv s q) E).2.2) (((zaG f q E + sgn f s : Nat) : Int), 0) := by
 have hpr := zM h
 have hfb := zaj h
 have hl := zbE h
 have hwb := zc6 h
 have h2 := (znt h0 hq).resolve_right (by omega)
 have h3 := zgZ h0
 have hdy := zeL (sv s q) E
 rw [zfd s h0] at hdy ⊢
 have hne : D (q / 2 ^ lw q) ≠ [] := by
  intro hc
  have h1 : V (D (q / 2 ^ lw q)) = 0 := by rw [hc]; rfl
  rw [V_D] at h1
  rw [h1, zbj] at h3
  have := zea h0
  omega
 have hmy : My s (D (q / 2 ^ lw q)) (E + (lw q : Nat)) := ⟨hdy, zaW (by omega), by omega, by omega⟩
 have := zpr h hmy hne (by rw [V_D]; exact h2) (by omega) (by rw [V_D]; omega)
 rw [V_D] at this
 exact this
theorem znI {f m : Int} (h : isF f) (s : Bool) {H : Nat} (hH : 2 ^ 63 ≤ H ∧ H < 2 ^ 64) {T : Int} (b : Bool) (h1 : -100000000 ≤ T) (h2 : T ≤ 100000000) (x : Bool) (w : Int) :
  Ev (fun k => zaZ.j1 k m s (H : Int) T b (pr f : Int) (lo f) (wd f) x w) (w, if x = true then 0 else if (bl (UP m s H T b (T - (pr f : Nat))) : Int) + (T - (pr f : Nat)) < lo f + (pr f : Nat) then 24 else 16) := by
 have hpr := zM h
 have hfb := zaj h
 have hl := zbE h
 have hu := zkc m s hH (T := T) (E := T - (pr f : Nat)) b (by omega) (by omega) (by omega) (by omega) (by omega)
 have hle := zhk (m := m) (s := s) (H := H) (b := b) hH.2 (T := T) (E := T - (pr f : Nat)) (p := pr f) (by omega) (Int.le_refl _)
 have h2f := zg6 h
 have hlen := zd9 (x := (UP m s H T b (T - (pr f : Nat)) : Int)) ⟨by omega, by omega⟩
 rw [Int.toNat_natCast] at hlen
 have hb : bl (UP m s H T b (T - (pr f : Nat))) ≤ 64 := zG (by omega)
 refine zf ?_
 simp only [zaZ.j1]
 cases x
 ·refine ze (by simp) ?_
  have w0 : wrap64 (T - ((pr f : Nat) : Int)) = T - ((pr f : Nat) : Int) := by unfold wrap64; omega
  rw [w0]
  clear w0
  refine Ev.bind (hu) ?_; try dsimp only
  refine Ev.bind (hlen) ?_; try dsimp only
  have w1 : wrap64 (wrap64 ((bl (UP m s H T b (T - (pr f : Nat))) : Int) + T) - ((pr f : Nat) : Int)) = (bl (UP m s H T b (T - (pr f : Nat))) : Int) + (T - (pr f : Nat)) := by unfold wrap64; omega
  have w2 : wrap64 (lo f + ((pr f : Nat) : Int)) = lo f + ((pr f : Nat) : Int) := by clear w1; unfold wrap64; omega
  rw [w1, w2]
  clear w1 w2
  rw [if_neg Bool.false_ne_true]
  by_cases c : (bl (UP m s H T b (T - (pr f : Nat))) : Int) + (T - (pr f : Nat)) < lo f + (pr f : Nat)
  ·exact zd c (zi (Ev.now _) (by rw [if_pos c]))
  ·exact ze c (zi (Ev.now _) (by rw [if_neg c]))
 ·exact zd rfl (Ev.now _)
theorem zi7 {f m : Int} (h : isF f) (hm : isM m) (s : Bool) {H : Nat} (hH : 2 ^ 63 ≤ H ∧ H < 2 ^ 64) {T : Int} (b : Bool) (h1 : -100000000 ≤ T) (h2 : T ≤ 100000000) :
  Ev (fun k => zaZ.f k (H : Int) T b f (pr f : Int) (lo f) (wd f) m s) (zcd f m s T (UP m s H T b) (XP H T b)) := by
 have hpr := zM h
 have hfb := zaj h
 have hl := zbE h
 have hwb := zc6 h
 have h2f := zg6 h
 obtain ⟨E, hE⟩ : ∃ E, E = max (T - (pr f : Nat)) (lo f) := ⟨_, rfl⟩
 have hu := zkc m s hH (T := T) (E := E) b (by omega) (by omega) (by omega) (by omega) (by omega)
 have hle := zhk (m := m) (s := s) (H := H) (b := b) hH.2 (T := T) (E := E) (p := pr f) (by omega) (by omega)
 have hlen := zd9 (x := (UP m s H T b E : Int)) ⟨by omega, by omega⟩
 rw [Int.toNat_natCast] at hlen
 have hb : bl (UP m s H T b E) ≤ 64 := zG (by omega)
 have ho := zee (n := (UP m s H T b E : Int)) (by omega) (by omega)
 rw [Int.toNat_natCast] at ho
 have hj := znI (m := m) h s hH (T := T) b h1 h2 (XP H T b E)
 have hwos := zpv h s (q := UP m s H T b E) (E := E) hle (by omega)
 have em : mx (wrap64 (T - ((pr f : Nat) : Int))) (lo f) = E := by rw [zfe, zdP (by omega) (by omega) (by omega) (by omega), hE]
 unfold zaZ.f zcd
 rw [em, ← hE]
 clear em
 refine Ev.bind (hu) ?_; try dsimp only
 refine Ev.bind (hlen) ?_; try dsimp only
 have w1 : wrap64 ((bl (UP m s H T b E) : Int) + E) = (bl (UP m s H T b E) : Int) + E := zbZ (by omega) (by omega) (by omega) (by omega)
 rw [w1]
 clear w1
 by_cases c : (bl (UP m s H T b E) : Int) + E > wd f
 ·rw [if_pos c]
  refine zd c ?_
  refine Ev.bind (zfG h hm s) ?_; try dsimp only
  exact Ev.now _
 rw [if_neg c]
 refine ze c ?_
 refine Ev.bind (ho) ?_; try dsimp only
 have m1 := zct s (zae (UP m s H T b E)) (zaW (by omega)) E
 rw [V_D, zcz (by omega) (by omega)] at m1
 refine Ev.bind (m1) ?_; try dsimp only
 by_cases c0 : UP m s H T b E = 0
 ·have hz := zps h
  rw [if_pos c0]
  rw [c0, zfq, ziE]
  refine Ev.bind (hz) ?_; try dsimp only
  refine zd rfl ?_
  refine Ev.bind (zkn h s) ?_; try dsimp only
  rw [Nat.zero_add]
  exact hj _
 ·rw [if_neg c0]
  refine Ev.bind (hwos (by omega) c0) ?_; try dsimp only
  refine ze (by omega) ?_
  exact hj _
theorem zi5 {s : Bool} {l : List Int} {e : Int} (hd : My s l e) (h0 : V l ≠ 0) : Ev (fun k => zcD.f k s l e) ((zN (V l) : Int), e + (bl (V l) : Nat), zaX (V l)) := by
 have hlen := hd.len
 have hb := zdV hd.dy.nm.dg
 have hlo := hd.lo
 have hhi := hd.hi
 have hH := zii h0
 unfold zcD.f
 refine Ev.bind (zdt hd.dy.nm hlen) ?_; try dsimp only
 have w1 : wrap64 (e + ((bl (V l) : Nat) : Int)) = e + ((bl (V l) : Nat) : Int) := zbZ (by omega) (by omega) (by omega) (by omega)
 have w2 : wrap64 (64 - ((bl (V l) : Nat) : Int)) = 64 - ((bl (V l) : Nat) : Int) := by clear w1; unfold wrap64; omega
 rw [w1, w2]
 clear w1 w2
 have hs := zef hd.dy.nm hlen (64 - ((bl (V l) : Nat) : Int))
 have es : zbW (V l) (64 - ((bl (V l) : Nat) : Int)) = (D (zN (V l)), zaX (V l), 0) := by
  by_cases c : bl (V l) ≤ 64
  ·have e1 : 64 - ((bl (V l) : Nat) : Int) = ((64 - bl (V l) : Nat) : Int) := by omega
   have e2 : bl (V l) - 64 = 0 := by omega
   rw [e1, zgU (by omega)]
   unfold zN zaX
   rw [e2, Nat.pow_zero, Nat.div_one, Nat.mod_one]; rfl
  ·have e1 : 64 - ((bl (V l) : Nat) : Int) = -((bl (V l) - 64 : Nat) : Int) := by omega
   have e2 : 64 - bl (V l) = 0 := by omega
   rw [e1, zgT (by omega) (by omega)]
   unfold zN zaX
   rw [e2, Nat.pow_zero, Nat.mul_one]
 rw [es] at hs
 refine Ev.bind (hs) ?_; try dsimp only
 have hl2 : (D (zN (V l))).length ≤ 2 := zbK (by omega)
 have hn := zgm (zaK (zN (V l))) (by omega)
 rw [zgq (zae _) (by rw [V_D]; omega), if_pos rfl, V_D] at hn
 refine Ev.bind (hn) ?_; try dsimp only
 exact Ev.now _
theorem zkF {f m : Int} (h : isF f) (hm : isM m) {s : Bool} {l : List Int} {e : Int} (hd : My s l e) (h0 : V l ≠ 0) : Ev (fun k => zc1.f k f m s l e) ((zt f m s (V l) e).1, (zt f m s (V l) e).2, 0) := by
 have hb := zdV hd.dy.nm.dg
 have hlen := hd.len
 have hlo := hd.lo
 have hhi := hd.hi
 have hpr := zM h
 have hfb := zaj h
 have hp := zi7 h hm s (zii h0) (T := e + (bl (V l) : Nat)) (zaX (V l)) (by omega) (by omega)
 have hg : zcd f m s (e + (bl (V l) : Nat)) (UP m s (zN (V l)) (e + (bl (V l) : Nat)) (zaX (V l))) (XP (zN (V l)) (e + (bl (V l) : Nat)) (zaX (V l))) = zt f m s (V l) e := by
  rw [← zfo]
  refine zgI ?_
  intro E hE
  exact zkJ m s h0 (by omega)
 rw [hg] at hp
 unfold zc1.f
 refine Ev.bind (znz h hm hd) ?_; try dsimp only
 refine ze (by simp) ?_
 refine Ev.bind (zf4 hd) ?_; try dsimp only
 refine ze (by rw [zfp h0]; split <;> omega) ?_
 refine Ev.bind (zi5 hd h0) ?_; try dsimp only
 refine Ev.bind (hp) ?_; try dsimp only
 exact Ev.now _
theorem zgJ (f m : Int) (s : Bool) {n : Nat} (hn : n ≠ 0) (e : Int) (j : Nat) : zt f m s (n * 2 ^ j) e = zt f m s n (e + j) := by
 have hu : zl f (n * 2 ^ j) e = zl f n (e + j) := by unfold zl; rw [zar hn]; congr 1; omega
 have hb : e + (bl (n * 2 ^ j) : Nat) - (pr f : Nat) = e + j + (bl n : Nat) - (pr f : Nat) := by rw [zar hn]; omega
 unfold zt
 simp only [hu, hb, zhh, zic]
theorem zoc (f m : Int) {z : Int} (hz : z ≠ 0) (e : Int) : zt f m (mk z e).1 (V (mk z e).2.1) (mk z e).2.2 = zt f m (decide (z < 0)) z.natAbs e := by
 have hza : z.natAbs ≠ 0 := by omega
 obtain ⟨q, hq⟩ := zbT hza
 have hd : z.natAbs / 2 ^ lw z.natAbs = 2 * q + 1 := by
  have : z.natAbs / 2 ^ lw z.natAbs = 2 ^ lw z.natAbs * (2 * q + 1) / 2 ^ lw z.natAbs := by rw [← hq]
  rw [this, Nat.mul_div_cancel_left _ (zh _)]
 unfold mk
 rw [if_neg hz]
 show zt f m (decide (z < 0)) (V (D (z.natAbs / 2 ^ lw z.natAbs))) (e + (lw z.natAbs : Nat)) = _
 rw [V_D, ← zgJ f m _ (by rw [hd]; omega), hd]
 congr 1
 rw [Nat.mul_comm]; exact hq.symm
theorem zde {f : Int} (h : isF f) {w : Nat} (h1 : cls f w ≠ 1) (h2 : cls f w < 4) : zn f w ≠ 0 := by
 rw [zeV h] at h1 h2
 have hp := zh (fb f)
 unfold zn
 by_cases c : zw f w = 0
 ·rw [if_pos c] at h1 h2 ⊢
  intro h3
  rw [if_pos h3] at h1
  exact h1 rfl
 ·rw [if_neg c]; omega
theorem zlk {f : Int} (h : isF f) (w : Nat) : 1 ≤ cls f w ∧ cls f w ≤ 5 := by
 rw [zeV h]; split
 ·split <;> omega
 ·split
  ·omega
  ·split <;> omega
theorem zeC {f : Int} (h : isF f) (w : Nat) : bl (zn f w) ≤ pr f := by
 have h1 := zeB f w
 have h2 := zM h
 refine zG ?_
 rw [h2, Nat.pow_succ]
 unfold zn; split <;> omega
theorem zez {s : Bool} {n : Nat} (h : n ≠ 0) : decide (sv s n < 0) = s ∧ (sv s n).natAbs = n ∧ sv s n ≠ 0 := ⟨zes h, za0 s n, fun h2 => h (zc3.1 h2)⟩
theorem zb8 {z : Int} (h : z ≠ 0) (e : Int) : ∃ j : Nat, z.natAbs = V (mk z e).2.1 * 2 ^ j ∧ (mk z e).2.2 = e + j ∧ (mk z e).1 = decide (z < 0) ∧ V (mk z e).2.1 ≠ 0 := by
 have hza : z.natAbs ≠ 0 := by omega
 obtain ⟨q, hq⟩ := zbT hza
 have hd : z.natAbs / 2 ^ lw z.natAbs = 2 * q + 1 := by
  have : z.natAbs / 2 ^ lw z.natAbs = 2 ^ lw z.natAbs * (2 * q + 1) / 2 ^ lw z.natAbs := by rw [← hq]
  rw [this, Nat.mul_div_cancel_left _ (zh _)]
 have hm : mk z e = (decide (z < 0), D (z.natAbs / 2 ^ lw z.natAbs), e + (lw z.natAbs : Nat)) := by unfold mk; rw [if_neg h]
 refine ⟨lw z.natAbs, ?_, by rw [hm], by rw [hm], ?_⟩
 ·rw [hm]
  show _ = V (D _) * _
  rw [V_D, hd, Nat.mul_comm]; exact hq
 ·rw [hm]
  show V (D _) ≠ 0
  rw [V_D, hd]; omega
theorem zjf {A B : Nat} (hA : A ≠ 0) (hB : B ≠ 0) (n : Nat) (h : bl B ≤ bl A + n) : bl A + n - bl B ≤ bl (A * 2 ^ n / B) ∧ bl (A * 2 ^ n / B) ≤ bl A + n - bl B + 1 := by
 have h1 := zcO hA
 have h2 := zL A
 have h3 := zcO hB
 have h4 := zL B
 have h5 := zbi hA
 have h6 := zbi hB
 have lo : 2 ^ (bl A - 1 + n) ≤ A * 2 ^ n := by rw [Nat.pow_add]; exact Nat.mul_le_mul_right _ h1
 have hi : A * 2 ^ n < 2 ^ (bl A + n) := by rw [Nat.pow_add]; exact Nat.mul_lt_mul_of_pos_right h2 (zh n)
 constructor
 ·rcases Nat.eq_zero_or_pos (bl A + n - bl B) with c | c
  ·omega
  ·have h7 : 2 ^ (bl A + n - bl B - 1) ≤ A * 2 ^ n / B := by
    rw [Nat.le_div_iff_mul_le (by omega)]
    have h8 : 2 ^ (bl A + n - bl B - 1) * B ≤ 2 ^ (bl A + n - bl B - 1) * 2 ^ bl B := Nat.mul_le_mul_left _ (by omega)
    rw [← Nat.pow_add, show bl A + n - bl B - 1 + bl B = bl A - 1 + n by omega] at h8
    omega
   have h9 := zaf h7
   have : bl (2 ^ (bl A + n - bl B - 1)) = bl A + n - bl B := by
    have := zar (v := 1) (by omega) (bl A + n - bl B - 1)
    rw [Nat.one_mul] at this
    rw [this, show bl 1 = 1 by decide]; omega
   omega
 ·refine zG ?_
  rw [Nat.div_lt_iff_lt_mul (by omega)]
  have h8 : 2 ^ (bl A + n - bl B + 1) * 2 ^ (bl B - 1) ≤ 2 ^ (bl A + n - bl B + 1) * B := Nat.mul_le_mul_left _ h3
  rw [← Nat.pow_add, show bl A + n - bl B + 1 + (bl B - 1) = bl A + n by omega] at h8
  omega
theorem zfN (x y : Nat) : bl (x * y) ≤ bl x + bl y := zG (by rw [Nat.pow_add]; exact Nat.mul_lt_mul'' (zL x) (zL y))
def wv (f : Int) (w : Nat) : Bool × List Int × Int := mk (sv (zj f w) (zn f w)) (wex f w)
structure Wv (f : Int) (w : Nat) : Prop where
 dy : Dy (wv f w).1 (wv f w).2.1 (wv f w).2.2
 ne : V (wv f w).2.1 ≠ 0
 b : bl (V (wv f w).2.1) ≤ pr f
 lo : lo f ≤ (wv f w).2.2
 hi : (wv f w).2.2 + (bl (V (wv f w).2.1) : Nat) = wex f w + (bl (zn f w) : Nat)
 s : (wv f w).1 = zj f w
theorem zf7 {f : Int} (h : isF f) {w : Nat} (h2 : cls f w < 4) : wex f w + (bl (zn f w) : Nat) ≤ wd f := by
 rw [zeV h] at h2
 have h3 := zeC h w
 have h4 := zf8 h
 have h5 := zeB f w
 have h6 := zM h
 have h7 := zdr h
 have hlo := zbE h
 have hwd := zc6 h
 by_cases c : zw f w = 0
 ·unfold wex; rw [if_pos c]
  have := zaj h
  omega
 ·rw [if_neg c] at h2
  have : zw f w < mo f := by
   rcases Nat.lt_or_ge (zw f w) (mo f) with c2 | c2
   ·exact c2
   ·rw [if_neg (by omega)] at h2; split at h2 <;> omega
  unfold wex; rw [if_neg c]
  omega
theorem zkq {f : Int} (h : isF f) {w : Nat} (h1 : cls f w ≠ 1) (h2 : cls f w < 4) : Wv f w := by
 have hn := zde h h1 h2
 obtain ⟨a1, a2, a3⟩ := zez (s := zj f w) hn
 obtain ⟨j, j1, j2, j3, j4⟩ := zb8 a3 (wex f w)
 have hb := zeC h w
 have hl : lo f ≤ wex f w := by
  unfold wex
  split <;> omega
 rw [a2] at j1
 have hbl : bl (zn f w) = bl (V (wv f w).2.1) + j := by rw [j1]; exact zar j4 j
 have e2 : (wv f w).2.2 = wex f w + j := j2
 refine ⟨zeL _ _, j4, by omega, by omega, by omega, ?_⟩
 show (mk _ _).1 = _
 rw [j3, a1]
theorem zpy {f : Int} (h : isF f) {w : Nat} (hw : Wv f w) (h2 : cls f w < 4) : -5000 ≤ (wv f w).2.2 ∧ (wv f w).2.2 ≤ 5000 ∧ bl (V (wv f w).2.1) ≤ 64 := by
 have := hw.lo
 have := hw.hi
 have := hw.b
 have := zbE h
 have := zc6 h
 have := zf7 h h2
 have := zM h
 have := zaj h
 refine ⟨by omega, by omega, by omega⟩
theorem zpB {f : Int} (h : isF f) {w : Nat} (hw : w < 2 * sg f) (hc : cls f w = 1) : w = sgn f (zj f w) := by
 have hz : w % sg f = 0 := by
  unfold cls at hc
  split at hc
  ·assumption
  ·split at hc
   ·omega
   ·split at hc
    ·omega
    ·split at hc <;> omega
 have hp := (zba h).1
 unfold sgn zj
 by_cases c : sg f ≤ w
 ·rw [if_pos (decide_eq_true c)]
  have h1 := Nat.mod_eq_sub_mod c
  rw [hz, Nat.mod_eq_of_lt (by omega)] at h1
  omega
 ·rw [if_neg (by simpa using c)]
  rw [Nat.mod_eq_of_lt (by omega)] at hz
  exact hz
theorem zfw {n : Int} (h : IntKind.u64.min ≤ n ∧ n ≤ IntKind.u64.max) : ∃ w : Nat, n = (w : Int) ∧ w < 18446744073709551616 := by
 simp [IntKind.min, IntKind.max, IntKind.signed, IntKind.bits] at h
 exact ⟨n.toNat, by omega, by omega⟩
theorem zpa (f : Int) {n : Nat} (h : n ≠ 0) (e : Int) : zr f (n / 2 ^ lw n) (e + (lw n : Nat)) = zr f n e := by
 have := zgZ h
 unfold zr
 congr 1; omega
theorem zm2 {n : Nat} (h : n ≠ 0) : n / 2 ^ lw n * 2 ^ lw n = n := by
 obtain ⟨q, hq⟩ := zbT h
 refine Nat.div_mul_cancel ⟨2 * q + 1, hq⟩
theorem zf5 {f : Int} {n : Nat} (h : n ≠ 0) {e : Int} (hu : zr f n e ≤ e) : zaG f n e = (zr f n e - lo f).toNat * 2 ^ fb f + n * 2 ^ (e - zr f n e).toNat := by
 unfold zaG enc
 rw [zpa f h]
 congr 1
 have e1 : (e + (lw n : Nat) - zr f n e).toNat = lw n + (e - zr f n e).toNat := by omega
 rw [e1, Nat.pow_add, ← Nat.mul_assoc, zm2 h]
theorem zpn {f : Int} (h : isF f) {w : Nat} (c : zw f w ≠ 0) : bl (zn f w) = pr f := by
 have h1 := zeB f w
 have h2 := zM h
 have h3 : zn f w = 2 ^ fb f + zO f w := by unfold zn; rw [if_neg c]
 have hp := zh (fb f)
 have h4 : 2 ^ (fb f + 1) = 2 ^ fb f * 2 := Nat.pow_succ ..
 have h5 : bl (zn f w) ≤ fb f + 1 := zG (by omega)
 have h6 : 2 ^ fb f ≤ zn f w := by omega
 have h7 := zaf h6
 have h8 := zar (v := 1) (by omega) (fb f)
 rw [Nat.one_mul, show bl 1 = 1 by decide] at h8
 omega
theorem zh7 {f : Int} (h : isF f) {w : Nat} (c1 : cls f w ≠ 1) (c4 : cls f w < 4) : zaG f (zn f w) (wex f w) = w % sg f := by
 have hn := zde h c1 c4
 have h2 := zM h
 have hx := zha h w
 have hu : zr f (zn f w) (wex f w) = wex f w := by
  unfold zr
  by_cases c : zw f w = 0
  ·have h3 : zn f w = zO f w := by unfold zn; rw [if_pos c]
   have h4 : bl (zn f w) ≤ fb f := zG (by rw [h3]; exact zeB f w)
   have h5 : wex f w = lo f := by unfold wex; rw [if_pos c]; omega
   omega
  ·have h4 := zpn h c
   have h5 : wex f w = (zw f w : Int) - 1 + lo f := by unfold wex; rw [if_neg c]
   omega
 rw [zf5 hn (by omega), hu, Int.sub_self, zkl f w]
 show _ + zn f w * 2 ^ 0 = _
 rw [Nat.pow_zero, Nat.mul_one]
 unfold zn wex
 by_cases c : zw f w = 0
 ·rw [if_pos c, if_pos c, c, Int.zero_add, Int.sub_self]
  simp
 ·rw [if_neg c, if_neg c, show ((zw f w : Int) - 1 + lo f - lo f).toNat = zw f w - 1 by omega]
  obtain ⟨q, hq⟩ : ∃ q, zw f w = q + 1 := ⟨zw f w - 1, by omega⟩
  rw [hq, Nat.add_mul, Nat.one_mul, Nat.add_sub_cancel]; omega
theorem zey {f : Int} (h : isF f) {w : Nat} (hw : w < 2 * sg f) : w % sg f + sgn f (zj f w) = w := by
 unfold sgn zj
 by_cases c : sg f ≤ w
 ·rw [if_pos (decide_eq_true c), Nat.mod_eq_sub_mod c, Nat.mod_eq_of_lt (by omega)]; omega
 ·rw [if_neg (by simpa using c), Nat.mod_eq_of_lt (by omega)]; omega
theorem zoF {f : Int} (h : isF f) {x : Nat} (hx : x < sg f) (s : Bool) : (x + sgn f s) % sg f = x := by
 unfold sgn
 cases s
 ·rw [if_neg (by simp), Nat.add_zero, Nat.mod_eq_of_lt hx]
 ·rw [if_pos rfl, Nat.add_mod_right, Nat.mod_eq_of_lt hx]
theorem zoT {s : Bool} {n n' : Nat} {e e' : Int} (hn : n ≠ 0) (hn' : n' ≠ 0) (hv : mk (sv s n) e = mk (sv s n') e') : e + (bl n : Nat) = e' + (bl n' : Nat) := by
 obtain ⟨a1, a2, a3⟩ := zez (s := s) hn
 obtain ⟨b1, b2, b3⟩ := zez (s := s) hn'
 have h1 := zj5 (sv s n) e
 have h2 := zj5 (sv s n') e'
 have e1 : top (mz (sv s n) e) (me (sv s n) e) = top (mz (sv s n') e') (me (sv s n') e') := by unfold mz me; rw [hv]
 rw [h1, h2] at e1
 unfold top at e1
 rw [if_neg a3, if_neg b3, a2, b2] at e1
 exact e1
theorem zl4 {f : Int} {s : Bool} {n n' : Nat} {e e' : Int} (hn : n ≠ 0) (hn' : n' ≠ 0) (hv : mk (sv s n) e = mk (sv s n') e') : zaG f n e = zaG f n' e' := by
 rw [zfd s hn, zfd s hn'] at hv
 simp only [Prod.mk.injEq] at hv
 unfold zaG
 rw [zku hv.2.1, hv.2.2]
theorem zjn {f m : Int} (h : isF f) (s : Bool) {n : Nat} {e : Int} (hn : n ≠ 0) (hb : bl (n / 2 ^ lw n) ≤ pr f) (hl : lo f ≤ e + (lw n : Nat)) (ht : e + (bl n : Nat) ≤ wd f) : zt f m s n e = (((zaG f n e + sgn f s : Nat) : Int), 0) := by
 have h3 := zgZ hn
 have hu : zl f n e ≤ e + (lw n : Nat) := by unfold zl; omega
 have hx : exR n e (zl f n e) = true := by
  unfold exR
  refine decide_eq_true ?_
  have := (zbT hn).mod (k := (zl f n e - e).toNat)
  exact this.2 (by omega)
 obtain ⟨a1, a2, a3⟩ := zez (s := s) hn
 have hT := zkH (m := m) (z := sv s n) (e := e) (E := zl f n e) (by rw [a2]; exact hx)
 have hTK : TK m (sv s n) e (zl f n e) = sv s (R m s n e (zl f n e)) := by unfold TK; rw [a1, a2]
 rw [hTK] at hT
 have hq0 : R m s n e (zl f n e) ≠ 0 := by
  intro h0
  rw [h0, zfq] at hT
  have h1 := znf a3 e
  unfold mz at h1
  rw [← hT, ziE] at h1
  exact h1 rfl
 have htop := zoT hq0 hn hT
 have henc := zl4 (f := f) hq0 hn hT
 unfold zt
 simp only [hx]
 rw [if_neg (by omega), if_neg hq0, henc]
 rfl
theorem zko {f : Int} (h : isF f) {w : Nat} (c1 : cls f w ≠ 1) (c4 : cls f w < 4) : bl (zn f w / 2 ^ lw (zn f w)) ≤ pr f ∧ lo f ≤ wex f w + (lw (zn f w) : Nat) ∧ wex f w + (bl (zn f w) : Nat) ≤ wd f := by
 have h1 := zeC h w
 have h2 := zf7 h c4
 have h3 : bl (zn f w / 2 ^ lw (zn f w)) ≤ bl (zn f w) := zaf (Nat.div_le_self _ _)
 have h4 : lo f ≤ wex f w := by unfold wex; split <;> omega
 exact ⟨by omega, by omega, h2⟩
theorem zod {f m : Int} {s : Bool} {n : Nat} {e : Int} (h : isF f) (hn : n ≠ 0) (ht : e + (bl n : Nat) > wd f) : zt f m s n e = ((zcY f m s : Int), 20) := by
 have hp := zM h
 have hl := zbE h
 have hw : 128 ≤ wd f := by rcases h with rfl | rfl <;> decide
 have hu : zl f n e ≤ e + (bl n : Nat) - 1 := by unfold zl; omega
 have hm := (zfH (m := m) (s := s) hn hu).1
 show (if (bl (R m s n e (zl f n e)) : Int) + zl f n e > wd f then _ else _) = _
 rw [if_pos (by omega)]
def zcH (m : Int) (s : Bool) : Nat := if upB m s false false true = true then 1 else 0
theorem zob (m : Int) (s : Bool) {n k : Nat} (hn : n ≠ 0) (h : 2 * n < 2 ^ k) : rnd m s n k = zcH m s := by
 unfold rnd zcH
 rw [Nat.div_eq_of_lt (by omega), Nat.mod_eq_of_lt (by omega : n < 2 ^ k), Nat.mod_eq_of_lt h, Nat.zero_add]
 have e1 : decide (2 ^ k ≤ 2 * n) = false := decide_eq_false (by omega)
 have e2 : decide (2 * n ≠ 0) = true := decide_eq_true (by omega)
 rw [e1, e2]
 rfl
theorem zjp {f m : Int} {s : Bool} {n : Nat} {e : Int} (h : isF f) (hn : n ≠ 0) (ht : e + (bl n : Nat) < lo f) :
  zt f m s n e = ((((if zcH m s = 0 then 0 else zaG f (zcH m s) (lo f)) + sgn f s : Nat) : Int), 24) := by
 have hp := zM h
 have hl := zbE h
 have hw : 128 ≤ wd f := by rcases h with rfl | rfl <;> decide
 have hu : zl f n e = lo f := by unfold zl; omega
 obtain ⟨k, hk⟩ : ∃ k : Nat, (lo f - e).toNat = k := ⟨_, rfl⟩
 have hk1 : bl n + 1 ≤ k := by omega
 have h2 : 2 * n < 2 ^ k := by
  have h3 := zL n
  have h4 : 2 ^ (bl n + 1) ≤ 2 ^ k := Nat.pow_le_pow_right (by omega) hk1
  rw [Nat.pow_succ] at h4
  omega
 have hR : R m s n e (lo f) = zcH m s := by
  unfold R
  rw [show (e - lo f).toNat = 0 by omega, hk, Nat.pow_zero, Nat.mul_one]
  exact zob m s hn h2
 have hx : exR n e (lo f) = false := by
  unfold exR
  rw [hk, Nat.mod_eq_of_lt (by omega)]
  exact decide_eq_false hn
 have hm := (zfH (m := m) (s := s) hn (show e + (bl n : Nat) - (pr f : Nat) ≤ e + (bl n : Nat) - 1 by omega)).2
 have hb : bl (zcH m s) ≤ 1 := by unfold zcH; split <;> decide
 show (if (bl (R m s n e (zl f n e)) : Int) + zl f n e > wd f then _ else _) = _
 rw [hu, hR, hx, if_neg (show ¬ ((bl (zcH m s) : Int) + lo f > wd f) by omega), if_neg (show ¬ (false = true) by simp), if_pos (show (bl (R m s n e (e + (bl n : Nat) - (pr f : Nat))) : Int) + (e + (bl n : Nat) - (pr f : Nat)) < lo f + (pr f : Nat) by omega)]
def za8 : List UInt8 → Bool
 | 45 :: _ => true
 | _ => false
def z8 : List UInt8 → List UInt8
 | 45 :: r => r
 | r => r
theorem znR (s p : ByteArray) : zdp.f s p = some (decide ((tl s).take p.size = tl p)) := by
 unfold zdp.f
 by_cases c : (s.size : Int) ≥ (p.size : Int)
 ·rw [if_pos c, if_pos (by omega), if_pos (by omega)]
  congr 1
  rw [decide_eq_decide, Int.toNat_natCast, ← za1, zev, List.drop_zero]
 ·rw [if_neg c]
  symm
  congr 1
  refine decide_eq_false fun h => ?_
  have := congrArg List.length h
  rw [List.length_take, zfr, zfr] at this
  omega
theorem zom (s p : ByteArray) : zcf.f s p = some (decide ((tl s).take p.size = tl p)) := by
 unfold zcf.f
 rw [znR]
 rfl
theorem zil (l : List UInt8) (c : UInt8) : (Lib.indexByte l c = -1 ∧ c ∉ l) ∨ ∃ A B, l = A ++ c :: B ∧ c ∉ A ∧ Lib.indexByte l c = (A.length : Int) := by
 induction l with
 | nil => exact .inl ⟨rfl, by simp⟩
 | cons b l ih =>
  unfold Lib.indexByte
  by_cases h : b = c
  ·subst h
   exact .inr ⟨[], l, rfl, by simp, by simp⟩
  ·have hb : (b == c) = false := by simpa using h
   rw [hb]
   rcases ih with ⟨h1, h2⟩ | ⟨A, B, h1, h2, h3⟩
   ·exact .inl ⟨by simp [h1], by simp [h2, Ne.symm h]⟩
   ·refine .inr ⟨b :: A, B, by rw [h1]; rfl, by simp [h2, Ne.symm h], ?_⟩
    have : (Lib.indexByte l c == -1) = false := by rw [h3]; simp
    rw [this, h3]
    simp
theorem zlU (a b : List UInt8) (n : Nat) : zg (a ++ b) n = zg b (zg a n) := by unfold zg; rw [List.foldl_append]
theorem zhY {l : List UInt8} (h : l.all isD = true) (hl : l.length ≤ 6) : zg l 0 < 1000000 := by
 have h1 := zlV l h 0
 have h2 : 10 ^ l.length ≤ 10 ^ 6 := Nat.pow_le_pow_right (by omega) hl
 omega
theorem zmf {l : List UInt8} (h1 : ¬ l.take 1 = [45]) (h2 : ¬ l.take 1 = [43]) : zcv l = false ∧ zv l = l := by
 cases l with
 | nil => exact ⟨rfl, rfl⟩
 | cons a l =>
  have n1 : a ≠ 45 := by rintro rfl; exact h1 rfl
  have n2 : a ≠ 43 := by rintro rfl; exact h2 rfl
  constructor
  ·unfold zcv; split
   ·rename_i h; exact absurd (List.cons.inj h).1 n1
   ·rfl
  ·unfold zv; split
   ·rename_i h; exact absurd (List.cons.inj h).1 n1
   ·rename_i h; exact absurd (List.cons.inj h).1 n2
   ·rfl
theorem zb3 {s : ByteArray} {A B : List UInt8} {b : UInt8} (h : tl s = A ++ b :: B) : bt s (A.length : Int) = (b.toNat : Int) := by
 rw [zfQ, h, Int.toNat_natCast]
 simp [List.getD]
theorem zbG {s : ByteArray} {A B : List UInt8} (h : tl s = A ++ B) : s.size = A.length + B.length := by
 rw [zew, h, List.length_append]
def zQ (f : Int) (w : Nat) : Nat := if cls f w = 5 then zb9 f else w
theorem zjg {f : Int} (h : isF f) (w : Nat) : zcQ.f f (w : Int) = some (zQ f w : Int) := by
 unfold zcQ.f zQ
 rw [znZ h w, Option.bind_some]
 by_cases c : cls f w = 5
 ·rw [if_pos c, if_pos c, zn2 h]; rfl
 ·rw [if_neg c, if_neg c]
theorem zmz {f : Int} (h : isF f) {w : Nat} (hw : w < 2 * sg f) (hc : cls f w = 4) : w = mo f * 2 ^ fb f + sgn f (zj f w) := by
 have h1 : w % sg f = mo f * 2 ^ fb f := by
  unfold cls at hc
  split at hc
  ·omega
  ·split at hc
   ·omega
   ·split at hc
    ·omega
    ·split at hc
     ·assumption
     ·omega
 have h2 := zey h hw
 rw [h1] at h2
 exact h2.symm
set_option maxRecDepth 100000
def zd3 : Nat → Nat → List UInt8
 | 0, _ => []
 | k + 1, n => (if n < 10 then [] else zd3 k (n / 10)) ++ [UInt8.ofNat (48 + n % 10)]
def dtx (n : Nat) : List UInt8 := zd3 6 n
def etx (e : Int) : List UInt8 := (if e < 0 then [45] else []) ++ dtx e.natAbs
def zdn (o : Option ByteArray) (l : List UInt8) : Bool := match o with | some t => tl t == l | none => false
theorem zmC {g : Nat → Option ByteArray} {l : List UInt8} {n : Nat} (h : ∀ k, zdn (g (k + n)) l = true) : ∃ t, Ev g t ∧ tl t = l := by
 have h0 := h 0
 unfold zdn at h0
 split at h0
 ·rename_i t ht
  have e0 : tl t = l := by simpa using h0
  refine ⟨t, ⟨n, fun k hk => ?_⟩, e0⟩
  have h1 := h (k - n)
  rw [Nat.sub_add_cancel hk] at h1
  unfold zdn at h1
  split at h1
  ·rename_i u hu
   have e1 : tl u = l := by simpa using h1
   rw [hu, za1.1 (e1.trans e0.symm)]
  ·cases h1
 ·cases h0
def zb7 (a : Int) (k : Nat) : Bool := (List.range 275).all (fun i => zdn (zce.f (k + 40) (a + (i : Int))) (etx (a + (i : Int))))
theorem zmE (k : Nat) : zb7 (-1100) k = true := by kernel_rfl
theorem zmF (k : Nat) : zb7 (-825) k = true := by kernel_rfl
theorem zmG (k : Nat) : zb7 (-550) k = true := by kernel_rfl
theorem zmH (k : Nat) : zb7 (-275) k = true := by kernel_rfl
theorem zmI (k : Nat) : zb7 (0) k = true := by kernel_rfl
theorem zmJ (k : Nat) : zb7 (275) k = true := by kernel_rfl
theorem zmK (k : Nat) : zb7 (550) k = true := by kernel_rfl
theorem zmL (k : Nat) : zb7 (825) k = true := by kernel_rfl
theorem zmM (k : Nat) {e : Int} (h1 : -1100 ≤ e) (h2 : e < 1100) : zdn (zce.f (k + 40) e) (etx e) = true := by
 have go : ∀ a, zb7 a k = true → a ≤ e → e < a + 275 → zdn (zce.f (k + 40) e) (etx e) = true := by
  intro a h h3 h4
  have h := List.all_eq_true.1 h (e - a).toNat (List.mem_range.2 (by omega))
  have he : a + (((e - a).toNat : Nat) : Int) = e := by omega
  rw [he] at h
  exact h
 by_cases c0 : e < -825
 ·exact go _ (zmE k) (by omega) (by omega)
 by_cases c1 : e < -550
 ·exact go _ (zmF k) (by omega) (by omega)
 by_cases c2 : e < -275
 ·exact go _ (zmG k) (by omega) (by omega)
 by_cases c3 : e < 0
 ·exact go _ (zmH k) (by omega) (by omega)
 by_cases c4 : e < 275
 ·exact go _ (zmI k) (by omega) (by omega)
 by_cases c5 : e < 550
 ·exact go _ (zmJ k) (by omega) (by omega)
 by_cases c6 : e < 825
 ·exact go _ (zmK k) (by omega) (by omega)
 exact go _ (zmL k) (by omega) (by omega)
theorem zme : (List.range 2200).all (fun i => zah (etx ((i : Int) - 1100)) && decide (zcw (etx ((i : Int) - 1100)) = (i : Int) - 1100)) = true := by decide +kernel
theorem zkx {e : Int} (h1 : -1100 ≤ e) (h2 : e < 1100) : ∃ t, Ev (fun k => zce.f k e) t ∧ tl t = etx e := by
 refine zmC (n := 40) fun k => ?_
 exact zmM k h1 h2
theorem zl7 {e : Int} (h1 : -1100 ≤ e) (h2 : e < 1100) : zah (etx e) = true ∧ zcw (etx e) = e := by
 have h := List.all_eq_true.1 zme (e + 1100).toNat (List.mem_range.2 (by omega))
 have he : (((e + 1100).toNat : Nat) : Int) - 1100 = e := by omega
 rw [he, Bool.and_eq_true, decide_eq_true_eq] at h
 exact h
theorem zjj (b : UInt8) : ∀ n, Lib.repeatL [b] n = List.replicate n b
 | 0 => rfl
 | n + 1 => by rw [Lib.repeatL, zjj b n]; rfl
def sgT (s : Bool) : List UInt8 := if s = true then [45] else []
theorem zdz (s : Bool) : (sgT s).length ≤ 1 := by unfold sgT; split <;> simp
structure Pr (f : Int) (w : Nat) : Prop where
 my : My (wv f w).1 (wv f w).2.1 (wv f w).2.2
 ne : V (wv f w).2.1 ≠ 0
 b : bl (V (wv f w).2.1) ≤ 53
 lo : -1074 ≤ (wv f w).2.2
 hi : (wv f w).2.2 + (bl (V (wv f w).2.1) : Nat) ≤ 1024
 s : (wv f w).1 = zj f w
theorem znQ {f : Int} (h : isF f) {w : Nat} (c1 : cls f w ≠ 1) (c4 : cls f w < 4) : Pr f w := by
 have W := zkq h c1 c4
 have hb := zpy h W c4
 have hpr : pr f ≤ 53 := by rcases h with rfl | rfl <;> decide
 have hWb := W.b
 have hft := zf7 h c4
 have hwd : wd f ≤ 1024 := by rcases h with rfl | rfl <;> decide
 have hlo := zbE h
 have hWlo := W.lo
 have hWhi := W.hi
 refine ⟨⟨W.dy, ?_, by omega, by omega⟩, W.ne, by omega, by omega, by omega, W.s⟩
 have hl := W.dy.nm.len
 have h2 : V (wv f w).2.1 < 4294967296 ^ 2 := Nat.lt_of_lt_of_le (zL _) (Nat.le_trans (Nat.pow_le_pow_right (by omega) (by omega : bl (V (wv f w).2.1) ≤ 64)) (by decide))
 have h3 := zbK h2
 omega
theorem zh9 {α : Type} {g : Nat → Option α} {r : α} {n : Nat} (h : ∀ k, g (k + n) = some r) : Ev g r := ⟨n, fun k hk => by have := h (k - n); rwa [Nat.sub_add_cancel hk] at this⟩
theorem ziT {s : Bool} {x : UInt8} {r : List UInt8} (hx : x ≠ 45) : za8 (sgT s ++ x :: r) = s ∧ z8 (sgT s ++ x :: r) = x :: r := by
 unfold sgT
 cases s with
 | true => exact ⟨rfl, rfl⟩
 | false =>
  simp only [Bool.false_eq_true, if_false, List.nil_append]
  constructor
  ·unfold za8; split
   ·rename_i h; exact absurd (List.cons.inj h).1 hx
   ·rfl
  ·unfold z8; split
   ·rename_i h; exact absurd (List.cons.inj h).1 hx
   ·rfl
theorem ziV {s : Bool} {x : UInt8} {r : List UInt8} (hx : x ≠ 110) : ¬ sgT s ++ x :: r = [110, 97, 110] := by
 unfold sgT
 cases s with
 | true => intro h; exact absurd (List.cons.inj h).1 (by decide)
 | false => intro h; exact absurd (List.cons.inj h).1 hx
theorem zh8 (e : Int) : (etx e).length ≤ 7 := by
 have : ∀ k n, (zd3 k n).length ≤ k := by
  intro k
  induction k with
  | zero => intro n; simp [zd3]
  | succ k ih => intro n; unfold zd3; have := ih (n / 10); split <;> simp; omega
 unfold etx dtx
 have := this 6 e.natAbs
 split <;> simp <;> omega
theorem zoe {f m : Int} (h : isF f) {w : Nat} (hw : w < 2 * sg f) (c1 : cls f w ≠ 1) (c4 : cls f w < 4) : zt f m (wv f w).1 (V (wv f w).2.1) (wv f w).2.2 = ((w : Int), 0) := by
 have hn := zde h c1 c4
 obtain ⟨a1, a2, a3⟩ := zez (s := zj f w) hn
 obtain ⟨b1, b2, b3⟩ := zko h c1 c4
 have e := zoc f m a3 (wex f w)
 have hwv : mk (sv (zj f w) (zn f w)) (wex f w) = wv f w := rfl
 rw [hwv, a1, a2, zjn h (zj f w) hn b1 b2 b3, zh7 h c1 c4, zey h hw] at e
 exact e
theorem zhX (l : List UInt8) (n : Nat) : zg l n = n * 10 ^ l.length + zg l 0 := by
 induction l generalizing n with
 | nil => simp [zg]
 | cons a l ih =>
  have h : ∀ m, zg (a :: l) m = zg l (10 * m + (a.toNat - 48)) := fun m => rfl
  rw [h, h, ih, ih (10 * 0 + _), List.length_cons, Nat.pow_succ]
  grind
open Go.RowKit Go.Proofs.YtnkpmjhlkmlmbaaGreatDoor.Eng
theorem zla (xs : List Int) (h : ∀ x ∈ xs, 0 ≤ x ∧ x < 256) : qcB (qfU xs) = xs := by
 show (xs.map fun n : Int => UInt8.ofNat n.toNat).map (fun b : UInt8 => (b.toNat : Int)) = xs
 rw [List.map_map]
 have e : xs.map ((fun b : UInt8 => (b.toNat : Int)) ∘ fun n : Int => UInt8.ofNat n.toNat) = xs.map id := by
  apply List.map_congr_left
  intro x hx
  have := h x hx
  simp
  omega
 rw [e, List.map_id]
def dcl (n : Nat) : List Int := if h : n = 0 then [] else (48 + (n % 10 : Nat) : Int) :: dcl (n / 10)
termination_by n
decreasing_by omega
theorem zbx : dcl 0 = [] := by unfold dcl; simp
theorem zcS {n : Nat} (h : n ≠ 0) : dcl n = (48 + (n % 10 : Nat) : Int) :: dcl (n / 10) := by
 conv => lhs; unfold dcl
 simp [h]
def pd : Nat → Nat → List Int
 | 0, _ => []
 | j + 1, n => (48 + (n % 10 : Nat) : Int) :: pd j (n / 10)
theorem zi9 : ∀ (j n : Nat), n < 10 ^ j → ∃ m, pd j n = dcl n ++ List.replicate m 48
  | 0, n, h => ⟨0, by have : n = 0 := by simpa using h
                      subst this; simp [pd, zbx]⟩
  | j + 1, n, h => by
    obtain ⟨m, hm⟩ := zi9 j (n / 10) (by rw [Nat.pow_succ] at h; omega)
    by_cases h0 : n = 0
    · subst h0
      refine ⟨m + 1, ?_⟩
      have h1 : dcl (0 / 10) = [] := zbx
      rw [h1] at hm
      rw [pd, hm, zbx]; simp [List.replicate_succ]
    · exact ⟨m, by rw [pd, hm, zcS h0]; simp⟩
theorem zi8 : ∀ (j n : Nat), n / 10 ^ j ≠ 0 → pd j (n % 10 ^ j) ++ dcl (n / 10 ^ j) = dcl n
 | 0, n, h => by simp [pd]
 | j + 1, n, h => by
  have e1 : n / 10 ^ (j + 1) = n / 10 / 10 ^ j := by rw [Nat.pow_succ, Nat.mul_comm, Nat.div_div_eq_div_mul]
  have e2 : n % 10 ^ (j + 1) % 10 = n % 10 := Nat.mod_mod_of_dvd _ ⟨10 ^ j, by rw [Nat.pow_succ, Nat.mul_comm]⟩
  have e3 : n % 10 ^ (j + 1) / 10 = n / 10 % 10 ^ j := by
   rw [Nat.pow_succ, Nat.mul_comm, Nat.mod_mul_right_div_self]
  have h0 : n ≠ 0 := by rintro rfl; simp at h
  rw [pd, e2, e3, e1, zcS h0, List.cons_append, zi8 j (n / 10) (by rw [← e1]; exact h)]
theorem zlB : ∀ (n : Nat), ∀ x ∈ dcl n, 48 ≤ x ∧ x ≤ 57 := by
 intro n
 induction n using Nat.strongRecOn with
 | _ n ih =>
  intro x hx
  by_cases h : n = 0
  ·subst h; rw [zbx] at hx; simp at hx
  ·rw [zcS h] at hx
   rcases List.mem_cons.1 hx with rfl | hx
   ·omega
   ·exact ih _ (by omega) x hx
theorem zlA : ∀ (n : Nat), n ≠ 0 → ∃ l d, dcl n = l ++ [d] ∧ 48 < d ∧ d ≤ 57 := by
 intro n
 induction n using Nat.strongRecOn with
 | _ n ih =>
  intro h
  rw [zcS h]
  by_cases h1 : n / 10 = 0
  ·exact ⟨[], 48 + (n % 10 : Nat), by rw [h1, zbx]; simp, by omega, by omega⟩
  ·obtain ⟨l, d, e, hd⟩ := ih (n / 10) (by omega) h1
   exact ⟨_ :: l, d, by rw [e]; rfl, hd⟩
theorem zhF : ∀ (j n : Nat), n < 10 ^ j → (dcl n).length ≤ j
  | 0, n, h => by have : n = 0 := by simpa using h
                  subst this; simp [zbx]
  | j + 1, n, h => by
    by_cases h0 : n = 0
    · subst h0; simp [zbx]
    · rw [zcS h0]
      have := zhF j (n / 10) (by rw [Nat.pow_succ] at h; omega)
      simp; omega
def txt (n : Nat) : List Int := if n = 0 then [48] else (dcl n).reverse
theorem zkb (n : Nat) : ∀ x ∈ txt n, 48 ≤ x ∧ x ≤ 57 := by
 intro x hx
 unfold txt at hx
 split at hx
 ·simp at hx; omega
 ·exact zlB n x (by simpa using hx)
theorem zgs : ∀ (j n : Nat), (pd j n).length = j
 | 0, _ => rfl
 | j + 1, n => by simp [pd, zgs j]
theorem zoL {n : Int} (h : 0 ≤ n ∧ n < 4294967296) : (Int.tdiv n 10) % 4294967296 = n / 10 := by
 rw [Int.tdiv_eq_ediv_of_nonneg h.1]; omega
theorem zoQ {n : Int} (h : 0 ≤ n) : Int.tmod n 10 = n % 10 := Int.tmod_eq_emod_of_nonneg h
theorem zht {n : Nat} (h : n ≠ 0) : bl (n / 1000000000) + 1 ≤ bl n := by
 rw [zk4 h]
 have : n / 1000000000 ≤ n / 2 := by omega
 have := zaf this
 omega
def zbN (n : Nat) : List Int := if h : n = 0 then [] else pd 9 (n % 1000000000) ++ zbN (n / 1000000000)
termination_by n
decreasing_by omega
theorem zeU : zbN 0 = [] := by unfold zbN; simp
theorem zfU {n : Nat} (h : n ≠ 0) : zbN n = pd 9 (n % 1000000000) ++ zbN (n / 1000000000) := by
 conv => lhs; unfold zbN
 simp [h]
theorem zlg : ∀ (n : Nat), ∃ m, zbN n = dcl n ++ List.replicate m 48 := by
 intro n
 induction n using Nat.strongRecOn with
 | _ n ih =>
  by_cases h : n = 0
  ·exact ⟨0, by subst h; rw [zeU, zbx]; rfl⟩
  ·rw [zfU h]
   by_cases h1 : n / 1000000000 = 0
   ·rw [h1, zeU, List.append_nil, Nat.mod_eq_of_lt (by omega)]
    exact zi9 9 n (by omega)
   ·obtain ⟨m, hm⟩ := ih (n / 1000000000) (by omega)
    refine ⟨m, ?_⟩
    have := zi8 9 n h1
    rw [hm, ← List.append_assoc]
    exact congrArg (· ++ List.replicate m 48) this
theorem zjV (q : List Int) {res : ByteArray × Int} : ∀ (j : Nat) (low : List Int) (r : Int), j ≤ 9 → 0 ≤ r ∧ r < 4294967296 → low.length + j < 1000000000000 → Ev (fun k => zz.l0 k q (low ++ pd j r.toNat)) res → Ev (fun k => zz.l1 k q low r ((9 - j : Nat) : Int)) res
 | 0, low, r, hj, hr, hl, H => by
  refine zf ?_
  simp only [zz.l1]
  refine ze (by omega) ?_
  simpa [pd] using H
 | j + 1, low, r, hj, hr, hl, H => by
  have e : wrap64 (((9 - (j + 1) : Nat) : Int) + 1) = ((9 - j : Nat) : Int) := by unfold wrap64; omega
  have e2 : (48 + Int.tmod r 10) % 4294967296 % 256 = 48 + ((r.toNat % 10 : Nat) : Int) := by rw [zoQ hr.1]; omega
  refine zf ?_
  simp only [zz.l1, e, e2, zoL hr]
  clear e e2
  refine zd (by omega) (zd (by simp; omega) ?_)
  have hr10 : 0 ≤ r / 10 ∧ r / 10 < 4294967296 := by omega
  refine zjV q j _ _ (by omega) hr10 (by simp; omega) ?_
  have e3 : (r / 10).toNat = r.toNat / 10 := by omega
  rw [e3]
  simpa [pd] using H
theorem zoN {res : ByteArray × Int} : ∀ (n : Nat) (low : List Int), low.length + 9 * bl n < 100000000000 → (D n).length < 1000000000 → Ev (fun k => zz.l2 k (low ++ zbN n)) res → Ev (fun k => zz.l0 k (D n) low) res := by
 intro n
 induction n using Nat.strongRecOn with
 | _ n ih =>
  intro low hl hd H
  refine zf ?_
  simp only [zz.l0]
  by_cases h : n = 0
  ·subst h
   rw [zeU, List.append_nil] at H
   refine ze ?_ H
   rw [zP]; simp
  ·refine zd ?_ ?_
   ·rw [zcM h]; simp
   ·refine Ev.bind (ziS (zaK n) hd (by omega)) ?_
    rw [V_D]
    have hb := zht h
    have hle : n / 1000000000 ≤ n := Nat.div_le_self _ _
    have hdl := zeK hle
    have hm9 : 0 ≤ ((n % (1000000000 : Int).toNat : Nat) : Int) ∧ ((n % (1000000000 : Int).toNat : Nat) : Int) < 4294967296 := by
     rw [show (1000000000 : Int).toNat = 1000000000 from rfl]; omega
    refine zjV _ 9 low _ (by omega) hm9 (by omega) ?_
    refine ih (n / 1000000000) (by omega) _ ?_ (by omega) ?_
    ·rw [List.length_append, zgs]; omega
    ·rw [zfU h, ← List.append_assoc] at H
     exact H
theorem zoO : ∀ (m : Nat) (p s q : List Int), s.length = m → (p ++ s ++ q).length < 1000000000000 → Ev (fun k => zz.l3 k (p ++ s ++ q) p.length (((p.length + s.length : Nat) : Int) - 1)) (qfU (p ++ s.reverse ++ q), 0) := by
 intro m
 induction m using Nat.strongRecOn with
 | _ m ih =>
  intro p s q hs hl
  have hl2 : p.length + s.length + q.length < 1000000000000 := by simpa [Nat.add_assoc] using hl
  refine zf ?_
  simp only [zz.l3]
  match s, hs with
  | [], hs => exact ze (by simp; omega) (Ev.now _)
  | [x], hs => exact ze (by simp) (Ev.now _)
  | x :: y :: t, hs =>
   obtain ⟨u, z, hu⟩ : ∃ u z, y :: t = u ++ [z] := by
    rcases List.eq_nil_or_concat (y :: t) with h | ⟨u, z, h⟩
    ·simp at h
    ·exact ⟨u, z, by rw [h, List.concat_eq_append]⟩
   rw [hu] at hs hl2 ⊢
   have hul : u.length + 2 = m := by simpa using hs
   have hlen : (x :: (u ++ [z])).length = u.length + 2 := by simp
   rw [hlen] at hl2 ⊢
   have e0 : ((p.length + (u.length + 2) : Nat) : Int) - 1 = ((p.length + 1 + u.length : Nat) : Int) := by omega
   rw [e0]
   have hL : (p ++ x :: (u ++ [z]) ++ q).length = p.length + u.length + 2 + q.length := by simp; omega
   rw [hL]
   have r1 : rd (p ++ x :: (u ++ [z]) ++ q) ((p.length : Nat) : Int) = x := by
    rw [List.append_assoc, List.cons_append]; exact zZ rfl
   have r2 : rd (p ++ x :: (u ++ [z]) ++ q) ((p.length + 1 + u.length : Nat) : Int) = z := by
    have : p ++ x :: (u ++ [z]) ++ q = (p ++ x :: u) ++ z :: q := by simp
    rw [this]; exact zZ (by simp; omega)
   have s1 : (p ++ x :: (u ++ [z]) ++ q).set ((p.length : Nat) : Int).toNat z = p ++ z :: (u ++ [z]) ++ q := by
    rw [List.append_assoc, List.cons_append, za9 rfl]; simp
   have s2 : (p ++ z :: (u ++ [z]) ++ q).set ((p.length + 1 + u.length : Nat) : Int).toNat x = (p ++ [z]) ++ u ++ (x :: q) := by
    have : p ++ z :: (u ++ [z]) ++ q = (p ++ z :: u) ++ z :: q := by simp
    rw [this, za9 (by simp; omega)]; simp
   rw [r1, r2, s1, s2, zbJ (n := p.length) (by omega), zch (by omega)]
   refine zd (by omega) (zd (by omega) (zd (by omega) (zd (by omega) (zd (by omega) (zd (by omega) (zd (by omega) (zd (by omega) (zd (by simp; omega) ?_))))))))
   have := ih u.length (by omega) (p ++ [z]) u (x :: q) rfl (by simp; omega)
   rw [List.length_append, List.length_singleton] at this
   have e1 : ((p.length + 1 + u.length : Nat) : Int) - 1 = ((p.length + 1 + u.length : Nat) : Int) - 1 := rfl
   refine zi this ?_
   simp
theorem zjW {l : List Int} {d : Int} (hd : 48 < d) : ∀ (m : Nat), (l ++ [d]).length + m < 1000000000000 → Ev (fun k => zz.l2 k (l ++ [d] ++ List.replicate m 48)) (qfU (l ++ [d]).reverse, 0)
 | 0, hl => by
  simp only [List.replicate_zero, List.append_nil]
  have e : wrap64 (((l ++ [d]).length : Int) - 1) = (((l ++ [d]).length : Nat) : Int) - 1 := zch (by omega)
  refine zf ?_
  simp only [zz.l2, e]
  clear e
  have hl1 : (l ++ [d]).length = l.length + 1 := by simp
  have hr : rd (l ++ [d]) (((l ++ [d]).length : Int) - 1) = d := zZ (by omega)
  refine zd (by omega) (zd (by omega) (ze (by rw [hr]; omega) ?_))
  have := zoO _ [] (l ++ [d]) [] rfl (by simp; omega)
  simpa using this
 | m + 1, hl => by
  rw [List.replicate_succ', ← List.append_assoc]
  have hX : ((l ++ [d]) ++ List.replicate m 48).length = (l ++ [d]).length + m := by rw [List.length_append, List.length_replicate]
  generalize hx : (l ++ [d]) ++ List.replicate m 48 = X at hX
  have hXl : (X ++ [48]).length = X.length + 1 := by simp
  have e : wrap64 (((X ++ [48]).length : Int) - 1) = (X.length : Int) := by rw [hXl]; exact zkj (by omega)
  refine zf ?_
  simp only [zz.l2, e]
  clear e
  refine zd (by omega) (zd (by omega) (zd (zZ rfl) (zd (by omega) (zd (by omega) ?_))))
  have ht : (X ++ [(48 : Int)]).take ((X.length : Int)).toNat = X := by simp
  rw [ht, ← hx]
  exact zjW hd m (by omega)
theorem ziP {a : List Int} (h : Nm a) (hl : a.length ≤ 4096) : Ev (fun k => zz.f k a) (qfU (txt (V a)), 0) := by
 unfold zz.f
 refine zk (zca h.dg (by omega)) (ze (by rw [zbF.2 ⟨hl, h⟩]; simp) ?_)
 by_cases c : a.length = 0
 ·have : a = [] := List.eq_nil_of_length_eq_zero c
  subst this
  exact zd (by simp) (Ev.now _)
 ·refine ze (by omega) ?_
  have hne : a ≠ [] := fun e => c (by rw [e]; rfl)
  have h0 := zhm h hne
  have hb := zdV h.dg
  obtain ⟨l, d, e, hd⟩ := zlA (V a) h0
  obtain ⟨m, hm⟩ := zlg (V a)
  have hml : (zbN (V a)).length < 100000000000 := by
   have : ∀ n, (zbN n).length ≤ 9 * bl n := by
    intro n
    induction n using Nat.strongRecOn with
    | _ n ih =>
     by_cases h : n = 0
     ·subst h; rw [zeU]; simp
     ·rw [zfU h, List.length_append, zgs]
      have := ih (n / 1000000000) (by omega)
      have := zht h
      omega
   have := this (V a)
   omega
  have key := zoN (res := (qfU (txt (V a)), 0)) (V a) [] (by simp; omega) (by rw [h]; omega) ?_
  ·rwa [h] at key
  ·rw [List.nil_append, hm, e]
   have ht : txt (V a) = (l ++ [d]).reverse := by unfold txt; rw [if_neg h0, e]
   rw [ht]
   refine zjW hd.1 m ?_
   rw [hm, e, List.length_append, List.length_replicate] at hml
   omega
def pvA : Nat → List Int → Nat
 | a, [] => a
 | a, c :: l => pvA (10 * a + (c - 48).toNat) l
theorem zgz : ∀ (l : List Int) (a : Nat), pvA a l = a * 10 ^ l.length + pvA 0 l
 | [], a => by simp [pvA]
 | c :: l, a => by
  rw [pvA, pvA, zgz l (10 * a + (c - 48).toNat), zgz l (10 * 0 + (c - 48).toNat), List.length_cons, Nat.pow_succ]
  grind
theorem znS (l m : List Int) (a : Nat) : pvA a (l ++ m) = pvA (pvA a l) m := by
 induction l generalizing a with
 | nil => rfl
 | cons c l ih => simp [pvA, ih]
def pv (l : List Int) : Nat := pvA 0 l
theorem zdw (l m : List Int) : pv (l ++ m) = pv l * 10 ^ m.length + pv m := by
 unfold pv; rw [znS, zgz]
theorem zje (l : List Int) (c : Int) : pv (l ++ [c]) = 10 * pv l + (c - 48).toNat := by
 rw [zdw]; simp [pv, pvA]; omega
def za6 (l : List Int) : Prop := ∀ x ∈ l, 48 ≤ x ∧ x ≤ 57
instance (l : List Int) : Decidable (za6 l) := inferInstanceAs (Decidable (∀ x ∈ l, 48 ≤ x ∧ x ≤ 57))
theorem zjd {l : List Int} (h : za6 l) : pv l < 10 ^ l.length := by
 induction l with
 | nil => simp [pv, pvA]
 | cons c l ih =>
  have h1 := h c (by simp)
  have h2 := ih (fun x hx => h x (by simp [hx]))
  have e : pv (c :: l) = (c - 48).toNat * 10 ^ l.length + pv l := by
   have := zdw [c] l
   simpa [pv, pvA] using this
  rw [e, List.length_cons, Nat.pow_succ]
  have h3 : (c - 48).toNat * 10 ^ l.length ≤ 9 * 10 ^ l.length := Nat.mul_le_mul_right _ (by omega)
  omega
theorem znV (l : List Int) (n : Nat) : pv (l.take n) ≤ pv l := by
 have h := zdw (l.take n) (l.drop n)
 rw [List.take_append_drop] at h
 have : pv (l.take n) * 1 ≤ pv (l.take n) * 10 ^ (l.drop n).length := Nat.mul_le_mul_left _ (Nat.one_le_pow _ _ (by omega))
 omega
def isT (l : List Int) : Bool := decide (za6 l) && (decide (l.length = 1) || decide (1 < l.length) && decide (l.getD 0 0 ≠ 48))
theorem zkA {l : List Int} (h : Dg l) (k : l = [] ∨ 4294967296 ^ (l.length - 1) ≤ V l) : Nm l := by
 rw [zhg h]
 rcases k with k | k
 ·exact .inl k
 ·by_cases e : l = []
  ·exact .inl e
  ·right
   intro h0
   have hl : l.length ≠ 0 := fun e' => e (List.eq_nil_of_length_eq_zero e')
   have h1 := zeP (l := l) (n := l.length - 1) (by omega)
   rw [Nat.sub_add_cancel (by omega), List.take_length, h0] at h1
   have h2 := zdT h (n := l.length - 1) (by omega)
   simp at h1
   omega
def zal : List Int → Nat → Nat → List Int
 | [], _, c => if c = 0 then [] else [((c : Nat) : Int)]
 | x :: l, t, c => (((x.toNat * t + c) % 4294967296 : Nat) : Int) :: zal l t ((x.toNat * t + c) / 4294967296)
theorem ziC {x t c : Nat} (hx : x < 4294967296) (hc : c < t) : (x * t + c) / 4294967296 < t := by
 apply (Nat.div_lt_iff_lt_mul (by omega)).2
 have h1 : x * t ≤ 4294967295 * t := Nat.mul_le_mul_right _ (by omega)
 omega
theorem zm5 {l : List Int} (h : Dg l) {t c : Nat} (hc : c < t) (ht : t < 4294967296) : V (zal l t c) = V l * t + c ∧ Dg (zal l t c) := by
 induction l generalizing c with
 | nil =>
  unfold zal
  split
  ·subst c; exact ⟨by simp, Dg.nil⟩
  ·exact ⟨by simp, Dg.cons (by omega) (by omega) Dg.nil⟩
 | cons x l ih =>
  have hx := h.head
  have hb := ziC (x := x.toNat) (by omega) hc
  have := ih h.tail hb
  refine ⟨?_, Dg.cons (by omega) (by omega) this.2⟩
  rw [zal, zF, this.1, zF, Nat.add_mul, Nat.mul_add, Nat.mul_assoc]
  generalize x.toNat * t = p
  generalize V l * t = q
  rw [Int.toNat_natCast]
  omega
theorem zm4 {n t c : Nat} (hc : c < t) (ht : t < 4294967296) : zal (D n) t c = D (n * t + c) := by
 have h := zm5 (zaK n) hc ht
 rw [V_D] at h
 have hlen : ∀ (l : List Int) (c : Nat), zal l t c = [] ∨ (zal l t c).length = l.length ∨ ∃ m d, zal l t c = m ++ [d] ∧ d ≠ 0 := by
  intro l
  induction l with
  | nil =>
   intro c
   unfold zal
   split
   ·exact .inl rfl
   ·exact .inr (.inr ⟨[], _, rfl, by omega⟩)
  | cons x l ih =>
   intro c
   rw [zal]
   rcases ih ((x.toNat * t + c) / 4294967296) with h | h | ⟨m, d, h, hd⟩
   ·rw [h]
    cases l with
    | nil => exact .inr (.inl rfl)
    | cons y l => simp [zal] at h
   ·exact .inr (.inl (by simp [h]))
   ·exact .inr (.inr ⟨_ :: m, d, by rw [h]; rfl, hd⟩)
 have key : Nm (zal (D n) t c) := by
  rcases hlen (D n) c with e | e | ⟨m, d, e, hd⟩
  ·rw [e]; exact zcN
  ·by_cases hn : n = 0
   ·subst hn
    rw [zP] at e
    have e2 : zal (D 0) t c = [] := by rw [zP]; exact List.eq_nil_of_length_eq_zero e
    rw [e2]; exact zcN
   ·apply zkA h.2
    right
    rw [e, h.1]
    have := zfA hn
    have h2 : n * 1 ≤ n * t := Nat.mul_le_mul_left _ (by omega)
    omega
  ·have hg := h.2
   rw [e] at hg ⊢
   have := hg d (by simp)
   exact zeM hg.left (by omega) this.2
 rw [← key, h.1]
theorem uu {x t c : Int} (hx : 0 ≤ x ∧ x < 4294967296) (ht : 0 ≤ t ∧ t < 4294967296) (hc : 0 ≤ c ∧ c < 4294967296) : IntKind.u64.wrap (c + IntKind.u64.wrap (IntKind.u64.wrap x * t)) = x * t + c := by
 have hp := zgj hx ht
 rw [u64 hx.1 (by omega), u64 hp.1 (by omega), u64 (by omega) (by omega)]; omega
theorem znn (x : Int) (t c : Nat) (hx : 0 ≤ x) : x * (t : Int) + (c : Int) = ((x.toNat * t + c : Nat) : Int) := by
 obtain ⟨X, rfl⟩ := Int.eq_ofNat_of_zero_le hx
 simp
theorem nd (a : Nat) : ((a : Nat) : Int) % 4294967296 = ((a % 4294967296 : Nat) : Int) ∧ ((a : Nat) : Int) / 4294967296 = ((a / 4294967296 : Nat) : Int) := by omega
section
variable (s : ByteArray)
theorem zi4 (at' t : Nat) (ht : t < 4294967296) {res : List Int × Int} (full : List Int) (hf : full.length < 1000000000) : ∀ (l done : List Int) (c : Nat), c < t → Dg l → done.length + l.length < 1000000000 → full = done ++ zal l t c →
  (Ev (fun k => if (full.length : Int) > 4096 then some ([], 3) else zo.l1 k s full (at' : Int)) res) →
  Ev (fun k => zo.l3 k s (done ++ l) at' t c ((done.length + l.length : Nat) : Int) done.length) res
 | [], done, c, hc, hg, hl, hfull, H => by
  have hj : Ev (fun k => zo.j10 k s full (at' : Int)) res := by
   refine zf ?_
   simp only [zo.j10]
   exact H
  refine zf ?_
  simp only [zo.l3]
  refine ze (by simp) ?_
  rw [List.append_nil]
  by_cases h0 : c = 0
  ·have e : full = done := by rw [hfull]; simp [zal, h0]
   rw [e] at hj
   exact ze (by omega) hj
  ·have e : full = done ++ [((c : Nat) : Int) % 4294967296] := by
    rw [hfull]; simp [zal, h0]; omega
   rw [e] at hj
   exact zd (by omega) (zd (by simp at hl ⊢; omega) hj)
 | x :: l, done, c, hc, hg, hl, hfull, H => by
  have hx := hg.head
  have hb := ziC (x := x.toNat) (by omega) hc
  have hu := uu hx (t := (t : Int)) (by omega) (c := (c : Int)) (by omega)
  rw [znn x t c hx.1] at hu
  have hn := nd (x.toNat * t + c)
  have hr : rd (done ++ x :: l) (done.length : Int) = x := zZ rfl
  refine zf ?_
  simp only [zo.l3, hr, hu, hn.1, hn.2, za9 rfl, zbJ (n := done.length) (by omega)]
  clear hu hn
  refine zd (by simp; omega) (zd (by omega) (zd (by simp; omega) (zd (by omega) (zd (by simp; omega) ?_))))
  have := zi4 at' t ht full hf l (done ++ [((((x.toNat * t + c) % 4294967296 : Nat)) : Int)]) _ hb hg.tail (by simp at hl ⊢; omega) (by rw [hfull, zal]; simp) H
  rw [List.length_append, List.length_singleton] at this
  have e : done.length + (x :: l).length = done.length + 1 + l.length := by simp; omega
  rw [e]; exact this
omit s in
theorem zdZ (s : ByteArray) : (qcB s).length = s.size := by unfold qcB; rw [List.length_map, Array.length_toList]; rfl
theorem zfR (i : Nat) : bt s (i : Int) = (qcB s).getD i 0 := by
 rw [zfQ, Int.toNat_natCast]
 have e : qcB s = (tl s).map fun b => (b.toNat : Int) := rfl
 rw [e, List.getD_eq_getElem?_getD, List.getD_eq_getElem?_getD, List.getElem?_map]
 cases (tl s)[i]? <;> rfl
theorem zi3 (hd : za6 (qcB s)) (n next : Nat) (hn : next ≤ s.size) (hs : s.size < 1000000000000) {res : List Int × Int} (hln : (D n).length < 100000000)
  (H : ∀ t c, t < 4294967296 → c < t → t = t → Ev (fun k => zo.l3 k s (D n) next t c ((D n).length : Int) 0) res → True) :
  ∀ (d i t c : Nat), i + d = next → t * 10 ^ d ≤ 1000000000 → c < t →
  Ev (fun k => zo.l3 k s (D n) next ((t * 10 ^ d : Nat) : Int) ((c * 10 ^ d + pv (((qcB s).drop i).take d) : Nat) : Int) ((D n).length : Int) 0) res →
  Ev (fun k => zo.l2 k s (D n) i next t c) res
 | 0, i, t, c, hi, ht, hc, h => by
  refine zf ?_
  simp only [zo.l2]
  refine ze (by omega) ?_
  rw [show next = i by omega] at h
  simpa [pv, pvA] using h
 | d + 1, i, t, c, hi, ht, hc, h => by
  have hlen : (qcB s).length = s.size := zdZ s
  have hget : (qcB s).drop i = (qcB s).getD i 0 :: (qcB s).drop (i + 1) := by
   rw [List.drop_eq_getElem_cons (by omega)]; simp [show i < (qcB s).length by omega]
  have hdi := hd ((qcB s).getD i 0) (by
   have : i < (qcB s).length := by omega
   rw [List.getD_eq_getElem?_getD, List.getElem?_eq_getElem this]; exact List.getElem_mem this)
  generalize hx : (qcB s).getD i 0 = x at hget hdi
  have hp : 1 ≤ 10 ^ d := Nat.one_le_pow _ _ (by omega)
  have ht10 : t * 10 * 10 ^ d = t * 10 ^ (d + 1) := by rw [Nat.pow_succ, Nat.mul_assoc, Nat.mul_comm 10]
  have ht9 : t * 10 ≤ 1000000000 := by
   have : t * 10 * 1 ≤ t * 10 * 10 ^ d := Nat.mul_le_mul_left _ hp
   omega
  refine zf ?_
  simp only [zo.l2, zbJ (n := i) (by omega), zfR, hx]
  refine zd (by omega) (zd (by omega) (zd (by omega) ?_))
  have e1 : IntKind.u64.wrap ((t : Int) * 10) = ((t * 10 : Nat) : Int) := by rw [u64 (by omega) (by omega)]; omega
  have e2 : IntKind.u64.wrap (IntKind.u64.wrap (10 * (c : Int)) + IntKind.u64.wrap ((x - 48) % 256)) = ((10 * c + (x - 48).toNat : Nat) : Int) := by
   rw [u64 (n := 10 * (c : Int)) (by omega) (by omega), u64 (n := (x - 48) % 256) (by omega) (by omega), u64 (by omega) (by omega)]; omega
  rw [e1, e2]
  clear e1 e2
  refine zi3 hd n next hn hs hln H d (i + 1) (t * 10) (10 * c + (x - 48).toNat) (by omega) (by omega) (by omega) ?_
  rw [hget, List.take_succ_cons] at h
  have e3 : c * 10 ^ (d + 1) + pv (x :: ((qcB s).drop (i + 1)).take d) = (10 * c + (x - 48).toNat) * 10 ^ d + pv (((qcB s).drop (i + 1)).take d) := by
   have hq := zdw [x] (((qcB s).drop (i + 1)).take d)
   have hl : (((qcB s).drop (i + 1)).take d).length = d := by rw [List.length_take, List.length_drop]; omega
   rw [hl] at hq
   have hq1 : pv [x] = (x - 48).toNat := by simp [pv, pvA]
   rw [hq1] at hq
   rw [List.singleton_append] at hq
   rw [hq, Nat.pow_succ, Nat.add_mul, Nat.mul_comm 10 c, Nat.mul_assoc, Nat.mul_comm (10 ^ d) 10, Nat.add_assoc]
  rw [e3, ← ht10] at h
  exact h
theorem zoJ (l : List Int) (i d : Nat) : l.take (i + d) = l.take i ++ (l.drop i).take d := by
 rw [List.take_add]
theorem znF (hd : za6 (qcB s)) (hs : s.size < 100000000) : ∀ (r i : Nat), i + r = s.size → (D (pv ((qcB s).take i))).length ≤ 4096 → Ev (fun k => zo.l1 k s (D (pv ((qcB s).take i))) i) (zJ (pv (qcB s))) := by
 intro r
 induction r using Nat.strongRecOn with
 | _ r ih =>
  intro i hi hl
  have hlen : (qcB s).length = s.size := zdZ s
  refine zf ?_
  simp only [zo.l1]
  by_cases c : r = 0
  ·refine ze (by omega) (zi (Ev.now _) ?_)
   have e : (qcB s).take i = qcB s := List.take_of_length_le (by omega)
   rw [e] at hl ⊢
   unfold zJ; rw [if_neg (by omega)]
  ·refine zd (by omega) ?_
   have chunk : ∀ d, 0 < d → d ≤ 9 → d ≤ r → Ev (fun k => zo.j7 k s (D (pv ((qcB s).take i))) i ((i + d : Nat) : Int)) (zJ (pv (qcB s))) := by
    intro d h0 h9 hr
    refine zf ?_
    simp only [zo.j7]
    have hp9 : 1 * 10 ^ d ≤ 1000000000 := by
     have : 10 ^ d ≤ 10 ^ 9 := Nat.pow_le_pow_right (by omega) h9
     omega
    have hlc : (((qcB s).drop i).take d).length = d := by rw [List.length_take, List.length_drop]; omega
    have hpl : pv (((qcB s).drop i).take d) < 10 ^ d := by
     have := zjd (l := ((qcB s).drop i).take d) (fun x hx => hd x (List.mem_of_mem_drop (List.mem_of_mem_take hx)))
     rwa [hlc] at this
    refine zi3 s hd _ (i + d) (by omega) (by omega) (by omega) (fun _ _ _ _ _ _ => trivial) d i 1 0 rfl hp9 (by omega) ?_
    rw [Nat.one_mul, Nat.zero_mul, Nat.zero_add]
    have e : pv ((qcB s).take (i + d)) = pv ((qcB s).take i) * 10 ^ d + pv (((qcB s).drop i).take d) := by
     rw [zoJ, zdw, hlc]
    have hD := zm4 (n := pv ((qcB s).take i)) hpl (by omega)
    rw [← e] at hD
    have hDl : (D (pv ((qcB s).take (i + d)))).length < 1000000000 := by
     have h1 := zdq (pv ((qcB s).take i))
     have h2 : pv ((qcB s).take (i + d)) < 4294967296 ^ ((D (pv ((qcB s).take i))).length + 1) := by
      rw [e, Nat.pow_succ]
      have h3 : (pv ((qcB s).take i) + 1) * 10 ^ d ≤ 4294967296 ^ (D (pv ((qcB s).take i))).length * 4294967296 := Nat.mul_le_mul h1 (by omega)
      rw [Nat.add_mul] at h3
      omega
     have := zdQ h2
     omega
    have := zi4 s (i + d) (10 ^ d) (by omega) (res := zJ (pv (qcB s))) (D (pv ((qcB s).take (i + d)))) hDl (D (pv ((qcB s).take i))) [] (pv (((qcB s).drop i).take d)) hpl (zaK _) (by simp; omega) (by rw [hD]; rfl) ?_
    ·simpa using this
    ·by_cases c2 : (D (pv ((qcB s).take (i + d)))).length > 4096
     ·refine zd (by omega) (zi (Ev.now _) ?_)
      have := zeK (znV (qcB s) (i + d))
      unfold zJ; rw [if_pos (by omega)]
     ·exact ze (by omega) (ih (r - d) (by omega) (i + d) (by omega) (by omega))
   have e9 : mn (s.size : Int) (wrap64 ((i : Int) + 9)) = ((i + min r 9 : Nat) : Int) := by
    have : wrap64 ((i : Int) + 9) = (i : Int) + 9 := by unfold wrap64; omega
    rw [this]; unfold mn; split <;> omega
   have j3 := chunk (min r 9) (by omega) (by omega) (by omega)
   rw [e9]
   clear e9
   have em : Int.tmod (s.size : Int) 9 = ((s.size % 9 : Nat) : Int) := zfs s.size 9
   by_cases c1 : i = 0
   ·refine zd (by omega) ?_
    rw [em]
    by_cases c2 : s.size % 9 = 0
    ·exact ze (by omega) j3
    ·refine zd (by omega) ?_
     have := chunk (s.size % 9) (by omega) (by omega) (by omega)
     have e : ((i + s.size % 9 : Nat) : Int) = ((s.size % 9 : Nat) : Int) := by omega
     rw [e] at this; exact this
   ·exact ze (by omega) j3
theorem zml {l : List Int} {i : Nat} (h : i < l.length) : l.getD i 0 ∈ l := by
 rw [List.getD_eq_getElem?_getD, List.getElem?_eq_getElem h]; exact List.getElem_mem h
theorem zi2 (hs : s.size < 100000000) : ∀ (r i : Nat), i + r = s.size → (∀ j, j < i → 48 ≤ (qcB s).getD j 0 ∧ (qcB s).getD j 0 ≤ 57) → Ev (fun k => zo.l0 k s s.size i) (if za6 (qcB s) then zJ (pv (qcB s)) else ([], 12))
 | 0, i, hi, hj => by
  have hlen : (qcB s).length = s.size := zdZ s
  have hd : za6 (qcB s) := by
   intro x hx
   obtain ⟨j, hj', rfl⟩ := List.getElem_of_mem hx
   have := hj j (by omega)
   simpa [hj'] using this
  refine zf ?_
  simp only [zo.l0]
  refine ze (by omega) ?_
  rw [if_pos hd]
  have := znF s hd hs s.size 0 (by omega) (by simp [pv, pvA, zP])
  simpa [pv, pvA, zP] using this
 | r + 1, i, hi, hj => by
  have hlen : (qcB s).length = s.size := zdZ s
  have hm := zml (l := qcB s) (i := i) (by omega)
  refine zf ?_
  simp only [zo.l0, zfR, zbJ (n := i) (by omega)]
  refine zd (by omega) (zd (by omega) (zd (by omega) ?_))
  by_cases c1 : (qcB s).getD i 0 < 48
  ·refine zd c1 (zi (Ev.now _) ?_)
   rw [if_neg]; intro hd; have := hd _ hm; omega
  ·refine ze c1 (zd (by omega) (zd (by omega) ?_))
   by_cases c2 : (qcB s).getD i 0 > 57
   ·refine zd c2 (zi (Ev.now _) ?_)
    rw [if_neg]; intro hd; have := hd _ hm; omega
   ·refine ze c2 (zi2 hs r (i + 1) (by omega) ?_)
    intro j hj'
    by_cases e : j = i
    ·subst e; omega
    ·exact hj j (by omega)
def zcc (l : List Int) : List Int × Int := if isT l then zJ (pv l) else ([], 12)
theorem ziO (hs : s.size < 100000000) : Ev (fun k => zo.f k s) (zcc (qcB s)) := by
 have hlen : (qcB s).length = s.size := zdZ s
 have yes : (isT (qcB s) = decide (za6 (qcB s))) → Ev (fun k => zo.l0 k s (s.size : Int) 0) (zcc (qcB s)) := by
  intro h
  have := zi2 s hs s.size 0 (by omega) (fun j hj => by omega)
  refine zi this ?_
  unfold zcc; rw [h]
  simp only [decide_eq_true_eq]
 unfold zo.f
 by_cases c0 : s.size = 0
 ·have hn : s = (⟨#[]⟩ : ByteArray) := zjY.1 (List.eq_nil_of_length_eq_zero (by rw [zfr]; exact c0))
  refine zd hn ?_
  have : isT (qcB s) = false := by unfold isT; simp [hlen, c0]
  unfold zcc; rw [this]; exact Ev.now _
 ·refine ze (fun h => c0 (by rw [h]; rfl)) ?_
  by_cases c1 : s.size > 1
  ·refine zd (by omega) (zd (by omega) ?_)
   have e : bt s 0 = (qcB s).getD 0 0 := zfR s 0
   rw [e]
   by_cases c2 : (qcB s).getD 0 0 = 48
   ·refine zd c2 ?_
    have : isT (qcB s) = false := by unfold isT; rw [hlen, c2]; simp; omega
    unfold zcc; rw [this]; exact Ev.now _
   ·refine ze c2 (yes ?_)
    unfold isT; rw [hlen, decide_eq_true c1, decide_eq_true c2]; simp
  ·refine ze (by omega) (yes ?_)
   unfold isT; rw [hlen]; simp [show s.size = 1 by omega]
end
section
variable (s : ByteArray)
end
theorem znU {c : Int} {l : List Int} : pv (c :: l) = (c - 48).toNat * 10 ^ l.length + pv l := by
 have := zdw [c] l
 simpa [pv, pvA] using this
theorem zgA {l : List Int} (hd : za6 l) (h0 : l.getD 0 0 ≠ 48) (hl : l ≠ []) : 10 ^ (l.length - 1) ≤ pv l := by
 cases l with
 | nil => exact absurd rfl hl
 | cons c l =>
  have hc := hd c (by simp)
  have h1 : c ≠ 48 := by simpa using h0
  rw [znU]
  have : 1 * 10 ^ l.length ≤ (c - 48).toNat * 10 ^ l.length := Nat.mul_le_mul_right _ (by omega)
  simp; omega
theorem znT : ∀ (n : Nat), pv (dcl n).reverse = n := by
 intro n
 induction n using Nat.strongRecOn with
 | _ n ih =>
  by_cases h : n = 0
  ·subst h; rw [zbx]; rfl
  ·rw [zcS h, List.reverse_cons, zje, ih _ (by omega)]; omega
theorem znW (n : Nat) : pv (txt n) = n := by
 unfold txt
 split
 ·subst n; rfl
 ·exact znT n
theorem zhH {n : Nat} {c : Int} (hc : 48 ≤ c ∧ c ≤ 57) (h : n ≠ 0 ∨ c ≠ 48) : dcl (10 * n + (c - 48).toNat) = c :: dcl n := by
 rw [zcS (by omega)]
 congr 1
 ·omega
 ·congr 1; omega
theorem zhG : ∀ (m : Nat) (l : List Int), l.length = m → za6 l → l.getD 0 0 ≠ 48 → dcl (pv l) = l.reverse
 | 0, l, hm, _, _ => by
  have : l = [] := List.eq_nil_of_length_eq_zero hm
  subst this; simp [pv, pvA, zbx]
 | m + 1, l, hm, hd, h0 => by
  rcases List.eq_nil_or_concat l with rfl | ⟨a, c, rfl⟩
  ·simp at hm
  rw [List.concat_eq_append] at hm hd h0 ⊢
  have hc := hd c (by simp)
  have hda : za6 a := fun x hx => hd x (by simp [hx])
  rw [zje, List.reverse_append, List.reverse_singleton, List.singleton_append]
  by_cases ha : a = []
  ·subst ha
   have : c ≠ 48 := by simpa using h0
   rw [zhH hc (.inr this)]; simp [pv, pvA, zbx]
  ·have h1 : a.getD 0 0 ≠ 48 := by
    cases a with
    | nil => exact absurd rfl ha
    | cons x a => simpa using h0
   have h2 := zgA hda h1 ha
   have : 1 ≤ 10 ^ (a.length - 1) := Nat.one_le_pow _ _ (by omega)
   rw [zhH hc (.inl (by omega)), zhG m a (by simpa using hm) hda h1]
theorem zo1 {l : List Int} (h : isT l = true) : txt (pv l) = l := by
 unfold isT at h
 simp only [Bool.and_eq_true, Bool.or_eq_true, decide_eq_true_eq] at h
 obtain ⟨hd, h⟩ := h
 by_cases h0 : l.getD 0 0 = 48
 ·have h1 : l.length = 1 := by
   rcases h with h | h
   ·exact h
   ·exact absurd h0 h.2
  match l, h1 with
  | [c], _ =>
   have : c = 48 := by simpa using h0
   subst this; rfl
 ·have hl : l ≠ [] := by rintro rfl; simp at h
  have h2 := zgA hd h0 hl
  have h3 : 1 ≤ 10 ^ (l.length - 1) := Nat.one_le_pow _ _ (by omega)
  unfold txt
  rw [if_neg (by omega), zhG _ l rfl hd h0, List.reverse_reverse]
theorem zlb (n : Nat) : qcB (qfU (txt n)) = txt n := zla _ (fun x hx => by have := zkb n x hx; omega)
theorem zo0 {n k : Nat} (h : n < 10 ^ k) (hk : 1 ≤ k) : (txt n).length ≤ k := by
 unfold txt
 split
 ·simpa using hk
 ·have := zhF k n h; simpa using this
theorem ziI (A Bl : List Int) (i : Nat) (x : Int) (hx : 0 ≤ x ∧ x < 4294967296) (hB : Dg Bl) (hl : A.length < 1000000000) (hlb : Bl.length < 1000000000) (hi : i < A.length) (res : List Int) : ∀ (b done r pb : List Int) (c : Int), Bl = pb ++ b → done.length = i + pb.length → b.length < r.length → Dg r → 0 ≤ c ∧ c < 4294967296 →
  Ev (fun k => zH.l0 k Bl (done ++ z6 x b r c) A A.length ((i + 1 : Nat) : Int)) res →
  Ev (fun k => zH.l1 k Bl (done ++ r) i x c A A.length i Bl Bl.length pb.length) res
 | [], done, r, pb, c, he, hd, hr, hg, hc, H => by
  obtain ⟨y, r, rfl⟩ : ∃ y r', r = y :: r' := by
   cases r with
   | nil => simp at hr
   | cons y r' => exact ⟨y, r', rfl⟩
  have hlen : Bl.length = pb.length := by rw [he]; simp
  refine zf ?_
  have e : wrap64 ((i : Int) + (Bl.length : Int)) = ((i + Bl.length : Nat) : Int) := by unfold wrap64; omega
  simp only [zH.l1, e, zbJ (n := i) (by omega)]
  clear e
  refine ze (by omega) (zd (by omega) (zd (by simp; omega) ?_))
  have hs : (done ++ y :: r).set (((i + Bl.length : Nat) : Int)).toNat (c % 4294967296) = done ++ z6 x [] (y :: r) c := by
   rw [za9 (by omega)]; simp [z6]; omega
  rw [hs]; exact H
 | y :: b, done, r, pb, c, he, hd, hr, hg, hc, H => by
  obtain ⟨o, r, rfl⟩ : ∃ y r', r = y :: r' := by
   cases r with
   | nil => simp at hr
   | cons y r' => exact ⟨y, r', rfl⟩
  have hlen : Bl.length = pb.length + 1 + b.length := by rw [he]; simp; omega
  have hy : 0 ≤ y ∧ y < 4294967296 := by rw [he] at hB; exact hB.right.head
  have ho := hg.head
  have hp := zgj hx hy
  refine zf ?_
  have e : wrap64 ((i : Int) + (pb.length : Int)) = ((done.length : Nat) : Int) := by unfold wrap64; omega
  simp only [zH.l1, e, zbJ (n := pb.length) (by omega)]
  clear e
  refine zd (by omega) (zd (by omega) (zd (by omega) (zd (by omega) (zd (by simp; omega) (zd (by omega) (zd (by simp; omega) ?_))))))
  have h1 : rd Bl (pb.length : Int) = y := by rw [he]; exact zZ rfl
  have h2 : rd (done ++ o :: r) (done.length : Int) = o := zZ rfl
  rw [h1, h2, za9 rfl, u64 hx.1 (by omega), u64 hy.1 (by omega), u64 ho.1 (by omega), u64 (n := x * y) hp.1 (by omega), u64 (n := x * y + o) (by omega) (by omega), u64 (n := x * y + o + c) (by omega) (by omega)]
  have := ziI A Bl i x hx hB hl hlb hi res b (done ++ [(x * y + o + c) % 4294967296]) r (pb ++ [y]) ((x * y + o + c) / 4294967296) (by rw [he]; simp) (by simp [hd]; omega) (by simpa using hr) hg.tail (by omega) (by simpa [z6] using H)
  simpa using this
theorem ziH (A Bl : List Int) (hA : Dg A) (hB : Dg Bl) (hl : A.length < 1000000000) (hlb : Bl.length < 1000000000) : ∀ (a done r pa : List Int), A = pa ++ a → done.length = pa.length → Dg done → Dg r → r.length = Bl.length + a.length → r.drop Bl.length = List.replicate a.length 0 →
  Ev (fun k => zH.l0 k Bl (done ++ r) A A.length done.length) (D (V (done ++ zbU a Bl r)))
 | [], done, r, pa, he, hd, hg, hr, hrl, hz => by
  have hlen : A.length = done.length := by rw [he, hd]; simp
  refine zf ?_
  simp only [zH.l0]
  refine ze (by omega) ?_
  refine Ev.bind (zcb (hg.app hr) (by simp; simp at hrl; omega)) ?_
  exact Ev.now _
 | x :: a, done, r, pa, he, hd, hg, hr, hrl, hz => by
  have hlen : A.length = done.length + 1 + a.length := by rw [he, hd]; simp; omega
  have hx : 0 ≤ x ∧ x < 4294967296 := by rw [he] at hA; exact hA.right.head
  have hrr := zgK hx Bl r 0 a.length hB hr (by omega) (by simpa using hz)
  refine zf ?_
  simp only [zH.l0]
  refine zd (by omega) (zd (by omega) (zd (by omega) ?_))
  have h1 : rd A (done.length : Int) = x := by rw [he]; exact zZ (by omega)
  rw [h1]
  refine ziI A Bl done.length x hx hB hl hlb (by omega) _ Bl done r [] 0 rfl rfl (by simp at hrl; omega) hr (by omega) ?_
  obtain ⟨r0, r', e⟩ : ∃ r0 r', z6 x Bl r 0 = r0 :: r' := by
   cases h : z6 x Bl r 0 with
   | nil =>
    have hl := hrr.2.2.2
    rw [h] at hl
    simp at hrl hl; omega
   | cons r0 r' => exact ⟨r0, r', rfl⟩
  rw [e] at hrr
  have := ziH A Bl hA hB hl hlb a (done ++ [r0]) r' (pa ++ [x]) (by rw [he]; simp) (by simp [hd]) (hg.app (Dg.cons hrr.2.1.head.1 hrr.2.1.head.2 Dg.nil)) hrr.2.1.tail (by have := hrr.2.2.2; simp at this hrl; omega) (by simpa using hrr.2.2.1)
  rw [List.length_append, List.length_singleton, List.append_assoc] at this
  have e2 : done ++ zbU (x :: a) Bl r = done ++ [r0] ++ zbU a Bl r' := by simp [zbU, e]
  rw [e, e2]; simpa using this
theorem zgo {a b : List Int} (ha : Dg a) (hb : Dg b) (la : a.length < 1000000000) (lb : b.length < 1000000000) : Ev (fun k => zH.f k a b) (D (V a * V b)) := by
 unfold zH.f
 have e : wrap64 ((a.length : Int) + (b.length : Int)) = ((a.length + b.length : Nat) : Int) := by unfold wrap64; omega
 simp only [e]
 clear e
 refine zd (by omega) (zd (by omega) ?_)
 have := ziH a b ha hb la lb a [] (List.replicate (a.length + b.length) 0) [] rfl rfl Dg.nil (Dg.zeros _) (by simp; omega) (by simp)
 refine zi this ?_
 have h2 := ziG a b (List.replicate (a.length + b.length) 0) ha hb (Dg.zeros _) (by simp)
 simp [h2.1, zeQ]
theorem ziN {a b : List Int} (ha : Nm a) (hb : Nm b) (la : a.length ≤ 4096) (lb : b.length ≤ 4096) : Ev (fun k => zcA.f k a b) (zJ (V a * V b)) := by
 have h1 : may a = true := zbF.2 ⟨la, ha⟩
 have h2 : may b = true := zbF.2 ⟨lb, hb⟩
 have tail : Ev (fun k => (zH.f k a b).bind fun t => (zaO.f t).bind fun bt => some (bt.1, bt.2)) (zJ (V a * V b)) := by
  refine Ev.bind (zgo ha.dg hb.dg (by omega) (by omega)) ?_
  exact zk (znj _) (Ev.now _)
 unfold zcA.f
 refine Ev.bind (zho ha.dg hb.dg (by omega) (by omega)) ?_
 refine ze (by simp [h1, h2]) ?_
 by_cases c1 : a.length > 0
 ·refine zd (by omega) ?_
  by_cases c2 : b.length > 0
  ·refine zd (by omega) ?_
   have e : wrap64 (wrap64 ((a.length : Int) + (b.length : Int)) - 1) = ((a.length + b.length - 1 : Nat) : Int) := by unfold wrap64; omega
   rw [e]
   clear e
   by_cases c3 : a.length + b.length - 1 > 4096
   ·refine zd (by omega) (zi (Ev.now _) ?_)
    have p1 := zfB ha (fun e => by subst e; simp at c1)
    have p2 := zfB hb (fun e => by subst e; simp at c2)
    have p3 := Nat.mul_le_mul p1 p2
    rw [← Nat.pow_add] at p3
    have p4 : (D (V a * V b)).length > 4096 := by
     apply Nat.lt_of_not_le
     intro k
     have p5 := zdq (V a * V b)
     have p6 := Nat.pow_lt_pow_iff_right (a := 4294967296) (by omega) |>.1 (Nat.lt_of_le_of_lt p3 p5)
     omega
    unfold zJ; rw [if_pos p4]
   ·exact ze (by omega) tail
  ·exact ze (by omega) tail
 ·exact ze (by omega) tail
theorem zdY {n : Nat} (h : (D n).length ≤ 4096) : zJ n = (D n, 0) := by
 unfold zJ; rw [if_neg (by omega)]
theorem zfC : D 1 = [1] := by
 have h2 : Nm [1] := by have := zeM Dg.nil (d := 1) (by omega) (by omega); simpa using this
 exact h2
theorem ziW (n : Nat) (h : n < 9223372036854775808) : (BitVec.ofInt 64 (n : Int)).toNat = n := by
 rw [BitVec.ofInt_natCast, BitVec.toNat_ofNat]; exact Nat.mod_eq_of_lt (by omega)
theorem zkU (n : Nat) (h : n < 9223372036854775808) : Go.bits .and .i64 (n : Int) 1 = ((n % 2 : Nat) : Int) := by
 show IntKind.i64.wrap ((BitVec.ofInt 64 (n : Int) &&& BitVec.ofInt 64 ((1 : Nat) : Int)).toNat : Int) = _
 rw [BitVec.toNat_and, ziW n h, ziW 1 (by omega), Nat.and_one_is_mod, IntKind.wrap_i64]
 omega
theorem zot (n i : Nat) (h : i ≤ 64) : shr .i64 (n : Int) (i : Int) = ((n / 2 ^ i : Nat) : Int) := by
 unfold shr
 have e : min (i : Int).toNat IntKind.i64.bits = i := by rw [Int.toNat_natCast]; exact Nat.min_eq_left h
 rw [e]; simp
theorem znx {b n : Nat} (h : 1 ≤ b) : 1 ≤ b ^ n := Nat.one_le_pow _ _ h
theorem zja {b m n : Nat} (h : 1 ≤ b) (k : m ≤ n) : b ^ m ≤ b ^ n := Nat.pow_le_pow_right h k
theorem zmq (n i : Nat) : n / 2 ^ i = 2 * (n / 2 ^ (i + 1)) + n / 2 ^ i % 2 := by
 have : n / 2 ^ (i + 1) = n / 2 ^ i / 2 := by rw [Nat.pow_succ, Nat.div_div_eq_div_mul]
 rw [this]; omega
theorem zoA {m : Nat} (h : m ≠ 0) : 2 * (D m).length - 1 ≤ (D (m * m)).length := by
 have h1 := zfA h
 have h2 := Nat.mul_le_mul h1 h1
 rw [← Nat.pow_add] at h2
 apply Nat.le_of_not_lt
 intro k
 have h3 := zdq (m * m)
 have h4 : (4294967296 : Nat) ^ (D (m * m)).length ≤ 4294967296 ^ ((D m).length - 1 + ((D m).length - 1)) := Nat.pow_le_pow_right (by omega) (by omega)
 omega
theorem zpj {L : Nat} (h : L ≤ 4096) : wrap64 (wrap64 (2 * (L : Int)) - 1) = 2 * (L : Int) - 1 := by unfold wrap64; omega
theorem zoB {p : Nat} (h : (D p).length ≤ 4096) : (D (p * p)).length ≤ 8192 := by
 have h1 := zdq p
 have h2 := Nat.mul_lt_mul'' h1 h1
 rw [← Nat.pow_add] at h2
 have := zdQ h2
 omega
theorem zkZ {x : Int} (h : 0 ≤ x ∧ x < 18446744073709551616) : Ev (fun k => zdc.f k x) ((bl x.toNat : Nat) : Int) := by
 unfold zdc.f
 exact Ev.bind (zd9 h) (Ev.now _)
theorem znP {b n i p q T t : Nat} (hbl : Dg [((b : Nat) : Int)]) (hi : i < 64) (hs : Go.bits .and .i64 (shr .i64 (n : Int) (i : Int)) 1 = ((t % 2 : Nat) : Int)) (hp : p ≠ 0) (hl : (D p).length ≤ 4096) (hpT : p * p ≤ T) (hqT : q ≤ T)
  (h1 : t % 2 = 1 → p * p * b = q) (h0 : t % 2 ≠ 1 → p * p = q) (ih : (D q).length ≤ 4096 → Ev (fun k => zE.l0 k (b : Int) (n : Int) (D q) ((i : Int) - 1)) (zJ T)) :
  Ev (fun k => zE.l0 k (b : Int) (n : Int) (D p) (i : Int)) (zJ T) := by
 have hsl := zoA hp
 have hss := zoB hl
 refine zf ?_
 simp only [zE.l0, zpj hl, hs]
 clear hs
 refine zd (by omega) ?_
 by_cases c1 : 2 * (D p).length > 4097
 ·refine zd (by omega) (zi (Ev.now _) ?_)
  exact (zfP (m := p * p) (by omega) hpT).symm
 ·refine ze (by omega) (Ev.bind (zgo (zaK _) (zaK _) (by omega) (by omega)) ?_)
  rw [V_D]
  refine zd (by omega) ?_
  have next : Ev (fun k => zE.j4 k (b : Int) (n : Int) (D q) (i : Int)) (zJ T) := by
   refine zf ?_
   simp only [zE.j4, zch (n := i) (by omega)]
   by_cases c2 : (D q).length > 4096
   ·refine zd (by omega) (zi (Ev.now _) ?_)
    exact (zfP c2 hqT).symm
   ·exact ze (by omega) (ih (by omega))
  by_cases c3 : t % 2 = 1
  ·refine zd (by omega) (Ev.bind (zgo (zaK _) hbl (by omega) (by simp)) ?_)
   have hv : V (D (p * p)) * V [((b : Nat) : Int)] = q := by
    rw [V_D, ← h1 c3]
    simp only [zF, zbg, Int.toNat_natCast, Nat.mul_zero, Nat.add_zero]
   rw [hv]; exact next
  ·refine ze (by omega) ?_
   rw [h0 c3]; exact next
theorem zjb {b : Nat} (hb : 1 ≤ b ∧ b < 4294967296) (hbl : Dg [((b : Nat) : Int)]) {n : Nat} (hn : n < 9223372036854775808) : ∀ (i : Nat), i ≤ 64 → (D (b ^ (n / 2 ^ i))).length ≤ 4096 → Ev (fun k => zE.l0 k (b : Int) (n : Int) (D (b ^ (n / 2 ^ i))) ((i : Int) - 1)) (zJ (b ^ n))
 | 0, hi, hl => by
  refine zf ?_
  simp only [zE.l0]
  refine ze (by decide) (zi (Ev.now _) ?_)
  rw [Nat.pow_zero, Nat.div_one] at hl ⊢
  exact (zdY hl).symm
 | i + 1, hi, hl => by
  have e0 : ((i + 1 : Nat) : Int) - 1 = (i : Int) := by rw [Int.natCast_add]; exact Int.add_sub_cancel _ _
  have hh := zmq n i
  have hle : n / 2 ^ i ≤ n := Nat.div_le_self _ _
  have hm : b ^ (n / 2 ^ (i + 1)) ≠ 0 := Nat.ne_of_gt (znx hb.1)
  have hsq : b ^ (n / 2 ^ (i + 1)) * b ^ (n / 2 ^ (i + 1)) = b ^ (2 * (n / 2 ^ (i + 1))) := by rw [← Nat.pow_add, Nat.two_mul]
  have hle2 : 2 * (n / 2 ^ (i + 1)) ≤ n / 2 ^ i := by rw [hh]; exact Nat.le_add_right _ _
  have hbit : Go.bits .and .i64 (shr .i64 (n : Int) (i : Int)) 1 = ((n / 2 ^ i % 2 : Nat) : Int) := by
   rw [zot n i (Nat.le_of_lt hi), zkU _ (Nat.lt_of_le_of_lt hle hn)]
  rw [e0]
  refine znP (q := b ^ (n / 2 ^ i)) hbl hi hbit hm hl ?_ (zja hb.1 hle) ?_ ?_ (fun h => zjb hb hbl hn i (Nat.le_of_lt hi) h)
  ·rw [hsq]; exact zja hb.1 (Nat.le_trans hle2 hle)
  ·intro c; rw [hsq, ← Nat.pow_succ]; congr 1; rw [c] at hh; exact hh.symm
  ·intro c
   have c' : n / 2 ^ i % 2 = 0 := (Nat.mod_two_eq_zero_or_one _).resolve_right c
   rw [hsq]; congr 1; rw [c'] at hh; exact hh.symm
theorem zgn {b n : Nat} (hb : b < 4294967296) (hn : n < 9223372036854775808) : Ev (fun k => zE.f k (b : Int) (n : Int)) (zJ (b ^ n)) := by
 have h1 : Nm [1] := by rw [← zfC]; exact zae 1
 have one : ∀ z, z = true → b ^ n = 1 → Ev (fun k => zE.j0 k (b : Int) (n : Int) z) (zJ (b ^ n)) := by
  rintro z rfl e
  refine zf ?_
  simp only [zE.j0]
  refine zd trivial (Ev.bind (zee (by omega) (by omega)) (zi (Ev.now _) ?_))
  rw [e]
  exact (zdY (n := 1) (by rw [zfC]; simp)).symm
 unfold zE.f
 refine ze (by omega) ?_
 by_cases c0 : n = 0
 ·refine zd (by omega) (one true rfl (by subst c0; simp))
 ·refine ze (by omega) ?_
  by_cases c1 : b = 1
  ·refine one _ (by subst c1; rfl) (by subst c1; simp)
  ·have e : decide ((b : Int) = 1) = false := decide_eq_false (by omega)
   rw [e]
   refine zf ?_
   simp only [zE.j0]
   refine ze (by simp) ?_
   by_cases c2 : b = 0
   ·refine zd (by omega) (zi (Ev.now _) ?_)
    subst c2
    rw [Nat.zero_pow (by omega), zdY (by rw [zP]; simp), zP]
   ·refine ze (by omega) ?_
    by_cases c3 : n > 131072
    ·refine zd (by omega) (zi (Ev.now _) ?_)
     have p1 : 2 ^ n ≤ b ^ n := Nat.pow_le_pow_left (by omega) n
     exact (zoY (by omega) p1).symm
    ·refine ze (by omega) (Ev.bind (zee (by omega) (by omega)) ?_)
     rw [u64 (by omega) (by omega)]
     refine Ev.bind (zkZ (by omega)) ?_
     have hbl : bl n ≤ 63 := zG (by omega)
     rw [Int.toNat_natCast, zch (by omega)]
     have := zjb (b := b) (by omega) (Dg.cons (by omega) (by omega) Dg.nil) hn (bl n) (by omega)
     rw [Nat.div_eq_of_lt (zL n), Nat.pow_zero] at this
     exact this (by rw [zfC]; simp)
end Go.Proofs.YtnkpmjhlkmlmbaaGreatDoor.Eng.K
